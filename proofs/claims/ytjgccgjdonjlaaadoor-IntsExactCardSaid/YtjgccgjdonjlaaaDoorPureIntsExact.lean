/-
  Sums, differences and products are those of whole numbers, reckoned in 128 bits: the plain law behind IntsExact; no condition of its own.
-/
import Derived.Test.YtjgccgjdonjlaaaDoorQEx2
namespace Go.Proofs.YtjgccgjdonjlaaaDoor.Pure
open Go.RowKit Go.Proofs.YtjgccgjdonjlaaaDoor.QEx Go.Proofs.YtjgccgjdonjlaaaDoorW.PrintWords Go.Proofs.YtjgccgjdonjlaaaDoorW.PrintLast
open Go.Proofs.YtjgccgjdonjlaaaDoorG
open Go
set_option linter.unusedVariables false
set_option linter.unusedSimpArgs false

def I64 (a : Int) : Prop := -9223372036854775808 ≤ a ∧ a ≤ 9223372036854775807
instance (a : Int) : Decidable (I64 a) := inferInstanceAs (Decidable (_ ∧ _))

theorem i64_of {a : Int} (h : (Lit.int .i64 a).wf = true) : I64 a := by
  simp [Lit.wf, IntKind.min, IntKind.max, IntKind.signed, IntKind.bits] at h
  unfold I64; omega

/-- a whole number, if it is one of 64 bits; else 0 and ErrRange -/
def fit (x : Int) : Int × Int := if I64 x then (x, 0) else (0, 80)

theorem fit_in {x : Int} (h : I64 x) : fit x = (x, 0) := if_pos h
theorem fit_out {x : Int} (h : ¬ I64 x) : fit x = (0, 80) := if_neg h

theorem add_eq {a b : Int} (ha : I64 a) (hb : I64 b) : ints_Add.f a b = some (fit (a + b)) := by
  by_cases h : I64 (a + b)
  · rw [fit_in h]
    unfold I64 at ha hb h
    have e : wrap64 (a + b) = a + b := by unfold wrap64; omega
    unfold ints_Add.f
    rw [e]
    repeat' split
    all_goals first | rfl | (exfalso; omega)
  · rw [fit_out h]
    unfold I64 at ha hb h
    unfold ints_Add.f wrap64
    repeat' split
    all_goals first | rfl | (exfalso; omega)

theorem sub_eq {a b : Int} (ha : I64 a) (hb : I64 b) : ints_Sub.f a b = some (fit (a - b)) := by
  by_cases h : I64 (a - b)
  · rw [fit_in h]
    unfold I64 at ha hb h
    have e : wrap64 (a - b) = a - b := by unfold wrap64; omega
    unfold ints_Sub.f
    rw [e]
    repeat' split
    all_goals first | rfl | (exfalso; omega)
  · rw [fit_out h]
    unfold I64 at ha hb h
    unfold ints_Sub.f wrap64
    repeat' split
    all_goals first | rfl | (exfalso; omega)

theorem mul_eq {a b : Int} (ha : I64 a) (hb : I64 b) : ints_Mul.f a b = some (fit (a * b)) := by
  unfold I64 at ha hb
  by_cases h : I64 (a * b)
  · rw [fit_in h]
    unfold ints_Mul.f
    rw [if_pos (by omega), if_pos (show _ ∧ _ from h)]
  · rw [fit_out h]
    unfold ints_Mul.f
    rw [if_pos (by omega), if_neg (show ¬ (_ ∧ _) from h)]

theorem neg_eq {a : Int} (ha : I64 a) : ints_Neg.f a = some (fit (-a)) := by
  unfold ints_Neg.f
  rw [sub_eq (by unfold I64; omega) ha]
  simp

theorem fit_second {x : Int} : ((fit x).2 = 0 ∧ I64 x) ∨ ((fit x).2 = 80 ∧ ¬ I64 x) := by
  by_cases h : I64 x
  · exact .inl ⟨by rw [fit_in h], h⟩
  · exact .inr ⟨by rw [fit_out h], h⟩

theorem live_ok : foundrylaw02_live.f 5 = some true := by
  decide +kernel

theorem live_at (k : Nat) : foundrylaw02_live.f (k + 5) = some true := at_rounds foundrylaw02_live.mono (Nat.le_add_left 5 k) live_ok

theorem u64w (x : Int) : IntKind.u64.wrap x = x % 18446744073709551616 := by simp [IntKind.wrap, IntKind.signed, IntKind.bits]

theorem amount_eq {a : Int} (h : I64 a) : foundrylaw02_amount.f a = some (a.natAbs : Int) := by
  unfold I64 at h
  unfold foundrylaw02_amount.f
  simp only [u64w]
  split
  · congr 1; omega
  · congr 1; omega

theorem half (x : Int) (h0 : 0 ≤ x) (h1 : x < 18446744073709551616) : Go.bits .and .u64 x 4294967295 = x % 4294967296 := by
  obtain ⟨n, rfl⟩ := Int.eq_ofNat_of_zero_le h0
  have := bits_and_u64_nat n 4294967295 (by omega) (by decide)
  rw [show ((4294967295 : Nat) : Int) = 4294967295 from rfl] at this
  rw [this, show (4294967295 : Nat) = 2 ^ 32 - 1 from rfl, Nat.and_two_pow_sub_one_eq_mod]
  omega

theorem mul_bd {x y X Y : Int} (h0 : 0 ≤ x) (h1 : x ≤ X) (h2 : 0 ≤ y) (h3 : y ≤ Y) : 0 ≤ x * y ∧ x * y ≤ X * Y :=
  ⟨Int.mul_nonneg h0 h2, Int.mul_le_mul h1 h3 h2 (by omega)⟩

theorem wide_eq {a b : Int} (a0 : 0 ≤ a) (a1 : a ≤ 9223372036854775808) (b0 : 0 ≤ b) (b1 : b ≤ 9223372036854775808) :
    foundrylaw02_wide.f a b = some (a * b / 18446744073709551616, a * b % 18446744073709551616) := by
  obtain ⟨p, q, hp, hq, hp0, hp1, hq0, hq1⟩ : ∃ p q, a = p * 4294967296 + q ∧ (p = a / 4294967296 ∧ q = a % 4294967296) ∧ 0 ≤ p ∧ p ≤ 2147483648 ∧ 0 ≤ q ∧ q ≤ 4294967295 := ⟨a / 4294967296, a % 4294967296, by omega, ⟨rfl, rfl⟩, by omega, by omega, by omega, by omega⟩
  obtain ⟨r, s, hr, hs, hr0, hr1, hs0, hs1⟩ : ∃ r s, b = r * 4294967296 + s ∧ (r = b / 4294967296 ∧ s = b % 4294967296) ∧ 0 ≤ r ∧ r ≤ 2147483648 ∧ 0 ≤ s ∧ s ≤ 4294967295 := ⟨b / 4294967296, b % 4294967296, by omega, ⟨rfl, rfl⟩, by omega, by omega, by omega, by omega⟩
  have hab : a * b = (p * r) * 18446744073709551616 + (p * s + q * r) * 4294967296 + q * s := by
    rw [hp, hr]; grind
  unfold foundrylaw02_wide.f
  rw [half a a0 (by omega), half b b0 (by omega), ← hq.1, ← hq.2, ← hs.1, ← hs.2, hab]
  obtain ⟨x1, x2⟩ := mul_bd hq0 hq1 hs0 hs1
  obtain ⟨y1, y2⟩ := mul_bd hp0 hp1 hs0 hs1
  obtain ⟨z1, z2⟩ := mul_bd hq0 hq1 hr0 hr1
  obtain ⟨w1, w2⟩ := mul_bd hp0 hp1 hr0 hr1
  clear hp hr hab hq hs
  generalize q * s = X at *
  generalize p * s = Y at *
  generalize q * r = Z at *
  generalize p * r = W at *
  have e1 : IntKind.u64.wrap X = X := by rw [u64w]; omega
  have e2 : IntKind.u64.wrap Y = Y := by rw [u64w]; omega
  have e3 : IntKind.u64.wrap Z = Z := by rw [u64w]; omega
  have e4 : IntKind.u64.wrap W = W := by rw [u64w]; omega
  rw [e1, e2, e3, e4]
  have e5 : IntKind.u64.wrap (Y + X / 4294967296) = Y + X / 4294967296 := by rw [u64w]; omega
  rw [e5, half _ (by omega) (by omega)]
  simp only [u64w]
  congr 2
  omega

theorem tail0 {a b : Int} (A : I64 a) (B : I64 b) (k : Nat) : foundrylaw02_IntsExact.j2 (k + 4) a b false = some true := by
  have h3 : foundrylaw02_IntsExact.j4 (k + 2) a false = some true := by
    rw [foundrylaw02_IntsExact.j4, if_neg (by decide), neg_eq A]
    simp only [Option.bind_some]
    by_cases hm : a = -9223372036854775808
    · subst hm; decide
    · have hf : I64 (-a) := by unfold I64 at A ⊢; omega
      rw [fit_in hf]
      simp only [if_true]
      rw [if_neg hm, amount_eq hf, amount_eq A]
      simp only [Option.bind_some]
      rw [if_pos (by omega)]
      by_cases h : -a < 0
      · rw [if_pos h, if_pos (by omega)]
      · rw [if_neg h, if_neg (by omega)]
  have h2 : ∀ o, (o = true ↔ ¬ I64 (a + b)) → foundrylaw02_IntsExact.j3 (k + 3) a b (fit (a + b)).1 (fit (a + b)).2 o = some true := by
    intro o ho
    rw [foundrylaw02_IntsExact.j3]
    by_cases h : I64 (a + b)
    · rw [fit_in h]
      simp only [if_true]
      have ho2 : o = false := by cases o with | false => rfl | true => exact absurd h (ho.1 rfl)
      rw [ho2, sub_eq h B, show a + b - b = a by omega, fit_in A]
      have e : a + b = wrap64 (a + b) := by unfold I64 at h; unfold wrap64; omega
      simp only [Option.bind_some, Bool.false_eq_true, if_false, if_true, bne_self_eq_false]
      rw [if_pos e]; exact h3
    · rw [fit_out h, sub_eq (by decide) B]
      simp only [Option.bind_some]
      rw [if_neg (by decide), ho.2 h]
      simp only [if_true]
      exact h3
  rw [foundrylaw02_IntsExact.j2, if_neg (by decide), add_eq A B]
  simp only [Option.bind_some]
  unfold I64 at A B
  have hw : wrap64 (a + b) = (a + b + 9223372036854775808) % 18446744073709551616 - 9223372036854775808 := by simp only [wrap64]
  by_cases ha : a < 0 <;> by_cases hb : b < 0 <;> by_cases hc : wrap64 (a + b) < 0
  all_goals simp only [ha, hb, hc, if_true, if_false]
  all_goals
    apply h2
    unfold I64
    simp
    try omega

theorem head0 {a b low : Int} {minus : Bool} (A : I64 a) (B : I64 b) (k : Nat) (fits : Bool) (hfits : fits = true ↔ I64 (a * b)) (hlow : I64 (a * b) → low = (a * b).natAbs) (hminus : I64 (a * b) → low ≠ 0 → (minus = true ↔ a * b < 0)) :
    foundrylaw02_IntsExact.j1 (k + 5) a b low minus (fit (a * b)).1 (fit (a * b)).2 fits = some true := by
  rw [foundrylaw02_IntsExact.j1]
  by_cases h : I64 (a * b)
  · rw [hfits.2 h, fit_in h]
    simp only [if_true]
    rw [amount_eq h]
    simp only [Option.bind_some]
    rw [if_pos (hlow h).symm]
    by_cases h0 : low = 0
    · rw [if_pos h0]; exact tail0 A B k
    · rw [if_neg h0]
      have hm := hminus h h0
      by_cases hn : a * b < 0
      · rw [if_pos hn, if_pos (hm.2 hn)]; exact tail0 A B k
      · rw [if_neg hn, if_neg (fun z => hn (hm.1 z))]; exact tail0 A B k
  · have : fits = false := by cases fits with | false => rfl | true => exact absurd (hfits.1 rfl) h
    rw [this, fit_out h]
    simp only [Bool.false_eq_true, if_false]
    rw [if_neg (by decide)]
    exact tail0 A B k

theorem mid {a b hi low : Int} {minus : Bool} (A : I64 a) (B : I64 b) (k : Nat) (hhi : hi = ((a * b).natAbs : Int) / 18446744073709551616) (hlo : low = ((a * b).natAbs : Int) % 18446744073709551616) (hm : (minus = true → a * b ≤ 0) ∧ (minus = false → 0 ≤ a * b)) :
    foundrylaw02_IntsExact.j0 (k + 6) a b hi low minus = some true := by
  rw [foundrylaw02_IntsExact.j0, mul_eq A B]
  simp only [Option.bind_some]
  have hlow : I64 (a * b) → low = (a * b).natAbs := by intro h; unfold I64 at h; omega
  have hminus : I64 (a * b) → low ≠ 0 → (minus = true ↔ a * b < 0) := by
    intro h h0
    have := hlow h
    constructor
    · intro e; have := hm.1 e; omega
    · intro e
      cases hc : minus with
      | true => rfl
      | false => have := hm.2 hc; omega
  by_cases h1 : hi = 0
  · rw [if_pos h1]
    by_cases h2 : low < 9223372036854775808
    · rw [if_pos h2]
      refine head0 A B k true ?_ hlow hminus
      unfold I64; simp; omega
    · rw [if_neg h2]
      cases hc : minus with
      | true =>
        rw [hc] at hminus
        have := hm.1 hc
        rw [if_pos rfl]
        refine head0 A B k _ ?_ hlow hminus
        unfold I64; simp; omega
      | false =>
        rw [hc] at hminus
        have := hm.2 hc
        rw [if_neg (by decide)]
        refine head0 A B k _ ?_ hlow hminus
        unfold I64; simp; omega
  · rw [if_neg h1]
    refine head0 A B k _ ?_ hlow hminus
    unfold I64; simp; omega

theorem IntsExact : foundrylaw02_IntsExact.Pure := by
  intro a b ha hb
  have A := i64_of ha
  have B := i64_of hb
  refine ⟨12, ?_⟩
  unfold foundrylaw02_IntsExact.f
  have AB : (a.natAbs : Int) * (b.natAbs : Int) = ((a * b).natAbs : Int) := by rw [Int.natAbs_mul]; rfl
  have A2 : a.natAbs ≤ 9223372036854775808 ∧ b.natAbs ≤ 9223372036854775808 := by unfold I64 at A B; omega
  rw [live_at 7, amount_eq A, amount_eq B]
  simp only [Option.bind_some, if_true]
  rw [wide_eq (by omega) (by omega) (by omega) (by omega), AB]
  simp only [Option.bind_some]
  by_cases h1 : a < 0
  · rw [if_pos h1]
    by_cases h2 : b < 0
    · rw [if_pos h2]
      exact mid A B 6 rfl rfl ⟨fun e => (by cases e), fun _ => Int.mul_nonneg_of_nonpos_of_nonpos (by omega) (by omega)⟩
    · rw [if_neg h2]
      exact mid A B 6 rfl rfl ⟨fun _ => Int.mul_nonpos_of_nonpos_of_nonneg (by omega) (by omega), fun e => (by cases e)⟩
  · rw [if_neg h1]
    by_cases h2 : b < 0
    · rw [if_pos h2]
      exact mid A B 6 rfl rfl ⟨fun _ => Int.mul_nonpos_of_nonneg_of_nonpos (by omega) (by omega), fun e => (by cases e)⟩
    · rw [if_neg h2]
      exact mid A B 6 rfl rfl ⟨fun e => (by cases e), fun _ => Int.mul_nonneg (by omega) (by omega)⟩

end Go.Proofs.YtjgccgjdonjlaaaDoor.Pure
