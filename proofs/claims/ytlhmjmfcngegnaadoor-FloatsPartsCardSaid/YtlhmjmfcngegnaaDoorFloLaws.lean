/-
  Sums and products turned round, differences, doubling and halving, floats of whole numbers: plain facts on the model's IEEE functions.
-/
import Derived.Test.YtlhmjmfcngegnaaDoorFloOps
namespace Go.Flo
open Ieee
set_option linter.unusedVariables false
set_option linter.unusedSimpArgs false

theorem sum_comm (x y : Datum) : x.sum y = y.sum x := by
  cases x <;> cases y <;> simp only [Datum.sum]
  · rename_i s m i t n j
    rw [Int.min_comm j i, Int.add_comm, Bool.and_comm]
  · rename_i s t
    by_cases c : s = t
    · rw [if_pos c, if_pos c.symm, c]
    · rw [if_neg c, if_neg (fun z => c z.symm)]

theorem product_comm (x y : Datum) : x.product y = y.product x := by
  cases x <;> cases y <;> simp only [Datum.product]
  · rename_i s m i t n j
    rw [Bool.xor_comm, Nat.mul_comm, Int.add_comm]
  · rename_i s t
    rw [Bool.xor_comm]

theorem add_comm' (a b : Nat) : D.add a b = D.add b a := by unfold Format.add; rw [sum_comm]
theorem mul_comm' (a b : Nat) : D.mul a b = D.mul b a := by unfold Format.mul; rw [product_comm]

def flip (a : Nat) : Nat := if a < 9223372036854775808 then a + 9223372036854775808 else a - 9223372036854775808
theorem rung_flip {a : Nat} (h : a < 18446744073709551616) : rung (flip a) = rung a := by unfold rung flip; split <;> omega
theorem neg_flip {a : Nat} (h : a < 18446744073709551616) : isNeg (flip a) = !isNeg a := by
  unfold isNeg flip
  split <;> rename_i c
  · have e1 : (a + 9223372036854775808) / 9223372036854775808 % 2 = 1 := by omega
    have e2 : a / 9223372036854775808 % 2 = 0 := by omega
    rw [e1, e2]; rfl
  · have e1 : (a - 9223372036854775808) / 9223372036854775808 % 2 = 0 := by omega
    have e2 : a / 9223372036854775808 % 2 = 1 := by omega
    rw [e1, e2]; rfl

theorem read_flip {a : Nat} (h : a < 18446744073709551616) (n : ¬ nan a) : D.read (flip a) = (D.read a).opposite := by
  unfold nan at n
  by_cases c : rung a < 9218868437227405312
  · rw [read_finite c, read_finite (by rw [rung_flip h]; exact c), rung_flip h, neg_flip h]; rfl
  · have c' : rung a = 9218868437227405312 := by omega
    rw [read_inf c', read_inf (by rw [rung_flip h]; exact c'), neg_flip h]; rfl

theorem add_nan {a b : Nat} (h : nan a ∨ nan b) : D.add a b = none := by
  unfold Format.add
  rcases h with h | h
  · obtain ⟨f, e⟩ := read_nan h
    rw [e]; cases D.read b <;> rfl
  · obtain ⟨f, e⟩ := read_nan h
    rw [e]; cases D.read a <;> rfl
theorem sub_nan {a b : Nat} (h : nan a ∨ nan b) : D.sub a b = none := by
  unfold Format.sub
  rcases h with h | h
  · obtain ⟨f, e⟩ := read_nan h
    rw [e]; cases (D.read b).opposite <;> rfl
  · obtain ⟨f, e⟩ := read_nan h
    rw [e]; cases D.read a <;> rfl

theorem sub_add {a b : Nat} (h : b < 18446744073709551616) (n : ¬ nan b) : D.sub a b = D.add a (flip b) := by
  unfold Format.sub Format.add
  rw [read_flip h n]

theorem sv_flip {b : Nat} (h : b < 18446744073709551616) : sv (flip b) = -sv b := by
  unfold sv
  rw [rung_flip h, neg_flip h]
  cases isNeg b <;> simp

/-- every word is its sign and its rung -/
theorem word_own {a : Nat} (h : a < 18446744073709551616) : D.word (isNeg a) (rung a) = a := by
  unfold Format.word rung isNeg
  rw [D_sign]
  by_cases c : a < 9223372036854775808
  · have e : a / 9223372036854775808 % 2 = 0 := by omega
    rw [e]; simp; omega
  · have e : a / 9223372036854775808 % 2 = 1 := by omega
    rw [e]; simp; omega

theorem nearest_shift (s : Bool) (m k : Nat) (p : Int) : D.nearest s (m * 2 ^ k) p = D.nearest s m (p + k) := by
  by_cases h : m = 0
  · rw [h, Nat.zero_mul]
    unfold Format.nearest
    rw [if_pos rfl, if_pos rfl]
  · have h2 : m * 2 ^ k ≠ 0 := Nat.mul_ne_zero h (Nat.pos_iff_ne_zero.1 (Nat.two_pow_pos k))
    rw [nearest_eq _ _ _ h, nearest_eq _ _ _ h2, rungOf_shift m k p h]

theorem nearest_zero (s : Bool) (p : Int) : D.nearest s 0 p = D.word s 0 := by
  unfold Format.nearest; rw [if_pos rfl]

theorem sg_zero {r : Nat} (h : sg r = 0) : r = 0 := by
  unfold sg at h; split at h <;> omega

theorem nearest_own {a : Nat} (h : a < 18446744073709551616) (hf : rung a < 9218868437227405312) : D.nearest (isNeg a) (sg (rung a)) (-1074 + (up (rung a) : Nat)) = a := by
  by_cases z : rung a = 0
  · rw [z]
    have : sg 0 = 0 := rfl
    rw [this, nearest_zero]
    rw [← z]; exact word_own h
  · rw [nearest_eq _ _ _ (fun e => z (sg_zero e)), rungOf_exact _ z, Nat.min_eq_left (by omega)]
    exact word_own h

/-- the difference of two finite floats: its sign and whether it is zero are those of the exact difference -/
theorem diff_finite {a b : Nat} (ha : a < 18446744073709551616) (hb : b < 18446744073709551616) (fa : rung a < 9218868437227405312) (fb : rung b < 9218868437227405312) :
    ∃ d, D.sub a b = some d ∧ d < 18446744073709551616 ∧ ¬ nan d ∧ (rung d = 0 ↔ sv a = sv b) ∧ (isNeg d = true ∧ rung d ≠ 0 ↔ sv a < sv b) := by
  have nb : ¬ nan b := by unfold nan; omega
  have fb' : rung (flip b) < 9218868437227405312 := by rw [rung_flip hb]; exact fb
  obtain ⟨T, k, z, hadd, hT⟩ := sum_finite fa fb'
  rw [sv_flip hb] at hT
  have hp : (0 : Int) < (2 ^ k : Nat) := by have := Nat.two_pow_pos k; omega
  have hT2 : T * ((2 ^ k : Nat) : Int) = sv a - sv b := by rw [hT]; omega
  rw [sub_add hb nb, hadd]
  refine ⟨_, rfl, ?_⟩
  by_cases t0 : T = 0
  · have e : sv a = sv b := by rw [t0, Int.zero_mul] at hT2; omega
    rw [if_pos t0, t0, show Int.natAbs 0 = 0 from rfl, nearest_zero]
    obtain ⟨w1, w2, w3⟩ := word_rung z (r := 0) (by omega)
    refine ⟨w3, by unfold nan; rw [w1]; omega, ⟨fun _ => e, fun _ => w1⟩, ⟨fun q => absurd w1 q.2, fun q => by omega⟩⟩
  · have m0 : T.natAbs ≠ 0 := by omega
    rw [if_neg t0, nearest_eq _ _ _ m0]
    have hr := rungOf_pos T.natAbs (-1074 + (k : Nat)) m0 (by omega)
    generalize rungOf T.natAbs (-1074 + (k : Nat)) = r at hr ⊢
    obtain ⟨w1, w2, w3⟩ := word_rung (decide (T < 0)) (r := min r 9218868437227405312) (by omega)
    have ne : sv a ≠ sv b := by
      intro e
      have : T * ((2 ^ k : Nat) : Int) = 0 := by omega
      rcases Int.mul_eq_zero.1 this with h | h <;> omega
    refine ⟨w3, by unfold nan; rw [w1]; omega, ⟨fun q => by rw [w1] at q; omega, fun q => absurd q ne⟩, ?_⟩
    rw [w1, w2]
    constructor
    · intro q
      have hn : T < 0 := by simpa using q.1
      have := Int.mul_neg_of_neg_of_pos hn hp
      omega
    · intro q
      refine ⟨?_, by omega⟩
      by_cases hn : T < 0
      · simpa using hn
      · have : 0 < T := by omega
        have := Int.mul_pos this hp
        omega

/-! ### by a power of two -/

theorem sg_lt (r : Nat) : sg r < 9007199254740992 := by unfold sg; split <;> omega
theorem sg_log (r : Nat) (h : sg r ≠ 0) : (sg r).log2 ≤ 52 := by
  have := (Nat.log2_lt h).2 (show sg r < 2 ^ 53 from sg_lt r)
  omega

/-- a quotient by 2^52 · 2^j, written -/
theorem quot_pow (s : Bool) (m : Nat) (i j : Int) (hm : m < 9007199254740992) :
    ((Datum.number s m i).quotient 54 (.number false 4503599627370496 j)).map D.write = some (D.nearest s m (i - j - 52)) := by
  unfold Datum.quotient
  dsimp only
  rw [if_neg (show ¬ (4503599627370496 : Nat) = 0 by omega)]
  rw [show Nat.log2 4503599627370496 = 52 from log2_is (by decide) (by decide)]
  simp only [Option.map_some, Format.write, Bool.xor_false]
  by_cases h0 : m = 0
  · rw [h0]
    simp only [Nat.zero_shiftLeft, Nat.zero_div, Nat.zero_mod, Nat.mul_zero]
    rw [show ((0 : Nat) != 0).toNat = 0 from rfl, Nat.add_zero, nearest_zero, nearest_zero]
  · have hl : m.log2 ≤ 52 := by
      have := (Nat.log2_lt h0).2 (show m < 2 ^ 53 from hm)
      omega
    obtain ⟨q, hq⟩ : ∃ q, 54 + 52 - m.log2 = q + 52 := ⟨54 + 52 - m.log2 - 52, by omega⟩
    rw [hq, Nat.shiftLeft_eq, Nat.pow_add, ← Nat.mul_assoc]
    rw [show (2 : Nat) ^ 52 = 4503599627370496 from rfl, Nat.mul_div_cancel _ (by decide), Nat.mul_mod_left]
    rw [show ((0 : Nat) != 0).toNat = 0 from rfl, Nat.add_zero]
    rw [show 2 * (m * 2 ^ q) = m * 2 ^ (q + 1) by rw [Nat.pow_succ, Nat.mul_comm 2, Nat.mul_assoc]]
    rw [nearest_shift]
    congr 2
    push_cast
    omega

theorem read_one : D.read 4607182418800017408 = .number false 4503599627370496 (-52) := by decide +kernel
theorem read_two : D.read 4611686018427387904 = .number false 4503599627370496 (-51) := by decide +kernel

theorem div_one {a : Nat} (h : a < 18446744073709551616) (hf : rung a < 9218868437227405312) : D.div a 4607182418800017408 = some a := by
  unfold Format.div
  rw [read_finite hf, read_one, D_frac, show 52 + 2 = 54 from rfl, quot_pow _ _ _ _ (sg_lt _)]
  rw [show (-1074 + (up (rung a) : Int) - -52 - 52) = -1074 + (up (rung a) : Nat) by omega, nearest_own h hf]

theorem half {a : Nat} (hf : rung a < 9218868437227405312) : D.div a 4611686018427387904 = some (D.nearest (isNeg a) (sg (rung a)) (-1074 + (up (rung a) : Nat) - 1)) := by
  unfold Format.div
  rw [read_finite hf, read_two, D_frac, show 52 + 2 = 54 from rfl, quot_pow _ _ _ _ (sg_lt _)]
  rw [show (-1074 + (up (rung a) : Int) - -51 - 52) = -1074 + (up (rung a) : Nat) - 1 by omega]

theorem twice {a : Nat} (hf : rung a < 9218868437227405312) : D.mul a 4611686018427387904 = some (D.nearest (isNeg a) (sg (rung a)) (-1074 + (up (rung a) : Nat) + 1)) := by
  unfold Format.mul
  rw [read_finite hf, read_two]
  simp only [Datum.product, Option.map_some, Format.write, Bool.xor_false]
  rw [show (4503599627370496 : Nat) = 2 ^ 52 from rfl, nearest_shift]
  congr 2
  push_cast
  omega

/-! ### whole numbers of at most 53 digits at any place that the format has -/

theorem exact {m : Nat} {p : Int} (h0 : m ≠ 0) (hm : m < 9007199254740992) (hp : -1074 ≤ p) : mg (rungOf m p) = m * 2 ^ (p + 1074).toNat := by
  have hl : m.log2 ≤ 52 := by
    have := (Nat.log2_lt h0).2 (show m < 2 ^ 53 from hm)
    omega
  have l1 := Nat.log2_self_le h0
  have l2 := @Nat.lt_log2_self m
  unfold rungOf
  by_cases c : p + m.log2 - 52 ≤ -1074
  · have el : lastOf m p = -1074 := by unfold lastOf; omega
    rw [el, show (-1074 - p).toNat = 0 by omega, rnd_zero, show ((-1074 : Int) + 1074).toNat = 0 from rfl, Nat.zero_mul, Nat.zero_add, show (p - -1074).toNat = (p + 1074).toNat by omega]
    obtain ⟨q, hq⟩ : ∃ q, (p + 1074).toNat = q := ⟨_, rfl⟩
    rw [hq]
    have hn : m * 2 ^ q < 9007199254740992 := by
      calc m * 2 ^ q < 2 ^ (m.log2 + 1) * 2 ^ q := Nat.mul_lt_mul_of_pos_right l2 (Nat.two_pow_pos q)
        _ = 2 ^ (m.log2 + 1 + q) := (Nat.pow_add 2 (m.log2 + 1) q).symm
        _ ≤ 2 ^ 53 := Nat.pow_le_pow_right (by decide) (by omega)
        _ = 9007199254740992 := rfl
    generalize m * 2 ^ q = n at hn ⊢
    unfold mg
    by_cases c2 : n < 4503599627370496
    · rw [if_pos c2]
    · rw [if_neg c2, show n / 4503599627370496 - 1 = 0 by omega, Nat.pow_zero, Nat.mul_one]; omega
  · have el : lastOf m p = p + m.log2 - 52 := by unfold lastOf; omega
    rw [el, show (p + (m.log2 : Int) - 52 - p).toNat = 0 by omega, rnd_zero, show (p - (p + (m.log2 : Int) - 52)).toNat = 52 - m.log2 by omega]
    obtain ⟨t, ht⟩ : ∃ t, (p + (m.log2 : Int) - 52 + 1074).toNat = t := ⟨_, rfl⟩
    rw [ht]
    have b1 : 4503599627370496 ≤ m * 2 ^ (52 - m.log2) := by
      calc 4503599627370496 = 2 ^ (m.log2 + (52 - m.log2)) := by rw [show m.log2 + (52 - m.log2) = 52 by omega]
        _ = 2 ^ m.log2 * 2 ^ (52 - m.log2) := Nat.pow_add ..
        _ ≤ m * 2 ^ (52 - m.log2) := Nat.mul_le_mul_right _ l1
    have b2 : m * 2 ^ (52 - m.log2) < 9007199254740992 := by
      calc m * 2 ^ (52 - m.log2) < 2 ^ (m.log2 + 1) * 2 ^ (52 - m.log2) := Nat.mul_lt_mul_of_pos_right l2 (Nat.two_pow_pos _)
        _ = 2 ^ (m.log2 + 1 + (52 - m.log2)) := (Nat.pow_add 2 (m.log2 + 1) (52 - m.log2)).symm
        _ = 9007199254740992 := by rw [show m.log2 + 1 + (52 - m.log2) = 53 by omega]
    have e3 : m * 2 ^ (p + 1074).toNat = m * 2 ^ (52 - m.log2) * 2 ^ t := by
      rw [Nat.mul_assoc, ← Nat.pow_add]
      congr 2
      omega
    rw [e3]
    generalize m * 2 ^ (52 - m.log2) = n at b1 b2 ⊢
    unfold mg
    rw [if_neg (by omega), show (t * 4503599627370496 + n) / 4503599627370496 - 1 = t by omega, show 4503599627370496 + (t * 4503599627370496 + n) % 4503599627370496 = n by omega]

/-- the float m · 2^p: its parts have the same value -/
theorem same_value {m : Nat} {p : Int} (j : Int) (s : Bool) (h0 : m ≠ 0) (hm : m < 9007199254740992) (hp : -1074 ≤ p) :
    D.nearest s (sg (rungOf m p)) (-1074 + (up (rungOf m p) : Nat) + j) = D.nearest s m (p + j) := by
  have h := exact h0 hm hp
  rw [mg_eq] at h
  have e1 := nearest_shift s (sg (rungOf m p)) (up (rungOf m p)) (-1074 + j)
  have e2 := nearest_shift s m (p + 1074).toNat (-1074 + j)
  rw [h] at e1
  rw [show (-1074 + (up (rungOf m p) : Int) + j) = -1074 + j + (up (rungOf m p) : Nat) by omega, ← e1, e2]
  congr 1
  omega

/-- the float of m · 2^p, its rung -/
def fl (m : Nat) (p : Int) : Nat := D.nearest false m p
theorem word_false (r : Nat) : D.word false r = r := by unfold Format.word; rw [if_neg (by simp)]
theorem fl_zero (p : Int) : fl 0 p = 0 := by unfold fl; rw [nearest_zero, word_false]
theorem fl_eq {m : Nat} {p : Int} (h0 : m ≠ 0) : fl m p = min (rungOf m p) 9218868437227405312 := by
  unfold fl; rw [nearest_eq _ _ _ h0, word_false]
theorem fl_rung {m : Nat} {p : Int} : rung (fl m p) = fl m p ∧ isNeg (fl m p) = false ∧ fl m p ≤ 9218868437227405312 := by
  by_cases h0 : m = 0
  · rw [h0, fl_zero]; exact ⟨rfl, rfl, by omega⟩
  · rw [fl_eq h0]
    have h := word_rung false (r := min (rungOf m p) 9218868437227405312) (by omega)
    rw [word_false] at h
    exact ⟨h.1, h.2.1, by omega⟩
theorem fl_twice {m : Nat} {p : Int} (hm : m < 9007199254740992) (hp : -1074 ≤ p) (hf : fl m p < 9218868437227405312) : D.mul (fl m p) 4611686018427387904 = some (fl m (p + 1)) := by
  by_cases h0 : m = 0
  · rw [h0, fl_zero, fl_zero, twice (show rung 0 < 9218868437227405312 by unfold rung; omega), show sg (rung 0) = 0 from rfl, nearest_zero, show isNeg 0 = false from rfl, word_false]
  · have hr := (fl_rung (m := m) (p := p))
    have e : fl m p = rungOf m p := by rw [fl_eq h0] at hf ⊢; omega
    rw [twice (by rw [hr.1]; exact hf), hr.1, hr.2.1, e, same_value 1 false h0 hm hp]
    unfold fl
    rfl
theorem fl_half {m : Nat} {p : Int} (hm : m < 9007199254740992) (hp : -1074 ≤ p) (hf : fl m p < 9218868437227405312) : D.div (fl m p) 4611686018427387904 = some (fl m (p - 1)) := by
  by_cases h0 : m = 0
  · rw [h0, fl_zero, fl_zero, half (show rung 0 < 9218868437227405312 by unfold rung; omega), show sg (rung 0) = 0 from rfl, nearest_zero, show isNeg 0 = false from rfl, word_false]
  · have hr := (fl_rung (m := m) (p := p))
    have e : fl m p = rungOf m p := by rw [fl_eq h0] at hf ⊢; omega
    rw [half (by rw [hr.1]; exact hf), hr.1, hr.2.1, e, show (-1074 + (up (rungOf m p) : Int) - 1) = -1074 + (up (rungOf m p) : Nat) + -1 by omega, same_value (-1) false h0 hm hp, show p - 1 = p + -1 by omega]
    unfold fl
    rfl
/-- the floats of one m rise with the place -/
theorem fl_le {m : Nat} {p q : Int} (hm : m < 9007199254740992) (hp : -1074 ≤ p) (h : p ≤ q) : fl m p ≤ fl m q := by
  by_cases h0 : m = 0
  · rw [h0, fl_zero, fl_zero]; omega
  · have e1 := exact h0 hm hp
    have e2 := exact h0 hm (show -1074 ≤ q by omega)
    have h2 : mg (rungOf m p) ≤ mg (rungOf m q) := by
      rw [e1, e2]; exact Nat.mul_le_mul_left _ (Nat.pow_le_pow_right (by decide) (by omega))
    clear e1 e2
    have h3 : rungOf m p ≤ rungOf m q := by
      rcases Nat.lt_or_ge (rungOf m q) (rungOf m p) with c | c
      · have := mg_lt c; omega
      · exact c
    rw [fl_eq h0, fl_eq h0]; omega
end Go.Flo
