/-
  FloatsMeasure, the plain law: doubling and halving make a float of its parts.
-/
import Derived.Test.YtlhmjmfcngegnaaDoorPureBase
import Derived.Test.YtlhmjmfcngegnaaDoorFloLaws
import Derived.Test.YtlhmjmfcngegnaaDoorQA6
namespace Go.Proofs.YtlhmjmfcngegnaaDoor.Pure
open Go.RowKit Go.Proofs.YtlhmjmfcngegnaaDoor.QA Go.Proofs.YtlhmjmfcngegnaaDoorW.PrintWords Go.Proofs.YtlhmjmfcngegnaaDoorW.PrintLast
open Go.Proofs.YtlhmjmfcngegnaaDoorG Go.Flo
set_option linter.unusedVariables false
set_option linter.unusedSimpArgs false

theorem alive_any : ∀ n : Nat, foundrylaw01_alive.f (60 + n) = some true
  | 0 => alive_holds
  | n + 1 => foundrylaw01_alive.mono (60 + n) true (alive_any n)

theorem sign_is (a : Nat) (h : a < 18446744073709551616) : ((Go.bits .and .u64 (a : Int) 9223372036854775808) != 0) = isNeg a := by
  rw [and_sign a h]
  unfold isNeg
  by_cases c : a < 9223372036854775808
  · rw [show a / 9223372036854775808 = 0 by omega]; rfl
  · rw [show a / 9223372036854775808 = 1 by omega]; rfl

theorem parts_eq (a : Nat) (h : a < 18446744073709551616) : floats_Parts.f (a : Int) =
    some (if 9218868437227405312 < rung a then (false, 0, 0) else if rung a = 9218868437227405312 then (isNeg a, 0, 0) else (isNeg a, ((sg (rung a) : Nat) : Int), -1074 + ((Flo.up (rung a) : Nat) : Int))) := by
  unfold floats_Parts.f
  rw [class_eq a h, Option.bind_some, sign_is a h, and_frac a h]
  have e : ((a : Int) / 4503599627370496) = ((a / 4503599627370496 : Nat) : Int) := by omega
  rw [e, and_exp _ (by omega), or_hidden _ (by omega)]
  unfold classN
  have r1 : rung a = a % 9223372036854775808 := rfl
  by_cases c1 : 9218868437227405312 < rung a
  · rw [if_pos c1, if_pos c1]; rfl
  · rw [if_neg c1, if_neg c1]
    by_cases c2 : rung a = 9218868437227405312
    · rw [if_pos c2, if_pos c2]; rfl
    · rw [if_neg c2, if_neg c2]
      by_cases c3 : rung a < 4503599627370496
      · have hs : sg (rung a) = a % 4503599627370496 := by unfold sg; rw [if_pos c3]; omega
        have hu : Flo.up (rung a) = 0 := by unfold Flo.up; omega
        rw [hs, hu]
        by_cases c4 : rung a = 0
        · rw [if_pos c4]; rfl
        · rw [if_neg c4, if_pos c3]; rfl
      · have hs : sg (rung a) = a % 4503599627370496 + 4503599627370496 := by unfold sg; rw [if_neg c3]; omega
        have hu : ((Flo.up (rung a) : Nat) : Int) = ((a / 4503599627370496 % 2048 : Nat) : Int) - 1 := by unfold Flo.up; omega
        rw [if_neg (show ¬ rung a = 0 by omega), if_neg c3, hs, hu]
        rw [if_neg (show ¬ (5 : Int) = 1 by omega), if_neg (show ¬ (5 : Int) = 2 by omega), if_pos rfl]
        have hw : wrap64 (wrap64 ((a / 4503599627370496 % 2048 : Nat) : Int) - 1075) = -1074 + (((a / 4503599627370496 % 2048 : Nat) : Int) - 1) := by unfold wrap64; omega
        rw [hw]

theorem ofInt_is (m : Nat) : floatOfInt .f64 (m : Int) = fl m 0 := by
  have h : floatOfInt .f64 (m : Int) = D.nearest (decide ((m : Int) < 0)) (m : Int).natAbs 0 := rfl
  rw [h, decide_eq_false (by omega)]
  rfl
theorem canon_fl (m : Nat) (p : Int) : canonN (fl m p) = fl m p := by
  have h := @fl_rung m p
  apply if_neg
  have : rung (fl m p) = fl m p % 9223372036854775808 := rfl
  omega
theorem canon_low {x : Nat} (h : x < 9218868437227405312) : canonN x = x := if_neg (by omega)

theorem fl_one {m : Nat} (hm : m < 9007199254740992) : fl m 0 < 9218868437227405312 := by
  by_cases h0 : m = 0
  · rw [h0, fl_zero]; omega
  · rw [fl_eq h0]
    have h := exact h0 hm (show (-1074 : Int) ≤ 0 by omega)
    have hi : mg 9218868437227405312 = 4503599627370496 * 2 ^ 2046 := by decide +kernel
    have hlt : mg (rungOf m 0) < mg 9218868437227405312 := by
      rw [h, hi, show ((0 : Int) + 1074).toNat = 1074 from rfl]
      calc m * 2 ^ 1074 < 9007199254740992 * 2 ^ 1074 := Nat.mul_lt_mul_of_pos_right hm (Nat.two_pow_pos _)
        _ ≤ 4503599627370496 * 2 ^ 2046 := by decide +kernel
    have := mg_lt_iff.1 hlt
    omega

theorem fl_own (r : Nat) (h : r < 9218868437227405312) : fl (sg r) (-1074 + (Flo.up r : Nat)) = r := by
  by_cases h0 : r = 0
  · rw [h0, show sg 0 = 0 from rfl, fl_zero]
  · rw [fl_eq (fun e => h0 (sg_zero e)), rungOf_exact r h0]; omega

theorem mul_two {m : Nat} {p : Int} (hm : m < 9007199254740992) (hp : -1074 ≤ p) (hf : fl m p < 9218868437227405312) : floats_Mul.f ((fl m p : Nat) : Int) 4611686018427387904 = some ((fl m (p + 1) : Nat) : Int) := by
  unfold floats_Mul.f floatsOp
  rw [show floatBits .mul .f64 ((fl m p : Nat) : Int).toNat (4611686018427387904 : Int).toNat = D.mul (fl m p) 4611686018427387904 from rfl, fl_twice hm hp hf]
  show some ((canonN (fl m (p + 1)) : Nat) : Int) = _
  rw [canon_fl]
theorem div_two {m : Nat} {p : Int} (hm : m < 9007199254740992) (hp : -1074 ≤ p) (hf : fl m p < 9218868437227405312) : floats_Div.f ((fl m p : Nat) : Int) 4611686018427387904 = some ((fl m (p - 1) : Nat) : Int) := by
  unfold floats_Div.f floatsOp
  rw [show floatBits .quo .f64 ((fl m p : Nat) : Int).toNat (4611686018427387904 : Int).toNat = D.div (fl m p) 4611686018427387904 from rfl, fl_half hm hp hf]
  show some ((canonN (fl m (p - 1)) : Nat) : Int) = _
  rw [canon_fl]

theorem l0_stop (k : Nat) (A e x y : Int) (h : ¬ e > 0) : foundrylaw01_FloatsMeasure.l0 (k + 1) A e x y 0 = foundrylaw01_FloatsMeasure.j3 k A e x y := by
  simp only [foundrylaw01_FloatsMeasure.l0]
  rw [if_pos (by omega), if_neg h]

theorem up_step (k : Nat) (A e x y i x' : Int) (he : 0 < e) (hi : i < 1200) (hx : floats_Mul.f x y = some x') : foundrylaw01_FloatsMeasure.l0 (k + 1) A e x y i = foundrylaw01_FloatsMeasure.l0 k A (wrap64 (e - 1)) x' y (wrap64 (i + 1)) := by
  simp only [foundrylaw01_FloatsMeasure.l0]
  rw [if_pos hi, if_pos he, hx, Option.bind_some]
theorem up_stop (k : Nat) (A x y i : Int) (hi : i < 1200) : foundrylaw01_FloatsMeasure.l0 (k + 1) A 0 x y i = foundrylaw01_FloatsMeasure.j3 k A 0 x y := by
  simp only [foundrylaw01_FloatsMeasure.l0]
  rw [if_pos hi, if_neg (by omega)]
theorem down_step (k : Nat) (A e x y i x' : Int) (he : e < 0) (hi : i < 1200) (hx : floats_Div.f x y = some x') : foundrylaw01_FloatsMeasure.l1 (k + 1) A e x y i = foundrylaw01_FloatsMeasure.l1 k A (wrap64 (e + 1)) x' y (wrap64 (i + 1)) := by
  simp only [foundrylaw01_FloatsMeasure.l1]
  rw [if_pos hi, if_pos he, hx, Option.bind_some]
theorem down_stop (k : Nat) (A x y i : Int) (hi : i < 1200) : foundrylaw01_FloatsMeasure.l1 (k + 1) A 0 x y i = if x = A then some true else some false := by
  simp only [foundrylaw01_FloatsMeasure.l1]
  rw [if_pos hi, if_neg (by omega)]
  rfl

theorem up_loop (A y : Int) (hy : y = 4611686018427387904) {m : Nat} (hm : m < 9007199254740992) (n : Nat) : ∀ (k i : Nat) (p : Int), -1074 ≤ p → i + n < 1200 → fl m (p + (n : Int)) < 9218868437227405312 →
    foundrylaw01_FloatsMeasure.l0 (k + n + 1) A (n : Int) ((fl m p : Nat) : Int) y (i : Int) = foundrylaw01_FloatsMeasure.j3 k A 0 ((fl m (p + (n : Int)) : Nat) : Int) y := by
  induction n with
  | zero =>
    intro k i p hp hi hf
    have e : p + ((0 : Nat) : Int) = p := by omega
    rw [e]
    exact up_stop k A _ y i (by omega)
  | succ n ih =>
    intro k i p hp hi hf
    have hf0 : fl m p < 9218868437227405312 := Nat.lt_of_le_of_lt (fl_le hm hp (by omega)) hf
    have e : p + ((n + 1 : Nat) : Int) = p + 1 + (n : Int) := by omega
    have hx := mul_two hm hp hf0
    rw [← hy] at hx
    have s := up_step (k + n + 1) A ((n + 1 : Nat) : Int) ((fl m p : Nat) : Int) y (i : Int) _ (by omega) (by omega) hx
    have e1 : wrap64 (((n + 1 : Nat) : Int) - 1) = (n : Int) := by unfold wrap64; omega
    have e2 : wrap64 ((i : Int) + 1) = ((i + 1 : Nat) : Int) := by unfold wrap64; omega
    rw [e1, e2] at s
    rw [e] at hf ⊢
    exact s.trans (ih k (i + 1) (p + 1) (by omega) (by omega) hf)

theorem down_loop (A y : Int) (hy : y = 4611686018427387904) {m : Nat} (hm : m < 9007199254740992) (n : Nat) : ∀ (k i : Nat) (p : Int), -1074 ≤ p - (n : Int) → i + n < 1200 → fl m p < 9218868437227405312 →
    foundrylaw01_FloatsMeasure.l1 (k + n + 1) A (-(n : Int)) ((fl m p : Nat) : Int) y (i : Int) = if ((fl m (p - (n : Int)) : Nat) : Int) = A then some true else some false := by
  induction n with
  | zero =>
    intro k i p hp hi hf
    have e : p - ((0 : Nat) : Int) = p := by omega
    have e0 : -((0 : Nat) : Int) = 0 := by omega
    rw [e, e0]
    exact down_stop k A _ y i (by omega)
  | succ n ih =>
    intro k i p hp hi hf
    have e : p - ((n + 1 : Nat) : Int) = p - 1 - (n : Int) := by omega
    have hx := div_two hm (show -1074 ≤ p by omega) hf
    rw [← hy] at hx
    have s := down_step (k + n + 1) A (-((n + 1 : Nat) : Int)) ((fl m p : Nat) : Int) y (i : Int) _ (by omega) (by omega) hx
    have e1 : wrap64 (-((n + 1 : Nat) : Int) + 1) = -(n : Int) := by unfold wrap64; omega
    have e2 : wrap64 ((i : Int) + 1) = ((i + 1 : Nat) : Int) := by unfold wrap64; omega
    rw [e1, e2] at s
    rw [e] at hp ⊢
    exact s.trans (ih k (i + 1) (p - 1) hp (by omega) (Nat.lt_of_le_of_lt (fl_le hm (by omega) (by omega)) hf))

theorem FloatsMeasure : foundrylaw01_FloatsMeasure.Pure := by
  intro a0 w0
  obtain ⟨a, rfl, ha⟩ := u64_is w0
  refine ⟨3000, ?_⟩
  unfold foundrylaw01_FloatsMeasure.f
  rw [parts_eq a ha, alive_any 2940]
  simp only [Option.bind_some, if_true]
  have J : ∀ (s : Bool) (m e : Int), m < 9007199254740992 → foundrylaw01_FloatsMeasure.j0 3000 (a : Int) s m e (decide (m ≥ 9007199254740992)) =
      (if classN a < 3 then (if m = 0 then some (e == 0) else some false) else if s = true then foundrylaw01_FloatsMeasure.j1 2999 ((canonN (flip a) : Nat) : Int) m e else foundrylaw01_FloatsMeasure.j1 2999 (a : Int) m e) := by
    intro s m e h
    rw [decide_eq_false (by omega)]
    simp only [foundrylaw01_FloatsMeasure.j0]
    rw [class_eq a ha, neg_eq a ha]
    simp
  have r1 : rung a = a % 9223372036854775808 := rfl
  by_cases c1 : 9218868437227405312 < rung a
  · rw [if_pos c1]
    rw [J false 0 0 (by omega), if_pos (show classN a < 3 by unfold classN; rw [if_pos c1]; omega)]
    rfl
  · rw [if_neg c1]
    by_cases c2 : rung a = 9218868437227405312
    · rw [if_pos c2]
      rw [J (isNeg a) 0 0 (by omega), if_pos (show classN a < 3 by unfold classN; rw [if_neg c1, if_pos c2]; omega)]
      rfl
    · rw [if_neg c2]
      have hr : rung a < 9218868437227405312 := by omega
      have hs := sg_lt (rung a)
      rw [J (isNeg a) ((sg (rung a) : Nat) : Int) (-1074 + ((Flo.up (rung a) : Nat) : Int)) (by omega)]
      rw [if_neg (show ¬ classN a < 3 by
        unfold classN; rw [if_neg c1, if_neg c2]
        split
        · omega
        · split <;> omega)]
      have A1 : ∀ (m : Nat) (e : Int), (if isNeg a = true then foundrylaw01_FloatsMeasure.j1 2999 ((canonN (flip a) : Nat) : Int) (m : Int) e else foundrylaw01_FloatsMeasure.j1 2999 (a : Int) (m : Int) e) = foundrylaw01_FloatsMeasure.j1 2999 ((rung a : Nat) : Int) (m : Int) e := by
        intro m e
        cases hn : isNeg a
        · have : rung a = a := by unfold isNeg at hn; simp at hn; omega
          rw [this]; simp
        · have hb : 9223372036854775808 ≤ a := by unfold isNeg at hn; simp at hn; omega
          have h2 : flip a = rung a := by unfold flip; rw [if_neg (by omega)]; omega
          rw [h2, canon_low hr]; simp
      rw [A1]
      simp only [foundrylaw01_FloatsMeasure.j1]
      have F1 : floats_FromInt.f (wrap64 ((sg (rung a) : Nat) : Int)) = some ((fl (sg (rung a)) 0 : Nat) : Int) := by
        unfold floats_FromInt.f
        rw [show wrap64 ((sg (rung a) : Nat) : Int) = ((sg (rung a) : Nat) : Int) by unfold wrap64; omega, ofInt_is, canon_fl]
      have F2 : floats_FromInt.f 2 = some 4611686018427387904 := by decide +kernel
      rw [F1, F2, Option.bind_some, Option.bind_some]
      have own := fl_own (rung a) hr
      have hup : Flo.up (rung a) < 2047 := by unfold Flo.up; omega
      generalize sg (rung a) = m at hs own ⊢
      generalize Flo.up (rung a) = u at own hup ⊢
      by_cases e : u ≤ 1074
      · -- the exponent is not above nought
        obtain ⟨n, hn⟩ : ∃ n : Nat, u + n = 1074 := ⟨1074 - u, by omega⟩
        have l0 : foundrylaw01_FloatsMeasure.l0 2998 ((rung a : Nat) : Int) (-1074 + (u : Int)) ((fl m 0 : Nat) : Int) 4611686018427387904 0 = foundrylaw01_FloatsMeasure.j3 2997 ((rung a : Nat) : Int) (-1074 + (u : Int)) ((fl m 0 : Nat) : Int) 4611686018427387904 := by
          exact l0_stop 2997 _ _ _ _ (by omega)
        rw [l0]
        simp only [foundrylaw01_FloatsMeasure.j3]
        have := down_loop ((rung a : Nat) : Int) 4611686018427387904 rfl hs n (2995 - n) 0 0 (by omega) (by omega) (fl_one hs)
        rw [show 2995 - n + n + 1 = 2996 by omega, show (-(n : Int)) = -1074 + (u : Int) by omega, show ((0 : Nat) : Int) = 0 from rfl] at this
        rw [this, show (0 : Int) - (n : Int) = -1074 + (u : Int) by omega, own, if_pos rfl]
      · obtain ⟨n, hn⟩ : ∃ n : Nat, u = 1074 + n := ⟨u - 1074, by omega⟩
        have e1 : -1074 + (u : Int) = (n : Int) := by omega
        rw [e1] at own ⊢
        have := up_loop ((rung a : Nat) : Int) 4611686018427387904 rfl hs n (2997 - n) 0 0 (by omega) (by omega) (by rw [Int.zero_add, own]; exact hr)
        rw [show 2997 - n + n + 1 = 2998 by omega, show ((0 : Nat) : Int) = 0 from rfl, Int.zero_add, own] at this
        rw [this]
        obtain ⟨q, hq⟩ : ∃ q, 2997 - n = q + 2 := ⟨2995 - n, by omega⟩
        rw [hq]
        simp only [foundrylaw01_FloatsMeasure.j3, foundrylaw01_FloatsMeasure.l1]
        simp
end Go.Proofs.YtlhmjmfcngegnaaDoor.Pure
