/-
  floats.ToInt of any finite float: its whole part, if that is an int64.
-/
import Derived.Test.YtlhmjmfcngegnaaDoorFloInts
namespace Go.Flo
open Ieee Go.Proofs.YtlhmjmfcngegnaaDoorG
set_option linter.unusedVariables false
set_option linter.unusedSimpArgs false
set_option exponentiation.threshold 3000

theorem fl_small {m : Nat} (hm : m < 9007199254740992) : fl m 0 < 9218868437227405312 := by
  by_cases h0 : m = 0
  · rw [h0, fl_zero]; omega
  · rw [fl_eq h0]
    have h := exact h0 hm (show (-1074 : Int) ≤ 0 by omega)
    have hi : mg 9218868437227405312 = 4503599627370496 * 2 ^ 2046 := by decide +kernel
    have hlt : mg (rungOf m 0) < mg 9218868437227405312 := by
      rw [h, hi, show ((0 : Int) + 1074).toNat = 1074 from rfl]
      calc m * 2 ^ 1074 < 9007199254740992 * 2 ^ 1074 := Nat.mul_lt_mul_of_pos_right hm (Nat.two_pow_pos _)
        _ ≤ 4503599627370496 * 2 ^ 2046 := by decide +kernel
    have := mg_lt_iff.1 hlt
    omega

/-- the whole part of a magnitude -/
def whole (r : Nat) : Nat := sg r <<< (-1074 + (up r : Int)).toNat / 2 ^ (-(-1074 + (up r : Int))).toNat
def signedI (s : Bool) (Q : Nat) : Int := if s then -(Q : Int) else (Q : Int)

theorem signedI_abs (s : Bool) (Q : Nat) : (signedI s Q).natAbs = Q := by unfold signedI; cases s <;> simp

theorem toInt_of {a Q : Nat} {s : Bool} (na : ¬ nan a) (X : Nat) (hX : truncN a = X) (hr : rung X < 9218868437227405312) (hs : isNeg X = s) (hmg : mg (rung X) = Q * 2 ^ 1074) :
    toIntN a = some (if -9223372036854775808 ≤ signedI s Q ∧ signedI s Q < 9223372036854775808 then (signedI s Q, 0) else (0, 82)) := by
  have h4 : ¬ nan X := by unfold nan; omega
  have hsv : sv X = signedI s Q * (2 ^ 1074 : Nat) := by
    unfold sv signedI
    rw [hs, hmg]
    cases s
    · simp only [Bool.false_eq_true, if_false, Int.natCast_mul]
    · simp only [if_true, Int.natCast_mul, Int.neg_mul]
  have hrd := read_finite hr
  have hcut := whole_cut (show sg (rung X) * 2 ^ up (rung X) = Q * 2 ^ 1074 by rw [← mg_eq]; exact hmg)
  have hint : (FloatKind.f64.decode X).integral .zero = .number s Q 0 := by
    have e : FloatKind.f64.decode X = D.read X := rfl
    rw [e, hrd, hs]
    unfold Datum.integral
    dsimp only
    rw [cut_zero, hcut]
  have hB : (0 : Int) < (2 ^ 1074 : Nat) := by have := Nat.two_pow_pos 1074; omega
  unfold toIntN
  rw [if_neg na, hX]
  have o1 : FloatKind.f64.format.order X 14114281232179134464 = some (compare (sv X) (sv 14114281232179134464)) := order_eq h4 (by unfold nan rung; omega)
  have o2 : FloatKind.f64.format.order X 4890909195324358656 = some (compare (sv X) (sv 4890909195324358656)) := order_eq h4 (by unfold nan rung; omega)
  unfold geN ltB
  rw [o1, o2, hsv, sv_low, sv_high, cmp_scale _ _ _ (Nat.two_pow_pos 1074), cmp_scale _ _ _ (Nat.two_pow_pos 1074)]
  by_cases c1 : -9223372036854775808 ≤ signedI s Q
  · have g1 : (some (compare (signedI s Q) (-9223372036854775808)) == some .gt || some (compare (signedI s Q) (-9223372036854775808)) == some .eq) = true := by
      rcases Int.lt_trichotomy (signedI s Q) (-9223372036854775808) with h | h | h
      · omega
      · rw [h, cmp_self]; rfl
      · rw [cmp_gt h]; rfl
    rw [if_pos g1]
    by_cases c2 : signedI s Q < 9223372036854775808
    · rw [if_pos (show (some (compare (signedI s Q) 9223372036854775808) == some .lt) = true by rw [cmp_lt c2]; rfl), if_pos ⟨c1, c2⟩]
      have hv : floatToIntVal .f64 X .i64 = some (signedI s Q) := by
        unfold floatToIntVal Datum.toInt
        rw [hint]
        dsimp only
        rw [signed_eq, Nat.pow_zero, Nat.mul_one]
        have e : (if s = true then -((Q : Nat) : Int) else ((Q : Nat) : Int)) = signedI s Q := rfl
        rw [e, if_pos (by simp only [IntKind.min, IntKind.max, IntKind.signed, IntKind.bits]; constructor <;> simp <;> omega)]
      rw [hv]
      rfl
    · rw [if_neg (c := (some (compare (signedI s Q) 9223372036854775808) == some .lt) = true), if_neg (fun q => c2 q.2)]
      rcases Int.lt_trichotomy (signedI s Q) 9223372036854775808 with h | h | h
      · omega
      · rw [h, cmp_self]; decide
      · rw [cmp_gt h]; decide
  · rw [if_neg (c := (some (compare (signedI s Q) (-9223372036854775808)) == some .gt || some (compare (signedI s Q) (-9223372036854775808)) == some .eq) = true), if_neg (fun q => c1 q.1)]
    rw [cmp_lt (by omega)]; decide

theorem toInt_finite {a : Nat} (h : a < 18446744073709551616) (hf : rung a < 9218868437227405312) :
    toIntN a = some (if -9223372036854775808 ≤ signedI (isNeg a) (whole (rung a)) ∧ signedI (isNeg a) (whole (rung a)) < 9223372036854775808 then (signedI (isNeg a) (whole (rung a)), 0) else (0, 82)) := by
  have na : ¬ nan a := by unfold nan; omega
  have ht : truncN a = D.nearest (isNeg a) (whole (rung a)) 0 := by
    unfold truncN
    have e : FloatKind.f64.decode a = D.read a := rfl
    rw [e, read_finite hf]
    unfold Datum.integral
    dsimp only
    rw [cut_zero]
    rfl
  by_cases c : 1074 ≤ up (rung a)
  · obtain ⟨n, hn⟩ : ∃ n, up (rung a) = n + 1074 := ⟨up (rung a) - 1074, by omega⟩
    have hw : whole (rung a) = sg (rung a) * 2 ^ n := by
      unfold whole
      rw [show (-1074 + (up (rung a) : Int)).toNat = n by omega, show (-(-1074 + (up (rung a) : Int))).toNat = 0 by omega, Nat.pow_zero, Nat.div_one, Nat.shiftLeft_eq]
    have hX : D.nearest (isNeg a) (whole (rung a)) 0 = a := by
      rw [hw, nearest_shift]
      have := nearest_own h hf
      rw [hn, show -1074 + ((n + 1074 : Nat) : Int) = 0 + (n : Int) by omega] at this
      exact this
    refine toInt_of na a (ht.trans hX) hf rfl ?_
    rw [mg_eq, hn, hw, Nat.pow_add, ← Nat.mul_assoc]
  · have hw : whole (rung a) < 9007199254740992 := by
      unfold whole
      rw [show (-1074 + (up (rung a) : Int)).toNat = 0 by omega, Nat.shiftLeft_eq, Nat.pow_zero, Nat.mul_one]
      exact Nat.lt_of_le_of_lt (Nat.div_le_self _ _) (sg_lt _)
    obtain ⟨n1, n2, n3, n4⟩ := nearest_facts (isNeg a) (whole (rung a)) 0
    have hl := fl_small hw
    exact toInt_of na _ ht (by rw [n2]; exact hl) n1 (by rw [n2]; exact fl_mg hw hl)

theorem toInt_inf {a : Nat} (hi : rung a = 9218868437227405312) : toIntN a = some (0, 82) := by
  have na : ¬ nan a := by unfold nan; omega
  have hX : rung (truncN a) = 9218868437227405312 ∧ isNeg (truncN a) = isNeg a := by
    unfold truncN
    have e : FloatKind.f64.decode a = D.read a := rfl
    rw [e, read_inf hi]
    have e2 : FloatKind.f64.encode ((Datum.infinity (isNeg a)).integral .zero) = D.word (isNeg a) D.infRung := rfl
    rw [e2, D_inf]
    have := word_rung (isNeg a) (r := 9218868437227405312) (by omega)
    exact ⟨this.1, this.2.1⟩
  obtain ⟨h1, h2⟩ := hX
  have h4 : ¬ nan (truncN a) := by unfold nan; omega
  unfold toIntN
  rw [if_neg na]
  have o1 : FloatKind.f64.format.order (truncN a) 14114281232179134464 = some (compare (sv (truncN a)) (sv 14114281232179134464)) := order_eq h4 (by unfold nan rung; omega)
  have o2 : FloatKind.f64.format.order (truncN a) 4890909195324358656 = some (compare (sv (truncN a)) (sv 4890909195324358656)) := order_eq h4 (by unfold nan rung; omega)
  have r1 : rung 14114281232179134464 = 4890909195324358656 := by unfold rung; omega
  have r2 : rung 4890909195324358656 = 4890909195324358656 := by unfold rung; omega
  have i1 : isNeg 14114281232179134464 = true := by decide +kernel
  have i2 : isNeg 4890909195324358656 = false := by decide +kernel
  unfold geN ltB
  rw [o1, o2]
  cases hn : isNeg a
  · have l2 : ¬ sv (truncN a) < sv 4890909195324358656 := by
      rw [sv_lt, h1, h2, hn, r2, i2]; simp
    have g : (some (compare (sv (truncN a)) (sv 4890909195324358656)) == some .lt) = false := by
      rcases Int.lt_trichotomy (sv (truncN a)) (sv 4890909195324358656) with h | h | h
      · exact absurd h l2
      · rw [h, cmp_self]; decide
      · rw [cmp_gt h]; decide
    rw [g]
    simp
  · have l1 : sv (truncN a) < sv 14114281232179134464 := by
      rw [sv_lt, h1, h2, hn, r1, i1]; simp
    rw [cmp_lt l1, if_neg (by decide)]
end Go.Flo
