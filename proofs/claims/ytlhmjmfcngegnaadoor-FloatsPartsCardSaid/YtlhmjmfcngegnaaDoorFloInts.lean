/-
  Whole numbers as floats: cutting towards zero, and that whole numbers of at most 53 digits are kept.
-/
import Derived.Test.YtlhmjmfcngegnaaDoorFloLaws
import Derived.Test.YtlhmjmfcngegnaaDoorGivC
namespace Go.Flo
open Ieee Go.Proofs.YtlhmjmfcngegnaaDoorG
set_option linter.unusedVariables false
set_option linter.unusedSimpArgs false
set_option exponentiation.threshold 3000

theorem cut_zero (neg : Bool) (n d : Nat) : Toward.zero.cut neg n d = n / 2 ^ d := by
  unfold Toward.cut
  dsimp only
  rw [Bool.toNat_false, Nat.add_zero, Nat.shiftLeft_eq, Nat.one_mul]
  by_cases h : d ≤ n.log2 + 2
  · rw [Nat.min_eq_left h]
  · rw [Nat.min_eq_right (by omega)]
    have l := lt_log2 n
    have h1 : n < 2 ^ (n.log2 + 2) := Nat.lt_of_lt_of_le l (Nat.pow_le_pow_right (by decide) (by omega))
    have h2 : n < 2 ^ d := Nat.lt_of_lt_of_le h1 (Nat.pow_le_pow_right (by decide) (by omega))
    rw [Nat.div_eq_of_lt h1, Nat.div_eq_of_lt h2]

theorem nearest_facts (s : Bool) (m : Nat) (p : Int) : isNeg (D.nearest s m p) = s ∧ rung (D.nearest s m p) = fl m p ∧ D.nearest s m p < 18446744073709551616 ∧ ¬ nan (D.nearest s m p) := by
  have hw : D.nearest s m p = D.word s (fl m p) := by
    by_cases h0 : m = 0
    · rw [h0, fl_zero, nearest_zero]
    · rw [nearest_eq _ _ _ h0, fl_eq h0]
  have h := @fl_rung m p
  obtain ⟨w1, w2, w3⟩ := word_rung s (r := fl m p) (by omega)
  rw [hw]
  exact ⟨w2, w1, w3, by unfold nan; rw [w1]; omega⟩

theorem fl_mg {m : Nat} (hm : m < 9007199254740992) (hf : fl m 0 < 9218868437227405312) : mg (fl m 0) = m * 2 ^ 1074 := by
  by_cases h0 : m = 0
  · rw [h0, fl_zero, Nat.zero_mul]; rfl
  · have e : fl m 0 = rungOf m 0 := by rw [fl_eq h0] at hf ⊢; omega
    rw [e, exact h0 hm (by omega)]
    rfl

/-- the signed magnitude of a whole number's float -/
theorem sv_int {s : Bool} {q : Int} (hq : q.natAbs < 9007199254740992) (hs : q ≠ 0 → s = decide (q < 0)) (hf : fl q.natAbs 0 < 9218868437227405312) :
    sv (D.nearest s q.natAbs 0) = q * (2 ^ 1074 : Nat) := by
  obtain ⟨h1, h2, _, _⟩ := nearest_facts s q.natAbs 0
  unfold sv
  rw [h1, h2, fl_mg hq hf]
  by_cases z : q = 0
  · subst z
    cases s <;> simp
  · rw [hs z]
    generalize (2 : Nat) ^ 1074 = B
    by_cases c : q < 0
    · rw [decide_eq_true c, if_pos rfl, Int.natCast_mul, ← Int.neg_mul]
      congr 1
      omega
    · rw [decide_eq_false c, if_neg (by simp), Int.natCast_mul]
      congr 1
      omega

theorem whole_cut {m u Q : Nat} (h : m * 2 ^ u = Q * 2 ^ 1074) : m <<< (-1074 + (u : Int)).toNat / 2 ^ (-(-1074 + (u : Int))).toNat = Q := by
  rw [Nat.shiftLeft_eq]
  by_cases c : u ≤ 1074
  · obtain ⟨n, hn⟩ : ∃ n, 1074 = u + n := ⟨1074 - u, by omega⟩
    rw [show (-1074 + (u : Int)).toNat = 0 by omega, show (-(-1074 + (u : Int))).toNat = n by omega, Nat.pow_zero, Nat.mul_one]
    have h2 : m * 2 ^ u = Q * 2 ^ n * 2 ^ u := by
      rw [h, Nat.mul_assoc, ← Nat.pow_add]
      congr 2
      omega
    have h3 : m = Q * 2 ^ n := Nat.eq_of_mul_eq_mul_right (Nat.two_pow_pos u) h2
    rw [h3, Nat.mul_div_cancel _ (Nat.two_pow_pos n)]
  · obtain ⟨n, hn⟩ : ∃ n, u = 1074 + n := ⟨u - 1074, by omega⟩
    rw [show (-1074 + (u : Int)).toNat = n by omega, show (-(-1074 + (u : Int))).toNat = 0 by omega, Nat.pow_zero, Nat.div_one]
    have h2 : m * 2 ^ n * 2 ^ 1074 = Q * 2 ^ 1074 := by
      rw [← h, Nat.mul_assoc, ← Nat.pow_add]
      congr 2
      omega
    exact Nat.eq_of_mul_eq_mul_right (Nat.two_pow_pos 1074) h2

theorem sv_low : sv 14114281232179134464 = (-9223372036854775808 : Int) * (2 ^ 1074 : Nat) := by decide +kernel
theorem sv_high : sv 4890909195324358656 = (9223372036854775808 : Int) * (2 ^ 1074 : Nat) := by decide +kernel

theorem toInt_whole {s : Bool} {q : Int} (hq : q.natAbs < 9007199254740992) (hs : q ≠ 0 → s = decide (q < 0)) (hf : fl q.natAbs 0 < 9218868437227405312) :
    toIntN (D.nearest s q.natAbs 0) = some (q, 0) := by
  obtain ⟨h1, h2, h3, h4⟩ := nearest_facts s q.natAbs 0
  have hsv := sv_int hq hs hf
  have hr : rung (D.nearest s q.natAbs 0) < 9218868437227405312 := by rw [h2]; exact hf
  have hrd := read_finite hr
  have hmg := fl_mg hq hf
  rw [← h2, mg_eq] at hmg
  have hcut := whole_cut hmg
  have hint : (FloatKind.f64.decode (D.nearest s q.natAbs 0)).integral .zero = .number s q.natAbs 0 := by
    have e : FloatKind.f64.decode (D.nearest s q.natAbs 0) = D.read (D.nearest s q.natAbs 0) := rfl
    rw [e, hrd, h1]
    unfold Datum.integral
    dsimp only
    rw [cut_zero, hcut]
  have ht : truncN (D.nearest s q.natAbs 0) = D.nearest s q.natAbs 0 := by
    unfold truncN
    rw [hint]
    rfl
  have hB : (0 : Int) < (2 ^ 1074 : Nat) := by have := Nat.two_pow_pos 1074; omega
  unfold toIntN
  rw [if_neg h4, ht]
  have g1 : geN (D.nearest s q.natAbs 0) 14114281232179134464 = true := by
    unfold geN
    have e : FloatKind.f64.format.order (D.nearest s q.natAbs 0) 14114281232179134464 = _ := order_eq h4 (by unfold nan rung; omega)
    rw [e, hsv, sv_low, cmp_gt (Int.mul_lt_mul_of_pos_right (by omega) hB)]
    rfl
  have g2 : ltB (D.nearest s q.natAbs 0) 4890909195324358656 = true := by
    unfold ltB
    have e : FloatKind.f64.format.order (D.nearest s q.natAbs 0) 4890909195324358656 = _ := order_eq h4 (by unfold nan rung; omega)
    rw [e, hsv, sv_high, cmp_lt (Int.mul_lt_mul_of_pos_right (by omega) hB)]
    rfl
  rw [if_pos g1, if_pos g2]
  have hv : floatToIntVal .f64 (D.nearest s q.natAbs 0) .i64 = some q := by
    unfold floatToIntVal Datum.toInt
    rw [hint]
    dsimp only
    rw [signed_eq, Nat.pow_zero, Nat.mul_one]
    have e : (if s = true then -((q.natAbs : Nat) : Int) else ((q.natAbs : Nat) : Int)) = q := by
      by_cases z : q = 0
      · subst z; cases s <;> rfl
      · rw [hs z]
        by_cases c : q < 0
        · rw [decide_eq_true c, if_pos rfl]; omega
        · rw [decide_eq_false c, if_neg (by simp)]; omega
    rw [e, if_pos (by simp only [IntKind.min, IntKind.max, IntKind.signed, IntKind.bits]; constructor <;> simp <;> omega)]
  rw [hv]
  rfl

/-- the sum of two whole numbers' floats -/
theorem add_whole {q r : Int} {a b : Nat} (ha : rung a < 9218868437227405312) (hb : rung b < 9218868437227405312) (sa : sv a = q * (2 ^ 1074 : Nat)) (sb : sv b = r * (2 ^ 1074 : Nat)) :
    ∃ s, D.add a b = some (D.nearest s (q + r).natAbs 0) ∧ (q + r ≠ 0 → s = decide (q + r < 0)) := by
  obtain ⟨T, k, z, hadd, hT⟩ := sum_finite ha hb
  rw [sa, sb, ← Int.add_mul] at hT
  refine ⟨if T = 0 then z else decide (T < 0), hadd.trans ?_, ?_⟩
  · congr 1
    have h2 : T.natAbs * 2 ^ k = (q + r).natAbs * 2 ^ 1074 := by
      have := congrArg Int.natAbs hT
      rwa [Int.natAbs_mul, Int.natAbs_mul, Int.natAbs_natCast, Int.natAbs_natCast] at this
    have e1 := nearest_shift (if T = 0 then z else decide (T < 0)) T.natAbs k (-1074)
    have e2 := nearest_shift (if T = 0 then z else decide (T < 0)) (q + r).natAbs 1074 (-1074)
    rw [h2] at e1
    rw [← e1, e2]
    rfl
  · intro h
    have hk : (0 : Int) < (2 ^ k : Nat) := by have := Nat.two_pow_pos k; omega
    have hB : (0 : Int) < (2 ^ 1074 : Nat) := by have := Nat.two_pow_pos 1074; omega
    generalize ((2 ^ 1074 : Nat) : Int) = B at hT hB
    generalize ((2 ^ k : Nat) : Int) = K at hT hk
    by_cases t0 : T = 0
    · rw [t0, Int.zero_mul] at hT
      rcases Int.mul_eq_zero.1 hT.symm with h' | h' <;> omega
    · rw [if_neg t0]
      by_cases c : q + r < 0
      · have h1 := Int.mul_neg_of_neg_of_pos c hB
        have : T < 0 := by
          by_cases c2 : T < 0
          · exact c2
          · have := Int.mul_pos (show 0 < T by omega) hk; omega
        rw [decide_eq_true this, decide_eq_true c]
      · have h1 := Int.mul_pos (show 0 < q + r by omega) hB
        have : ¬ T < 0 := by
          intro c2
          have := Int.mul_neg_of_neg_of_pos c2 hk; omega
        rw [decide_eq_false this, decide_eq_false c]
end Go.Flo
