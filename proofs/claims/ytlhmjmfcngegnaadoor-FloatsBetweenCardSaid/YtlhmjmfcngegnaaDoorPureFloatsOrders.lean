/-
  FloatsOrders, the plain law: the document's rank and zero tell the order of the signed magnitudes.
-/
import Derived.Test.YtlhmjmfcngegnaaDoorPureBase
import Derived.Test.YtlhmjmfcngegnaaDoorQA3
namespace Go.Proofs.YtlhmjmfcngegnaaDoor.Pure
open Go.RowKit Go.Proofs.YtlhmjmfcngegnaaDoor.QA Go.Proofs.YtlhmjmfcngegnaaDoorW.PrintWords Go.Proofs.YtlhmjmfcngegnaaDoorW.PrintLast
open Go.Proofs.YtlhmjmfcngegnaaDoorG Go.Flo
set_option linter.unusedVariables false
set_option linter.unusedSimpArgs false

theorem ref_class_eq (k a : Nat) (h : a < 18446744073709551616) : foundryref01_Class.f (k + 2) (a : Int) = some (classN a) := by
  unfold foundryref01_Class.f classN rung
  have e : ((a : Int) / 4503599627370496) = ((a / 4503599627370496 : Nat) : Int) := by omega
  rw [e, and_exp _ (by omega), IntKind.wrap_u64]
  have e2 : (a : Int) * 4096 % 18446744073709551616 = ((a % 4503599627370496 * 4096 : Nat) : Int) := by omega
  rw [e2]
  have h1 : a % 9223372036854775808 = a / 4503599627370496 % 2048 * 4503599627370496 + a % 4503599627370496 := by omega
  have h3 : a / 4503599627370496 % 2048 < 2048 := by omega
  have h4 : a % 4503599627370496 < 4503599627370496 := by omega
  rw [h1]
  generalize a / 4503599627370496 % 2048 = x at h3 ⊢
  generalize a % 4503599627370496 = y at h4 ⊢
  by_cases c1 : x = 2047
  · rw [if_pos (by omega)]
    simp only [foundryref01_Class.j0]
    by_cases c2 : y = 0
    · rw [if_neg (by simp [c2]), if_pos (by omega), if_neg (by omega), if_pos (by omega)]
    · rw [if_pos (by simp; omega), if_pos (by omega)]
  · rw [if_neg (by omega)]
    simp only [foundryref01_Class.j0]
    rw [if_neg (by simp), if_neg (by omega)]
    rw [if_neg (c := 9218868437227405312 < _) (by omega), if_neg (c := _ = 9218868437227405312) (by omega)]
    by_cases c2 : x = 0
    · rw [if_pos (by omega)]
      by_cases c3 : y = 0
      · simp only [foundryref01_Class.j1]
        rw [if_pos (by simp [c3]), if_pos (by omega)]
      · simp only [foundryref01_Class.j1]
        rw [if_neg (by simp; omega), if_pos (by omega), if_neg (by omega), if_pos (by omega)]
    · rw [if_neg (by omega)]
      simp only [foundryref01_Class.j1]
      rw [if_neg (by simp), if_neg (by omega), if_neg (by omega), if_neg (by omega)]

theorem zero_eq (a : Nat) (h : a < 18446744073709551616) : foundryref01_zero.f (a : Int) = some (decide (rung a = 0)) := by
  unfold foundryref01_zero.f rung
  rw [IntKind.wrap_u64]
  congr 1
  by_cases c : a % 9223372036854775808 = 0
  · rw [decide_eq_true c]; simp; omega
  · rw [decide_eq_false c]; simp; omega

def rankN (a : Nat) : Int := if a < 9223372036854775808 then a else -1 - (rung a : Int)
theorem rank_eq (a : Nat) (h : a < 18446744073709551616) : foundryref01_rank.f (a : Int) = some (rankN a) := by
  unfold foundryref01_rank.f rankN rung
  rw [IntKind.wrap_u64]
  by_cases c : a < 9223372036854775808
  · rw [if_neg (by omega), if_pos c]
    congr 1
    unfold wrap64
    omega
  · rw [if_pos (by omega), if_neg c]
    congr 1
    unfold wrap64
    omega

theorem neg_is {a : Nat} (h : a < 18446744073709551616) : isNeg a = decide (9223372036854775808 ≤ a) := by
  unfold isNeg
  by_cases c : 9223372036854775808 ≤ a
  · rw [decide_eq_true c]; simp; omega
  · rw [decide_eq_false c]; simp; omega

theorem class_nan (a : Nat) : classN a = 1 ↔ nan a := by
  unfold classN nan
  constructor
  · intro h
    by_cases c : 9218868437227405312 < rung a
    · exact c
    · rw [if_neg c] at h
      split at h <;> first | omega | (split at h <;> first | omega | (split at h <;> omega))
  · intro h; rw [if_pos h]

theorem ref_equal_eq (k a b : Nat) (ha : a < 18446744073709551616) (hb : b < 18446744073709551616) : foundryref01_Equal.f (k + 3) (a : Int) (b : Int) = some (eqN a b) := by
  unfold foundryref01_Equal.f
  rw [ref_class_eq (k + 1) a ha, ref_class_eq (k + 1) b hb, Option.bind_some, Option.bind_some]
  unfold eqN
  by_cases n1 : nan a
  · rw [if_pos ((class_nan a).2 n1)]
    simp [foundryref01_Equal.j0, n1]
  · rw [if_neg (fun z => n1 ((class_nan a).1 z))]
    by_cases n2 : nan b
    · rw [(class_nan b).2 n2]
      simp [foundryref01_Equal.j0, n2]
    · have e : (classN b == 1) = false := beq_eq_false_iff_ne.2 (fun z => n2 ((class_nan b).1 z))
      rw [e]
      simp only [foundryref01_Equal.j0]
      rw [if_neg (by simp), zero_eq a ha, zero_eq b hb, Option.bind_some, Option.bind_some]
      by_cases c : a = b
      · rw [if_pos (by omega)]; simp [c, n2]
      · rw [if_neg (by omega)]
        by_cases c1 : rung a = 0 <;> by_cases c2 : rung b = 0 <;> simp [c, c1, c2, n1, n2]

theorem rank_lt {a b : Nat} (ha : a < 18446744073709551616) (hb : b < 18446744073709551616) (h : ¬ (rung a = 0 ∧ rung b = 0)) : rankN a < rankN b ↔ sv a < sv b := by
  rw [sv_lt, neg_is ha, neg_is hb]
  unfold rankN
  have r1 : rung a = a % 9223372036854775808 := rfl
  have r2 : rung b = b % 9223372036854775808 := rfl
  by_cases c1 : a < 9223372036854775808 <;> by_cases c2 : b < 9223372036854775808
  · rw [if_pos c1, if_pos c2, decide_eq_false (by omega), decide_eq_false (by omega)]; simp; omega
  · rw [if_pos c1, if_neg c2, decide_eq_false (by omega), decide_eq_true (by omega)]; simp; omega
  · rw [if_neg c1, if_pos c2, decide_eq_true (by omega), decide_eq_false (by omega)]; simp; omega
  · rw [if_neg c1, if_neg c2, decide_eq_true (by omega), decide_eq_true (by omega)]; simp <;> omega

theorem ref_less_eq (k a b : Nat) (ha : a < 18446744073709551616) (hb : b < 18446744073709551616) : foundryref01_Less.f (k + 3) (a : Int) (b : Int) = some (ltN a b) := by
  unfold foundryref01_Less.f
  rw [ref_class_eq (k + 1) a ha, ref_class_eq (k + 1) b hb, zero_eq a ha, zero_eq b hb, Option.bind_some, Option.bind_some, Option.bind_some, Option.bind_some]
  unfold ltN
  by_cases n1 : nan a
  · rw [if_pos ((class_nan a).2 n1)]
    simp [foundryref01_Less.j0, n1]
  · rw [if_neg (fun z => n1 ((class_nan a).1 z))]
    by_cases n2 : nan b
    · rw [if_pos ((class_nan b).2 n2)]
      simp [foundryref01_Less.j0, n2]
    · rw [if_neg (fun z => n2 ((class_nan b).1 z))]
      by_cases z : rung a = 0 ∧ rung b = 0
      · rw [decide_eq_true z.1, decide_eq_true z.2]
        have : sv a = sv b := (sv_inj ha hb).2 (.inr z)
        simp [foundryref01_Less.j0, this]
      · have e : (if decide (rung a = 0) = true then foundryref01_Less.j0 (k + 3) (a : Int) (b : Int) (decide (rung b = 0)) else foundryref01_Less.j0 (k + 3) (a : Int) (b : Int) false) = foundryref01_Less.j0 (k + 3) (a : Int) (b : Int) false := by
          by_cases c1 : rung a = 0
          · have c2 : ¬ rung b = 0 := fun z' => z ⟨c1, z'⟩
            simp [c1, c2]
          · simp [c1]
        rw [e]
        simp only [foundryref01_Less.j0]
        rw [if_neg (by simp), rank_eq a ha, rank_eq b hb, Option.bind_some, Option.bind_some]
        congr 1
        have := rank_lt ha hb z
        by_cases c : sv a < sv b
        · rw [decide_eq_true (this.2 c), decide_eq_true ⟨n1, n2, c⟩]
        · rw [decide_eq_false (fun q => c (this.1 q)), decide_eq_false (fun q => c q.2.2)]

theorem ref_lesseq_eq (k a b : Nat) (ha : a < 18446744073709551616) (hb : b < 18446744073709551616) : foundryref01_LessEq.f (k + 3) (a : Int) (b : Int) = some (ltN a b || eqN a b) := by
  unfold foundryref01_LessEq.f
  rw [ref_less_eq k a b ha hb, ref_equal_eq k a b ha hb, Option.bind_some, Option.bind_some]
  cases ltN a b <;> simp

theorem canon_nan {a : Nat} (h : nan a) : canonN a = 9221120237041090561 := if_pos h
theorem canon_not {a : Nat} (h : ¬ nan a) : canonN a = a := if_neg h

theorem ref_compare_eq (k a b : Nat) (ha : a < 18446744073709551616) (hb : b < 18446744073709551616) : foundryref01_Compare.f (k + 3) (a : Int) (b : Int) = some (cmpN a b) := by
  unfold foundryref01_Compare.f
  rw [ref_class_eq (k + 1) a ha, ref_class_eq (k + 1) b hb, rank_eq a ha, rank_eq b hb]
  simp only [Option.bind_some]
  have r1 : rung a = a % 9223372036854775808 := rfl
  have r2 : rung b = b % 9223372036854775808 := rfl
  by_cases n1 : nan a
  · rw [if_pos ((class_nan a).2 n1)]
    have p1 : placeN a = 18444492273895866369 := by unfold placeN; rw [canon_nan n1, if_pos (by omega)]
    by_cases n2 : nan b
    · have p2 : placeN b = 18444492273895866369 := by unfold placeN; rw [canon_nan n2, if_pos (by omega)]
      rw [if_pos ((class_nan b).2 n2)]
      unfold cmpN
      rw [p1, p2]
      simp
    · rw [if_neg (fun z => n2 ((class_nan b).1 z))]
      have p2 : placeN b < placeN a := by
        rw [p1]; unfold placeN; rw [canon_not n2]; unfold nan at n2; split <;> omega
      unfold cmpN
      rw [if_neg (by omega), if_pos p2]
  · rw [if_neg (fun z => n1 ((class_nan a).1 z))]
    by_cases n2 : nan b
    · have p2 : placeN b = 18444492273895866369 := by unfold placeN; rw [canon_nan n2, if_pos (by omega)]
      rw [if_pos ((class_nan b).2 n2)]
      have p1 : placeN a < placeN b := by
        rw [p2]; unfold placeN; rw [canon_not n1]; unfold nan at n1; split <;> omega
      unfold cmpN
      rw [if_pos p1]
    · rw [if_neg (fun z => n2 ((class_nan b).1 z))]
      have h1 : rankN a < rankN b ↔ placeN a < placeN b := by
        unfold rankN placeN; rw [canon_not n1, canon_not n2]
        split <;> split <;> omega
      have h2 : rankN a > rankN b ↔ placeN b < placeN a := by
        unfold rankN placeN; rw [canon_not n1, canon_not n2]
        split <;> split <;> omega
      unfold cmpN
      by_cases c1 : placeN a < placeN b
      · rw [if_pos (h1.2 c1), if_pos c1]
      · rw [if_neg (fun z => c1 (h1.1 z)), if_neg c1]
        by_cases c2 : placeN b < placeN a
        · rw [if_pos (h2.2 c2), if_pos c2]
        · rw [if_neg (fun z => c2 (h2.1 z)), if_neg c2]

theorem FloatsOrders : foundrylaw01_FloatsOrders.Pure := by
  intro a0 a1 w0 w1
  obtain ⟨a, rfl, ha⟩ := u64_is w0
  obtain ⟨b, rfl, hb⟩ := u64_is w1
  refine ⟨60, ?_⟩
  unfold foundrylaw01_FloatsOrders.f
  rw [equal_eq a b ha hb, ref_equal_eq 57 a b ha hb, less_eq a b, ref_less_eq 57 a b ha hb, lesseq_eq a b ha hb, ref_lesseq_eq 57 a b ha hb, compare_eq a b ha hb, ref_compare_eq 57 a b ha hb, alive_holds]
  cases eqN a b <;> cases ltN a b <;> simp
end Go.Proofs.YtlhmjmfcngegnaaDoor.Pure
