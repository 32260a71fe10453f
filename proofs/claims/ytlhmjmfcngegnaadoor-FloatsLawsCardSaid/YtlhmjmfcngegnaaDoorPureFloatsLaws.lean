/-
  FloatsLaws, the plain law: sums and products turned round; the difference's sign and zero; the quotient by one.
-/
import Derived.Test.YtlhmjmfcngegnaaDoorPureFloatsOrders
import Derived.Test.YtlhmjmfcngegnaaDoorQA4
import Derived.Test.YtlhmjmfcngegnaaDoorFloLaws
namespace Go.Proofs.YtlhmjmfcngegnaaDoor.Pure
open Go.RowKit Go.Proofs.YtlhmjmfcngegnaaDoor.QA Go.Proofs.YtlhmjmfcngegnaaDoorW.PrintWords Go.Proofs.YtlhmjmfcngegnaaDoorW.PrintLast
open Go.Proofs.YtlhmjmfcngegnaaDoorG Go.Flo
set_option linter.unusedVariables false
set_option linter.unusedSimpArgs false

def resN (o : Option Nat) : Nat := match o with | some r => canonN r | none => 9221120237041090561
theorem add_is (a b : Nat) : floatsOp .add (a : Int) (b : Int) = (resN (D.add a b) : Nat) := by
  unfold floatsOp resN
  rw [show floatBits .add .f64 (a : Int).toNat (b : Int).toNat = D.add a b from rfl]
  cases D.add a b <;> rfl
theorem sub_is (a b : Nat) : floatsOp .sub (a : Int) (b : Int) = (resN (D.sub a b) : Nat) := by
  unfold floatsOp resN
  rw [show floatBits .sub .f64 (a : Int).toNat (b : Int).toNat = D.sub a b from rfl]
  cases D.sub a b <;> rfl
theorem mul_is (a b : Nat) : floatsOp .mul (a : Int) (b : Int) = (resN (D.mul a b) : Nat) := by
  unfold floatsOp resN
  rw [show floatBits .mul .f64 (a : Int).toNat (b : Int).toNat = D.mul a b from rfl]
  cases D.mul a b <;> rfl
theorem div_is (a b : Nat) : floatsOp .quo (a : Int) (b : Int) = (resN (D.div a b) : Nat) := by
  unfold floatsOp resN
  rw [show floatBits .quo .f64 (a : Int).toNat (b : Int).toNat = D.div a b from rfl]
  cases D.div a b <;> rfl

theorem flip_same (a : Nat) : Pure.flip a = Flo.flip a := rfl

theorem sub_neg {a b : Nat} (ha : a < 18446744073709551616) (hb : b < 18446744073709551616) : resN (D.sub a b) = resN (D.add a (canonN (Pure.flip b))) := by
  rw [flip_same]
  by_cases n : nan b
  · have n2 : nan (canonN (Flo.flip b)) := by
      have : nan (Flo.flip b) := by unfold nan; rw [rung_flip hb]; exact n
      rw [canon_nan this]; decide
    rw [sub_nan (.inr n), add_nan (.inr n2)]
  · have n2 : ¬ nan (Flo.flip b) := by unfold nan; rw [rung_flip hb]; exact n
    rw [canon_not n2, sub_add hb n]

theorem class_finite {a : Nat} (h : ¬ classN a < 3) : rung a < 9218868437227405312 := by
  unfold classN at h
  by_cases c : 9218868437227405312 < rung a
  · rw [if_pos c] at h; omega
  · rw [if_neg c] at h
    by_cases c2 : rung a = 9218868437227405312
    · rw [if_pos c2] at h; omega
    · omega

set_option maxHeartbeats 1000000 in
theorem FloatsLaws : foundrylaw01_FloatsLaws.Pure := by
  intro a0 a1 w0 w1
  obtain ⟨a, rfl, ha⟩ := u64_is w0
  obtain ⟨b, rfl, hb⟩ := u64_is w1
  refine ⟨60, ?_⟩
  have J1 : ¬ classN a < 3 → ¬ classN b < 3 → foundrylaw01_FloatsLaws.j1 59 (a : Int) (b : Int) false = some true := by
    intro ca cb
    have fa := class_finite ca
    have fb := class_finite cb
    have na : ¬ nan a := by unfold nan; omega
    have nb : ¬ nan b := by unfold nan; omega
    obtain ⟨d, hd, d1, d2, d3, d4⟩ := diff_finite ha hb fa fb
    simp only [foundrylaw01_FloatsLaws.j1]
    have e1 : floats_Sub.f (a : Int) (b : Int) = some ((d : Nat) : Int) := by
      unfold floats_Sub.f
      rw [sub_is, hd]
      show some ((canonN d : Nat) : Int) = _
      rw [canon_not d2]
    have e2 : floats_Div.f (a : Int) 4607182418800017408 = some ((a : Nat) : Int) := by
      unfold floats_Div.f
      rw [show (4607182418800017408 : Int) = ((4607182418800017408 : Nat) : Int) from rfl, div_is, div_one ha fa]
      show some ((canonN a : Nat) : Int) = _
      rw [canon_not na]
    have e3 := less_eq d 0
    rw [show ((0 : Nat) : Int) = 0 from rfl] at e3
    rw [e1, e2, equal_eq a b ha hb, less_eq a b]
    simp only [Option.bind_some]
    rw [class_eq d d1, e3]
    simp only [Option.bind_some]
    have q1 : eqN a b = decide (classN d = 3) := by
      unfold eqN
      have := sv_inj ha hb
      by_cases c : rung d = 0
      · rw [decide_eq_true ((show classN d = 3 from by unfold classN; rw [c]; rfl)), decide_eq_true ⟨na, nb, this.1 (d3.1 c)⟩]
      · rw [decide_eq_false (fun q => c (d3.2 (this.2 q.2.2))), decide_eq_false]
        intro q
        apply c
        unfold classN at q
        by_cases c1 : 9218868437227405312 < rung d
        · rw [if_pos c1] at q; omega
        · rw [if_neg c1] at q
          by_cases c2 : rung d = 9218868437227405312
          · rw [if_pos c2] at q; omega
          · rw [if_neg c2, if_neg c] at q
            split at q <;> omega
    have q2 : ltN a b = ltN d 0 := by
      unfold ltN
      have z0 : ¬ nan 0 := by decide
      have h1 : sv d < sv 0 ↔ (isNeg d = true ∧ rung d ≠ 0) := by
        rw [sv_lt]
        have r0 : rung 0 = 0 := rfl
        have i0 : isNeg 0 = false := rfl
        rw [r0, i0]
        cases isNeg d <;> simp
      by_cases c : sv a < sv b
      · rw [decide_eq_true ⟨na, nb, c⟩, decide_eq_true ⟨d2, z0, h1.2 (d4.2 c)⟩]
      · rw [decide_eq_false (fun q => c q.2.2), decide_eq_false (fun q => c (d4.1 (h1.1 q.2.2)))]
    rw [q1, q2]
    by_cases c : classN d = 3
    · rw [if_pos c, decide_eq_true c]
      cases ltN d 0 <;> simp
    · rw [if_neg c, decide_eq_false c]
      cases ltN d 0 <;> simp
  have J0 : foundrylaw01_FloatsLaws.j0 60 (a : Int) (b : Int) false = some true := by
    simp only [foundrylaw01_FloatsLaws.j0]
    rw [class_eq a ha, class_eq b hb]
    simp only [Option.bind_some, Bool.false_eq_true, if_false]
    by_cases ca : classN a < 3
    · rw [if_pos ca]; simp [foundrylaw01_FloatsLaws.j1]
    · rw [if_neg ca]
      by_cases cb : classN b < 3
      · rw [decide_eq_true cb]; simp [foundrylaw01_FloatsLaws.j1]
      · rw [decide_eq_false cb]; exact J1 ca cb
  unfold foundrylaw01_FloatsLaws.f
  rw [neg_eq b hb, alive_holds]
  unfold floats_Add.f floats_Mul.f floats_Sub.f
  simp only [Option.bind_some]
  rw [add_is, add_is, add_is, mul_is, mul_is, sub_is, sub_neg ha hb, add_comm' b a, mul_comm' b a]
  simp only [if_true, Bool.not_true]
  exact J0
end Go.Proofs.YtlhmjmfcngegnaaDoor.Pure
