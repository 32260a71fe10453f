/-
  Cmp is the sign of the difference, and an order through a third one: the plain law behind IntsOrder; no condition of its own.
-/
import Derived.Test.YtjgccgjdonjlaaaDoorPureBase
import Derived.Test.YtjgccgjdonjlaaaDoorQAll5
namespace Go.Proofs.YtjgccgjdonjlaaaDoor.Pure
open Go.RowKit Go.Proofs.YtjgccgjdonjlaaaDoor.QAll Go.Proofs.YtjgccgjdonjlaaaDoorW.PrintWords Go.Proofs.YtjgccgjdonjlaaaDoorW.PrintLast
open Go.Proofs.YtjgccgjdonjlaaaDoorG
set_option linter.unusedVariables false
set_option linter.unusedSimpArgs false

def sgn (a b : Int) : Int := if a < b then -1 else if a > b then 1 else 0
theorem cmp_eq (a b : Int) : ints_Cmp.f a b = some (sgn a b) := by
  unfold ints_Cmp.f sgn
  repeat' split
  all_goals rfl

theorem IntsOrder : foundrylaw02_IntsOrder.Pure := by
  intro a b c ha hb hc
  have A := i64_of ha
  have B := i64_of hb
  have C := i64_of hc
  refine ⟨7, ?_⟩
  have hend : foundrylaw02_IntsOrder.j0 7 a b c (sgn a b) false = some true := by
    rw [foundrylaw02_IntsOrder.j0]
    simp only [cmp_eq, Option.bind_some, Bool.false_eq_true, if_false]
    unfold sgn
    repeat' split
    all_goals first | rfl | (exfalso; omega)
  unfold foundrylaw02_IntsOrder.f
  rw [live_at 2, sub_eq A B]
  simp only [Option.bind_some, if_true, cmp_eq]
  have e1 : sgn b a = wrap64 (-sgn a b) := by
    unfold sgn
    repeat' split
    all_goals (unfold wrap64; omega)
  have e2 : (sgn a b = 0) ↔ a = b := by
    unfold sgn
    repeat' split
    all_goals constructor <;> intro h <;> omega
  have fin : (if sgn b a = wrap64 (-sgn a b) then (if sgn a b = 0 then (if a = b then foundrylaw02_IntsOrder.j0 7 a b c (sgn a b) false else foundrylaw02_IntsOrder.j0 7 a b c (sgn a b) true) else (if a = b then foundrylaw02_IntsOrder.j0 7 a b c (sgn a b) true else foundrylaw02_IntsOrder.j0 7 a b c (sgn a b) false)) else foundrylaw02_IntsOrder.j0 7 a b c (sgn a b) true) = some true := by
    rw [if_pos e1, hend]
    by_cases h : a = b
    · rw [if_pos (e2.2 h), if_pos h]
    · rw [if_neg (fun z => h (e2.1 z)), if_neg h]
  by_cases h : I64 (a - b)
  · rw [fit_in h]
    have e3 : sgn a b = sgn (a - b) 0 := by
      unfold sgn
      repeat' split
      all_goals first | rfl | (exfalso; omega)
    rw [if_pos rfl, if_pos e3]
    exact fin
  · rw [fit_out h]
    exact fin

end Go.Proofs.YtjgccgjdonjlaaaDoor.Pure
