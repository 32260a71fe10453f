/-
  Sums and products in any order, and a product of a sum: the plain law behind IntsRing; no condition of its own.
-/
import Derived.Test.YtjgccgjdonjlaaaDoorPureBase
import Derived.Test.YtjgccgjdonjlaaaDoorQAll4
namespace Go.Proofs.YtjgccgjdonjlaaaDoor.Pure
open Go.RowKit Go.Proofs.YtjgccgjdonjlaaaDoor.QAll Go.Proofs.YtjgccgjdonjlaaaDoorW.PrintWords Go.Proofs.YtjgccgjdonjlaaaDoorW.PrintLast
open Go.Proofs.YtjgccgjdonjlaaaDoorG
set_option linter.unusedVariables false
set_option linter.unusedSimpArgs false

theorem IntsRing : foundrylaw02_IntsRing.Pure := by
  intro a b c ha hb hc
  have A := i64_of ha
  have B := i64_of hb
  have C := i64_of hc
  refine ⟨7, ?_⟩
  unfold foundrylaw02_IntsRing.f
  rw [live_at 2, add_eq A B, add_eq B A, mul_eq A B, mul_eq B A, Int.add_comm b a, Int.mul_comm b a]
  simp only [Option.bind_some, if_true, bne_self_eq_false]
  rw [foundrylaw02_IntsRing.j0, mul_eq A C, mul_eq B C, add_eq A B]
  simp only [Option.bind_some, if_true, Bool.false_eq_true, if_false]
  have last : ∀ u v w, foundrylaw02_IntsRing.j1 6 c u v w true = some true := fun u v w => by rw [foundrylaw02_IntsRing.j1]; rfl
  by_cases h1 : I64 (a * c)
  · by_cases h2 : I64 (b * c)
    · by_cases h3 : I64 (a + b)
      · rw [fit_in h1, fit_in h2, fit_in h3]
        simp only [if_true, bne_self_eq_false]
        rw [foundrylaw02_IntsRing.j1, mul_eq h3 C, add_eq h1 h2, Int.add_mul]
        simp only [Option.bind_some, Bool.false_eq_true, if_false]
        rcases @fit_second (a * c + b * c) with ⟨h, _⟩ | ⟨h, _⟩
        · rw [h]; simp
        · rw [h]; simp
      · rw [fit_out h3, fit_in h2, fit_in h1]
        simp [last]
    · rw [fit_out h2, fit_in h1]
      simp [last]
  · rw [fit_out h1]
    simp [last]

end Go.Proofs.YtjgccgjdonjlaaaDoor.Pure
