/-
  internal/strconv.float64frombits, the model's own entry.
-/
import Derived.Test.YthifejhdmjoolaaGreatDoorGivU
namespace Go.Proofs.YthifejhdmjoolaaGreatDoorG
open Go Go.RowKit
set_option linter.unusedVariables false

theorem ext143 (a : Int) (w : World) : (callFunc 143 #[.int .u64 a]).run Tryz.prog w = .ok (.value (.float .f64 a.toNat)) w := by
  rw [run_callFunc_extern Tryz.func143 (by kernel_rfl) (by kernel_rfl) (by kernel_rfl) (e := Extern.MathFloatBits.float64frombits) (by kernel_rfl)]
  rfl
end Go.Proofs.YthifejhdmjoolaaGreatDoorG
