/-
  FloatsSums, the plain law: the program's sums and the document's are one.
-/
import Derived.Test.YtlhmjmfcngegnaaDoorPureBase
namespace Go.Proofs.YtlhmjmfcngegnaaDoor.Pure
open Go.RowKit Go.Proofs.YtlhmjmfcngegnaaDoor.QA Go.Proofs.YtlhmjmfcngegnaaDoorW.PrintWords Go.Proofs.YtlhmjmfcngegnaaDoorW.PrintLast
open Go.Proofs.YtlhmjmfcngegnaaDoorG

theorem FloatsSums : foundrylaw01_FloatsSums.Pure := by
  intro a0 a1 w0 w1
  refine ⟨60, ?_⟩
  unfold foundrylaw01_FloatsSums.f
  simp [floats_Add.f, foundryref01_Add.f, floats_Sub.f, foundryref01_Sub.f, floats_Mul.f, foundryref01_Mul.f, floats_Div.f, foundryref01_Div.f, alive_holds]
end Go.Proofs.YtlhmjmfcngegnaaDoor.Pure
