-- WRITTEN BY A PROGRAM OF THE SESSION (wip/myprint.sh): Lean checks it.
import Derived.Test.YtlhmjmfcngegnaaDoorProg
import Derived.Below
import Derived.Deep.Draws
import Derived.Deep.AppendLies
import Derived.Maps.AppendAt
import Derived.OwnWalk
import Derived.Laws.BytesArg
import Derived.Laws.MakeOwn
import Derived.Laws.OwnMore
import Derived.Deep.OwnRows
import Derived.Tactics
import Derived.Lib.ConvBytes
import Derived.Laws.Slices
import Derived.WalkKit
import Derived.KernelRfl
import Derived.RowKit3
import Derived.Deep.LoopGhost
import Derived.Deep.QuietTactic
import Derived.BigQuiet
import Derived.WideLaws
import Derived.Deep.DeepCutAuto
import Derived.Deep.CutBlock
import Derived.Deep.RegionHeld3
import Derived.Laws.Rows
import Derived.Lib.AppendStr
import Derived.ArgAppend
import Derived.Laws.IdiomCopy
import Derived.OrdersHeld
import Derived.Laws.BitsLemmas
import Derived.RowKit
import Derived.Test.YtlhmjmfcngegnaaDoorGivB
import Derived.Test.YtlhmjmfcngegnaaDoorWWords
import Derived.Test.YtlhmjmfcngegnaaDoorWLast
import Derived.Test.YtlhmjmfcngegnaaDoorWTab
import Derived.Test.YtlhmjmfcngegnaaDoorWFour
import Derived.Test.YtlhmjmfcngegnaaDoorWQPut
import Derived.Test.YtlhmjmfcngegnaaDoorWApart
import Derived.Test.YtlhmjmfcngegnaaDoorWArr
import Derived.Test.YtlhmjmfcngegnaaDoorWZeros
import Derived.Test.YtlhmjmfcngegnaaDoorWFoot
import Derived.Test.YtlhmjmfcngegnaaDoorWKept
import Derived.Test.YtlhmjmfcngegnaaDoorWShare
import Derived.Test.YtlhmjmfcngegnaaDoorWN
import Derived.Test.YtlhmjmfcngegnaaDoorWFootNe
import Derived.Test.YtlhmjmfcngegnaaDoorWAt
import Derived.Test.YtlhmjmfcngegnaaDoorWEqStruct
import Derived.Test.YtlhmjmfcngegnaaDoorWRepsOne
import Derived.Test.YtlhmjmfcngegnaaDoorWInv
import Derived.Test.YtlhmjmfcngegnaaDoorWInvWords
import Derived.Test.YtlhmjmfcngegnaaDoorWGuard
import Derived.Test.YtlhmjmfcngegnaaDoorWNEv
import Derived.Test.YtlhmjmfcngegnaaDoorWMore
namespace Go.Proofs.YtlhmjmfcngegnaaDoor.QFx
open Go.Proofs.YtlhmjmfcngegnaaDoorG
attribute [local go_sem] ext66
open Go.RowKit Go.Proofs.YtlhmjmfcngegnaaDoorW.PrintWords Go.Proofs.YtlhmjmfcngegnaaDoorW.PrintLast Go.Proofs.YtlhmjmfcngegnaaDoorW.PrintMore
attribute [local go_sem] max2_int min2_int max_two min_two max_three min_three max_four min_four   -- for this text's walks alone
set_option linter.unusedVariables false
set_option linter.unusedSimpArgs false



def errW : Option Int → Value
  | none => .nilIface
  | some c => .iface 0 (.int .i64 c)
theorem errW_none : errW none = .nilIface := rfl
theorem errW_some (c : Int) : errW (some c) = .iface 0 (.int .i64 c) := rfl

theorem info5 : (Tryd.prog.info? 5).map (fun i => (i.zero, i.size, i.bytes)) = some (some (.int .u8 0), 1, 1) := by kernel_rfl
-- the values' own types

end Go.Proofs.YtlhmjmfcngegnaaDoor.QFx
