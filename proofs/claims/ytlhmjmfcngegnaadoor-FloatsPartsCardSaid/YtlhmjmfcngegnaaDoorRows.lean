/-
  NARROWER THAN 'FOR EVERY INPUT', by the rows' own cells (each row's printed sentence says how): FloatsOrders: laid · FloatsSums: laid · FloatsLaws: laid · FloatsBetween: laid · FloatsMeasure: laid · FloatsInts: laid · FloatsParts: laid.
  DERIVED. THE GIVEN ROWS OF THIS SEAT. 7 by the template 'for every input the law returns true; each argument reads behind the call as it read before'; 0 by the template 'total and deterministic' (their statements: YtlhmjmfcngegnaaDoorTotals.lean).
  GIVEN WITH THE SEED: the statements are not yours to turn. If you find one false, say at which input.
  Laid BY PROGRAM, IN A SANDBOX (cutbox-rows.mjs): the forced cells as the released guide's own fill.sh prints them over the translation eba2da6cab499f2f… (all of the seat's roots in one cut). By AI agents, Wed Nov 11 2026. No macro, syntax, notation, axiom, sorry.
-/
import Derived.Test.YtlhmjmfcngegnaaDoorChecked
import GoSem.PinnedTables
import GoSem.Claim
import GoSem.ClaimJoined
import GoSem.ClaimMapViews
import Derived.JoinedTies
import Derived.KernelRfl
namespace Go.Proofs.YtlhmjmfcngegnaaDoor
/- THE CELL 'sum', in the pinned program and in every row, IS THE sha256 OF THE DUMP (.gsa) THAT YtlhmjmfcngegnaaDoorProg.lean LOADS. Nothing in Lean hashes anything: it is a label: what it is worth is what the hold of that sum in a sandbox is worth. -/
noncomputable def Tryd.pinned : Pinned := { name := "ytlhmjmfcngegnaadoor", sum := "eba2da6cab499f2f6d843f85eded32c3b53d6a723eea72c9c8d7622ef28adf54", checked := Tryd.checked }
namespace Rows
def none {H : Type} : Left H := { results := [], args := [] }

/- WHAT THE LISTED PACKAGE-LEVEL VARIABLES READ AS WHEN THE CALL BEGINS. Each datum BY PROGRAM (the guide's laid-datum.mjs) off the statement by which the dump's own 'gosem.cut.vars' lays the variable. In a bare row this is a premise. The card (YtlhmjmfcngegnaaDoorCards.lean) ties it to the program's text. -/
def laid_math_bits_deBruijn32tab {H : Type} : DataW H := .agg [.lit (.int .u8 0), .lit (.int .u8 1), .lit (.int .u8 28), .lit (.int .u8 2), .lit (.int .u8 29), .lit (.int .u8 14), .lit (.int .u8 24), .lit (.int .u8 3), .lit (.int .u8 30), .lit (.int .u8 22), .lit (.int .u8 20), .lit (.int .u8 15), .lit (.int .u8 25), .lit (.int .u8 17), .lit (.int .u8 4), .lit (.int .u8 8), .lit (.int .u8 31), .lit (.int .u8 27), .lit (.int .u8 13), .lit (.int .u8 23), .lit (.int .u8 21), .lit (.int .u8 19), .lit (.int .u8 16), .lit (.int .u8 7), .lit (.int .u8 26), .lit (.int .u8 12), .lit (.int .u8 18), .lit (.int .u8 6), .lit (.int .u8 11), .lit (.int .u8 5), .lit (.int .u8 10), .lit (.int .u8 9)]
def laid_math_bits_deBruijn64tab {H : Type} : DataW H := .agg [.lit (.int .u8 0), .lit (.int .u8 1), .lit (.int .u8 56), .lit (.int .u8 2), .lit (.int .u8 57), .lit (.int .u8 49), .lit (.int .u8 28), .lit (.int .u8 3), .lit (.int .u8 61), .lit (.int .u8 58), .lit (.int .u8 42), .lit (.int .u8 50), .lit (.int .u8 38), .lit (.int .u8 29), .lit (.int .u8 17), .lit (.int .u8 4), .lit (.int .u8 62), .lit (.int .u8 47), .lit (.int .u8 59), .lit (.int .u8 36), .lit (.int .u8 45), .lit (.int .u8 43), .lit (.int .u8 51), .lit (.int .u8 22), .lit (.int .u8 53), .lit (.int .u8 39), .lit (.int .u8 33), .lit (.int .u8 30), .lit (.int .u8 24), .lit (.int .u8 18), .lit (.int .u8 12), .lit (.int .u8 5), .lit (.int .u8 63), .lit (.int .u8 55), .lit (.int .u8 48), .lit (.int .u8 27), .lit (.int .u8 60), .lit (.int .u8 41), .lit (.int .u8 37), .lit (.int .u8 16), .lit (.int .u8 46), .lit (.int .u8 35), .lit (.int .u8 44), .lit (.int .u8 21), .lit (.int .u8 52), .lit (.int .u8 32), .lit (.int .u8 23), .lit (.int .u8 11), .lit (.int .u8 54), .lit (.int .u8 26), .lit (.int .u8 40), .lit (.int .u8 15), .lit (.int .u8 34), .lit (.int .u8 20), .lit (.int .u8 31), .lit (.int .u8 10), .lit (.int .u8 25), .lit (.int .u8 14), .lit (.int .u8 19), .lit (.int .u8 9), .lit (.int .u8 13), .lit (.int .u8 8), .lit (.int .u8 7), .lit (.int .u8 6)]
def laid_internal_strconv_optimize {H : Type} : DataW H := .lit (.bool true)
def laid_internal_strconv_uint64pow10 {H : Type} : DataW H := .agg [.lit (.int .u64 1), .lit (.int .u64 10), .lit (.int .u64 100), .lit (.int .u64 1000), .lit (.int .u64 10000), .lit (.int .u64 100000), .lit (.int .u64 1000000), .lit (.int .u64 10000000), .lit (.int .u64 100000000), .lit (.int .u64 1000000000), .lit (.int .u64 10000000000), .lit (.int .u64 100000000000), .lit (.int .u64 1000000000000), .lit (.int .u64 10000000000000), .lit (.int .u64 100000000000000), .lit (.int .u64 1000000000000000), .lit (.int .u64 10000000000000000), .lit (.int .u64 100000000000000000), .lit (.int .u64 1000000000000000000), .lit (.int .u64 10000000000000000000)]
/-- One of Go's own tables, pinned by name: the form's constant. -/
def laid_internal_strconv_leftcheats : DataW Unit := Go.Pinned.leftcheats
/-- One of Go's own tables, pinned by name: the form's constant. -/
def laid_internal_strconv_pow10Tab : DataW Unit := Go.Pinned.pow10Tab

/-- 'foundrylaw01.FloatsOrders': WHATEVER THE INPUT: true; the input reads as it did. -/
def floatsOrdersSpec : ChangeSpec := { name := "floatsOrders", fn := fun _ => fun
  | [d1, d2] => { results := [.lit (.bool true)], args := [d1, d2] }
  | _ => none }
def floatsOrdersRow : OpenClaim := { program := "ytlhmjmfcngegnaadoor", sum := "eba2da6cab499f2f6d843f85eded32c3b53d6a723eea72c9c8d7622ef28adf54", func := "foundry/foundrylaw01.FloatsOrders", spec := "floatsOrders", inPlace := ["math.Float64frombits", "math.Float64bits", "internal/strconv.float32bits", "internal/strconv.float64bits", "internal/bytealg.IndexByteString"], named := ["internal/strconv.optimize", "internal/strconv.uint64pow10", "math/bits.deBruijn32tab", "math/bits.deBruijn64tab", "internal/strconv.pow10Tab", "internal/strconv.leftcheats"], apart := false, laid := [("math/bits.deBruijn32tab", laid_math_bits_deBruijn32tab), ("math/bits.deBruijn64tab", laid_math_bits_deBruijn64tab), ("internal/strconv.optimize", laid_internal_strconv_optimize), ("internal/strconv.uint64pow10", laid_internal_strconv_uint64pow10), ("internal/strconv.leftcheats", laid_internal_strconv_leftcheats), ("internal/strconv.pow10Tab", laid_internal_strconv_pow10Tab)] }
def FloatsOrdersSaid : Prop := floatsOrdersRow.holds Tryd.pinned (OpenSpec.ofChange floatsOrdersSpec)

/-- ITS FALSE NEIGHBOUR: 'it returns false'. Refute it at one input. -/
def floatsOrdersWrong : ChangeSpec := { name := "floatsOrders", fn := fun _ => fun
  | [d1, d2] => { results := [.lit (.bool false)], args := [d1, d2] }
  | _ => none }
def FloatsOrdersWrongFalsely : Prop := floatsOrdersRow.holds Tryd.pinned (OpenSpec.ofChange floatsOrdersWrong)

/-- 'foundrylaw01.FloatsSums': WHATEVER THE INPUT: true; the input reads as it did. -/
def floatsSumsSpec : ChangeSpec := { name := "floatsSums", fn := fun _ => fun
  | [d1, d2] => { results := [.lit (.bool true)], args := [d1, d2] }
  | _ => none }
def floatsSumsRow : OpenClaim := { program := "ytlhmjmfcngegnaadoor", sum := "eba2da6cab499f2f6d843f85eded32c3b53d6a723eea72c9c8d7622ef28adf54", func := "foundry/foundrylaw01.FloatsSums", spec := "floatsSums", inPlace := ["math.Float64frombits", "math.Float64bits", "internal/strconv.float32bits", "internal/strconv.float64bits", "internal/bytealg.IndexByteString"], named := ["internal/strconv.optimize", "internal/strconv.uint64pow10", "math/bits.deBruijn32tab", "math/bits.deBruijn64tab", "internal/strconv.pow10Tab", "internal/strconv.leftcheats"], apart := false, laid := [("math/bits.deBruijn32tab", laid_math_bits_deBruijn32tab), ("math/bits.deBruijn64tab", laid_math_bits_deBruijn64tab), ("internal/strconv.optimize", laid_internal_strconv_optimize), ("internal/strconv.uint64pow10", laid_internal_strconv_uint64pow10), ("internal/strconv.leftcheats", laid_internal_strconv_leftcheats), ("internal/strconv.pow10Tab", laid_internal_strconv_pow10Tab)] }
def FloatsSumsSaid : Prop := floatsSumsRow.holds Tryd.pinned (OpenSpec.ofChange floatsSumsSpec)

/-- ITS FALSE NEIGHBOUR: 'it returns false'. Refute it at one input. -/
def floatsSumsWrong : ChangeSpec := { name := "floatsSums", fn := fun _ => fun
  | [d1, d2] => { results := [.lit (.bool false)], args := [d1, d2] }
  | _ => none }
def FloatsSumsWrongFalsely : Prop := floatsSumsRow.holds Tryd.pinned (OpenSpec.ofChange floatsSumsWrong)

/-- 'foundrylaw01.FloatsLaws': WHATEVER THE INPUT: true; the input reads as it did. -/
def floatsLawsSpec : ChangeSpec := { name := "floatsLaws", fn := fun _ => fun
  | [d1, d2] => { results := [.lit (.bool true)], args := [d1, d2] }
  | _ => none }
def floatsLawsRow : OpenClaim := { program := "ytlhmjmfcngegnaadoor", sum := "eba2da6cab499f2f6d843f85eded32c3b53d6a723eea72c9c8d7622ef28adf54", func := "foundry/foundrylaw01.FloatsLaws", spec := "floatsLaws", inPlace := ["math.Float64frombits", "math.Float64bits", "internal/strconv.float32bits", "internal/strconv.float64bits", "internal/bytealg.IndexByteString"], named := ["internal/strconv.optimize", "internal/strconv.uint64pow10", "math/bits.deBruijn32tab", "math/bits.deBruijn64tab", "internal/strconv.pow10Tab", "internal/strconv.leftcheats"], apart := false, laid := [("math/bits.deBruijn32tab", laid_math_bits_deBruijn32tab), ("math/bits.deBruijn64tab", laid_math_bits_deBruijn64tab), ("internal/strconv.optimize", laid_internal_strconv_optimize), ("internal/strconv.uint64pow10", laid_internal_strconv_uint64pow10), ("internal/strconv.leftcheats", laid_internal_strconv_leftcheats), ("internal/strconv.pow10Tab", laid_internal_strconv_pow10Tab)] }
def FloatsLawsSaid : Prop := floatsLawsRow.holds Tryd.pinned (OpenSpec.ofChange floatsLawsSpec)

/-- ITS FALSE NEIGHBOUR: 'it returns false'. Refute it at one input. -/
def floatsLawsWrong : ChangeSpec := { name := "floatsLaws", fn := fun _ => fun
  | [d1, d2] => { results := [.lit (.bool false)], args := [d1, d2] }
  | _ => none }
def FloatsLawsWrongFalsely : Prop := floatsLawsRow.holds Tryd.pinned (OpenSpec.ofChange floatsLawsWrong)

/-- 'foundrylaw01.FloatsBetween': WHATEVER THE INPUT: true; the input reads as it did. -/
def floatsBetweenSpec : ChangeSpec := { name := "floatsBetween", fn := fun _ => fun
  | [d1, d2, d3] => { results := [.lit (.bool true)], args := [d1, d2, d3] }
  | _ => none }
def floatsBetweenRow : OpenClaim := { program := "ytlhmjmfcngegnaadoor", sum := "eba2da6cab499f2f6d843f85eded32c3b53d6a723eea72c9c8d7622ef28adf54", func := "foundry/foundrylaw01.FloatsBetween", spec := "floatsBetween", inPlace := ["math.Float64frombits", "math.Float64bits", "internal/strconv.float32bits", "internal/strconv.float64bits", "internal/bytealg.IndexByteString"], named := ["internal/strconv.optimize", "internal/strconv.uint64pow10", "math/bits.deBruijn32tab", "math/bits.deBruijn64tab", "internal/strconv.pow10Tab", "internal/strconv.leftcheats"], apart := false, laid := [("math/bits.deBruijn32tab", laid_math_bits_deBruijn32tab), ("math/bits.deBruijn64tab", laid_math_bits_deBruijn64tab), ("internal/strconv.optimize", laid_internal_strconv_optimize), ("internal/strconv.uint64pow10", laid_internal_strconv_uint64pow10), ("internal/strconv.leftcheats", laid_internal_strconv_leftcheats), ("internal/strconv.pow10Tab", laid_internal_strconv_pow10Tab)] }
def FloatsBetweenSaid : Prop := floatsBetweenRow.holds Tryd.pinned (OpenSpec.ofChange floatsBetweenSpec)

/-- ITS FALSE NEIGHBOUR: 'it returns false'. Refute it at one input. -/
def floatsBetweenWrong : ChangeSpec := { name := "floatsBetween", fn := fun _ => fun
  | [d1, d2, d3] => { results := [.lit (.bool false)], args := [d1, d2, d3] }
  | _ => none }
def FloatsBetweenWrongFalsely : Prop := floatsBetweenRow.holds Tryd.pinned (OpenSpec.ofChange floatsBetweenWrong)

/-- 'foundrylaw01.FloatsMeasure': WHATEVER THE INPUT: true; the input reads as it did. -/
def floatsMeasureSpec : ChangeSpec := { name := "floatsMeasure", fn := fun _ => fun
  | [d] => { results := [.lit (.bool true)], args := [d] }
  | _ => none }
def floatsMeasureRow : OpenClaim := { program := "ytlhmjmfcngegnaadoor", sum := "eba2da6cab499f2f6d843f85eded32c3b53d6a723eea72c9c8d7622ef28adf54", func := "foundry/foundrylaw01.FloatsMeasure", spec := "floatsMeasure", inPlace := ["math.Float64frombits", "math.Float64bits", "internal/strconv.float32bits", "internal/strconv.float64bits", "internal/bytealg.IndexByteString"], named := ["internal/strconv.optimize", "internal/strconv.uint64pow10", "math/bits.deBruijn32tab", "math/bits.deBruijn64tab", "internal/strconv.pow10Tab", "internal/strconv.leftcheats"], apart := false, laid := [("math/bits.deBruijn32tab", laid_math_bits_deBruijn32tab), ("math/bits.deBruijn64tab", laid_math_bits_deBruijn64tab), ("internal/strconv.optimize", laid_internal_strconv_optimize), ("internal/strconv.uint64pow10", laid_internal_strconv_uint64pow10), ("internal/strconv.leftcheats", laid_internal_strconv_leftcheats), ("internal/strconv.pow10Tab", laid_internal_strconv_pow10Tab)] }
def FloatsMeasureSaid : Prop := floatsMeasureRow.holds Tryd.pinned (OpenSpec.ofChange floatsMeasureSpec)

/-- ITS FALSE NEIGHBOUR: 'it returns false'. Refute it at one input. -/
def floatsMeasureWrong : ChangeSpec := { name := "floatsMeasure", fn := fun _ => fun
  | [d] => { results := [.lit (.bool false)], args := [d] }
  | _ => none }
def FloatsMeasureWrongFalsely : Prop := floatsMeasureRow.holds Tryd.pinned (OpenSpec.ofChange floatsMeasureWrong)

/-- 'foundrylaw01.FloatsInts': WHATEVER THE INPUT: true; the input reads as it did. -/
def floatsIntsSpec : ChangeSpec := { name := "floatsInts", fn := fun _ => fun
  | [d1, d2] => { results := [.lit (.bool true)], args := [d1, d2] }
  | _ => none }
def floatsIntsRow : OpenClaim := { program := "ytlhmjmfcngegnaadoor", sum := "eba2da6cab499f2f6d843f85eded32c3b53d6a723eea72c9c8d7622ef28adf54", func := "foundry/foundrylaw01.FloatsInts", spec := "floatsInts", inPlace := ["math.Float64bits", "math.Float64frombits", "internal/strconv.float32bits", "internal/strconv.float64bits", "internal/bytealg.IndexByteString", "math.archTrunc"], named := ["internal/strconv.optimize", "internal/strconv.uint64pow10", "math/bits.deBruijn32tab", "math/bits.deBruijn64tab", "internal/strconv.pow10Tab", "internal/strconv.leftcheats"], apart := false, laid := [("math/bits.deBruijn32tab", laid_math_bits_deBruijn32tab), ("math/bits.deBruijn64tab", laid_math_bits_deBruijn64tab), ("internal/strconv.optimize", laid_internal_strconv_optimize), ("internal/strconv.uint64pow10", laid_internal_strconv_uint64pow10), ("internal/strconv.leftcheats", laid_internal_strconv_leftcheats), ("internal/strconv.pow10Tab", laid_internal_strconv_pow10Tab)] }
def FloatsIntsSaid : Prop := floatsIntsRow.holds Tryd.pinned (OpenSpec.ofChange floatsIntsSpec)

/-- ITS FALSE NEIGHBOUR: 'it returns false'. Refute it at one input. -/
def floatsIntsWrong : ChangeSpec := { name := "floatsInts", fn := fun _ => fun
  | [d1, d2] => { results := [.lit (.bool false)], args := [d1, d2] }
  | _ => none }
def FloatsIntsWrongFalsely : Prop := floatsIntsRow.holds Tryd.pinned (OpenSpec.ofChange floatsIntsWrong)

/-- 'foundrylaw01.FloatsParts': WHATEVER THE INPUT: true; the input reads as it did. -/
def floatsPartsSpec : ChangeSpec := { name := "floatsParts", fn := fun _ => fun
  | [d] => { results := [.lit (.bool true)], args := [d] }
  | _ => none }
def floatsPartsRow : OpenClaim := { program := "ytlhmjmfcngegnaadoor", sum := "eba2da6cab499f2f6d843f85eded32c3b53d6a723eea72c9c8d7622ef28adf54", func := "foundry/foundrylaw01.FloatsParts", spec := "floatsParts", inPlace := ["math.Float64frombits", "math.archTrunc", "math.Float64bits", "internal/strconv.float32bits", "internal/strconv.float64bits", "internal/bytealg.IndexByteString"], recurses := true, named := ["internal/strconv.optimize", "internal/strconv.uint64pow10", "math/bits.deBruijn32tab", "math/bits.deBruijn64tab", "internal/strconv.pow10Tab", "internal/strconv.leftcheats"], apart := false, laid := [("math/bits.deBruijn32tab", laid_math_bits_deBruijn32tab), ("math/bits.deBruijn64tab", laid_math_bits_deBruijn64tab), ("internal/strconv.optimize", laid_internal_strconv_optimize), ("internal/strconv.uint64pow10", laid_internal_strconv_uint64pow10), ("internal/strconv.leftcheats", laid_internal_strconv_leftcheats), ("internal/strconv.pow10Tab", laid_internal_strconv_pow10Tab)] }
def FloatsPartsSaid : Prop := floatsPartsRow.holds Tryd.pinned (OpenSpec.ofChange floatsPartsSpec)

/-- ITS FALSE NEIGHBOUR: 'it returns false'. Refute it at one input. -/
def floatsPartsWrong : ChangeSpec := { name := "floatsParts", fn := fun _ => fun
  | [d] => { results := [.lit (.bool false)], args := [d] }
  | _ => none }
def FloatsPartsWrongFalsely : Prop := floatsPartsRow.holds Tryd.pinned (OpenSpec.ofChange floatsPartsWrong)

/- THE SECOND FORM. 'bulk': how many values and letters a reading holds, each counted each time it is reached (what is shared counts as often as it is met; a slice's spare places count too). A statement '..UptoSaid' is the law's where the arguments, and the package variables that the reading takes, are together of bulk at most 1048576: NARROWER than '..Said'. Prove '..Said' where nothing that the law and all that it calls make is longer than what came in: it says more and counts as full. Else prove '..UptoSaid'. A law counts once. -/
mutual
def uptoBulk {H : Type} : DataW H → Nat
  | .lit (.string bytes) => bytes.length + 1
  | .lit _ => 1
  | .nil => 1
  | .ptr d => uptoBulk d + 1
  | .slice elems spare => uptoBulkAll elems + uptoBulkAll spare + 1
  | .agg parts => uptoBulkAll parts + 1
  | .iface _ d => uptoBulk d + 1
  | .map entries => uptoBulkEntries entries + 1
  | .held _ => 1
def uptoBulkAll {H : Type} : List (DataW H) → Nat
  | [] => 0
  | d :: r => uptoBulk d + uptoBulkAll r
def uptoBulkEntries {H : Type} : List (Lit × DataW H) → Nat
  | [] => 0
  | x :: r => uptoBulkEntry x + uptoBulkEntries r
def uptoBulkEntry {H : Type} : Lit × DataW H → Nat
  | (.string bytes, d) => bytes.length + uptoBulk d + 1
  | (_, d) => uptoBulk d + 1
 end
def uptoSmall : (H : Type) → List (DataW H) → Bool := fun _ ds => decide (uptoBulkAll ds ≤ 1048576)
def OpenSpec.upto (s : _root_.Go.ChangeSpec) : _root_.Go.OpenSpec := { _root_.Go.OpenSpec.ofChange s with cond := some uptoSmall }

/-- 'foundrylaw01.FloatsOrders', WHERE WHAT IT READS IS OF BULK AT MOST 1048576: true; the input reads as it did. -/
def floatsOrdersUptoRow : OpenClaim := { program := "ytlhmjmfcngegnaadoor", sum := "eba2da6cab499f2f6d843f85eded32c3b53d6a723eea72c9c8d7622ef28adf54", func := "foundry/foundrylaw01.FloatsOrders", spec := "floatsOrders", inPlace := ["math.Float64frombits", "math.Float64bits", "internal/strconv.float32bits", "internal/strconv.float64bits", "internal/bytealg.IndexByteString"], named := ["internal/strconv.optimize", "internal/strconv.uint64pow10", "math/bits.deBruijn32tab", "math/bits.deBruijn64tab", "internal/strconv.pow10Tab", "internal/strconv.leftcheats"], apart := false, laid := [("math/bits.deBruijn32tab", laid_math_bits_deBruijn32tab), ("math/bits.deBruijn64tab", laid_math_bits_deBruijn64tab), ("internal/strconv.optimize", laid_internal_strconv_optimize), ("internal/strconv.uint64pow10", laid_internal_strconv_uint64pow10), ("internal/strconv.leftcheats", laid_internal_strconv_leftcheats), ("internal/strconv.pow10Tab", laid_internal_strconv_pow10Tab)], narrowed := true }
def FloatsOrdersUptoSaid : Prop := floatsOrdersUptoRow.holds Tryd.pinned (OpenSpec.upto floatsOrdersSpec)

/-- 'foundrylaw01.FloatsSums', WHERE WHAT IT READS IS OF BULK AT MOST 1048576: true; the input reads as it did. -/
def floatsSumsUptoRow : OpenClaim := { program := "ytlhmjmfcngegnaadoor", sum := "eba2da6cab499f2f6d843f85eded32c3b53d6a723eea72c9c8d7622ef28adf54", func := "foundry/foundrylaw01.FloatsSums", spec := "floatsSums", inPlace := ["math.Float64frombits", "math.Float64bits", "internal/strconv.float32bits", "internal/strconv.float64bits", "internal/bytealg.IndexByteString"], named := ["internal/strconv.optimize", "internal/strconv.uint64pow10", "math/bits.deBruijn32tab", "math/bits.deBruijn64tab", "internal/strconv.pow10Tab", "internal/strconv.leftcheats"], apart := false, laid := [("math/bits.deBruijn32tab", laid_math_bits_deBruijn32tab), ("math/bits.deBruijn64tab", laid_math_bits_deBruijn64tab), ("internal/strconv.optimize", laid_internal_strconv_optimize), ("internal/strconv.uint64pow10", laid_internal_strconv_uint64pow10), ("internal/strconv.leftcheats", laid_internal_strconv_leftcheats), ("internal/strconv.pow10Tab", laid_internal_strconv_pow10Tab)], narrowed := true }
def FloatsSumsUptoSaid : Prop := floatsSumsUptoRow.holds Tryd.pinned (OpenSpec.upto floatsSumsSpec)

/-- 'foundrylaw01.FloatsLaws', WHERE WHAT IT READS IS OF BULK AT MOST 1048576: true; the input reads as it did. -/
def floatsLawsUptoRow : OpenClaim := { program := "ytlhmjmfcngegnaadoor", sum := "eba2da6cab499f2f6d843f85eded32c3b53d6a723eea72c9c8d7622ef28adf54", func := "foundry/foundrylaw01.FloatsLaws", spec := "floatsLaws", inPlace := ["math.Float64frombits", "math.Float64bits", "internal/strconv.float32bits", "internal/strconv.float64bits", "internal/bytealg.IndexByteString"], named := ["internal/strconv.optimize", "internal/strconv.uint64pow10", "math/bits.deBruijn32tab", "math/bits.deBruijn64tab", "internal/strconv.pow10Tab", "internal/strconv.leftcheats"], apart := false, laid := [("math/bits.deBruijn32tab", laid_math_bits_deBruijn32tab), ("math/bits.deBruijn64tab", laid_math_bits_deBruijn64tab), ("internal/strconv.optimize", laid_internal_strconv_optimize), ("internal/strconv.uint64pow10", laid_internal_strconv_uint64pow10), ("internal/strconv.leftcheats", laid_internal_strconv_leftcheats), ("internal/strconv.pow10Tab", laid_internal_strconv_pow10Tab)], narrowed := true }
def FloatsLawsUptoSaid : Prop := floatsLawsUptoRow.holds Tryd.pinned (OpenSpec.upto floatsLawsSpec)

/-- 'foundrylaw01.FloatsBetween', WHERE WHAT IT READS IS OF BULK AT MOST 1048576: true; the input reads as it did. -/
def floatsBetweenUptoRow : OpenClaim := { program := "ytlhmjmfcngegnaadoor", sum := "eba2da6cab499f2f6d843f85eded32c3b53d6a723eea72c9c8d7622ef28adf54", func := "foundry/foundrylaw01.FloatsBetween", spec := "floatsBetween", inPlace := ["math.Float64frombits", "math.Float64bits", "internal/strconv.float32bits", "internal/strconv.float64bits", "internal/bytealg.IndexByteString"], named := ["internal/strconv.optimize", "internal/strconv.uint64pow10", "math/bits.deBruijn32tab", "math/bits.deBruijn64tab", "internal/strconv.pow10Tab", "internal/strconv.leftcheats"], apart := false, laid := [("math/bits.deBruijn32tab", laid_math_bits_deBruijn32tab), ("math/bits.deBruijn64tab", laid_math_bits_deBruijn64tab), ("internal/strconv.optimize", laid_internal_strconv_optimize), ("internal/strconv.uint64pow10", laid_internal_strconv_uint64pow10), ("internal/strconv.leftcheats", laid_internal_strconv_leftcheats), ("internal/strconv.pow10Tab", laid_internal_strconv_pow10Tab)], narrowed := true }
def FloatsBetweenUptoSaid : Prop := floatsBetweenUptoRow.holds Tryd.pinned (OpenSpec.upto floatsBetweenSpec)

/-- 'foundrylaw01.FloatsMeasure', WHERE WHAT IT READS IS OF BULK AT MOST 1048576: true; the input reads as it did. -/
def floatsMeasureUptoRow : OpenClaim := { program := "ytlhmjmfcngegnaadoor", sum := "eba2da6cab499f2f6d843f85eded32c3b53d6a723eea72c9c8d7622ef28adf54", func := "foundry/foundrylaw01.FloatsMeasure", spec := "floatsMeasure", inPlace := ["math.Float64frombits", "math.Float64bits", "internal/strconv.float32bits", "internal/strconv.float64bits", "internal/bytealg.IndexByteString"], named := ["internal/strconv.optimize", "internal/strconv.uint64pow10", "math/bits.deBruijn32tab", "math/bits.deBruijn64tab", "internal/strconv.pow10Tab", "internal/strconv.leftcheats"], apart := false, laid := [("math/bits.deBruijn32tab", laid_math_bits_deBruijn32tab), ("math/bits.deBruijn64tab", laid_math_bits_deBruijn64tab), ("internal/strconv.optimize", laid_internal_strconv_optimize), ("internal/strconv.uint64pow10", laid_internal_strconv_uint64pow10), ("internal/strconv.leftcheats", laid_internal_strconv_leftcheats), ("internal/strconv.pow10Tab", laid_internal_strconv_pow10Tab)], narrowed := true }
def FloatsMeasureUptoSaid : Prop := floatsMeasureUptoRow.holds Tryd.pinned (OpenSpec.upto floatsMeasureSpec)

/-- 'foundrylaw01.FloatsInts', WHERE WHAT IT READS IS OF BULK AT MOST 1048576: true; the input reads as it did. -/
def floatsIntsUptoRow : OpenClaim := { program := "ytlhmjmfcngegnaadoor", sum := "eba2da6cab499f2f6d843f85eded32c3b53d6a723eea72c9c8d7622ef28adf54", func := "foundry/foundrylaw01.FloatsInts", spec := "floatsInts", inPlace := ["math.Float64bits", "math.Float64frombits", "internal/strconv.float32bits", "internal/strconv.float64bits", "internal/bytealg.IndexByteString", "math.archTrunc"], named := ["internal/strconv.optimize", "internal/strconv.uint64pow10", "math/bits.deBruijn32tab", "math/bits.deBruijn64tab", "internal/strconv.pow10Tab", "internal/strconv.leftcheats"], apart := false, laid := [("math/bits.deBruijn32tab", laid_math_bits_deBruijn32tab), ("math/bits.deBruijn64tab", laid_math_bits_deBruijn64tab), ("internal/strconv.optimize", laid_internal_strconv_optimize), ("internal/strconv.uint64pow10", laid_internal_strconv_uint64pow10), ("internal/strconv.leftcheats", laid_internal_strconv_leftcheats), ("internal/strconv.pow10Tab", laid_internal_strconv_pow10Tab)], narrowed := true }
def FloatsIntsUptoSaid : Prop := floatsIntsUptoRow.holds Tryd.pinned (OpenSpec.upto floatsIntsSpec)

/-- 'foundrylaw01.FloatsParts', WHERE WHAT IT READS IS OF BULK AT MOST 1048576: true; the input reads as it did. -/
def floatsPartsUptoRow : OpenClaim := { program := "ytlhmjmfcngegnaadoor", sum := "eba2da6cab499f2f6d843f85eded32c3b53d6a723eea72c9c8d7622ef28adf54", func := "foundry/foundrylaw01.FloatsParts", spec := "floatsParts", inPlace := ["math.Float64frombits", "math.archTrunc", "math.Float64bits", "internal/strconv.float32bits", "internal/strconv.float64bits", "internal/bytealg.IndexByteString"], recurses := true, named := ["internal/strconv.optimize", "internal/strconv.uint64pow10", "math/bits.deBruijn32tab", "math/bits.deBruijn64tab", "internal/strconv.pow10Tab", "internal/strconv.leftcheats"], apart := false, laid := [("math/bits.deBruijn32tab", laid_math_bits_deBruijn32tab), ("math/bits.deBruijn64tab", laid_math_bits_deBruijn64tab), ("internal/strconv.optimize", laid_internal_strconv_optimize), ("internal/strconv.uint64pow10", laid_internal_strconv_uint64pow10), ("internal/strconv.leftcheats", laid_internal_strconv_leftcheats), ("internal/strconv.pow10Tab", laid_internal_strconv_pow10Tab)], narrowed := true }
def FloatsPartsUptoSaid : Prop := floatsPartsUptoRow.holds Tryd.pinned (OpenSpec.upto floatsPartsSpec)

end Rows
end Go.Proofs.YtlhmjmfcngegnaaDoor
