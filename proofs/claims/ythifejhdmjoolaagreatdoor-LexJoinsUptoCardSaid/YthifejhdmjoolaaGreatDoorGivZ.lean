/-
  floats.Parse, of which nothing is told here: for laws whose inputs never come to it.
-/
import Derived.Test.YthifejhdmjoolaaGreatDoorGivN
namespace Go.Proofs.YthifejhdmjoolaaGreatDoorG
open Go Go.RowKit
set_option linter.unusedVariables false

def floats_Parse.f (a0 : ByteArray) : Option (Int × Int) := none
theorem floats_Parse.calls (a0 : ByteArray) (r1 r2 : Int) (w : World) (h : floats_Parse.f a0 = some (r1, r2)) :
    Calls Tryz.prog 11 #[.string a0] w fun e w' => e = .returned (.tuple #[.int .u64 r1, .int .i64 r2]) ∧ Below w.heap.size w w' := by cases h
end Go.Proofs.YthifejhdmjoolaaGreatDoorG
