/-
  strconv's underscoreOK, of which nothing is told: for texts without an underscore.
-/
import Derived.Test.YthifejhdmjoolaaGreatDoorGivE
namespace Go.Proofs.YthifejhdmjoolaaGreatDoorG
open Go Go.RowKit
set_option linter.unusedVariables false

theorem empty_iff (a : ByteArray) : a = ByteArray.empty ↔ a.size = 0 := by
  constructor
  · rintro rfl; rfl
  · intro h
    obtain ⟨⟨l⟩⟩ := a
    cases l with
    | nil => rfl
    | cons c l => simp [ByteArray.size] at h

def strconv_underscoreOK.f (a0 : ByteArray) : Option Bool := none
theorem strconv_underscoreOK.calls (a0 : ByteArray) (r : Bool) (w : World) (h : strconv_underscoreOK.f a0 = some r) :
    Calls Tryz.prog 97 #[.string a0] w fun e w' => e = .returned (.bool r) ∧ Below w.heap.size w w' := by cases h
end Go.Proofs.YthifejhdmjoolaaGreatDoorG
