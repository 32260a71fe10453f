/-
  atofHex at the 64-bit format, over what the rows' listed variables give; special and readFloat as given functions.
-/
import Derived.Test.YthifejhdmjoolaaGreatDoorGivK
import Derived.Test.YthifejhdmjoolaaGreatDoorQS2
import Derived.Test.YthifejhdmjoolaaGreatDoorQX2
import Derived.LaidEqlPtr
import Derived.Test.YthifejhdmjoolaaGreatDoorQH2
namespace Go.Proofs.YthifejhdmjoolaaGreatDoorG
open Go Go.RowKit Go.Proofs.YthifejhdmjoolaaGreatDoorW.PrintWords Go.Proofs.YthifejhdmjoolaaGreatDoorW.PrintMore Go.Proofs.YthifejhdmjoolaaGreatDoorW.PrintLast Go.Proofs.YthifejhdmjoolaaGreatDoor.QX
set_option linter.unusedVariables false

theorem ul152 : Tryz.prog.underlying 152 = some (.pointer 154) := by kernel_rfl
theorem info154 : (Tryz.prog.info? 154).map (fun i => i.size != 0) = some true := by kernel_rfl

theorem LaidOk.drewN {w : World} (L : LaidOk w) (n : Nat) : LaidOk (w.drewN n) := LaidOk.below (Drawn0.below ⟨⟨n, rfl⟩⟩) L

theorem LaidOk.hpe {w : World} (L : LaidOk w) : ∀ (n : Nat), (binOp .eql 152 (.pointer (some ⟨6, 0, none⟩)) (.pointer (some ⟨5, 0, none⟩))).run Tryz.prog (w.drewN n) = .ok (.bool false) (w.drewN n) := by
  intro n
  obtain ⟨j, hj, e⟩ := Option.map_eq_some_iff.mp info154
  obtain ⟨t5, h5⟩ := (L.drewN n).h5
  obtain ⟨t6, h6⟩ := (L.drewN n).h6
  exact run_eql_ptr_other _ ul152 hj (by simpa using e) (by decide) h6 h5

def strconv_special.f (k : Nat) (a0 : ByteArray) : Option (Nat × Int × Bool) := YthifejhdmjoolaaGreatDoor.QS.strconv_special.f k a0
theorem strconv_special.mono : ∀ a0 k, LeO (strconv_special.f k a0) (strconv_special.f (k + 1) a0) := YthifejhdmjoolaaGreatDoor.QS.strconv_special.mono
theorem strconv_special.calls (k : Nat) (a0 : ByteArray) (r1 : Nat) (r2 : Int) (r3 : Bool) (w : World) (h : strconv_special.f k a0 = some (r1, r2, r3)) :
    Calls Tryz.prog 133 #[.string a0] w fun e w' => e = .returned (.tuple #[.float .f64 r1, .int .i64 r2, .bool r3]) ∧ Below w.heap.size w w' := YthifejhdmjoolaaGreatDoor.QS.strconv_special.calls k a0 r1 r2 r3 w h

def strconv_atofHex.f (k : Nat) (a0 : ByteArray) (a2 a3 : Int) (a4 a5 : Bool) : Option (Nat × Option Int) := YthifejhdmjoolaaGreatDoor.QX.strconv_atofHex.f k a0 a2 a3 a4 a5
theorem strconv_atofHex.mono : ∀ a0 a2 a3 a4 a5 k, LeO (strconv_atofHex.f k a0 a2 a3 a4 a5) (strconv_atofHex.f (k + 1) a0 a2 a3 a4 a5) := YthifejhdmjoolaaGreatDoor.QX.strconv_atofHex.mono
theorem strconv_atofHex.calls (k : Nat) (a0 : ByteArray) (a2 a3 : Int) (a4 a5 : Bool) (r1 : Nat) (r2 : Option Int) (w : World) (hLaid : LaidOk w) (h : strconv_atofHex.f k a0 a2 a3 a4 a5 = some (r1, r2)) :
    Calls Tryz.prog 135 #[.string a0, .pointer (some ⟨6, 0, none⟩), .int .u64 a2, .int .i64 a3, .bool a4, .bool a5] w fun e w' => e = .returned (.tuple #[.float .f64 r1, errW r2]) ∧ Below w.heap.size w w' := by
  obtain ⟨g0, g1, g2⟩ := hLaid.g6
  refine (YthifejhdmjoolaaGreatDoor.QX.strconv_atofHex.calls k a0 a2 a3 a4 a5 r1 r2 w g0 g1 g2 hLaid.hpe h).mono ?_
  rintro e w' ⟨rfl, hd⟩
  exact ⟨rfl, hd.below⟩
end Go.Proofs.YthifejhdmjoolaaGreatDoorG

namespace Go.Proofs.YthifejhdmjoolaaGreatDoorG
open Go Go.RowKit Go.Proofs.YthifejhdmjoolaaGreatDoorW.PrintWords
set_option linter.unusedVariables false
def strconv_readFloat.f (k : Nat) (a0 : ByteArray) : Option (Int × Int × Bool × Bool × Bool × Int × Bool) := YthifejhdmjoolaaGreatDoor.QH.strconv_readFloat.f k a0
theorem strconv_readFloat.mono : ∀ a0 k, LeO (strconv_readFloat.f k a0) (strconv_readFloat.f (k + 1) a0) := YthifejhdmjoolaaGreatDoor.QH.strconv_readFloat.mono
theorem strconv_readFloat.calls (k : Nat) (a0 : ByteArray) (r1 : Int) (r2 : Int) (r3 : Bool) (r4 : Bool) (r5 : Bool) (r6 : Int) (r7 : Bool) (w : World) (h : strconv_readFloat.f k a0 = some (r1, r2, r3, r4, r5, r6, r7)) :
    Calls Tryz.prog 134 #[.string a0] w fun e w' => e = .returned (.tuple #[.int .u64 r1, .int .i64 r2, .bool r3, .bool r4, .bool r5, .int .i64 r6, .bool r7]) ∧ Below w.heap.size w w' := YthifejhdmjoolaaGreatDoor.QH.strconv_readFloat.calls k a0 r1 r2 r3 r4 r5 r6 r7 w h
end Go.Proofs.YthifejhdmjoolaaGreatDoorG
