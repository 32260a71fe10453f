/-
  atofHex at the 64-bit format, over what the rows' listed variables give; special (at texts that begin with 0) and readFloat as given functions.
-/
import Derived.Test.YthifejhdmjoolaaGreatDoorGivK
import Derived.Test.YthifejhdmjoolaaGreatDoorQX2
import Derived.LaidEqlPtr
import Derived.Test.YthifejhdmjoolaaGreatDoorQH2
namespace Go.Proofs.YthifejhdmjoolaaGreatDoorG
open Go Go.RowKit Go.Proofs.YthifejhdmjoolaaGreatDoorW.PrintWords Go.Proofs.YthifejhdmjoolaaGreatDoorW.PrintMore Go.Proofs.YthifejhdmjoolaaGreatDoorW.PrintLast Go.Proofs.YthifejhdmjoolaaGreatDoor.QX
set_option linter.unusedVariables false

theorem ul152 : Tryz.prog.underlying 152 = some (.pointer 154) := by kernel_rfl
theorem info154 : (Tryz.prog.info? 154).map (fun i => i.size != 0) = some true := by kernel_rfl

theorem LaidOk.drewN {w : World} (L : LaidOk w) (n : Nat) : LaidOk (w.drewN n) := LaidOk.below (Drawn0.below ⟨⟨n, rfl⟩⟩) L

theorem LaidOk.hpe {w : World} (L : LaidOk w) : ∀ (n : Nat), (binOp .eql 152 (.pointer (some ⟨6, 0, none⟩)) (.pointer (some ⟨5, 0, none⟩))).run Tryz.prog (w.drewN n) = .ok (.bool false) (w.drewN n) := by
  intro n
  obtain ⟨j, hj, e⟩ := Option.map_eq_some_iff.mp info154
  obtain ⟨t5, h5⟩ := (L.drewN n).h5
  obtain ⟨t6, h6⟩ := (L.drewN n).h6
  exact run_eql_ptr_other _ ul152 hj (by simpa using e) (by decide) h6 h5

set_option maxHeartbeats 1000000 in
set_option maxRecDepth 100000 in
/-- special at a text that begins with 0: none of its own. -/
theorem special_nought (a0 : ByteArray) (h0 : 0 < a0.size) (hb : bt a0 0 = 48) (w : World) : Calls Tryz.prog 133 #[.string a0] w fun e w' => e = .returned (.tuple #[.float .f64 0, .int .i64 0, .bool false]) ∧ Below w.heap.size w w' := by
  have HB : Aside0 (Below w.heap.size w w) := ⟨Below.refl _ _⟩
  have hx : ∀ h : (0 : Int).toNat < a0.size, ((a0[(0 : Int).toNat]'h).toNat : Int) = 48 := fun h => (bt_at a0 0 h).trans hb
  have hx0 : ∀ h : 0 < a0.size, ((a0[0]'h).toNat : Int) = 48 := fun h => hx h
  have c0 : ¬ (a0.size : Int) = 0 := by omega
  have c1 : (0 : Int) < (a0.size : Int) := by omega
  have c2 : ((a0.size : Int) == 0) = false := beq_eq_false_iff_ne.2 c0
  have c3 : ¬ a0 = ByteArray.empty := by rintro rfl; exact absurd h0 (by decide)
  clear hb h0
  go_enter Tryz.func133, Tryz.ntmps133
  go_wp2
  refine bodyPost_ret (results_list (rs := [.tmp 2, .tmp 3, .tmp 4]) rfl (by simp) (.tmp (.tmp (.tmp .nil)))) rfl ?_
  exact ⟨rfl, by repeat (first | exact HB.out | apply pw_below_drewN | apply below_drew1)⟩

def strconv_special.f (k : Nat) (a0 : ByteArray) : Option (Nat × Int × Bool) := if 0 < a0.size ∧ bt a0 0 = 48 then some (0, 0, false) else none
theorem strconv_special.mono : ∀ a0 k, LeO (strconv_special.f k a0) (strconv_special.f (k + 1) a0) := fun _ _ => LeO.refl _
theorem strconv_special.calls (k : Nat) (a0 : ByteArray) (r1 : Nat) (r2 : Int) (r3 : Bool) (w : World) (h : strconv_special.f k a0 = some (r1, r2, r3)) :
    Calls Tryz.prog 133 #[.string a0] w fun e w' => e = .returned (.tuple #[.float .f64 r1, .int .i64 r2, .bool r3]) ∧ Below w.heap.size w w' := by
  unfold strconv_special.f at h
  split at h
  · rename_i hc
    simp only [Option.some.injEq, Prod.mk.injEq] at h
    obtain ⟨rfl, rfl, rfl⟩ := h
    exact special_nought a0 hc.1 hc.2 w
  · cases h

def strconv_atofHex.f (k : Nat) (a0 : ByteArray) (a2 a3 : Int) (a4 a5 : Bool) : Option (Nat × Option Int) := YthifejhdmjoolaaGreatDoor.QX.strconv_atofHex.f k a0 a2 a3 a4 a5
theorem strconv_atofHex.mono : ∀ a0 a2 a3 a4 a5 k, LeO (strconv_atofHex.f k a0 a2 a3 a4 a5) (strconv_atofHex.f (k + 1) a0 a2 a3 a4 a5) := YthifejhdmjoolaaGreatDoor.QX.strconv_atofHex.mono
theorem strconv_atofHex.calls (k : Nat) (a0 : ByteArray) (a2 a3 : Int) (a4 a5 : Bool) (r1 : Nat) (r2 : Option Int) (w : World) (hLaid : LaidOk w) (h : strconv_atofHex.f k a0 a2 a3 a4 a5 = some (r1, r2)) :
    Calls Tryz.prog 135 #[.string a0, .pointer (some ⟨6, 0, none⟩), .int .u64 a2, .int .i64 a3, .bool a4, .bool a5] w fun e w' => e = .returned (.tuple #[.float .f64 r1, errW r2]) ∧ Below w.heap.size w w' := by
  obtain ⟨g0, g1, g2⟩ := hLaid.g6
  refine (YthifejhdmjoolaaGreatDoor.QX.strconv_atofHex.calls k a0 a2 a3 a4 a5 r1 r2 w g0 g1 g2 hLaid.hpe h).mono ?_
  rintro e w' ⟨rfl, hd⟩
  exact ⟨rfl, hd.below⟩
end Go.Proofs.YthifejhdmjoolaaGreatDoorG

namespace Go.Proofs.YthifejhdmjoolaaGreatDoorG
open Go Go.RowKit Go.Proofs.YthifejhdmjoolaaGreatDoorW.PrintWords
set_option linter.unusedVariables false
def strconv_readFloat.f (k : Nat) (a0 : ByteArray) : Option (Int × Int × Bool × Bool × Bool × Int × Bool) := YthifejhdmjoolaaGreatDoor.QH.strconv_readFloat.f k a0
theorem strconv_readFloat.mono : ∀ a0 k, LeO (strconv_readFloat.f k a0) (strconv_readFloat.f (k + 1) a0) := YthifejhdmjoolaaGreatDoor.QH.strconv_readFloat.mono
theorem strconv_readFloat.calls (k : Nat) (a0 : ByteArray) (r1 : Int) (r2 : Int) (r3 : Bool) (r4 : Bool) (r5 : Bool) (r6 : Int) (r7 : Bool) (w : World) (h : strconv_readFloat.f k a0 = some (r1, r2, r3, r4, r5, r6, r7)) :
    Calls Tryz.prog 134 #[.string a0] w fun e w' => e = .returned (.tuple #[.int .u64 r1, .int .i64 r2, .bool r3, .bool r4, .bool r5, .int .i64 r6, .bool r7]) ∧ Below w.heap.size w w' := YthifejhdmjoolaaGreatDoor.QH.strconv_readFloat.calls k a0 r1 r2 r3 r4 r5 r6 r7 w h
end Go.Proofs.YthifejhdmjoolaaGreatDoorG
