/-
  atof64 at the text 0x, which readFloat takes as a decimal nought; atof64 as a given function.
-/
import Derived.Test.YthifejhdmjoolaaGreatDoorGivP
namespace Go.Proofs.YthifejhdmjoolaaGreatDoorG
open Go Go.RowKit Go.Proofs.YthifejhdmjoolaaGreatDoorW.PrintWords Go.Proofs.YthifejhdmjoolaaGreatDoorW.PrintMore Go.Proofs.YthifejhdmjoolaaGreatDoorW.PrintLast
set_option linter.unusedVariables false
set_option linter.unusedSimpArgs false

theorem sp_0x : strconv_special.f 5 ⟨#[48, 120]⟩ = some (0, 0, false) := by decide +kernel
theorem rf_0x : YthifejhdmjoolaaGreatDoor.QH.strconv_readFloat.f 20 ⟨#[48, 120]⟩ = some (0, 0, false, false, false, 1, true) := by kernel_rfl
theorem bool2_no (w : World) : Calls Tryz.prog 142 #[.bool false] w fun e w' => e = .returned (.int .u64 0) ∧ Below w.heap.size w w' := by
  have HB : Hid (Below w.heap.size w w) := Below.refl _ _
  go_enter Tryz.func142, Tryz.ntmps142
  go_wp2
  go_ret
  exact ⟨rfl, by repeat (first | exact HB.out | apply pw_below_drewN | apply below_drew1)⟩

set_option maxHeartbeats 1000000 in
set_option maxRecDepth 100000 in
theorem atof64_0x (w : World) (L : LaidOk w) : Calls Tryz.prog 108 #[.string ⟨#[48, 120]⟩] w fun e w' => e = .returned (.tuple #[.float .f64 0, .int .i64 1, .nilIface]) ∧ Below w.heap.size w w' := by
  have HS : Hid _ := fun w' => strconv_special.calls 5 ⟨#[48, 120]⟩ 0 0 false w' sp_0x
  have HR : Hid _ := fun w' => strconv_readFloat.calls 20 ⟨#[48, 120]⟩ 0 0 false false false 1 true w' rf_0x
  have HL : Hid (∀ w', Below w.heap.size w w' → w'.cell? ⟨4, 0, none⟩ = some (.bool true)) := fun w' hb => LaidOk.g4 (LaidOk.below hb L)
  go_enter Tryz.func108, Tryz.ntmps108
  go_wp2_with (first
    | (go_at_call 133; (with_reducible refine Calls.mono (HS.out _) ?_); rintro e w1 ⟨rfl, hb1⟩; have HB1 : Hid _ := hb1; clear hb1)
    | (go_at_call 134; (with_reducible refine Calls.mono (HR.out _) ?_); rintro e w2 ⟨rfl, hb2⟩; have HB2 : Hid _ := below_step HB1.out hb2; have hg4 := HL.out _ HB2.out; clear hb2)
    | (go_at_call 142; (with_reducible refine Calls.mono (bool2_no _) ?_); rintro e w3 ⟨rfl, hb3⟩; have HB3 : Hid _ := below_step HB2.out hb3; clear hb3)
    | rw [ext143, Oper.upon_value])
  refine bodyPost_ret (results_list (rs := [.tmp 2, .tmp 3, .tmp 4]) rfl (by simp) (.tmp (.tmp (.tmp .nil)))) rfl ?_
  exact ⟨rfl, by repeat (first | exact HB3.out | apply pw_below_drewN | apply below_drew1)⟩
end Go.Proofs.YthifejhdmjoolaaGreatDoorG
