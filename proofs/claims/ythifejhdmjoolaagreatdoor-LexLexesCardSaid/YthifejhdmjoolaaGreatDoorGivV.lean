/-
  floats.Parse at the text 0x walked by hand, and floats.Parse with that text as a given function.
-/
import Derived.Test.YthifejhdmjoolaaGreatDoorGivW
namespace Go.Proofs.YthifejhdmjoolaaGreatDoorG
open Go Go.RowKit Go.Proofs.YthifejhdmjoolaaGreatDoorW.PrintWords Go.Proofs.YthifejhdmjoolaaGreatDoorW.PrintMore Go.Proofs.YthifejhdmjoolaaGreatDoorW.PrintLast
open Go.Proofs.YthifejhdmjoolaaGreatDoor.QX (errW errW_none errW_some)
set_option linter.unusedVariables false
set_option linter.unusedSimpArgs false

set_option maxHeartbeats 1000000 in
set_option maxRecDepth 100000 in
theorem pfp_0x (w : World) (L : LaidOk w) : Calls Tryz.prog 87 #[.string ⟨#[48, 120]⟩, .int .i64 64] w fun e w' => e = .returned (.tuple #[.float .f64 0, .int .i64 1, .nilIface]) ∧ Below w.heap.size w w' := by
  have HA : Hid (∀ w', Below w.heap.size w w' → _) := fun w' hb => atof64_0x w' (LaidOk.below hb L)
  have HB : Hid (Below w.heap.size w w) := Below.refl _ _
  go_enter Tryz.func87, Tryz.ntmps87
  go_wp2_with (go_at_call 108; (with_reducible refine Calls.mono (HA.out _ (by repeat (first | exact HB.out | apply pw_below_drewN | apply below_drew1))) ?_); rintro e w1 ⟨rfl, hb1⟩; have HB1 : Hid _ := hb1; clear hb1)
  first
    | (go_ret2; exact ⟨rfl, HB1.out⟩)
    | (go_ret3; exact ⟨rfl, HB1.out⟩)
    | (refine bodyPost_ret (results_list (rs := [.tmp 2, .tmp 3, .tmp 4]) rfl (by simp) (.tmp (.tmp (.tmp .nil)))) rfl ?_; exact ⟨rfl, HB1.out⟩)

set_option maxHeartbeats 1000000 in
set_option maxRecDepth 100000 in
theorem ipf_0x (w : World) (L : LaidOk w) : Calls Tryz.prog 58 #[.string ⟨#[48, 120]⟩, .int .i64 64] w fun e w' => e = .returned (.tuple #[.float .f64 0, errW (some 2)]) ∧ Below w.heap.size w w' := by
  have HA : Hid (∀ w', Below w.heap.size w w' → _) := fun w' hb => pfp_0x w' (LaidOk.below hb L)
  have HB : Hid (Below w.heap.size w w) := Below.refl _ _
  go_enter Tryz.func58, Tryz.ntmps58
  go_wp2_with (go_at_call 87; (with_reducible refine Calls.mono (HA.out _ (by repeat (first | exact HB.out | apply pw_below_drewN | apply below_drew1))) ?_); rintro e w1 ⟨rfl, hb1⟩; have HB1 : Hid _ := hb1; clear hb1)
  first
    | (go_ret2; exact ⟨rfl, HB1.out⟩)
    | (go_ret3; exact ⟨rfl, HB1.out⟩)

set_option maxHeartbeats 1000000 in
set_option maxRecDepth 100000 in
theorem pf_0x (w : World) (L : LaidOk w) :
    Calls Tryz.prog 33 #[.string ⟨#[48, 120]⟩, .int .i64 64] w fun e w' => ∃ N, e = .returned (.tuple #[.float .f64 0, .iface 105 (.pointer (some ⟨N, 0, none⟩))]) ∧ Below w.heap.size w w' := by
  have HC : Hid (∀ w', Below w.heap.size w w' → _) := fun w' hb => ipf_0x w' (LaidOk.below hb L)
  have HT : Hid (∀ w', Below w.heap.size w w' → _) := fun w' hb => toError_any ⟨#[80, 97, 114, 115, 101, 70, 108, 111, 97, 116]⟩ ⟨#[48, 120]⟩ 0 64 2 (.inr rfl) (by decide) w' (LaidOk.below hb L)
  have HB : Hid (Below w.heap.size w w) := Below.refl _ _
  go_enter Tryz.func33, Tryz.ntmps33
  go_wp2_with (first
    | (go_at_call 58; (with_reducible refine Calls.mono (HC.out _ (by repeat (first | exact HB.out | apply pw_below_drewN | apply below_drew1))) ?_); rintro e w1 ⟨rfl, hb1⟩; have HB1 : Hid _ := hb1; clear hb1; simp only [errW_some])
    | (go_at_call 59; (with_reducible refine Calls.mono (HT.out _ (by repeat (first | exact HB1.out | apply pw_below_drewN | apply below_drew1))) ?_); rintro e w2 ⟨N, rfl, hb2⟩; have HB2 : Hid _ := hb2; clear hb2))
  go_ret2
  exact ⟨N, rfl, below_step HB1.out HB2.out⟩

set_option maxHeartbeats 1000000 in
set_option maxRecDepth 100000 in
theorem parse_0x (w : World) (L : LaidOk w) :
    Calls Tryz.prog 11 #[.string ⟨#[48, 120]⟩] w fun e w' => e = .returned (.tuple #[.int .u64 0, .int .i64 10]) ∧ Below w.heap.size w w' := by
  have HC : Hid (∀ w', Below w.heap.size w w' → _) := fun w' hb => pf_0x w' (LaidOk.below hb L)
  have HB : Hid (Below w.heap.size w w) := Below.refl _ _
  have hnb : ((⟨#[48, 120]⟩ : ByteArray).toList == ([110, 97, 110] : List UInt8)) = false := by decide +kernel
  go_enter Tryz.func11, Tryz.ntmps11
  go_wp2_with (go_at_call 33; (with_reducible refine Calls.mono (HC.out _ (by repeat (first | exact HB.out | apply pw_below_drewN | apply below_drew1))) ?_); rintro e w1 ⟨N, rfl, hb1⟩; have HB1 : Hid _ := hb1; clear hb1)
  go_ret2
  exact ⟨rfl, by repeat (first | exact HB1.out | apply pw_below_drewN | apply below_drew1)⟩

def floats_ParseV.f (k : Nat) (s : ByteArray) : Option (Int × Int) := if s = ⟨#[48, 120]⟩ then some (0, 10) else floats_Parse.f k s
theorem floats_ParseV.mono : ∀ a0 k, LeO (floats_ParseV.f k a0) (floats_ParseV.f (k + 1) a0) := by
  intro s k
  unfold floats_ParseV.f
  exact LeO.ite (LeO.refl _) (floats_Parse.mono _ _)
theorem floats_ParseV.calls (k : Nat) (a0 : ByteArray) (r1 r2 : Int) (w : World) (hLaid : LaidOk w) (h : floats_ParseV.f k a0 = some (r1, r2)) :
    Calls Tryz.prog 11 #[.string a0] w fun e w' => e = .returned (.tuple #[.int .u64 r1, .int .i64 r2]) ∧ Below w.heap.size w w' := by
  unfold floats_ParseV.f at h
  by_cases c : a0 = ⟨#[48, 120]⟩
  · subst c
    rw [if_pos rfl] at h
    obtain ⟨rfl, rfl⟩ := Prod.mk.inj (Option.some.inj h)
    exact parse_0x w hLaid
  · rw [if_neg c] at h
    exact floats_Parse.calls k a0 r1 r2 w hLaid h
end Go.Proofs.YthifejhdmjoolaaGreatDoorG
