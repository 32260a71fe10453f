import Derived.Test.YtbhgpegcdiohlaaGreatDoorLvM
namespace Go.Proofs.YtbhgpegcdiohlaaGreatDoor.Tr
open Go Go.RowKit Go.Proofs
set_option linter.unusedVariables false
set_option maxRecDepth 100000
set_option maxHeartbeats 2000000
attribute [local go_sem] Instr.field asAgg
abbrev src : ByteArray := ⟨#[109, 111, 100, 117, 108, 101, 32, 109, 59, 10, 105, 109, 112, 111, 114, 116, 32, 107, 59, 10]⟩
theorem skip0 (w : World) : Calls Tryz.prog 101 #[.string ⟨#[109, 111, 100, 117, 108, 101, 32, 109, 59, 10, 105, 109, 112, 111, 114, 116, 32, 107, 59, 10]⟩, .int .i64 0] w (SaysI 0 w) := by
  go_enter Tryz.func101, Tryz.ntmps101
  go_wp2
  refine wp_loop_rounds 1 ?_
  rw [rounds_succ]
  go_wp2_with (first
    | (go_at_call 137; refine ((kind109 _).mono ?_); (rintro e w0 ⟨rfl, hb0⟩; have HB0 := Hd.mk hb0; clear hb0))
    | (go_at_call 133; refine ((prefix_no ((⟨#[109, 111, 100, 117, 108, 101, 32, 109, 59, 10, 105, 109, 112, 111, 114, 116, 32, 107, 59, 10]⟩ : ByteArray).extract 0 20) (of_decide_eq_true (by kernel_rfl)) (by kernel_rfl) _).mono ?_); (rintro e w' ⟨rfl, rfl⟩)))
  go_ret
  exact ⟨rfl, (step (up0 _) HB0.out)⟩
theorem skip6 (w : World) : Calls Tryz.prog 101 #[.string ⟨#[109, 111, 100, 117, 108, 101, 32, 109, 59, 10, 105, 109, 112, 111, 114, 116, 32, 107, 59, 10]⟩, .int .i64 6] w (SaysI 7 w) := by
  go_enter Tryz.func101, Tryz.ntmps101
  go_wp2
  refine wp_loop_rounds 2 ?_
  rw [rounds_succ]
  go_wp2_with (first
    | (go_at_call 137; refine ((kind32 _).mono ?_); (rintro e w0 ⟨rfl, hb0⟩; have HB0 := Hd.mk hb0; clear hb0))
    | (go_at_call 133; refine ((prefix_no ((⟨#[109, 111, 100, 117, 108, 101, 32, 109, 59, 10, 105, 109, 112, 111, 114, 116, 32, 107, 59, 10]⟩ : ByteArray).extract 6 20) (of_decide_eq_true (by kernel_rfl)) (by kernel_rfl) _).mono ?_); (rintro e w' ⟨rfl, rfl⟩)))
  rw [rounds_succ]
  go_wp2_with (first
    | (go_at_call 137; refine ((kind109 _).mono ?_); (rintro e w1 ⟨rfl, hb1⟩; have HB1 := Hd.mk hb1; clear hb1))
    | (go_at_call 133; refine ((prefix_no ((⟨#[109, 111, 100, 117, 108, 101, 32, 109, 59, 10, 105, 109, 112, 111, 114, 116, 32, 107, 59, 10]⟩ : ByteArray).extract 7 20) (of_decide_eq_true (by kernel_rfl)) (by kernel_rfl) _).mono ?_); (rintro e w' ⟨rfl, rfl⟩)))
  go_ret
  exact ⟨rfl, (step (step (up0 _) HB0.out) HB1.out)⟩
theorem skip8 (w : World) : Calls Tryz.prog 101 #[.string ⟨#[109, 111, 100, 117, 108, 101, 32, 109, 59, 10, 105, 109, 112, 111, 114, 116, 32, 107, 59, 10]⟩, .int .i64 8] w (SaysI 8 w) := by
  go_enter Tryz.func101, Tryz.ntmps101
  go_wp2
  refine wp_loop_rounds 1 ?_
  rw [rounds_succ]
  go_wp2_with (first
    | (go_at_call 137; refine ((kind59 _).mono ?_); (rintro e w0 ⟨rfl, hb0⟩; have HB0 := Hd.mk hb0; clear hb0))
    | (go_at_call 133; refine ((prefix_no ((⟨#[109, 111, 100, 117, 108, 101, 32, 109, 59, 10, 105, 109, 112, 111, 114, 116, 32, 107, 59, 10]⟩ : ByteArray).extract 8 20) (of_decide_eq_true (by kernel_rfl)) (by kernel_rfl) _).mono ?_); (rintro e w' ⟨rfl, rfl⟩)))
  go_ret
  exact ⟨rfl, (step (up0 _) HB0.out)⟩
theorem skip9 (w : World) : Calls Tryz.prog 101 #[.string ⟨#[109, 111, 100, 117, 108, 101, 32, 109, 59, 10, 105, 109, 112, 111, 114, 116, 32, 107, 59, 10]⟩, .int .i64 9] w (SaysI 10 w) := by
  go_enter Tryz.func101, Tryz.ntmps101
  go_wp2
  refine wp_loop_rounds 2 ?_
  rw [rounds_succ]
  go_wp2_with (first
    | (go_at_call 137; refine ((kind10 _).mono ?_); (rintro e w0 ⟨rfl, hb0⟩; have HB0 := Hd.mk hb0; clear hb0))
    | (go_at_call 133; refine ((prefix_no ((⟨#[109, 111, 100, 117, 108, 101, 32, 109, 59, 10, 105, 109, 112, 111, 114, 116, 32, 107, 59, 10]⟩ : ByteArray).extract 9 20) (of_decide_eq_true (by kernel_rfl)) (by kernel_rfl) _).mono ?_); (rintro e w' ⟨rfl, rfl⟩)))
  rw [rounds_succ]
  go_wp2_with (first
    | (go_at_call 137; refine ((kind105 _).mono ?_); (rintro e w1 ⟨rfl, hb1⟩; have HB1 := Hd.mk hb1; clear hb1))
    | (go_at_call 133; refine ((prefix_no ((⟨#[109, 111, 100, 117, 108, 101, 32, 109, 59, 10, 105, 109, 112, 111, 114, 116, 32, 107, 59, 10]⟩ : ByteArray).extract 10 20) (of_decide_eq_true (by kernel_rfl)) (by kernel_rfl) _).mono ?_); (rintro e w' ⟨rfl, rfl⟩)))
  go_ret
  exact ⟨rfl, (step (step (up0 _) HB0.out) HB1.out)⟩
theorem skip16 (w : World) : Calls Tryz.prog 101 #[.string ⟨#[109, 111, 100, 117, 108, 101, 32, 109, 59, 10, 105, 109, 112, 111, 114, 116, 32, 107, 59, 10]⟩, .int .i64 16] w (SaysI 17 w) := by
  go_enter Tryz.func101, Tryz.ntmps101
  go_wp2
  refine wp_loop_rounds 2 ?_
  rw [rounds_succ]
  go_wp2_with (first
    | (go_at_call 137; refine ((kind32 _).mono ?_); (rintro e w0 ⟨rfl, hb0⟩; have HB0 := Hd.mk hb0; clear hb0))
    | (go_at_call 133; refine ((prefix_no ((⟨#[109, 111, 100, 117, 108, 101, 32, 109, 59, 10, 105, 109, 112, 111, 114, 116, 32, 107, 59, 10]⟩ : ByteArray).extract 16 20) (of_decide_eq_true (by kernel_rfl)) (by kernel_rfl) _).mono ?_); (rintro e w' ⟨rfl, rfl⟩)))
  rw [rounds_succ]
  go_wp2_with (first
    | (go_at_call 137; refine ((kind107 _).mono ?_); (rintro e w1 ⟨rfl, hb1⟩; have HB1 := Hd.mk hb1; clear hb1))
    | (go_at_call 133; refine ((prefix_no ((⟨#[109, 111, 100, 117, 108, 101, 32, 109, 59, 10, 105, 109, 112, 111, 114, 116, 32, 107, 59, 10]⟩ : ByteArray).extract 17 20) (of_decide_eq_true (by kernel_rfl)) (by kernel_rfl) _).mono ?_); (rintro e w' ⟨rfl, rfl⟩)))
  go_ret
  exact ⟨rfl, (step (step (up0 _) HB0.out) HB1.out)⟩
theorem skip18 (w : World) : Calls Tryz.prog 101 #[.string ⟨#[109, 111, 100, 117, 108, 101, 32, 109, 59, 10, 105, 109, 112, 111, 114, 116, 32, 107, 59, 10]⟩, .int .i64 18] w (SaysI 18 w) := by
  go_enter Tryz.func101, Tryz.ntmps101
  go_wp2
  refine wp_loop_rounds 1 ?_
  rw [rounds_succ]
  go_wp2_with (first
    | (go_at_call 137; refine ((kind59 _).mono ?_); (rintro e w0 ⟨rfl, hb0⟩; have HB0 := Hd.mk hb0; clear hb0))
    | (go_at_call 133; refine ((prefix_no ((⟨#[109, 111, 100, 117, 108, 101, 32, 109, 59, 10, 105, 109, 112, 111, 114, 116, 32, 107, 59, 10]⟩ : ByteArray).extract 18 20) (of_decide_eq_true (by kernel_rfl)) (by kernel_rfl) _).mono ?_); (rintro e w' ⟨rfl, rfl⟩)))
  go_ret
  exact ⟨rfl, (step (up0 _) HB0.out)⟩
theorem skip19 (w : World) : Calls Tryz.prog 101 #[.string ⟨#[109, 111, 100, 117, 108, 101, 32, 109, 59, 10, 105, 109, 112, 111, 114, 116, 32, 107, 59, 10]⟩, .int .i64 19] w (SaysI 20 w) := by
  go_enter Tryz.func101, Tryz.ntmps101
  go_wp2
  refine wp_loop_rounds 2 ?_
  rw [rounds_succ]
  go_wp2_with (first
    | (go_at_call 137; refine ((kind10 _).mono ?_); (rintro e w0 ⟨rfl, hb0⟩; have HB0 := Hd.mk hb0; clear hb0))
    | (go_at_call 133; refine ((prefix_no ((⟨#[109, 111, 100, 117, 108, 101, 32, 109, 59, 10, 105, 109, 112, 111, 114, 116, 32, 107, 59, 10]⟩ : ByteArray).extract 19 20) (of_decide_eq_true (by kernel_rfl)) (by kernel_rfl) _).mono ?_); (rintro e w' ⟨rfl, rfl⟩)))
  rw [rounds_succ]
  go_wp2_with fail
  go_ret
  exact ⟨rfl, (step (up0 _) HB0.out)⟩
end Go.Proofs.YtbhgpegcdiohlaaGreatDoor.Tr
