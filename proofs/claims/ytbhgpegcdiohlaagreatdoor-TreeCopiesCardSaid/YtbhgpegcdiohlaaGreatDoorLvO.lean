import Derived.Test.YtbhgpegcdiohlaaGreatDoorLvN
import Derived.Laws.Externs
namespace Go.Proofs.YtbhgpegcdiohlaaGreatDoor.Tr
open Go Go.RowKit Go.Proofs
set_option linter.unusedVariables false
set_option maxRecDepth 100000
set_option maxHeartbeats 2000000
attribute [local go_sem] Instr.field asAgg
theorem cls_any (a b c d : Bool) (w : World) : Calls Tryz.prog 140 #[.agg #[.bool a, .bool b, .bool c, .bool d]] w fun e w' => e = .returned (.bool (b || c)) ∧ Below w.heap.size w w' := by
  go_enter Tryz.func140, Tryz.ntmps140
  cases b <;> cases c <;> (go_wp2; go_ret; exact ⟨rfl, up (up0 _) _⟩)
theorem run0 (w : World) : Calls Tryz.prog 139 #[.string ⟨#[109, 111, 100, 117, 108, 101, 32, 109, 59, 10, 105, 109, 112, 111, 114, 116, 32, 107, 59, 10]⟩, .int .i64 0, .func (.func 140) #[] #[]] w (SaysI 6 w) := by
  go_enter Tryz.func139, Tryz.ntmps139
  go_wp2
  refine wp_loop_rounds 7 ?_
  rw [rounds_succ]
  go_wp2_with (first
    | (go_at_call 137; refine ((kind109 _).mono ?_); (rintro e a0 ⟨rfl, hb0⟩; have HA0 := Hd.mk hb0; clear hb0))
    | (go_at_call 140; (with_reducible refine ((cls_any _ _ _ _ _).mono ?_)); (rintro e b0 ⟨rfl, hb0⟩; have HB0 := Hd.mk hb0; clear hb0)))
  rw [rounds_succ]
  go_wp2_with (first
    | (go_at_call 137; refine ((kind111 _).mono ?_); (rintro e a1 ⟨rfl, hb1⟩; have HA1 := Hd.mk hb1; clear hb1))
    | (go_at_call 140; (with_reducible refine ((cls_any _ _ _ _ _).mono ?_)); (rintro e b1 ⟨rfl, hb1⟩; have HB1 := Hd.mk hb1; clear hb1)))
  rw [rounds_succ]
  go_wp2_with (first
    | (go_at_call 137; refine ((kind100 _).mono ?_); (rintro e a2 ⟨rfl, hb2⟩; have HA2 := Hd.mk hb2; clear hb2))
    | (go_at_call 140; (with_reducible refine ((cls_any _ _ _ _ _).mono ?_)); (rintro e b2 ⟨rfl, hb2⟩; have HB2 := Hd.mk hb2; clear hb2)))
  rw [rounds_succ]
  go_wp2_with (first
    | (go_at_call 137; refine ((kind117 _).mono ?_); (rintro e a3 ⟨rfl, hb3⟩; have HA3 := Hd.mk hb3; clear hb3))
    | (go_at_call 140; (with_reducible refine ((cls_any _ _ _ _ _).mono ?_)); (rintro e b3 ⟨rfl, hb3⟩; have HB3 := Hd.mk hb3; clear hb3)))
  rw [rounds_succ]
  go_wp2_with (first
    | (go_at_call 137; refine ((kind108 _).mono ?_); (rintro e a4 ⟨rfl, hb4⟩; have HA4 := Hd.mk hb4; clear hb4))
    | (go_at_call 140; (with_reducible refine ((cls_any _ _ _ _ _).mono ?_)); (rintro e b4 ⟨rfl, hb4⟩; have HB4 := Hd.mk hb4; clear hb4)))
  rw [rounds_succ]
  go_wp2_with (first
    | (go_at_call 137; refine ((kind101 _).mono ?_); (rintro e a5 ⟨rfl, hb5⟩; have HA5 := Hd.mk hb5; clear hb5))
    | (go_at_call 140; (with_reducible refine ((cls_any _ _ _ _ _).mono ?_)); (rintro e b5 ⟨rfl, hb5⟩; have HB5 := Hd.mk hb5; clear hb5)))
  rw [rounds_succ]
  go_wp2_with (first
    | (go_at_call 137; refine ((kind32 _).mono ?_); (rintro e a6 ⟨rfl, hb6⟩; have HA6 := Hd.mk hb6; clear hb6))
    | (go_at_call 140; (with_reducible refine ((cls_any _ _ _ _ _).mono ?_)); (rintro e b6 ⟨rfl, hb6⟩; have HB6 := Hd.mk hb6; clear hb6)))
  go_ret
  exact ⟨rfl, (step (step (step (step (step (step (step (step (step (step (step (step (step (step (up0 _) HA0.out) HB0.out) HA1.out) HB1.out) HA2.out) HB2.out) HA3.out) HB3.out) HA4.out) HB4.out) HA5.out) HB5.out) HA6.out) HB6.out)⟩
theorem run7 (w : World) : Calls Tryz.prog 139 #[.string ⟨#[109, 111, 100, 117, 108, 101, 32, 109, 59, 10, 105, 109, 112, 111, 114, 116, 32, 107, 59, 10]⟩, .int .i64 7, .func (.func 140) #[] #[]] w (SaysI 1 w) := by
  go_enter Tryz.func139, Tryz.ntmps139
  go_wp2
  refine wp_loop_rounds 2 ?_
  rw [rounds_succ]
  go_wp2_with (first
    | (go_at_call 137; refine ((kind109 _).mono ?_); (rintro e a0 ⟨rfl, hb0⟩; have HA0 := Hd.mk hb0; clear hb0))
    | (go_at_call 140; (with_reducible refine ((cls_any _ _ _ _ _).mono ?_)); (rintro e b0 ⟨rfl, hb0⟩; have HB0 := Hd.mk hb0; clear hb0)))
  rw [rounds_succ]
  go_wp2_with (first
    | (go_at_call 137; refine ((kind59 _).mono ?_); (rintro e a1 ⟨rfl, hb1⟩; have HA1 := Hd.mk hb1; clear hb1))
    | (go_at_call 140; (with_reducible refine ((cls_any _ _ _ _ _).mono ?_)); (rintro e b1 ⟨rfl, hb1⟩; have HB1 := Hd.mk hb1; clear hb1)))
  go_ret
  exact ⟨rfl, (step (step (step (step (up0 _) HA0.out) HB0.out) HA1.out) HB1.out)⟩
theorem run10 (w : World) : Calls Tryz.prog 139 #[.string ⟨#[109, 111, 100, 117, 108, 101, 32, 109, 59, 10, 105, 109, 112, 111, 114, 116, 32, 107, 59, 10]⟩, .int .i64 10, .func (.func 140) #[] #[]] w (SaysI 6 w) := by
  go_enter Tryz.func139, Tryz.ntmps139
  go_wp2
  refine wp_loop_rounds 7 ?_
  rw [rounds_succ]
  go_wp2_with (first
    | (go_at_call 137; refine ((kind105 _).mono ?_); (rintro e a0 ⟨rfl, hb0⟩; have HA0 := Hd.mk hb0; clear hb0))
    | (go_at_call 140; (with_reducible refine ((cls_any _ _ _ _ _).mono ?_)); (rintro e b0 ⟨rfl, hb0⟩; have HB0 := Hd.mk hb0; clear hb0)))
  rw [rounds_succ]
  go_wp2_with (first
    | (go_at_call 137; refine ((kind109 _).mono ?_); (rintro e a1 ⟨rfl, hb1⟩; have HA1 := Hd.mk hb1; clear hb1))
    | (go_at_call 140; (with_reducible refine ((cls_any _ _ _ _ _).mono ?_)); (rintro e b1 ⟨rfl, hb1⟩; have HB1 := Hd.mk hb1; clear hb1)))
  rw [rounds_succ]
  go_wp2_with (first
    | (go_at_call 137; refine ((kind112 _).mono ?_); (rintro e a2 ⟨rfl, hb2⟩; have HA2 := Hd.mk hb2; clear hb2))
    | (go_at_call 140; (with_reducible refine ((cls_any _ _ _ _ _).mono ?_)); (rintro e b2 ⟨rfl, hb2⟩; have HB2 := Hd.mk hb2; clear hb2)))
  rw [rounds_succ]
  go_wp2_with (first
    | (go_at_call 137; refine ((kind111 _).mono ?_); (rintro e a3 ⟨rfl, hb3⟩; have HA3 := Hd.mk hb3; clear hb3))
    | (go_at_call 140; (with_reducible refine ((cls_any _ _ _ _ _).mono ?_)); (rintro e b3 ⟨rfl, hb3⟩; have HB3 := Hd.mk hb3; clear hb3)))
  rw [rounds_succ]
  go_wp2_with (first
    | (go_at_call 137; refine ((kind114 _).mono ?_); (rintro e a4 ⟨rfl, hb4⟩; have HA4 := Hd.mk hb4; clear hb4))
    | (go_at_call 140; (with_reducible refine ((cls_any _ _ _ _ _).mono ?_)); (rintro e b4 ⟨rfl, hb4⟩; have HB4 := Hd.mk hb4; clear hb4)))
  rw [rounds_succ]
  go_wp2_with (first
    | (go_at_call 137; refine ((kind116 _).mono ?_); (rintro e a5 ⟨rfl, hb5⟩; have HA5 := Hd.mk hb5; clear hb5))
    | (go_at_call 140; (with_reducible refine ((cls_any _ _ _ _ _).mono ?_)); (rintro e b5 ⟨rfl, hb5⟩; have HB5 := Hd.mk hb5; clear hb5)))
  rw [rounds_succ]
  go_wp2_with (first
    | (go_at_call 137; refine ((kind32 _).mono ?_); (rintro e a6 ⟨rfl, hb6⟩; have HA6 := Hd.mk hb6; clear hb6))
    | (go_at_call 140; (with_reducible refine ((cls_any _ _ _ _ _).mono ?_)); (rintro e b6 ⟨rfl, hb6⟩; have HB6 := Hd.mk hb6; clear hb6)))
  go_ret
  exact ⟨rfl, (step (step (step (step (step (step (step (step (step (step (step (step (step (step (up0 _) HA0.out) HB0.out) HA1.out) HB1.out) HA2.out) HB2.out) HA3.out) HB3.out) HA4.out) HB4.out) HA5.out) HB5.out) HA6.out) HB6.out)⟩
theorem run17 (w : World) : Calls Tryz.prog 139 #[.string ⟨#[109, 111, 100, 117, 108, 101, 32, 109, 59, 10, 105, 109, 112, 111, 114, 116, 32, 107, 59, 10]⟩, .int .i64 17, .func (.func 140) #[] #[]] w (SaysI 1 w) := by
  go_enter Tryz.func139, Tryz.ntmps139
  go_wp2
  refine wp_loop_rounds 2 ?_
  rw [rounds_succ]
  go_wp2_with (first
    | (go_at_call 137; refine ((kind107 _).mono ?_); (rintro e a0 ⟨rfl, hb0⟩; have HA0 := Hd.mk hb0; clear hb0))
    | (go_at_call 140; (with_reducible refine ((cls_any _ _ _ _ _).mono ?_)); (rintro e b0 ⟨rfl, hb0⟩; have HB0 := Hd.mk hb0; clear hb0)))
  rw [rounds_succ]
  go_wp2_with (first
    | (go_at_call 137; refine ((kind59 _).mono ?_); (rintro e a1 ⟨rfl, hb1⟩; have HA1 := Hd.mk hb1; clear hb1))
    | (go_at_call 140; (with_reducible refine ((cls_any _ _ _ _ _).mono ?_)); (rintro e b1 ⟨rfl, hb1⟩; have HB1 := Hd.mk hb1; clear hb1)))
  go_ret
  exact ⟨rfl, (step (step (step (step (up0 _) HA0.out) HB0.out) HA1.out) HB1.out)⟩
theorem reserved_module (w : World) : Calls Tryz.prog 79 #[.string ⟨#[109, 111, 100, 117, 108, 101]⟩] w fun e w' => e = .returned (.bool true) ∧ w = w' := by
  go_enter Tryz.func79, Tryz.ntmps79
  go_wp2
  go_ret
  exact ⟨rfl, rfl⟩
theorem reserved_import (w : World) : Calls Tryz.prog 79 #[.string ⟨#[105, 109, 112, 111, 114, 116]⟩] w fun e w' => e = .returned (.bool true) ∧ w = w' := by
  go_enter Tryz.func79, Tryz.ntmps79
  go_wp2
  go_ret
  exact ⟨rfl, rfl⟩
end Go.Proofs.YtbhgpegcdiohlaaGreatDoor.Tr
