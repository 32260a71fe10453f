import Derived.Test.YtbhgpegcdiohlaaGreatDoorLvE
namespace Go.Proofs.YtbhgpegcdiohlaaGreatDoor.Tr
open Go Go.RowKit Go.Proofs
set_option linter.unusedVariables false
set_option maxRecDepth 100000
set_option maxHeartbeats 1000000
theorem small1 (w : World) : Calls Tryz.prog 192 #[.int .i64 1, .int .i64 10] w (SaysS ⟨#[49]⟩ w) := by
  go_enter Tryz.func192, Tryz.ntmps192
  go_wp2_with (go_in)
  go_ret
  exact ⟨by kernel_rfl, up0 _⟩
theorem value1 (w : World) : Calls Tryz.prog 108 #[.agg #[.int .i64 1, .int .u64 1]] w (SaysS ⟨#[49]⟩ w) := by
  go_enter Tryz.func108, Tryz.ntmps108
  go_wp2_with (first | (go_at_call 192; refine (small1 _).mono ?_; rintro e w1 ⟨rfl, hb1⟩; have HB1 := Hd.mk hb1; clear hb1) | go_in)
  go_ret
  exact ⟨rfl, step (up (up0 _) _) HB1.out⟩
theorem text_lit1 (at_ : Int) (h : at_ ≤ 7) : TextIs (litE 1) at_ ⟨#[49]⟩ := by
  intro w v hv
  unfold litE Ex.Is at hv
  obtain ⟨A, l, c, rfl, h1⟩ := hv
  clear h1
  have h' : decide (7 < at_) = false := decide_eq_false (by omega)
  go_enter Tryz.func53, Tryz.ntmps53
  go_wp2_with (first
    | (go_at_call 89; (with_reducible refine ((level_any _ _ _ _ _ _ _ _).mono ?_)); (rw [show lvl 1 0 = 7 from rfl]; rintro e w1 ⟨rfl, hb1⟩; have HB1 := Hd.mk hb1; have hc1 := bcell hb1; have hs1 := bsize1 rfl hb1; clear hb1))
    | (go_at_call 108; refine (value1 _).mono ?_; rintro e w2 ⟨rfl, hb2⟩; have HB2 := Hd.mk hb2; clear hb2))
  go_ret
  exact ⟨rfl, step (step (up (up0 _) _) HB1.out) HB2.out⟩
theorem small2 (w : World) : Calls Tryz.prog 192 #[.int .i64 2, .int .i64 10] w (SaysS ⟨#[50]⟩ w) := by
  go_enter Tryz.func192, Tryz.ntmps192
  go_wp2_with (go_in)
  go_ret
  exact ⟨by kernel_rfl, up0 _⟩
theorem value2 (w : World) : Calls Tryz.prog 108 #[.agg #[.int .i64 1, .int .u64 2]] w (SaysS ⟨#[50]⟩ w) := by
  go_enter Tryz.func108, Tryz.ntmps108
  go_wp2_with (first | (go_at_call 192; refine (small2 _).mono ?_; rintro e w1 ⟨rfl, hb1⟩; have HB1 := Hd.mk hb1; clear hb1) | go_in)
  go_ret
  exact ⟨rfl, step (up (up0 _) _) HB1.out⟩
theorem text_lit2 (at_ : Int) (h : at_ ≤ 7) : TextIs (litE 2) at_ ⟨#[50]⟩ := by
  intro w v hv
  unfold litE Ex.Is at hv
  obtain ⟨A, l, c, rfl, h1⟩ := hv
  clear h1
  have h' : decide (7 < at_) = false := decide_eq_false (by omega)
  go_enter Tryz.func53, Tryz.ntmps53
  go_wp2_with (first
    | (go_at_call 89; (with_reducible refine ((level_any _ _ _ _ _ _ _ _).mono ?_)); (rw [show lvl 1 0 = 7 from rfl]; rintro e w1 ⟨rfl, hb1⟩; have HB1 := Hd.mk hb1; have hc1 := bcell hb1; have hs1 := bsize1 rfl hb1; clear hb1))
    | (go_at_call 108; refine (value2 _).mono ?_; rintro e w2 ⟨rfl, hb2⟩; have HB2 := Hd.mk hb2; clear hb2))
  go_ret
  exact ⟨rfl, step (step (up (up0 _) _) HB1.out) HB2.out⟩
theorem small3 (w : World) : Calls Tryz.prog 192 #[.int .i64 3, .int .i64 10] w (SaysS ⟨#[51]⟩ w) := by
  go_enter Tryz.func192, Tryz.ntmps192
  go_wp2_with (go_in)
  go_ret
  exact ⟨by kernel_rfl, up0 _⟩
theorem value3 (w : World) : Calls Tryz.prog 108 #[.agg #[.int .i64 1, .int .u64 3]] w (SaysS ⟨#[51]⟩ w) := by
  go_enter Tryz.func108, Tryz.ntmps108
  go_wp2_with (first | (go_at_call 192; refine (small3 _).mono ?_; rintro e w1 ⟨rfl, hb1⟩; have HB1 := Hd.mk hb1; clear hb1) | go_in)
  go_ret
  exact ⟨rfl, step (up (up0 _) _) HB1.out⟩
theorem text_lit3 (at_ : Int) (h : at_ ≤ 7) : TextIs (litE 3) at_ ⟨#[51]⟩ := by
  intro w v hv
  unfold litE Ex.Is at hv
  obtain ⟨A, l, c, rfl, h1⟩ := hv
  clear h1
  have h' : decide (7 < at_) = false := decide_eq_false (by omega)
  go_enter Tryz.func53, Tryz.ntmps53
  go_wp2_with (first
    | (go_at_call 89; (with_reducible refine ((level_any _ _ _ _ _ _ _ _).mono ?_)); (rw [show lvl 1 0 = 7 from rfl]; rintro e w1 ⟨rfl, hb1⟩; have HB1 := Hd.mk hb1; have hc1 := bcell hb1; have hs1 := bsize1 rfl hb1; clear hb1))
    | (go_at_call 108; refine (value3 _).mono ?_; rintro e w2 ⟨rfl, hb2⟩; have HB2 := Hd.mk hb2; clear hb2))
  go_ret
  exact ⟨rfl, step (step (up (up0 _) _) HB1.out) HB2.out⟩
end Go.Proofs.YtbhgpegcdiohlaaGreatDoor.Tr
