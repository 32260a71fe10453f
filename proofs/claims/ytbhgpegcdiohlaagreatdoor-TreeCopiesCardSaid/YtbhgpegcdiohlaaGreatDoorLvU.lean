import Derived.Test.YtbhgpegcdiohlaaGreatDoorLvT
namespace Go.Proofs.YtbhgpegcdiohlaaGreatDoor.Tr
open Go Go.RowKit Go.Proofs
set_option linter.unusedVariables false
set_option maxRecDepth 100000
set_option maxHeartbeats 4000000
theorem k_cell (w : World) : (w.alloc (.cells #[.string ⟨#[107]⟩] 9 (0, 0))).cell? ⟨w.heap.size, 0, none⟩ = some (.string ⟨#[107]⟩) := new_cell ..
theorem live_any (w : World) : Calls Tryz.prog 17 #[] w (Says true w) := by
  go_enter Tryz.func17, Tryz.ntmps17
  go_wp2_with (first
    | (go_at_call 45; (with_reducible refine ((lit_any 1 _).mono ?_)); (rintro e w1 ⟨rfl, hb1⟩; have HB1 := Hd.mk hb1; clear hb1))
    | (go_at_call 45; (with_reducible refine ((lit_any 2 _).mono ?_)); (rintro e w2 ⟨rfl, hb2⟩; have HB2 := Hd.mk hb2; clear hb2))
    | (go_at_call 45; (with_reducible refine ((lit_any 3 _).mono ?_)); (rintro e w4 ⟨rfl, hb4⟩; have HB4 := Hd.mk hb4; clear hb4))
    | (go_at_call 22; (with_reducible refine ((bin_any 1 _ _ _ _ _ (lit_is 1 _) (lit_is 2 _)).mono ?_)); (rintro e w3 ⟨v3, rfl, hx3, hb3⟩; have HB3 := Hd.mk hb3; have HX3 := Hd.mk hx3; clear hb3 hx3))
    | (go_at_call 22; (with_reducible refine ((bin_any 3 _ _ _ _ _ (Ex.Is_below HB4.out HX3.out) (lit_is 3 _)).mono ?_)); (rintro e w5 ⟨v5, rfl, hx5, hb5⟩; have HB5 := Hd.mk hb5; have HX5 : Hd (T2.Is w5 v5) := ⟨hx5⟩; clear hb5 hx5))
    | (go_at_call 20; (with_reducible refine ((text_live1 _ _ HX5.out).mono ?_)); (rintro e w6 ⟨rfl, hb6⟩; have HB6 := Hd.mk hb6; clear hb6))
    | (go_at_call 45; (with_reducible refine ((lit_any 9223372036854775808 _).mono ?_)); (rintro e w7 ⟨rfl, hb7⟩; have HB7 := Hd.mk hb7; clear hb7))
    | (go_at_call 20; (with_reducible refine ((text_live2 _ _ (lit_is 9223372036854775808 _)).mono ?_)); (rintro e w8 ⟨rfl, hb8⟩; have HB8 := Hd.mk hb8; clear hb8))
    | (go_at_call 18; (with_reducible refine ((print_live w8.heap.size _ (k_cell w8)).mono ?_)); (rintro e w9 ⟨rfl, hb9⟩; have HB9 := Hd.mk hb9; clear hb9)))
  go_ret
  exact ⟨rfl, step (up (step (step (step (step (step (step (step HB1.out HB2.out) HB3.out) HB4.out) HB5.out) HB6.out) HB7.out) HB8.out) _) HB9.out⟩
end Go.Proofs.YtbhgpegcdiohlaaGreatDoor.Tr
