import Derived.Test.YtbhgpegcdiohlaaGreatDoorLvH
namespace Go.Proofs.YtbhgpegcdiohlaaGreatDoor.Tr
open Go Go.RowKit Go.Proofs
set_option linter.unusedVariables false
set_option maxRecDepth 100000
set_option maxHeartbeats 1000000
theorem caught33 (b : Nat) (w : World) (hK : ∀ w1, Below w.heap.size w w1 → Calls Tryz.prog 33 #[.pointer (some ⟨b, 0, none⟩)] w1 (SaysU w1)) :
    Calls Tryz.prog 32 #[.func (.func 33) #[] #[.pointer (some ⟨b, 0, none⟩)]] w (SaysI 0 w) := by
  have hmf : ∀ (fn : Fn) (first cap : Array Value) (w : World), (Instr.makeFunc fn first cap).run Tryz.prog w = .ok (.func fn first cap) w := fun _ _ _ _ => rfl
  have HK := Hd.mk hK
  clear hK
  go_enter_defers Tryz.func32, Tryz.ntmps32
  go_wp2_with (go_at_call 33; (refine (HK.out _ (up (up0 _) _)).mono ?_); (rintro e w2 ⟨rfl, hb2⟩; have HB2 := Hd.mk hb2; obtain ⟨hc2, hz2⟩ := bbox1 hb2 (heap_alloc_new _ _); clear hb2))
  refine leaves_cons (f := 77) (args := #[.pointer (some ⟨w.heap.size, 0, none⟩)]) (by simp) (by simp [go_sem]) ?_
  refine (catch_idle ⟨w.heap.size, 0, none⟩ _).mono ?_
  rintro e u' w'' ⟨rfl, rfl, rfl⟩
  have hset : (w2.setCell ⟨w.heap.size, 0, none⟩ (.int .i64 0)).cell? ⟨w.heap.size, 0, none⟩ = some (.int .i64 0) := World.cell?_setCell_same _ _ _ hc2
  simp [Leaves, settle, results, Tryz.results32, go_sem, hset, SaysI]
  exact (step (up (up0 _) _) HB2.out).setCell (Nat.le_refl _) _
theorem right33 (b K : Nat) (w : World) (h0 : w.cell? ⟨b, 0, none⟩ = some (.string ⟨#[109]⟩)) (h1 : w.cell? ⟨b, 1, none⟩ = some (.slice (some ⟨K, 0, none⟩) 1 1)) (h2 : w.cell? ⟨b, 2, none⟩ = some (.slice none 0 0)) (hk : w.cell? ⟨K, 0, none⟩ = some (.string ⟨#[107]⟩)) :
    Calls Tryz.prog 33 #[.pointer (some ⟨b, 0, none⟩)] w (SaysU w) := by
  have lb : b < w.heap.size := World.block_lt_of_cell? w _ h0
  have lk : K < w.heap.size := World.block_lt_of_cell? w _ hk
  go_enter Tryz.func33, Tryz.ntmps33
  go_wp2_with (first
    | (go_at_call 34; (with_reducible refine ((must_ok _).mono ?_)); (rintro e w1 ⟨rfl, rfl⟩))
    | (go_at_call 36; (with_reducible refine ((ask_ok _ _).mono ?_)); (rintro e w1 ⟨rfl, rfl⟩))
    | (go_at_call 35; (with_reducible refine ((name109 _).mono ?_)); (rintro e w1 ⟨rfl, hb1⟩; have HB1 := Hd.mk hb1; have hc1 := bcell hb1; clear hb1)))
  have e0 := keep HB1.out h0
  have e1 := keep HB1.out h1
  have e2 := keep HB1.out h2
  have ek := keep HB1.out hk
  have lb1 : b < w1.heap.size := World.block_lt_of_cell? w1 _ e0
  clear h0 h1 h2 hk hc1
  refine wp_loop_rounds 2 ?_
  rw [rounds_succ]
  go_wp2_with (first
    | (go_at_call 34; (with_reducible refine ((must_ok _).mono ?_)); (rintro e w1 ⟨rfl, rfl⟩))
    | (go_at_call 35; (with_reducible refine ((name107 _).mono ?_)); (rintro e w2 ⟨rfl, hb2⟩; have HB2 := Hd.mk hb2; have hc2 := bcell hb2; clear hb2)))
  rw [rounds_succ]
  go_wp2_with (first
    | (go_at_call 36; (with_reducible refine ((ask_ok _ _).mono ?_)); (rintro e w1 ⟨rfl, rfl⟩)))
  refine wp_loop_rounds 1 ?_
  rw [rounds_succ]
  go_wp2_with fail
  go_end0
  exact ⟨rfl, step HB1.out HB2.out⟩
theorem right_live (K : Nat) (w : World) (hk : w.cell? ⟨K, 0, none⟩ = some (.string ⟨#[107]⟩)) : Calls Tryz.prog 13 #[.agg #[.string ⟨#[109]⟩, .slice (some ⟨K, 0, none⟩) 1 1, .slice none 0 0]] w (SaysI 0 w) := by
  have hmf : ∀ (fn : Fn) (first cap : Array Value) (w : World), (Instr.makeFunc fn first cap).run Tryz.prog w = .ok (.func fn first cap) w := fun _ _ _ _ => rfl
  have H := Hd.mk hk
  clear hk
  go_enter Tryz.func13, Tryz.ntmps13
  go_wp2_with (go_at_call 32; (refine (caught33 _ _ (fun w1 hb => right33 _ K w1 (keep hb (new_cell _ _ _ 0)) (keep hb (new_cell _ _ _ 1)) (keep hb (new_cell _ _ _ 2)) (keep (step (up (up0 _) _) hb) H.out))).mono ?_); (rintro e w2 ⟨rfl, hb2⟩; have HB2 := Hd.mk hb2; clear hb2))
  go_ret
  exact ⟨rfl, step (up (up0 _) _) HB2.out⟩
end Go.Proofs.YtbhgpegcdiohlaaGreatDoor.Tr
