import Derived.Test.YtbhgpegcdiohlaaGreatDoorLvC
namespace Go.Proofs.YtbhgpegcdiohlaaGreatDoor.Tr
open Go Go.RowKit Go.Proofs
set_option linter.unusedVariables false
set_option maxRecDepth 100000
set_option maxHeartbeats 1000000
theorem new_cell (w : World) (cs : Array Value) (t : TypeId) (i : Nat) : (w.alloc (.cells cs t (0, 0))).cell? ⟨w.heap.size, i, none⟩ = cs[i]? := cell_of_row _ _ _ _ _ _ (heap_alloc_new w _)
/-- an expression that is put into a variable of its own -/
theorem Ex.boxed {w : World} {x : Ex} {cs : Array Value} (h : x.Is w (.agg cs)) (t : TypeId) : ∃ v0 v1 v2 v3 v4 v5 v6 v7 v8, cs = #[.int .i64 v0, .int .i64 v1, .string v2, .string v3, .int .i64 v4, .int .u64 v5, .slice v6 v7 v8] ∧ ∀ i v, cs[i]? = some v → (w.alloc (.cells cs t (0, 0))).cell? ⟨w.heap.size, i, none⟩ = some v := by
  cases x with
  | mk k op m n t' b ks =>
    unfold Ex.Is at h
    obtain ⟨A, l, c, e, _⟩ := h
    injection e with e
    subst e
    exact ⟨_, _, _, _, _, _, _, _, _, rfl, fun i v hv => (new_cell ..).trans hv⟩
theorem right1_ok (x : Ex) (cs : Array Value) (b : Nat) (w : World) (hx : x.Is w (.agg cs)) (hc : ∀ i v, cs[i]? = some v → w.cell? ⟨b, i, none⟩ = some v) (hd : deepE x 1 0 ≤ 32) (he : ExprOk x) :
    Calls Tryz.prog 40 #[.pointer (some ⟨b, 0, none⟩)] w (SaysU w) := by
  obtain ⟨v0, v1, v2, v3, v4, v5, v6, v7, v8, rfl, _⟩ := Ex.boxed hx 31
  have a0 := hc 0 _ rfl
  have a1 := hc 1 _ rfl
  have a2 := hc 2 _ rfl
  have a3 := hc 3 _ rfl
  have a4 := hc 4 _ rfl
  have a5 := hc 5 _ rfl
  have a6 := hc 6 _ rfl
  clear hc
  have lt1 : b < w.heap.size := World.block_lt_of_cell? w _ a0
  have X := Hd.mk hx
  have E := Hd.mk he
  generalize hq : deepE x 1 0 = q at hd
  have Q := Hd.mk hq
  have h32 : decide (q ≤ 32) = true := decide_eq_true hd
  clear hx he hq
  go_enter Tryz.func40, Tryz.ntmps40
  go_wp2_with (first
    | (go_at_call 36; (with_reducible refine ((ask_ok _ _).mono ?_)); (rintro e w1 ⟨rfl, rfl⟩))
    | (go_at_call 41; (refine (((deepIs x) 1 0 _ _ X.out).mono ?_)); (rw [Q.out]; rintro e w1 ⟨rfl, hb1⟩; have HB1 := Hd.mk hb1; have hc1 := bcell hb1; clear hb1))
    | (go_at_call 42; (refine ((E.out _ _ (Ex.Is_below HB1.out X.out)).mono ?_)); (rintro e w2 ⟨rfl, hb2⟩; have HB2 := Hd.mk hb2; clear hb2)))
  go_end0
  exact ⟨rfl, step HB1.out HB2.out⟩
theorem rightExpr_ok (x : Ex) (v : Value) (w : World) (hx : x.Is w v) (hd : deepE x 1 0 ≤ 32) (he : ExprOk x) : Calls Tryz.prog 15 #[v] w (SaysI 0 w) := by
  have hmf : ∀ (fn : Fn) (first cap : Array Value) (w : World), (Instr.makeFunc fn first cap).run Tryz.prog w = .ok (.func fn first cap) w := fun _ _ _ _ => rfl
  obtain ⟨cs, rfl⟩ : ∃ cs, v = .agg cs := by
    cases x; unfold Ex.Is at hx; obtain ⟨A, l, c, e, _⟩ := hx; exact ⟨_, e⟩
  obtain ⟨v0, v1, v2, v3, v4, v5, v6, v7, v8, rfl, hc⟩ := Ex.boxed hx 31
  have C := Hd.mk hc
  have X := Hd.mk hx
  have E := Hd.mk he
  have D := Hd.mk hd
  clear hc hx he hd
  go_enter Tryz.func15, Tryz.ntmps15
  go_wp2_with (go_at_call 32; (refine (caught_ok _ _ (fun w1 hb => right1_ok x _ _ w1 (Ex.Is_below (step (up (up0 _) _) hb) X.out) (fun i v hv => keep hb (C.out i v hv)) D.out E.out)).mono ?_); (rintro e w2 ⟨rfl, hb2⟩; have HB2 := Hd.mk hb2; clear hb2))
  go_ret
  exact ⟨rfl, step (up (up0 _) _) HB2.out⟩
end Go.Proofs.YtbhgpegcdiohlaaGreatDoor.Tr
