import Derived.Test.YtbhgpegcdiohlaaGreatDoorCpC
namespace Go.Proofs.YtbhgpegcdiohlaaGreatDoor.Tr
open Go Go.RowKit Go.Proofs
set_option linter.unusedVariables false
set_option maxRecDepth 100000
set_option maxHeartbeats 4000000
theorem new_frozenC (w : World) (cs : Array Value) (t : TypeId) (i : Nat) : (w.alloc (.cells cs t (0, 0))).frozen? ⟨w.heap.size, i, none⟩ = false := World.frozen?_alloc_new w cs t i
theorem results_cell_mid {P : Program} {fn : Func} {p : Tmp} {ty : TypeId} (h : fn.results = #[.cell p ty]) (tmps : Array Value) (w : World) (b o : Nat) (cs : List Value) (d : TypeDesc)
    (hp : tmps.getD p undef = .pointer (some ⟨b, o, none⟩)) (hc : w.rangeAt b o cs) (hu : P.underlying ty = some d) (hd : d.isRow = true) (hi : (P.info? ty).map (·.size) = some cs.length) :
    (results fn tmps).run P w = .ok (.agg cs.toArray) w := by
  have hp' : tmps[p]?.getD undef = .pointer (some ⟨b, o, none⟩) := by simpa using hp
  simp [results, h, hp', asAddr, run_loadVar_mid w b o ty cs d hc hu hd hi]
theorem copyE_walk (k op : Int) (m n : ByteArray) (t b : Int) (ks : Exs) (hK : ∀ x ∈ ks.toList, CopyE x) : CopyE (.mk k op m n t b ks) := by
  intro w v hv hR
  unfold Ex.Is at hv
  obtain ⟨A, l, c, rfl, hs⟩ := hv
  unfold Ex.Rm at hR
  have hs1 := hs.1
  have X := Hd.mk (fun w' (hb : Below w.heap.size w w') => each65 ks.toList hK w' A l c (hs.mono fun x B o h => x.In_below hb h) (by omega) (Exs.Rm_iff.1 hR.2))
  clear hs hR hK hs1
  go_enter Tryz.func66, Tryz.ntmps66
  go_wp2_with fail
  with_reducible refine ((X.out _ (up (up (up0 _) _) _)).mono ?_)
  rintro e w3 ⟨A3, n3, c3, rfl, hb3, hs3, ho3⟩
  obtain ⟨w2, hw2⟩ : ∃ w2, w2 = ((w.alloc (.cells #[.int .i64 k, .int .i64 op, .string m, .string n, .int .i64 t, .int .u64 b, .slice A l c] 31 (0, 0))).alloc (.cells #[.int .i64 0, .int .i64 0, .string ⟨#[]⟩, .string ⟨#[]⟩, .int .i64 0, .int .u64 0, .slice none 0 0] 31 (0, 0))) := ⟨_, rfl⟩
  rw [← hw2] at hb3 ho3
  have hz : w2.heap.size = w.heap.size + 1 + 1 := by rw [hw2]; simp
  have f1 : ∀ i, w3.frozen? ⟨w.heap.size, i, none⟩ = false := fun i => by
    rw [hb3.frozen (p := ⟨w.heap.size, i, none⟩) (by show w.heap.size < _; omega), hw2, World.frozen?_alloc_past]
    · exact new_frozenC w _ _ i
    · simp
  have f2 : ∀ i, w3.frozen? ⟨w.heap.size + 1, i, none⟩ = false := fun i => by
    rw [hb3.frozen (p := ⟨w.heap.size + 1, i, none⟩) (by show w.heap.size + 1 < _; omega), hw2]
    have := new_frozenC (w.alloc (.cells #[.int .i64 k, .int .i64 op, .string m, .string n, .int .i64 t, .int .u64 b, .slice A l c] 31 (0, 0))) #[.int .i64 0, .int .i64 0, .string ⟨#[]⟩, .string ⟨#[]⟩, .int .i64 0, .int .u64 0, .slice none 0 0] 31 i
    simp at this ⊢
  have q1 : ∀ i v, (#[.int .i64 k, .int .i64 op, .string m, .string n, .int .i64 t, .int .u64 b, .slice A l c] : Array Value)[i]? = some v → w3.cell? ⟨w.heap.size, i, none⟩ = some v := fun i v hv => by
    rw [hb3.cell (p := ⟨w.heap.size, i, none⟩) (by show w.heap.size < _; omega), hw2, World.cell?_alloc_lt _ _ _ (by simp), new_cell]
    exact hv
  have q2 : ∀ i v, (#[.int .i64 0, .int .i64 0, .string ⟨#[]⟩, .string ⟨#[]⟩, .int .i64 0, .int .u64 0, .slice none 0 0] : Array Value)[i]? = some v → w3.cell? ⟨w.heap.size + 1, i, none⟩ = some v := fun i v hv => by
    rw [hb3.cell (p := ⟨w.heap.size + 1, i, none⟩) (by show w.heap.size + 1 < _; omega), hw2]
    have := new_cell (w.alloc (.cells #[.int .i64 k, .int .i64 op, .string m, .string n, .int .i64 t, .int .u64 b, .slice A l c] 31 (0, 0))) #[.int .i64 0, .int .i64 0, .string ⟨#[]⟩, .string ⟨#[]⟩, .int .i64 0, .int .u64 0, .slice none 0 0] 31 i
    rw [← hv, ← this]
    simp
  have a0 := q1 0 _ rfl
  have a1 := q1 1 _ rfl
  have a2 := q1 2 _ rfl
  have a3 := q1 3 _ rfl
  have a4 := q1 4 _ rfl
  have a5 := q1 5 _ rfl
  have a6 := q1 6 _ rfl
  have b0 := q2 0 _ rfl
  have b1 := q2 1 _ rfl
  have b2 := q2 2 _ rfl
  have b3 := q2 3 _ rfl
  have b4 := q2 4 _ rfl
  have b5 := q2 5 _ rfl
  have b6 := q2 6 _ rfl
  have HB : Hd (Below w.heap.size w w3) := ⟨(hw2 ▸ up (up (up0 w) _) _ : Below w.heap.size w w2).trans (hb3.mono (by omega))⟩
  have HS := Hd.mk hs3
  have HO := Hd.mk ho3
  have HZ := Hd.mk hz
  have HSZ := Hd.mk hb3.size
  clear q1 q2 hw2 hb3 hs3 ho3 hz X
  go_wp2_with fail
  obtain ⟨W, hW⟩ : ∃ W : World, W = ((((((((w3.setCell ⟨w.heap.size, 6, none⟩ (.slice A3 n3 c3)).setCell ⟨w.heap.size + 1, 0, none⟩ (.int .i64 k)).setCell ⟨w.heap.size + 1, 1, none⟩ (.int .i64 op)).setCell ⟨w.heap.size + 1, 2, none⟩ (.string m)).setCell ⟨w.heap.size + 1, 3, none⟩ (.string n)).setCell ⟨w.heap.size + 1, 4, none⟩ (.int .i64 t)).setCell ⟨w.heap.size + 1, 5, none⟩ (.int .u64 b)).setCell ⟨w.heap.size + 1, 6, none⟩ (.slice A3 n3 c3)) := ⟨_, rfl⟩
  rw [← hW]
  have hWs : W = (w3.setCell ⟨w.heap.size, 6, none⟩ (.slice A3 n3 c3)).setCells (w.heap.size + 1) 0 [.int .i64 k, .int .i64 op, .string m, .string n, .int .i64 t, .int .u64 b, .slice A3 n3 c3] := hW
  clear hW
  have far := fun i => World.cell?_setCell_far w3 ⟨w.heap.size, 6, none⟩ ⟨w.heap.size + 1, i, none⟩ (.slice A3 n3 c3) (by show w.heap.size ≠ w.heap.size + 1; omega)
  obtain ⟨hsz, hbl, hin, hout, hfr⟩ := stored_row (vs := [.int .i64 k, .int .i64 op, .string m, .string n, .int .i64 t, .int .u64 b, .slice A3 n3 c3]) hWs (isSome7 ((far 0).trans b0) ((far 1).trans b1) ((far 2).trans b2) ((far 3).trans b3) ((far 4).trans b4) ((far 5).trans b5) ((far 6).trans b6))
  have hk : Kp (w.heap.size + 1 + 1) w3.heap.size w3 W := fun q h1 _ => by
    rw [hbl q (by omega), Below.heap_setCell _ _ _ _ (by show q ≠ w.heap.size; omega)]
  refine bodyPost_ret (results_cell_mid rfl _ _ (w.heap.size + 1) 0 [.int .i64 k, .int .i64 op, .string m, .string n, .int .i64 t, .int .u64 b, .slice A3 n3 c3] _ rfl hin Tryz.underlying31 rfl (by kernel_rfl)) rfl ?_
  refine ⟨k, op, m, n, t, b, ks, A3, n3, c3, rfl, rfl, below_setRow (HB.out.setCell (Nat.le_refl _) _) hsz hbl (Nat.le_succ _) hWs, SlE_keep hk HS.out (HO.out.mono fun _ _ h => h.keep (by rw [HZ.out]; omega) (Nat.le_refl _) (fun _ _ _ => rfl)), HO.out.mono fun _ _ h => h.keep (by rw [HZ.out]; omega) (by rw [hsz]; simp) (by rw [HZ.out]; exact hk)⟩
theorem copyE_any : ∀ x, CopyE x := Ex.byKids copyE_walk
end Go.Proofs.YtbhgpegcdiohlaaGreatDoor.Tr
