import Derived.Test.YtbhgpegcdiohlaaGreatDoorCpI
namespace Go.Proofs.YtbhgpegcdiohlaaGreatDoor.Tr
open Go Go.RowKit Go.Proofs
set_option linter.unusedVariables false
set_option maxRecDepth 100000
set_option maxHeartbeats 4000000
/-- a module as a value in the blocks from lo to hi -/
def ResM (lo hi : Nat) (m : Mo) (v : Value) (w : World) : Prop := ∃ A l c A1 l1 c1, v = .agg #[.string m.n, .slice A l c, .slice A1 l1 c1] ∧ Sl 1 (strIn w) m.im A l ∧ SlO 1 (OwP lo hi w) A l ∧ Sl 7 (fun x => x.In w) m.ds A1 l1 ∧ SlO 7 (OwD lo hi w) A1 l1
theorem ResM.keep {lo hi : Nat} {m : Mo} {v : Value} {w w' : World} (hk : Kp lo hi w w') (h : ResM lo hi m v w) : ResM lo hi m v w' := by
  obtain ⟨A, l, c, A1, l1, c1, rfl, h1, h2, h3, h4⟩ := h
  exact ⟨A, l, c, A1, l1, c1, rfl, SlT_keep hk h1 h2, h2.mono fun _ _ h => h.keep (Nat.le_refl _) (Nat.le_refl _) hk, SlD_keep hk h3 h4, h4.mono fun _ _ h => h.keep (Nat.le_refl _) (Nat.le_refl _) hk⟩
theorem ResM.is {lo hi : Nat} {m : Mo} {v : Value} {w : World} (h : ResM lo hi m v w) : m.Is w v := by
  obtain ⟨A, l, c, A1, l1, c1, rfl, h1, h2, h3, h4⟩ := h
  exact ⟨A, l, c, A1, l1, c1, rfl, h1, h3⟩
def MPost (m : Mo) (w : World) (e : Ending) (w' : World) : Prop := ∃ v, e = .returned v ∧ Below w.heap.size w w' ∧ ResM w.heap.size w'.heap.size m v w'
theorem isSome3 {w : World} {g o : Nat} {u0 u1 u2 : Value} (e0 : w.cell? ⟨g, o, none⟩ = some u0) (e1 : w.cell? ⟨g, o + 1, none⟩ = some u1) (e2 : w.cell? ⟨g, o + 2, none⟩ = some u2) : ∀ r, r < 3 → (w.cell? ⟨g, o + r, none⟩).isSome = true
  | 0, _ => by rw [Nat.add_zero, e0]; rfl
  | 1, _ => by rw [e1]; rfl
  | 2, _ => by rw [e2]; rfl
  | r + 3, h => by omega
theorem copyM (m : Mo) (w : World) (v : Value) (hv : m.Is w v) (hR : m.Rm) : Calls Tryz.prog 27 #[v] w (MPost m w) := by
  obtain ⟨A, l, c, A1, l1, c1, rfl, h0, h1⟩ := hv
  obtain ⟨n, im, ds⟩ := m
  have X1 := Hd.mk (fun w' (hb : Below w.heap.size w w') => clone61T im w' A l c (Slt_up hb h0) (by rw [h0.1]; exact hR.1))
  have X2 := Hd.mk (fun w' (hb : Below w.heap.size w w') => each62 ds (fun x _ => copyD_any x) w' A1 l1 c1 (SlD_up hb h1) (by rw [h1.1]; exact hR.2.1) hR.2.2)
  clear h0 h1 hR
  go_enter Tryz.func27, Tryz.ntmps27
  go_wp2_with fail
  with_reducible refine ((X1.out _ (up (up (up0 _) _) _)).mono ?_)
  rintro e w3 ⟨A3, n3, c3, rfl, hb3, hs3, ho3⟩
  obtain ⟨w2, hw2⟩ : ∃ w2, w2 = ((w.alloc (.cells #[.string n, .slice A l c, .slice A1 l1 c1] 25 (0, 0))).alloc (.cells #[.string ⟨#[]⟩, .slice none 0 0, .slice none 0 0] 25 (0, 0))) := ⟨_, rfl⟩
  rw [← hw2] at hb3 ho3
  have hz : w2.heap.size = w.heap.size + 1 + 1 := by rw [hw2]; simp
  have f1 : ∀ i, w3.frozen? ⟨w.heap.size, i, none⟩ = false := fun i => by
    rw [hb3.frozen (p := ⟨w.heap.size, i, none⟩) (by show w.heap.size < _; omega), hw2, World.frozen?_alloc_past]
    · exact new_frozenC w _ _ i
    · simp
  have f2 : ∀ i, w3.frozen? ⟨w.heap.size + 1, i, none⟩ = false := fun i => by
    rw [hb3.frozen (p := ⟨w.heap.size + 1, i, none⟩) (by show w.heap.size + 1 < _; omega), hw2]
    have := new_frozenC (w.alloc (.cells #[.string n, .slice A l c, .slice A1 l1 c1] 25 (0, 0))) #[.string ⟨#[]⟩, .slice none 0 0, .slice none 0 0] 25 i
    simp at this ⊢
  have q1 : ∀ i v, (#[.string n, .slice A l c, .slice A1 l1 c1] : Array Value)[i]? = some v → w3.cell? ⟨w.heap.size, i, none⟩ = some v := fun i v hv => by
    rw [hb3.cell (p := ⟨w.heap.size, i, none⟩) (by show w.heap.size < _; omega), hw2, World.cell?_alloc_lt _ _ _ (by simp), new_cell]
    exact hv
  have q2 : ∀ i v, (#[.string ⟨#[]⟩, .slice none 0 0, .slice none 0 0] : Array Value)[i]? = some v → w3.cell? ⟨w.heap.size + 1, i, none⟩ = some v := fun i v hv => by
    rw [hb3.cell (p := ⟨w.heap.size + 1, i, none⟩) (by show w.heap.size + 1 < _; omega), hw2]
    have := new_cell (w.alloc (.cells #[.string n, .slice A l c, .slice A1 l1 c1] 25 (0, 0))) #[.string ⟨#[]⟩, .slice none 0 0, .slice none 0 0] 25 i
    rw [← hv, ← this]
    simp
  have a0 := q1 0 _ rfl
  have a1 := q1 1 _ rfl
  have a2 := q1 2 _ rfl
  have b0 := q2 0 _ rfl
  have b1 := q2 1 _ rfl
  have b2 := q2 2 _ rfl
  have HB : Hd (Below w.heap.size w w3) := ⟨(hw2 ▸ up (up (up0 w) _) _ : Below w.heap.size w w2).trans (hb3.mono (by omega))⟩
  have HS := Hd.mk hs3
  have HO := Hd.mk ho3
  have HZ := Hd.mk hz
  have HSZ := Hd.mk hb3.size
  clear q1 q2 hw2 hb3 hs3 ho3 hz X1
  go_wp2_with fail
  with_reducible refine ((X2.out _ (HB.out.setCell (Nat.le_refl _) _)).mono ?_)
  rintro e w4 ⟨A4, n4, c4, rfl, hb4, hs4, ho4⟩
  obtain ⟨w5, hw5⟩ : ∃ w5, w5 = w3.setCell ⟨w.heap.size, 1, none⟩ (.slice A3 n3 c3) := ⟨_, rfl⟩
  rw [← hw5] at hb4 ho4
  have hz5 : w5.heap.size = w3.heap.size := by rw [hw5]; simp
  have hs2 : w.heap.size + 1 < w3.heap.size := by have := HZ.out; have := HSZ.out; omega
  have k5 : Kp (w.heap.size + 1 + 1) w3.heap.size w3 w5 := fun q h1 _ => by
    rw [hw5, Below.heap_setCell _ _ _ _ (by show q ≠ w.heap.size; omega)]
  have k4 : Kp (w.heap.size + 1 + 1) w3.heap.size w3 w4 := fun q h1 h2 => (hb4.block q (by omega)).trans (k5 q h1 h2)
  have ce : ∀ B r, B < w3.heap.size → w4.cell? ⟨B, r, none⟩ = w5.cell? ⟨B, r, none⟩ := fun B r h => hb4.cell (p := ⟨B, r, none⟩) (by show B < _; omega)
  have fe : ∀ B r, B < w3.heap.size → w4.frozen? ⟨B, r, none⟩ = w3.frozen? ⟨B, r, none⟩ := fun B r h => (hb4.frozen (p := ⟨B, r, none⟩) (by show B < _; omega)).trans (by rw [hw5]; exact World.frozen?_setCell _ _ _ _)
  have far : ∀ r, w5.cell? ⟨w.heap.size + 1, r, none⟩ = w3.cell? ⟨w.heap.size + 1, r, none⟩ := fun r => by
    rw [hw5, World.cell?_setCell_far w3 ⟨w.heap.size, 1, none⟩ ⟨w.heap.size + 1, r, none⟩ _ (by show w.heap.size ≠ w.heap.size + 1; omega)]
  have g0 : w4.cell? ⟨w.heap.size, 0, none⟩ = some (.string n) := by rw [ce _ _ (by omega), hw5]; exact cell_set_off (by decide) a0
  have g1 : w4.cell? ⟨w.heap.size, 1, none⟩ = some (.slice A3 n3 c3) := by rw [ce _ _ (by omega), hw5]; exact World.cell?_setCell_same _ _ _ a1
  have g2 : w4.cell? ⟨w.heap.size, 2, none⟩ = some (.slice A1 l1 c1) := by rw [ce _ _ (by omega), hw5]; exact cell_set_off (by decide) a2
  have e0 : w4.cell? ⟨w.heap.size + 1, 0, none⟩ = some (.string ⟨#[]⟩) := by rw [ce _ _ (by omega), far]; exact b0
  have e1 : w4.cell? ⟨w.heap.size + 1, 1, none⟩ = some (.slice none 0 0) := by rw [ce _ _ (by omega), far]; exact b1
  have e2 : w4.cell? ⟨w.heap.size + 1, 2, none⟩ = some (.slice none 0 0) := by rw [ce _ _ (by omega), far]; exact b2
  have p1 : ∀ i, w4.frozen? ⟨w.heap.size, i, none⟩ = false := fun i => (fe _ _ (by omega)).trans (f1 i)
  have p2 : ∀ i, w4.frozen? ⟨w.heap.size + 1, i, none⟩ = false := fun i => (fe _ _ (by omega)).trans (f2 i)
  have HB4 : Hd (Below w.heap.size w w4) := ⟨(hw5 ▸ HB.out.setCell (Nat.le_refl _) _ : Below w.heap.size w w5).trans (hb4.mono (by omega))⟩
  have HO3 : Hd (SlO 1 (OwP (w.heap.size + 2) w3.heap.size w4) A3 n3) := ⟨HO.out.mono fun _ _ h => h.keep (by have := HZ.out; omega) (Nat.le_refl _) (by rw [HZ.out]; exact k4)⟩
  have HS3 : Hd (Sl 1 (strIn w4) im A3 n3) := ⟨SlT_keep (lo := w.heap.size + 2) (hi := w3.heap.size) k4 HS.out (HO.out.mono fun _ _ h => h.keep (by have := HZ.out; omega) (Nat.le_refl _) (fun _ _ _ => rfl))⟩
  have HO4 : Hd (SlO 7 (OwD (w.heap.size + 2) w4.heap.size w4) A4 n4) := ⟨ho4.mono fun _ _ h => h.keep (by have := HZ.out; have := HSZ.out; omega) (Nat.le_refl _) (fun _ _ _ => rfl)⟩
  have HS4 := Hd.mk hs4
  have HSZ4 : Hd (w3.heap.size ≤ w4.heap.size) := ⟨by have := hb4.size; omega⟩
  clear a0 a1 a2 b0 b1 b2 f1 f2 hw5 hb4 hs4 ho4 hz5 k5 k4 ce fe far X2 HS HO HB
  go_wp2_with fail
  obtain ⟨W, hW⟩ : ∃ W : World, W = ((((w4.setCell ⟨w.heap.size, 2, none⟩ (.slice A4 n4 c4)).setCell ⟨w.heap.size + 1, 0, none⟩ (.string n)).setCell ⟨w.heap.size + 1, 1, none⟩ (.slice A3 n3 c3)).setCell ⟨w.heap.size + 1, 2, none⟩ (.slice A4 n4 c4)) := ⟨_, rfl⟩
  rw [← hW]
  have hWs : W = (w4.setCell ⟨w.heap.size, 2, none⟩ (.slice A4 n4 c4)).setCells (w.heap.size + 1) 0 [.string n, .slice A3 n3 c3, .slice A4 n4 c4] := hW
  clear hW
  have far := fun i => World.cell?_setCell_far w4 ⟨w.heap.size, 2, none⟩ ⟨w.heap.size + 1, i, none⟩ (.slice A4 n4 c4) (by show w.heap.size ≠ w.heap.size + 1; omega)
  obtain ⟨hsz, hbl, hin, hout, hfr⟩ := stored_row (vs := [.string n, .slice A3 n3 c3, .slice A4 n4 c4]) hWs (isSome3 ((far 0).trans e0) ((far 1).trans e1) ((far 2).trans e2))
  have hk : Kp (w.heap.size + 2) w4.heap.size w4 W := fun q h1 _ => by
    rw [hbl q (by omega), Below.heap_setCell _ _ _ _ (by show q ≠ w.heap.size; omega)]
  have hk3 : Kp (w.heap.size + 2) w3.heap.size w4 W := fun q h1 h2 => hk q h1 (Nat.lt_of_lt_of_le h2 HSZ4.out)
  refine bodyPost_ret (results_cell_mid rfl _ _ (w.heap.size + 1) 0 [.string n, .slice A3 n3 c3, .slice A4 n4 c4] _ rfl hin Tryz.underlying25 rfl (by kernel_rfl)) rfl ?_
  have hsz' : W.heap.size = w4.heap.size := by rw [hsz]; simp
  refine ⟨_, rfl, below_setRow (HB4.out.setCell (Nat.le_refl _) _) hsz hbl (Nat.le_succ _) hWs, A3, n3, c3, A4, n4, c4, rfl, SlT_keep hk3 HS3.out HO3.out, HO3.out.mono fun _ _ h => h.keep (by omega) (by rw [hsz']; exact HSZ4.out) hk3, SlD_keep hk HS4.out HO4.out, HO4.out.mono fun _ _ h => h.keep (by omega) (by rw [hsz']; exact Nat.le_refl _) hk⟩
end Go.Proofs.YtbhgpegcdiohlaaGreatDoor.Tr
