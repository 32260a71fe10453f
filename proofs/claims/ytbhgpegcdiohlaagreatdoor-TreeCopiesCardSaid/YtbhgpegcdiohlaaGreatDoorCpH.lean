import Derived.Test.YtbhgpegcdiohlaaGreatDoorCpG
namespace Go.Proofs.YtbhgpegcdiohlaaGreatDoor.Tr
open Go Go.RowKit Go.Proofs
set_option linter.unusedVariables false
set_option maxRecDepth 100000
/-! ### What spoiling changes: numbers and texts in the blocks from lo to hi alone -/
structure Sp (lo hi : Nat) (w w' : World) : Prop where
  os : w'.os = w.os
  tape : w'.tape = w.tape
  output : w'.output = w.output
  size : w.heap.size ≤ w'.heap.size
  far : ∀ b, b < w.heap.size → b < lo ∨ hi ≤ b → w'.heap[b]? = w.heap[b]?
  fr : ∀ B r, lo ≤ B → B < hi → w'.frozen? ⟨B, r, none⟩ = w.frozen? ⟨B, r, none⟩
  int : ∀ B r n, lo ≤ B → B < hi → w.cell? ⟨B, r, none⟩ = some (.int .i64 n) → ∃ n', w'.cell? ⟨B, r, none⟩ = some (.int .i64 n')
  str : ∀ B r s, lo ≤ B → B < hi → w.cell? ⟨B, r, none⟩ = some (.string s) → ∃ s', w'.cell? ⟨B, r, none⟩ = some (.string s')
  sl : ∀ B r A l c, lo ≤ B → B < hi → w.cell? ⟨B, r, none⟩ = some (.slice A l c) → w'.cell? ⟨B, r, none⟩ = some (.slice A l c)
theorem Sp.refl (lo hi : Nat) (w : World) : Sp lo hi w w := ⟨rfl, rfl, rfl, Nat.le_refl _, fun _ _ _ => rfl, fun _ _ _ _ => rfl, fun _ _ n _ _ h => ⟨n, h⟩, fun _ _ s _ _ h => ⟨s, h⟩, fun _ _ _ _ _ _ _ h => h⟩
theorem Sp.trans {lo hi : Nat} {a b c : World} (h : Sp lo hi a b) (g : Sp lo hi b c) : Sp lo hi a c := by
  refine ⟨g.os.trans h.os, g.tape.trans h.tape, g.output.trans h.output, Nat.le_trans h.size g.size, fun q hq hf => (g.far q (Nat.lt_of_lt_of_le hq h.size) hf).trans (h.far q hq hf), fun B r h1 h2 => (g.fr B r h1 h2).trans (h.fr B r h1 h2), fun B r n h1 h2 h3 => ?_, fun B r s h1 h2 h3 => ?_, fun B r A l c h1 h2 h3 => g.sl B r A l c h1 h2 (h.sl B r A l c h1 h2 h3)⟩
  · obtain ⟨n', h4⟩ := h.int B r n h1 h2 h3
    exact g.int B r n' h1 h2 h4
  · obtain ⟨s', h4⟩ := h.str B r s h1 h2 h3
    exact g.str B r s' h1 h2 h4
theorem Sp.cell_kind {lo hi : Nat} {w : World} {B o : Nat} {u v : Value} (h1 : lo ≤ B) (h2 : B < hi) (hc : w.cell? ⟨B, o, none⟩ = some u) (hk : (∃ n m, u = .int .i64 n ∧ v = .int .i64 m) ∨ ∃ s t, u = .string s ∧ v = .string t) : Sp lo hi w (w.setCell ⟨B, o, none⟩ v) := by
  have same : (w.setCell ⟨B, o, none⟩ v).cell? ⟨B, o, none⟩ = some v := World.cell?_setCell_same _ _ _ hc
  have other : ∀ B' r, ¬ (B' = B ∧ r = o) → (w.setCell ⟨B, o, none⟩ v).cell? ⟨B', r, none⟩ = w.cell? ⟨B', r, none⟩ := fun B' r h => World.cell?_setCell_other _ _ _ _ (by intro e; injection e with e1 e2; exact h ⟨e1.symm, e2.symm⟩)
  refine ⟨rfl, rfl, rfl, by simp, fun b _ hf => Below.heap_setCell _ _ _ _ (by show b ≠ B; omega), fun B' r _ _ => World.frozen?_setCell _ _ _ _, fun B' r n _ _ h => ?_, fun B' r s _ _ h => ?_, fun B' r A l c _ _ h => ?_⟩
  · by_cases e : B' = B ∧ r = o
    · obtain ⟨rfl, rfl⟩ := e
      rw [hc] at h
      rcases hk with ⟨n1, m1, rfl, rfl⟩ | ⟨s, t, rfl, rfl⟩
      · exact ⟨m1, same⟩
      · cases h
    · exact ⟨n, (other B' r e).trans h⟩
  · by_cases e : B' = B ∧ r = o
    · obtain ⟨rfl, rfl⟩ := e
      rw [hc] at h
      rcases hk with ⟨n1, m1, rfl, rfl⟩ | ⟨s, t, rfl, rfl⟩
      · cases h
      · exact ⟨t, same⟩
    · exact ⟨s, (other B' r e).trans h⟩
  · by_cases e : B' = B ∧ r = o
    · obtain ⟨rfl, rfl⟩ := e
      rw [hc] at h
      rcases hk with ⟨n1, m1, rfl, rfl⟩ | ⟨s, t, rfl, rfl⟩ <;> cases h
    · exact (other B' r e).trans h
theorem Sp.of_below {lo hi : Nat} {w w' : World} (h : Below w.heap.size w w') (hh : hi ≤ w.heap.size) : Sp lo hi w w' := by
  have c : ∀ B r, B < hi → w'.cell? ⟨B, r, none⟩ = w.cell? ⟨B, r, none⟩ := fun B r hB => h.cell (p := ⟨B, r, none⟩) (by show B < _; omega)
  exact ⟨h.os, h.tape, h.output, h.size, fun b hb _ => h.block b hb, fun B r _ h2 => h.frozen (p := ⟨B, r, none⟩) (by show B < _; omega), fun B r n _ h2 g => ⟨n, (c B r h2).trans g⟩, fun B r s _ h2 g => ⟨s, (c B r h2).trans g⟩, fun B r A l k _ h2 g => (c B r h2).trans g⟩
theorem Sp.below {lo hi : Nat} {w w' : World} (h : Sp lo hi w w') (hl : lo ≤ w.heap.size) : Below lo w w' := ⟨h.os, h.tape, h.output, h.size, fun k hk => h.far k (by omega) (.inl hk)⟩
theorem OwE.sp {lo hi : Nat} {w w' : World} (hk : Sp lo hi w w') {B o : Nat} (h : OwE lo hi w B o) : OwE lo hi w' B o := by
  induction h with
  | mk B o n s A l c B' o' h1 h2 h3 h4 h5 h6 h7 h8 h9 ih =>
    obtain ⟨n', g4⟩ := hk.int B _ n h1 h2 h4
    obtain ⟨s', g5⟩ := hk.str B _ s h1 h2 h5
    exact .mk B o n' s' A l c B' o' h1 h2 (fun r => (hk.fr B r h1 h2).trans (h3 r)) g4 g5 (hk.sl B _ A l c h1 h2 h6) h7 h8 ih
theorem OwS.sp {lo hi : Nat} {w w' : World} (hk : Sp lo hi w w') {B o : Nat} (h : OwS lo hi w B o) : OwS lo hi w' B o := by
  induction h with
  | mk B o n s A l c A1 l1 c1 B1 o1 A2 l2 c2 B2 o2 h1 h2 h3 h4 h5 h6 h7 h8 g6 g7 g8 g9 k6 k7 k8 k9 ih1 ih2 =>
    obtain ⟨n', g4⟩ := hk.int B _ n h1 h2 h4
    obtain ⟨s', g5⟩ := hk.str B _ s h1 h2 h5
    exact .mk B o n' s' A l c A1 l1 c1 B1 o1 A2 l2 c2 B2 o2 h1 h2 (fun r => (hk.fr B r h1 h2).trans (h3 r)) g4 g5 (hk.sl B _ A l c h1 h2 h6) h7 (h8.mono fun _ _ h => h.sp hk) (hk.sl B _ A1 l1 c1 h1 h2 g6) g7 g8 ih1 (hk.sl B _ A2 l2 c2 h1 h2 k6) k7 k8 ih2
theorem OwP.sp {lo hi : Nat} {w w' : World} (hk : Sp lo hi w w') {B o : Nat} (h : OwP lo hi w B o) : OwP lo hi w' B o := by
  obtain ⟨h1, h2, h3, s, h4⟩ := h
  exact ⟨h1, h2, fun r => (hk.fr B r h1 h2).trans (h3 r), hk.str B _ s h1 h2 h4⟩
theorem OwD.sp {lo hi : Nat} {w w' : World} (hk : Sp lo hi w w') {B o : Nat} (h : OwD lo hi w B o) : OwD lo hi w' B o := by
  obtain ⟨h1, h2, h3, ⟨n, h4⟩, ⟨A, l, c, h5, h6, h7⟩, ⟨A1, l1, c1, g5, g6, g7⟩, ⟨A2, l2, c2, k5, k6, k7⟩⟩ := h
  exact ⟨h1, h2, fun r => (hk.fr B r h1 h2).trans (h3 r), hk.int B _ n h1 h2 h4, ⟨A, l, c, hk.sl B _ A l c h1 h2 h5, h6, h7.mono fun _ _ h => h.sp hk⟩, ⟨A1, l1, c1, hk.sl B _ A1 l1 c1 h1 h2 g5, g6, g7.mono fun _ _ h => h.sp hk⟩, ⟨A2, l2, c2, hk.sl B _ A2 l2 c2 h1 h2 k5, k6, k7.mono fun _ _ h => h.sp hk⟩⟩
end Go.Proofs.YtbhgpegcdiohlaaGreatDoor.Tr
