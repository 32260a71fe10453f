import Derived.Test.YtbhgpegcdiohlaaGreatDoorRfA
import Derived.Test.YtbhgpegcdiohlaaGreatDoorTrM
namespace Go.Proofs.YtbhgpegcdiohlaaGreatDoor.Tr
open Go Go.RowKit Go.Proofs
set_option linter.unusedVariables false
set_option maxRecDepth 100000
set_option maxHeartbeats 1000000
theorem De.In_copy {w w' : World} {x : De} {B p g q : Nat} (h : x.In w B p) (hb : Below w.heap.size w w') (hc : ∀ (r : Nat) (u : Value), r < 7 → w.cell? ⟨B, p + r, none⟩ = some u → w'.cell? ⟨g, q + r, none⟩ = some u) : x.In w' g q := by
  obtain ⟨v0, v1, v2, v3, v4, v5, v6, v7, v8, v9, v10, v11, v12, b0, b1, b2, b3, b4, b5, b6, ax⟩ := De.In_Is h
  refine De.put (De.Is_below hb ax) fun i v hv => ?_
  match i, hv with
  | 0, hv => cases hv; exact hc 0 _ (by decide) b0
  | 1, hv => cases hv; exact hc 1 _ (by decide) b1
  | 2, hv => cases hv; exact hc 2 _ (by decide) b2
  | 3, hv => cases hv; exact hc 3 _ (by decide) b3
  | 4, hv => cases hv; exact hc 4 _ (by decide) b4
  | 5, hv => cases hv; exact hc 5 _ (by decide) b5
  | 6, hv => cases hv; exact hc 6 _ (by decide) b6
  | n + 7, hv => simp at hv
theorem De.cell_one {w : World} {x : De} {B p : Nat} (h : x.In w B p) (r : Nat) (hr : r < 7) : ∃ u, w.cell? ⟨B, p + r, none⟩ = some u ∧ u.oneCell' = true := by
  obtain ⟨v0, v1, v2, v3, v4, v5, v6, v7, v8, v9, v10, v11, v12, b0, b1, b2, b3, b4, b5, b6, ax⟩ := De.In_Is h
  match r, hr with
  | 0, _ => exact ⟨_, b0, rfl⟩
  | 1, _ => exact ⟨_, b1, rfl⟩
  | 2, _ => exact ⟨_, b2, rfl⟩
  | 3, _ => exact ⟨_, b3, rfl⟩
  | 4, _ => exact ⟨_, b4, rfl⟩
  | 5, _ => exact ⟨_, b5, rfl⟩
  | 6, _ => exact ⟨_, b6, rfl⟩
/-- the cells of a list of declarations -/
theorem De.cells_of {w : World} {l : List De} {A : Option Addr} {n : Nat} (h : Sl 7 (fun x => x.In w) l A n) : ∃ news : List Value, news.length = n * 7 ∧ (∀ u ∈ news, u.oneCell' = true) ∧ (0 < n → ∃ B o, A = some ⟨B, o, none⟩ ∧ (∀ (j : Nat) (u : Value), news[j]? = some u → w.cell? ((⟨B, o, none⟩ : Addr).add j) = some u) ∧ ∀ (i : Nat) (x : De), l[i]? = some x → x.In w B (o + i * 7)) := by
  rcases Nat.eq_zero_or_pos n with hz | hp
  · exact ⟨[], by simp [hz], by simp, fun h => by omega⟩
  · obtain ⟨B, o, hA, g⟩ := h.at hp
    have hone : ∀ j, j < n * 7 → ∃ u, w.cell? ⟨B, o + j, none⟩ = some u ∧ u.oneCell' = true := by
      intro j hj
      have hlt : j / 7 < l.length := by rw [← h.1]; omega
      obtain ⟨u, h1, h2⟩ := De.cell_one (g (j / 7) _ (List.getElem?_eq_getElem hlt)) (j % 7) (Nat.mod_lt _ (by decide))
      refine ⟨u, ?_, h2⟩
      rw [← h1]
      congr 2
      omega
    refine ⟨(List.range (n * 7)).map fun j => (w.cell? ⟨B, o + j, none⟩).getD undef, by simp, ?_, fun _ => ⟨B, o, hA, ?_, g⟩⟩
    · intro u hu
      obtain ⟨j, hj, rfl⟩ := List.mem_map.1 hu
      obtain ⟨u, h1, h2⟩ := hone j (List.mem_range.1 hj)
      rw [h1]
      exact h2
    · intro j u hj
      rw [List.getElem?_map] at hj
      obtain ⟨k, hk, rfl⟩ := Option.map_eq_some_iff.1 hj
      obtain ⟨hlt, rfl⟩ := List.getElem?_eq_some_iff.1 hk
      simp only [List.length_range] at hlt
      obtain ⟨u, h1, h2⟩ := hone j hlt
      rw [Go.WideShapes.add_plain]
      simp only [List.getElem_range]
      rw [h1]
      rfl
theorem errDs_snoc (l : List De) (d : De) : errDs (l ++ [d]) = seqI (errDs l) (errD d) := by
  induction l with
  | nil => simp only [List.nil_append, errDs]; unfold seqI; split <;> simp_all
  | cons x l ih => simp only [List.cons_append, errDs, ih]; unfold seqI; split <;> rfl
theorem seq_ne {a b : Int} (h : a ≠ 0 ∨ b ≠ 0) : seqI a b ≠ 0 := by unfold seqI; split <;> omega
theorem seq_first {a b c x y : Int} (h : seqI a (seqI b (seqI c (seqI 0 x))) ≠ 0) : seqI a (seqI b (seqI c (seqI 0 (seqI x y)))) = seqI a (seqI b (seqI c (seqI 0 x))) := by
  by_cases h1 : a = 0
  · by_cases h2 : b = 0
    · by_cases h3 : c = 0
      · by_cases h4 : x = 0
        · subst h1 h2 h3 h4; exact absurd rfl h
        · rw [seqI_n h4]
      · rw [seqI_n h3, seqI_n h3]
    · rw [seqI_n h2, seqI_n h2]
  · rw [seqI_n h1, seqI_n h1]
theorem seq_second {a b c x y : Int} (h : seqI a (seqI b (seqI c (seqI 0 x))) = 0) : seqI a (seqI b (seqI c (seqI 0 (seqI x y)))) = seqI a (seqI 0 (seqI 0 (seqI 0 (seqI y 0)))) := by
  have hz : seqI y 0 = y := by unfold seqI; split <;> simp_all
  by_cases h1 : a = 0
  · by_cases h2 : b = 0
    · by_cases h3 : c = 0
      · by_cases h4 : x = 0
        · subst h1 h2 h3 h4
          rw [hz]
          rfl
        · subst h1 h2 h3; rw [seqI_0 rfl, seqI_0 rfl, seqI_0 rfl, seqI_0 rfl] at h; exact absurd h h4
      · subst h1 h2; rw [seqI_0 rfl, seqI_0 rfl, seqI_n h3] at h; exact absurd h h3
    · subst h1; rw [seqI_0 rfl, seqI_n h2] at h; exact absurd h h2
  · rw [seqI_n h1] at h; exact absurd h h1
theorem tree_first (m : Mo) (d : De) (wm : m.Wf) (wd : d.Wf) (w : World) (vm vd : Value) (hm : m.Is w vm) (hd : d.Is w vd) (hr : m.ds.length * 112 ≤ 140737488351232) : Calls Tryz.prog 7 #[vm, vd] w (Says true w) := by
  have hm' := hm
  have hd' := hd
  obtain ⟨A0, l0, c0, B0, m0, d0, rfl, s1, s2⟩ := hm
  obtain ⟨A1, l1, c1, A2, l2, c2, A3, l3, c3, rfl, t1, t2, t3⟩ := hd
  obtain ⟨news, n1, n2, n3⟩ := De.cells_of s2
  have hlen := s2.1
  refine first_walk m.n A0 B0 l0 c0 m0 d0 d.k d.x d.n d.t A1 A2 A3 l1 c1 l2 c2 l3 c3 news w (errM m) (errM ⟨m.n, m.im, m.ds ++ [d]⟩) (errM ⟨m.n, [], [d]⟩) n1 n2 (fun h => ?_) (by omega) ?_ ?_ ?_ ?_ ?_ ?_
  · obtain ⟨B, o, h1, h2, _⟩ := n3 h
    exact ⟨B, o, h1, h2⟩
  · exact fun w' hb => right_any m wm _ _ (Mo.Is_below hb hm')
  · intro w' base g cap hb hown w'' hb'
    refine right_any ⟨m.n, m.im, m.ds ++ [d]⟩ ⟨wm.1, wm.2.1, fun x hx => ?_⟩ _ _ (Mo.Is_below hb' ?_)
    · rcases List.mem_append.1 hx with h | h
      · exact wm.2.2 x h
      · rw [List.mem_singleton.1 h]; exact wd
    refine ⟨_, _, _, _, _, _, rfl, Slt_up hb s1, by simp [hlen], by omega, fun _ => ⟨g, 0, rfl, fun i x hx => ?_⟩⟩
    rcases Nat.lt_or_ge i m.ds.length with hlt | hge
    · rw [List.getElem?_append_left hlt] at hx
      obtain ⟨B, o, h1, h2, h3⟩ := n3 (by omega)
      refine De.In_copy (h3 i x hx) hb fun r u hr hu => ?_
      have hc := World.ownsRow.cellAt hown (i * 7 + r) (by omega)
      rw [List.getElem?_append_left (by rw [n1]; omega)] at hc
      have hj : i * 7 + r < news.length := by rw [n1]; omega
      have h4 := h2 (i * 7 + r) _ (List.getElem?_eq_getElem hj)
      rw [Go.WideShapes.add_plain, show o + (i * 7 + r) = o + i * 7 + r by omega, hu] at h4
      rw [show 0 + i * 7 + r = i * 7 + r by omega, hc, List.getElem?_eq_getElem hj]
      exact h4.symm
    · rw [List.getElem?_append_right hge] at hx
      have hi : i = m.ds.length := by
        have := (List.getElem?_eq_some_iff.1 hx).1
        simp at this
        omega
      subst hi
      simp at hx
      subst hx
      refine De.put (De.Is_below hb hd') fun r v hv => ?_
      have hr7 : r < 7 := (Array.getElem?_eq_some_iff.1 hv).1
      have hc := World.ownsRow.cellAt hown (m.ds.length * 7 + r) (by omega)
      rw [List.getElem?_append_right (by rw [n1]; omega), n1, ← hlen, show m0 * 7 + r - m0 * 7 = r by omega] at hc
      rw [← hlen, show 0 + m0 * 7 + r = m0 * 7 + r by omega, hc, ← hv, ← Array.getElem?_toList]
  · intro w' G hb hc
    refine right_any ⟨m.n, [], [d]⟩ ⟨wm.1, by simp, fun x hx => by rw [List.mem_singleton.1 hx]; exact wd⟩ _ _ ⟨_, _, _, _, _, _, rfl, ⟨rfl, by omega, fun h => by omega⟩, rfl, by omega, fun _ => ⟨G, 0, rfl, fun i x hx => ?_⟩⟩
    have hi : i = 0 := by
      have := (List.getElem?_eq_some_iff.1 hx).1
      simp at this
      omega
    subst hi
    simp at hx
    subst hx
    refine De.put (De.Is_below hb hd') fun r v hv => ?_
    rw [show 0 + 0 * 7 + r = r by omega]
    exact hc r v (by rw [← Array.getElem?_toList] at hv; exact hv)
  · intro h
    unfold errM
    dsimp only
    refine seq_ne (.inr (seq_ne (.inr (seq_ne (.inr (seq_ne (.inl ?_)))))))
    rw [if_neg (by simp; omega)]
    decide
  · intro h hp
    unfold errM at hp ⊢
    dsimp only at hp ⊢
    rw [if_pos (show m.ds.length ≤ 64 by omega)] at hp ⊢
    rw [if_pos (show (m.ds ++ [d]).length ≤ 64 by simp; omega), errDs_snoc]
    exact seq_first hp
  · intro h hp
    unfold errM at hp ⊢
    dsimp only at hp ⊢
    rw [if_pos (show m.ds.length ≤ 64 by omega)] at hp
    rw [if_pos (show (m.ds ++ [d]).length ≤ 64 by simp; omega), errDs_snoc, if_pos (show ([] : List ByteArray).length ≤ 16 by decide), if_pos (show [d].length ≤ 64 by simp)]
    simp only [errN, errDs]
    exact seq_second hp
end Go.Proofs.YtbhgpegcdiohlaaGreatDoor.Tr
