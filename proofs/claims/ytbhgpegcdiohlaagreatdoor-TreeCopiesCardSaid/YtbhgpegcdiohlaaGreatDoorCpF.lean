import Derived.Test.YtbhgpegcdiohlaaGreatDoorCpE
import Derived.Test.YtbhgpegcdiohlaaGreatDoorTrP
namespace Go.Proofs.YtbhgpegcdiohlaaGreatDoor.Tr
open Go Go.RowKit Go.Proofs
set_option linter.unusedVariables false
set_option maxRecDepth 100000
set_option maxHeartbeats 8000000
/-- what a call has made, as later steps see it -/
def ResE (N : Nat) (l : List Ex) (v : Value) (w : World) : Prop := ∃ A n c, v = .slice A n c ∧ Sl 7 (fun x => x.In w) l A n ∧ SlO 7 (OwE N w.heap.size w) A n
def ResS (N : Nat) (l : List St) (v : Value) (w : World) : Prop := ∃ A n c, v = .slice A n c ∧ Sl 5 (fun x => x.In w) l A n ∧ SlO 5 (OwS N w.heap.size w) A n
def ResP (N : Nat) (l : List Pa) (v : Value) (w : World) : Prop := ∃ A n c, v = .slice A n c ∧ Sl 2 (fun x => x.In w) l A n ∧ SlO 2 (OwP N w.heap.size w) A n
theorem ResE.keep {N : Nat} {l : List Ex} {v : Value} {w w' : World} (hs : w.heap.size ≤ w'.heap.size) (hk : Kp N w.heap.size w w') (h : ResE N l v w) : ResE N l v w' := by
  obtain ⟨A, n, c, rfl, s, o⟩ := h
  exact ⟨A, n, c, rfl, SlE_keep hk s o, o.mono fun _ _ h => h.keep (Nat.le_refl _) hs hk⟩
theorem ResS.keep {N : Nat} {l : List St} {v : Value} {w w' : World} (hs : w.heap.size ≤ w'.heap.size) (hk : Kp N w.heap.size w w') (h : ResS N l v w) : ResS N l v w' := by
  obtain ⟨A, n, c, rfl, s, o⟩ := h
  exact ⟨A, n, c, rfl, SlS_keep hk s o, o.mono fun _ _ h => h.keep (Nat.le_refl _) hs hk⟩
theorem ResP.keep {N : Nat} {l : List Pa} {v : Value} {w w' : World} (hs : w.heap.size ≤ w'.heap.size) (hk : Kp N w.heap.size w w') (h : ResP N l v w) : ResP N l v w' := by
  obtain ⟨A, n, c, rfl, s, o⟩ := h
  exact ⟨A, n, c, rfl, SlP_keep hk s o, o.mono fun _ _ h => h.keep (Nat.le_refl _) hs hk⟩
def PPost (l : List Pa) (w : World) (e : Ending) (w' : World) : Prop := ∃ (A' : Option Addr) (n c' : Nat), e = .returned (.slice A' n c') ∧ Below w.heap.size w w' ∧ Sl 2 (fun x => x.In w') l A' n ∧ SlO 2 (OwP w.heap.size w'.heap.size w') A' n
theorem clone64P (ps : List Pa) (w : World) (A : Option Addr) (l c : Nat) (hs : Sl 2 (fun x => x.In w) ps A l) (hR : l * 24 ≤ 140737488351232) : Calls Tryz.prog 64 #[.slice A l c] w (PPost ps w) := by
  have hone : ∀ (x : Pa) B o, x.In w B o → ∀ r, r < 2 → ∃ u, w.cell? ⟨B, o + r, none⟩ = some u ∧ u.oneCell' = true := fun x B o h r hr => by
    match r, hr with
    | 0, _ => exact ⟨_, h.1, rfl⟩
    | 1, _ => exact ⟨_, h.2, rfl⟩
  obtain ⟨news, n1, n2, n3, n4⟩ := cells_gen (by decide) hone hs
  refine (clone64 w A l c news n1 n2 n3 hR).mono ?_
  rintro e w' ⟨A', c', rfl, hb, hg⟩
  obtain ⟨h1, h2, h3⟩ := hs
  refine ⟨A', l, c', rfl, hb, ⟨h1, h2, fun hp => ?_⟩, fun hp => ?_⟩
  · obtain ⟨g, e1, g1, g2, g3, g4⟩ := hg hp
    obtain ⟨B, o, hA, hi⟩ := h3 hp
    refine ⟨g, 0, e1, fun i x hx => ?_⟩
    have hil : i < l := by rw [h1]; exact (List.getElem?_eq_some_iff.1 hx).1
    obtain ⟨a0, a1⟩ := hi i x hx
    constructor
    · rw [Nat.zero_add, g3 (i * 2) (by omega), n4 B o hA (i * 2) (by omega)]
      exact a0
    · rw [Nat.zero_add, g3 (i * 2 + 1) (by omega), n4 B o hA (i * 2 + 1) (by omega)]
      exact a1
  · obtain ⟨g, e1, g1, g2, g3, g4⟩ := hg hp
    obtain ⟨B, o, hA, hi⟩ := h3 hp
    refine ⟨g, 0, e1, fun i hil => ?_⟩
    obtain ⟨x, hx⟩ : ∃ x, ps[i]? = some x := ⟨_, List.getElem?_eq_getElem (by omega)⟩
    obtain ⟨a0, a1⟩ := hi i x hx
    refine ⟨g1, g2, g4, x.n, ?_⟩
    rw [Nat.zero_add, g3 (i * 2) (by omega), n4 B o hA (i * 2) (by omega)]
    exact a0
/-- the two boxes of a copying call: what was handed in, and the answer's -/
structure CM (N o3 o4 o5 : Nat) (fix : List Value) (w0 : World) (x3 x4 x5 : Value) (w : World) : Prop where
  below : Below N w0 w
  size : N + 2 ≤ w.heap.size
  fr1 : ∀ r, w.frozen? ⟨N, r, none⟩ = false
  fr2 : ∀ r, w.frozen? ⟨N + 1, r, none⟩ = false
  fx : w.rangeAt N 0 fix
  c3 : w.cell? ⟨N, o3, none⟩ = some x3
  c4 : w.cell? ⟨N, o4, none⟩ = some x4
  c5 : w.cell? ⟨N, o5, none⟩ = some x5
  z : ∀ r, r < o5 + 1 → (w.cell? ⟨N + 1, r, none⟩).isSome = true
theorem CM.call {N o3 o4 o5 : Nat} {fix : List Value} {w0 : World} {x3 x4 x5 : Value} {w w' : World} (h : CM N o3 o4 o5 fix w0 x3 x4 x5 w) (hb : Below w.heap.size w w') : CM N o3 o4 o5 fix w0 x3 x4 x5 w' := by
  have hs := h.size
  refine ⟨h.below.trans (hb.mono (by omega)), Nat.le_trans hs hb.size, fun r => (hb.frozen (p := ⟨N, r, none⟩) (by show N < _; omega)).trans (h.fr1 r), fun r => (hb.frozen (p := ⟨N + 1, r, none⟩) (by show N + 1 < _; omega)).trans (h.fr2 r), fun j v hv => keep hb (h.fx j v hv), keep hb h.c3, keep hb h.c4, keep hb h.c5, fun r hr => ?_⟩
  rw [hb.cell (p := ⟨N + 1, r, none⟩) (by show N + 1 < _; omega)]
  exact h.z r hr
theorem cell_set_off {w : World} {N o r : Nat} {v u : Value} (hne : r ≠ o) (h : w.cell? ⟨N, r, none⟩ = some u) : (w.setCell ⟨N, o, none⟩ v).cell? ⟨N, r, none⟩ = some u := by
  rw [World.cell?_setCell_other _ _ _ _ (by intro e; injection e with e1 e2; exact hne e2.symm)]
  exact h
theorem CM.set {N o3 o4 o5 : Nat} {fix : List Value} {w0 : World} {x3 x4 x5 : Value} {w : World} (h : CM N o3 o4 o5 fix w0 x3 x4 x5 w) {o : Nat} (v : Value) (ho : fix.length ≤ o) {y3 y4 y5 : Value}
    (h3 : (w.setCell ⟨N, o, none⟩ v).cell? ⟨N, o3, none⟩ = some y3) (h4 : (w.setCell ⟨N, o, none⟩ v).cell? ⟨N, o4, none⟩ = some y4) (h5 : (w.setCell ⟨N, o, none⟩ v).cell? ⟨N, o5, none⟩ = some y5) : CM N o3 o4 o5 fix w0 y3 y4 y5 (w.setCell ⟨N, o, none⟩ v) := by
  refine ⟨h.below.setCell (Nat.le_refl _) v, by simpa using h.size, fun r => by rw [World.frozen?_setCell]; exact h.fr1 r, fun r => by rw [World.frozen?_setCell]; exact h.fr2 r, fun j u hu => ?_, h3, h4, h5, fun r hr => ?_⟩
  · exact cell_set_off (by have := (List.getElem?_eq_some_iff.1 hu).1; omega) (h.fx j u hu)
  · rw [World.cell?_setCell_far _ _ _ _ (by show N ≠ N + 1; omega)]
    exact h.z r hr
theorem condF {b : Bool} {x y : Value} {w : World} {a : Addr} (h : w.cell? a = some (cond b x y)) (hb : b = false) : w.cell? a = some y := by rw [hb] at h; exact h
theorem noL {L : Array Bool} {i j : Nat} (h : L.getD i false = true → L.getD j false = true) (hj : L.getD j true = false) : L.getD i false = false := by
  cases hh : L.getD i false with
  | false => rfl
  | true => exact absurd (h hh) (nofP hj)
theorem box2 (w : World) (T : TypeId) (cs zs : Array Value) (o3 o4 o5 : Nat) (fix : List Value) (x3 x4 x5 : Value) (hf : ∀ (j : Nat) v, fix[j]? = some v → cs[j]? = some v) (h3 : cs[o3]? = some x3) (h4 : cs[o4]? = some x4) (h5 : cs[o5]? = some x5) (hz : o5 + 1 ≤ zs.size) : CM w.heap.size o3 o4 o5 fix w x3 x4 x5 ((w.alloc (.cells cs T (0, 0))).alloc (.cells zs T (0, 0))).drew := by
  have hs : (w.alloc (.cells cs T (0, 0))).heap.size = w.heap.size + 1 := by simp
  have q1 : ∀ i v, cs[i]? = some v → ((w.alloc (.cells cs T (0, 0))).alloc (.cells zs T (0, 0))).cell? ⟨w.heap.size, i, none⟩ = some v := fun i v hv => by
    rw [World.cell?_alloc_lt _ _ _ (by simp), new_cell]
    exact hv
  have q2 : ∀ i, ((w.alloc (.cells cs T (0, 0))).alloc (.cells zs T (0, 0))).cell? ⟨w.heap.size + 1, i, none⟩ = zs[i]? := fun i => by
    have := new_cell (w.alloc (.cells cs T (0, 0))) zs T i
    rw [hs] at this
    exact this
  refine ⟨(up (up (up0 w) _) _).drew, by show _ ≤ ((w.alloc _).alloc _).heap.size; simp, fun r => ?_, fun r => ?_, fun j v hv => by rw [Nat.zero_add]; exact q1 j v (hf j v hv), q1 _ _ h3, q1 _ _ h4, q1 _ _ h5, fun r hr => ?_⟩
  · show ((w.alloc _).alloc _).frozen? _ = false
    rw [World.frozen?_alloc_past]
    · exact new_frozenC w _ _ r
    · simp
  · show ((w.alloc _).alloc _).frozen? _ = false
    have := new_frozenC (w.alloc (.cells cs T (0, 0))) zs T r
    rw [hs] at this
    exact this
  · show (((w.alloc _).alloc _).cell? _).isSome = true
    rw [q2, Array.getElem?_eq_getElem (by omega)]
    rfl
def CIS (N : Nat) (k : Int) (n : ByteArray) (e : Exs) (bd : Sts) (el : Sts) (A1 A2 A3 : Option Addr) (l1 c1 l2 c2 l3 c3 : Nat) (W0 : World) (L : Array Bool) (a : Act) (w : World) : Prop := ∃ (v3 v4 v5 v6 v7 v8 v9 v10 v11 v12 v13 v14 : Value), a = { tmps := #[.agg #[.int .i64 k, .string n, .slice A1 l1 c1, .slice A2 l2 c2, .slice A3 l3 c3], .pointer (some ⟨N, 0, none⟩), .pointer (some ⟨N + 1, 0, none⟩), v3, v4, v5, v6, v7, v8, v9, v10, v11, v12, v13, v14, undef], defers := [] } ∧
  CM N 2 3 4 [.int .i64 k, .string n] W0 (cond (L.getD 10 false) v5 (.slice A1 l1 c1)) (cond (L.getD 12 false) v8 (.slice A2 l2 c2)) (cond (L.getD 14 false) v11 (.slice A3 l3 c3)) w ∧
  (L.getD 10 false = true → L.getD 1 false = true) ∧ (L.getD 10 false = true → L.getD 2 false = true) ∧ (L.getD 12 false = true → L.getD 4 false = true) ∧ (L.getD 12 false = true → L.getD 5 false = true) ∧ (L.getD 14 false = true → L.getD 7 false = true) ∧ (L.getD 14 false = true → L.getD 8 false = true) ∧
  (L.getD 0 false = true → v3 = .pointer (some ⟨N, 2, none⟩)) ∧
  (L.getD 1 false = true → v4 = .slice A1 l1 c1) ∧
  (L.getD 2 false = true → ResE (N + 2) e.toList v5 w) ∧
  (L.getD 3 false = true → v6 = .pointer (some ⟨N, 3, none⟩)) ∧
  (L.getD 4 false = true → v7 = .slice A2 l2 c2) ∧
  (L.getD 5 false = true → ResS (N + 2) bd.toList v8 w) ∧
  (L.getD 6 false = true → v9 = .pointer (some ⟨N, 4, none⟩)) ∧
  (L.getD 7 false = true → v10 = .slice A3 l3 c3) ∧
  (L.getD 8 false = true → ResS (N + 2) el.toList v11 w) ∧
  (L.getD 9 false = true → v12 = .pointer (some ⟨N, 2, none⟩)) ∧
  (L.getD 11 false = true → v13 = .pointer (some ⟨N, 3, none⟩)) ∧
  (L.getD 13 false = true → v14 = .pointer (some ⟨N, 4, none⟩))
theorem copyS_walk (k : Int) (n : ByteArray) (e : Exs) (bd : Sts) (el : Sts) (A1 A2 A3 : Option Addr) (l1 c1 l2 c2 l3 c3 : Nat) (w : World) (X1 : ∀ w', Below w.heap.size w w' → Calls Tryz.prog 65 #[.slice A1 l1 c1, .func (.func 66) #[] #[]] w' (EPost e.toList w'))
    (X2 : ∀ w', Below w.heap.size w w' → Calls Tryz.prog 67 #[.slice A2 l2 c2, .func (.func 68) #[] #[]] w' (SPost bd.toList w'))
    (X3 : ∀ w', Below w.heap.size w w' → Calls Tryz.prog 67 #[.slice A3 l3 c3, .func (.func 68) #[] #[]] w' (SPost el.toList w')) : Calls Tryz.prog 68 #[.agg #[.int .i64 k, .string n, .slice A1 l1 c1, .slice A2 l2 c2, .slice A3 l3 c3]] w (CSPost (.mk k n e bd el) w) := by
  have X1 := Hd.mk X1
  have X2 := Hd.mk X2
  have X3 := Hd.mk X3
  go_enter Tryz.func68, Tryz.ntmps68
  go_wp2_with fail
  have hsz0 : ((w.alloc (.cells #[.int .i64 k, .string n, .slice A1 l1 c1, .slice A2 l2 c2, .slice A3 l3 c3] 98 (0, 0))).alloc (.cells #[.int .i64 0, .string ⟨#[]⟩, .slice none 0 0, .slice none 0 0, .slice none 0 0] 98 (0, 0))).heap.size = w.heap.size + 1 + 1 := by simp
  have M0 : CM w.heap.size 2 3 4 [.int .i64 k, .string n] w (.slice A1 l1 c1) (.slice A2 l2 c2) (.slice A3 l3 c3) ((w.alloc (.cells #[.int .i64 k, .string n, .slice A1 l1 c1, .slice A2 l2 c2, .slice A3 l3 c3] 98 (0, 0))).alloc (.cells #[.int .i64 0, .string ⟨#[]⟩, .slice none 0 0, .slice none 0 0, .slice none 0 0] 98 (0, 0))).drew := box2 w 98 #[.int .i64 k, .string n, .slice A1 l1 c1, .slice A2 l2 c2, .slice A3 l3 c3] #[.int .i64 0, .string ⟨#[]⟩, .slice none 0 0, .slice none 0 0, .slice none 0 0] 2 3 4 [.int .i64 k, .string n] _ _ _ (fun j v hv => by match j, hv with | 0, hv => exact hv | 1, hv => exact hv | j + 2, hv => simp at hv) rfl rfl rfl (by decide)
  refine wp_region_inv (CIS w.heap.size k n e bd el A1 A2 A3 l1 c1 l2 c2 l3 c3 w) (by kernel_rfl) (hac_ofP (by kernel_rfl)) ?_ ?_ ?_
  · exact ⟨undef, undef, undef, undef, undef, undef, undef, undef, undef, undef, undef, undef, rfl, M0, fun h => by simp at h, fun h => by simp at h, fun h => by simp at h, fun h => by simp at h, fun h => by simp at h, fun h => by simp at h, fun h => by simp at h, fun h => by simp at h, fun h => by simp at h, fun h => by simp at h, fun h => by simp at h, fun h => by simp at h, fun h => by simp at h, fun h => by simp at h, fun h => by simp at h, fun h => by simp at h, fun h => by simp at h, fun h => by simp at h⟩
  · intro i o L a w' ho hsz h1 h2 hI
    have hi : i < 15 := (Array.getElem?_eq_some_iff.1 ho).1
    obtain ⟨v3, v4, v5, v6, v7, v8, v9, v10, v11, v12, v13, v14, rfl, M, o0, o1, o2, o3, o4, o5, f0, f1, f2, f3, f4, f5, f6, f7, f8, f9, f11, f13⟩ := hI
    have hi' : i = 0 ∨ i = 1 ∨ i = 2 ∨ i = 3 ∨ i = 4 ∨ i = 5 ∨ i = 6 ∨ i = 7 ∨ i = 8 ∨ i = 9 ∨ i = 10 ∨ i = 11 ∨ i = 12 ∨ i = 13 ∨ i = 14 := by omega
    rcases hi' with rfl | rfl | rfl | rfl | rfl | rfl | rfl | rfl | rfl | rfl | rfl | rfl | rfl | rfl | rfl
    all_goals obtain rfl := Option.some.inj ho
    all_goals clear ho
    · refine wpOp_doP (o := _) rfl rfl fun K hK => ?_
      go_simp
      refine hK _ _ ?_
      unfold CIS
      simp only [gneP (show (0 : Nat) ≠ 1 by decide), gneP (show (0 : Nat) ≠ 2 by decide), gneP (show (0 : Nat) ≠ 3 by decide), gneP (show (0 : Nat) ≠ 4 by decide), gneP (show (0 : Nat) ≠ 5 by decide), gneP (show (0 : Nat) ≠ 6 by decide), gneP (show (0 : Nat) ≠ 7 by decide), gneP (show (0 : Nat) ≠ 8 by decide), gneP (show (0 : Nat) ≠ 9 by decide), gneP (show (0 : Nat) ≠ 10 by decide), gneP (show (0 : Nat) ≠ 11 by decide), gneP (show (0 : Nat) ≠ 12 by decide), gneP (show (0 : Nat) ≠ 13 by decide), gneP (show (0 : Nat) ≠ 14 by decide)]
      exact ⟨_, v4, v5, v6, v7, v8, v9, v10, v11, v12, v13, v14, rfl, M, o0, o1, o2, o3, o4, o5, fun _ => rfl, f1, f2, f3, f4, f5, f6, f7, f8, f9, f11, f13⟩
    · obtain rfl := f0 (h2 ⟨0, .data⟩ (by simp) rfl)
      have e0 := noL o0 h1
      have cc := condF M.c3 e0
      refine wpOp_doP (o := _) rfl rfl fun K hK => ?_
      go_simp
      refine hK _ _ ?_
      unfold CIS
      simp only [gneP (show (1 : Nat) ≠ 0 by decide), gneP (show (1 : Nat) ≠ 2 by decide), gneP (show (1 : Nat) ≠ 3 by decide), gneP (show (1 : Nat) ≠ 4 by decide), gneP (show (1 : Nat) ≠ 5 by decide), gneP (show (1 : Nat) ≠ 6 by decide), gneP (show (1 : Nat) ≠ 7 by decide), gneP (show (1 : Nat) ≠ 8 by decide), gneP (show (1 : Nat) ≠ 9 by decide), gneP (show (1 : Nat) ≠ 10 by decide), gneP (show (1 : Nat) ≠ 11 by decide), gneP (show (1 : Nat) ≠ 12 by decide), gneP (show (1 : Nat) ≠ 13 by decide), gneP (show (1 : Nat) ≠ 14 by decide)]
      exact ⟨_, _, v5, v6, v7, v8, v9, v10, v11, v12, v13, v14, rfl, M, fun _ => geqP (by rw [hsz]; decide), o1, o2, o3, o4, o5, fun _ => rfl, fun _ => rfl, f2, f3, f4, f5, f6, f7, f8, f9, f11, f13⟩
    · obtain rfl := f1 (h2 ⟨1, .data⟩ (by simp) rfl)
      have e0 := noL o1 h1
      refine wpOp_doP (o := _) rfl rfl fun K hK => ?_
      go_simp
      refine (X1.out _ M.below).mono ?_
      rintro r w2 ⟨A4, n4, c4, rfl, hb, hs, ho⟩
      have hk := Kp.of_below (lo := w.heap.size + 2) hb (Nat.le_refl _)
      have hz := M.size
      refine hK _ _ ?_
      unfold CIS
      simp only [gneP (show (2 : Nat) ≠ 0 by decide), gneP (show (2 : Nat) ≠ 1 by decide), gneP (show (2 : Nat) ≠ 3 by decide), gneP (show (2 : Nat) ≠ 4 by decide), gneP (show (2 : Nat) ≠ 5 by decide), gneP (show (2 : Nat) ≠ 6 by decide), gneP (show (2 : Nat) ≠ 7 by decide), gneP (show (2 : Nat) ≠ 8 by decide), gneP (show (2 : Nat) ≠ 9 by decide), gneP (show (2 : Nat) ≠ 10 by decide), gneP (show (2 : Nat) ≠ 11 by decide), gneP (show (2 : Nat) ≠ 12 by decide), gneP (show (2 : Nat) ≠ 13 by decide), gneP (show (2 : Nat) ≠ 14 by decide)]
      rw [e0] at M
      rw [e0]
      exact ⟨v3, _, _, v6, v7, v8, v9, v10, v11, v12, v13, v14, rfl, M.call hb, fun h => by simp at h, fun h => by simp at h, o2, o3, o4, o5, f0, fun _ => rfl, fun _ => ⟨A4, n4, c4, rfl, hs, ho.mono fun _ _ h => h.keep hz (Nat.le_refl _) (fun _ _ _ => rfl)⟩, f3, f4, fun h => (f5 h).keep hb.size hk, f6, f7, fun h => (f8 h).keep hb.size hk, f9, f11, f13⟩
    · refine wpOp_doP (o := _) rfl rfl fun K hK => ?_
      go_simp
      refine hK _ _ ?_
      unfold CIS
      simp only [gneP (show (3 : Nat) ≠ 0 by decide), gneP (show (3 : Nat) ≠ 1 by decide), gneP (show (3 : Nat) ≠ 2 by decide), gneP (show (3 : Nat) ≠ 4 by decide), gneP (show (3 : Nat) ≠ 5 by decide), gneP (show (3 : Nat) ≠ 6 by decide), gneP (show (3 : Nat) ≠ 7 by decide), gneP (show (3 : Nat) ≠ 8 by decide), gneP (show (3 : Nat) ≠ 9 by decide), gneP (show (3 : Nat) ≠ 10 by decide), gneP (show (3 : Nat) ≠ 11 by decide), gneP (show (3 : Nat) ≠ 12 by decide), gneP (show (3 : Nat) ≠ 13 by decide), gneP (show (3 : Nat) ≠ 14 by decide)]
      exact ⟨v3, v4, v5, _, v7, v8, v9, v10, v11, v12, v13, v14, rfl, M, o0, o1, o2, o3, o4, o5, f0, f1, f2, fun _ => rfl, f4, f5, f6, f7, f8, f9, f11, f13⟩
    · obtain rfl := f3 (h2 ⟨3, .data⟩ (by simp) rfl)
      have e0 := noL o2 h1
      have cc := condF M.c4 e0
      refine wpOp_doP (o := _) rfl rfl fun K hK => ?_
      go_simp
      refine hK _ _ ?_
      unfold CIS
      simp only [gneP (show (4 : Nat) ≠ 0 by decide), gneP (show (4 : Nat) ≠ 1 by decide), gneP (show (4 : Nat) ≠ 2 by decide), gneP (show (4 : Nat) ≠ 3 by decide), gneP (show (4 : Nat) ≠ 5 by decide), gneP (show (4 : Nat) ≠ 6 by decide), gneP (show (4 : Nat) ≠ 7 by decide), gneP (show (4 : Nat) ≠ 8 by decide), gneP (show (4 : Nat) ≠ 9 by decide), gneP (show (4 : Nat) ≠ 10 by decide), gneP (show (4 : Nat) ≠ 11 by decide), gneP (show (4 : Nat) ≠ 12 by decide), gneP (show (4 : Nat) ≠ 13 by decide), gneP (show (4 : Nat) ≠ 14 by decide)]
      exact ⟨v3, v4, v5, _, _, v8, v9, v10, v11, v12, v13, v14, rfl, M, o0, o1, fun _ => geqP (by rw [hsz]; decide), o3, o4, o5, f0, f1, f2, fun _ => rfl, fun _ => rfl, f5, f6, f7, f8, f9, f11, f13⟩
    · obtain rfl := f4 (h2 ⟨4, .data⟩ (by simp) rfl)
      have e0 := noL o3 h1
      refine wpOp_doP (o := _) rfl rfl fun K hK => ?_
      go_simp
      refine (X2.out _ M.below).mono ?_
      rintro r w2 ⟨A4, n4, c4, rfl, hb, hs, ho⟩
      have hk := Kp.of_below (lo := w.heap.size + 2) hb (Nat.le_refl _)
      have hz := M.size
      refine hK _ _ ?_
      unfold CIS
      simp only [gneP (show (5 : Nat) ≠ 0 by decide), gneP (show (5 : Nat) ≠ 1 by decide), gneP (show (5 : Nat) ≠ 2 by decide), gneP (show (5 : Nat) ≠ 3 by decide), gneP (show (5 : Nat) ≠ 4 by decide), gneP (show (5 : Nat) ≠ 6 by decide), gneP (show (5 : Nat) ≠ 7 by decide), gneP (show (5 : Nat) ≠ 8 by decide), gneP (show (5 : Nat) ≠ 9 by decide), gneP (show (5 : Nat) ≠ 10 by decide), gneP (show (5 : Nat) ≠ 11 by decide), gneP (show (5 : Nat) ≠ 12 by decide), gneP (show (5 : Nat) ≠ 13 by decide), gneP (show (5 : Nat) ≠ 14 by decide)]
      rw [e0] at M
      rw [e0]
      exact ⟨v3, v4, v5, v6, _, _, v9, v10, v11, v12, v13, v14, rfl, M.call hb, o0, o1, fun h => by simp at h, fun h => by simp at h, o4, o5, f0, f1, fun h => (f2 h).keep hb.size hk, f3, fun _ => rfl, fun _ => ⟨A4, n4, c4, rfl, hs, ho.mono fun _ _ h => h.keep hz (Nat.le_refl _) (fun _ _ _ => rfl)⟩, f6, f7, fun h => (f8 h).keep hb.size hk, f9, f11, f13⟩
    · refine wpOp_doP (o := _) rfl rfl fun K hK => ?_
      go_simp
      refine hK _ _ ?_
      unfold CIS
      simp only [gneP (show (6 : Nat) ≠ 0 by decide), gneP (show (6 : Nat) ≠ 1 by decide), gneP (show (6 : Nat) ≠ 2 by decide), gneP (show (6 : Nat) ≠ 3 by decide), gneP (show (6 : Nat) ≠ 4 by decide), gneP (show (6 : Nat) ≠ 5 by decide), gneP (show (6 : Nat) ≠ 7 by decide), gneP (show (6 : Nat) ≠ 8 by decide), gneP (show (6 : Nat) ≠ 9 by decide), gneP (show (6 : Nat) ≠ 10 by decide), gneP (show (6 : Nat) ≠ 11 by decide), gneP (show (6 : Nat) ≠ 12 by decide), gneP (show (6 : Nat) ≠ 13 by decide), gneP (show (6 : Nat) ≠ 14 by decide)]
      exact ⟨v3, v4, v5, v6, v7, v8, _, v10, v11, v12, v13, v14, rfl, M, o0, o1, o2, o3, o4, o5, f0, f1, f2, f3, f4, f5, fun _ => rfl, f7, f8, f9, f11, f13⟩
    · obtain rfl := f6 (h2 ⟨6, .data⟩ (by simp) rfl)
      have e0 := noL o4 h1
      have cc := condF M.c5 e0
      refine wpOp_doP (o := _) rfl rfl fun K hK => ?_
      go_simp
      refine hK _ _ ?_
      unfold CIS
      simp only [gneP (show (7 : Nat) ≠ 0 by decide), gneP (show (7 : Nat) ≠ 1 by decide), gneP (show (7 : Nat) ≠ 2 by decide), gneP (show (7 : Nat) ≠ 3 by decide), gneP (show (7 : Nat) ≠ 4 by decide), gneP (show (7 : Nat) ≠ 5 by decide), gneP (show (7 : Nat) ≠ 6 by decide), gneP (show (7 : Nat) ≠ 8 by decide), gneP (show (7 : Nat) ≠ 9 by decide), gneP (show (7 : Nat) ≠ 10 by decide), gneP (show (7 : Nat) ≠ 11 by decide), gneP (show (7 : Nat) ≠ 12 by decide), gneP (show (7 : Nat) ≠ 13 by decide), gneP (show (7 : Nat) ≠ 14 by decide)]
      exact ⟨v3, v4, v5, v6, v7, v8, _, _, v11, v12, v13, v14, rfl, M, o0, o1, o2, o3, fun _ => geqP (by rw [hsz]; decide), o5, f0, f1, f2, f3, f4, f5, fun _ => rfl, fun _ => rfl, f8, f9, f11, f13⟩
    · obtain rfl := f7 (h2 ⟨7, .data⟩ (by simp) rfl)
      have e0 := noL o5 h1
      refine wpOp_doP (o := _) rfl rfl fun K hK => ?_
      go_simp
      refine (X3.out _ M.below).mono ?_
      rintro r w2 ⟨A4, n4, c4, rfl, hb, hs, ho⟩
      have hk := Kp.of_below (lo := w.heap.size + 2) hb (Nat.le_refl _)
      have hz := M.size
      refine hK _ _ ?_
      unfold CIS
      simp only [gneP (show (8 : Nat) ≠ 0 by decide), gneP (show (8 : Nat) ≠ 1 by decide), gneP (show (8 : Nat) ≠ 2 by decide), gneP (show (8 : Nat) ≠ 3 by decide), gneP (show (8 : Nat) ≠ 4 by decide), gneP (show (8 : Nat) ≠ 5 by decide), gneP (show (8 : Nat) ≠ 6 by decide), gneP (show (8 : Nat) ≠ 7 by decide), gneP (show (8 : Nat) ≠ 9 by decide), gneP (show (8 : Nat) ≠ 10 by decide), gneP (show (8 : Nat) ≠ 11 by decide), gneP (show (8 : Nat) ≠ 12 by decide), gneP (show (8 : Nat) ≠ 13 by decide), gneP (show (8 : Nat) ≠ 14 by decide)]
      rw [e0] at M
      rw [e0]
      exact ⟨v3, v4, v5, v6, v7, v8, v9, _, _, v12, v13, v14, rfl, M.call hb, o0, o1, o2, o3, fun h => by simp at h, fun h => by simp at h, f0, f1, fun h => (f2 h).keep hb.size hk, f3, f4, fun h => (f5 h).keep hb.size hk, f6, fun _ => rfl, fun _ => ⟨A4, n4, c4, rfl, hs, ho.mono fun _ _ h => h.keep hz (Nat.le_refl _) (fun _ _ _ => rfl)⟩, f9, f11, f13⟩
    · refine wpOp_doP (o := _) rfl rfl fun K hK => ?_
      go_simp
      refine hK _ _ ?_
      unfold CIS
      simp only [gneP (show (9 : Nat) ≠ 0 by decide), gneP (show (9 : Nat) ≠ 1 by decide), gneP (show (9 : Nat) ≠ 2 by decide), gneP (show (9 : Nat) ≠ 3 by decide), gneP (show (9 : Nat) ≠ 4 by decide), gneP (show (9 : Nat) ≠ 5 by decide), gneP (show (9 : Nat) ≠ 6 by decide), gneP (show (9 : Nat) ≠ 7 by decide), gneP (show (9 : Nat) ≠ 8 by decide), gneP (show (9 : Nat) ≠ 10 by decide), gneP (show (9 : Nat) ≠ 11 by decide), gneP (show (9 : Nat) ≠ 12 by decide), gneP (show (9 : Nat) ≠ 13 by decide), gneP (show (9 : Nat) ≠ 14 by decide)]
      exact ⟨v3, v4, v5, v6, v7, v8, v9, v10, v11, _, v13, v14, rfl, M, o0, o1, o2, o3, o4, o5, f0, f1, f2, f3, f4, f5, f6, f7, f8, fun _ => rfl, f11, f13⟩
    · obtain rfl := f9 (h2 ⟨9, .data⟩ (by simp) rfl)
      have dd := Hd.mk (h2 ⟨2, .data⟩ (by simp) rfl)
      have d1 := Hd.mk (h2 ⟨1, .phase⟩ (by simp) rfl)
      obtain ⟨A4, n4, c4, rfl, s4, q4⟩ := f2 dd.out
      have cc := M.c3
      have ff := M.fr1 2
      refine wpOp_doP (o := _) rfl rfl fun K hK => ?_
      go_simp
      have hk : Kp (w.heap.size + 2) w'.heap.size w' (w'.setCell ⟨w.heap.size, 2, none⟩ (.slice A4 n4 c4)) := fun b h1 _ => by rw [Below.heap_setCell _ _ _ _ (by show b ≠ w.heap.size; omega)]
      have hz : w'.heap.size ≤ (w'.setCell ⟨w.heap.size, 2, none⟩ (.slice A4 n4 c4)).heap.size := by simp
      refine hK _ _ ?_
      unfold CIS
      simp only [gneP (show (10 : Nat) ≠ 0 by decide), gneP (show (10 : Nat) ≠ 1 by decide), gneP (show (10 : Nat) ≠ 2 by decide), gneP (show (10 : Nat) ≠ 3 by decide), gneP (show (10 : Nat) ≠ 4 by decide), gneP (show (10 : Nat) ≠ 5 by decide), gneP (show (10 : Nat) ≠ 6 by decide), gneP (show (10 : Nat) ≠ 7 by decide), gneP (show (10 : Nat) ≠ 8 by decide), gneP (show (10 : Nat) ≠ 9 by decide), gneP (show (10 : Nat) ≠ 11 by decide), gneP (show (10 : Nat) ≠ 12 by decide), gneP (show (10 : Nat) ≠ 13 by decide), gneP (show (10 : Nat) ≠ 14 by decide)]
      rw [geqP (show 10 < L.size by rw [hsz]; decide)]
      exact ⟨v3, v4, _, v6, v7, v8, v9, v10, v11, _, v13, v14, rfl, M.set _ (by simp) (World.cell?_setCell_same _ _ _ cc) (cell_set_off (by decide) M.c4) (cell_set_off (by decide) M.c5), fun _ => d1.out, fun _ => dd.out, o2, o3, o4, o5, f0, f1, fun _ => (f2 dd.out).keep hz hk, f3, f4, fun h => (f5 h).keep hz hk, f6, f7, fun h => (f8 h).keep hz hk, fun _ => rfl, f11, f13⟩
    · refine wpOp_doP (o := _) rfl rfl fun K hK => ?_
      go_simp
      refine hK _ _ ?_
      unfold CIS
      simp only [gneP (show (11 : Nat) ≠ 0 by decide), gneP (show (11 : Nat) ≠ 1 by decide), gneP (show (11 : Nat) ≠ 2 by decide), gneP (show (11 : Nat) ≠ 3 by decide), gneP (show (11 : Nat) ≠ 4 by decide), gneP (show (11 : Nat) ≠ 5 by decide), gneP (show (11 : Nat) ≠ 6 by decide), gneP (show (11 : Nat) ≠ 7 by decide), gneP (show (11 : Nat) ≠ 8 by decide), gneP (show (11 : Nat) ≠ 9 by decide), gneP (show (11 : Nat) ≠ 10 by decide), gneP (show (11 : Nat) ≠ 12 by decide), gneP (show (11 : Nat) ≠ 13 by decide), gneP (show (11 : Nat) ≠ 14 by decide)]
      exact ⟨v3, v4, v5, v6, v7, v8, v9, v10, v11, v12, _, v14, rfl, M, o0, o1, o2, o3, o4, o5, f0, f1, f2, f3, f4, f5, f6, f7, f8, f9, fun _ => rfl, f13⟩
    · obtain rfl := f11 (h2 ⟨11, .data⟩ (by simp) rfl)
      have dd := Hd.mk (h2 ⟨5, .data⟩ (by simp) rfl)
      have d1 := Hd.mk (h2 ⟨4, .phase⟩ (by simp) rfl)
      obtain ⟨A4, n4, c4, rfl, s4, q4⟩ := f5 dd.out
      have cc := M.c4
      have ff := M.fr1 3
      refine wpOp_doP (o := _) rfl rfl fun K hK => ?_
      go_simp
      have hk : Kp (w.heap.size + 2) w'.heap.size w' (w'.setCell ⟨w.heap.size, 3, none⟩ (.slice A4 n4 c4)) := fun b h1 _ => by rw [Below.heap_setCell _ _ _ _ (by show b ≠ w.heap.size; omega)]
      have hz : w'.heap.size ≤ (w'.setCell ⟨w.heap.size, 3, none⟩ (.slice A4 n4 c4)).heap.size := by simp
      refine hK _ _ ?_
      unfold CIS
      simp only [gneP (show (12 : Nat) ≠ 0 by decide), gneP (show (12 : Nat) ≠ 1 by decide), gneP (show (12 : Nat) ≠ 2 by decide), gneP (show (12 : Nat) ≠ 3 by decide), gneP (show (12 : Nat) ≠ 4 by decide), gneP (show (12 : Nat) ≠ 5 by decide), gneP (show (12 : Nat) ≠ 6 by decide), gneP (show (12 : Nat) ≠ 7 by decide), gneP (show (12 : Nat) ≠ 8 by decide), gneP (show (12 : Nat) ≠ 9 by decide), gneP (show (12 : Nat) ≠ 10 by decide), gneP (show (12 : Nat) ≠ 11 by decide), gneP (show (12 : Nat) ≠ 13 by decide), gneP (show (12 : Nat) ≠ 14 by decide)]
      rw [geqP (show 12 < L.size by rw [hsz]; decide)]
      exact ⟨v3, v4, v5, v6, v7, _, v9, v10, v11, v12, _, v14, rfl, M.set _ (by simp) (cell_set_off (by decide) M.c3) (World.cell?_setCell_same _ _ _ cc) (cell_set_off (by decide) M.c5), o0, o1, fun _ => d1.out, fun _ => dd.out, o4, o5, f0, f1, fun h => (f2 h).keep hz hk, f3, f4, fun _ => (f5 dd.out).keep hz hk, f6, f7, fun h => (f8 h).keep hz hk, f9, fun _ => rfl, f13⟩
    · refine wpOp_doP (o := _) rfl rfl fun K hK => ?_
      go_simp
      refine hK _ _ ?_
      unfold CIS
      simp only [gneP (show (13 : Nat) ≠ 0 by decide), gneP (show (13 : Nat) ≠ 1 by decide), gneP (show (13 : Nat) ≠ 2 by decide), gneP (show (13 : Nat) ≠ 3 by decide), gneP (show (13 : Nat) ≠ 4 by decide), gneP (show (13 : Nat) ≠ 5 by decide), gneP (show (13 : Nat) ≠ 6 by decide), gneP (show (13 : Nat) ≠ 7 by decide), gneP (show (13 : Nat) ≠ 8 by decide), gneP (show (13 : Nat) ≠ 9 by decide), gneP (show (13 : Nat) ≠ 10 by decide), gneP (show (13 : Nat) ≠ 11 by decide), gneP (show (13 : Nat) ≠ 12 by decide), gneP (show (13 : Nat) ≠ 14 by decide)]
      exact ⟨v3, v4, v5, v6, v7, v8, v9, v10, v11, v12, v13, _, rfl, M, o0, o1, o2, o3, o4, o5, f0, f1, f2, f3, f4, f5, f6, f7, f8, f9, f11, fun _ => rfl⟩
    · obtain rfl := f13 (h2 ⟨13, .data⟩ (by simp) rfl)
      have dd := Hd.mk (h2 ⟨8, .data⟩ (by simp) rfl)
      have d1 := Hd.mk (h2 ⟨7, .phase⟩ (by simp) rfl)
      obtain ⟨A4, n4, c4, rfl, s4, q4⟩ := f8 dd.out
      have cc := M.c5
      have ff := M.fr1 4
      refine wpOp_doP (o := _) rfl rfl fun K hK => ?_
      go_simp
      have hk : Kp (w.heap.size + 2) w'.heap.size w' (w'.setCell ⟨w.heap.size, 4, none⟩ (.slice A4 n4 c4)) := fun b h1 _ => by rw [Below.heap_setCell _ _ _ _ (by show b ≠ w.heap.size; omega)]
      have hz : w'.heap.size ≤ (w'.setCell ⟨w.heap.size, 4, none⟩ (.slice A4 n4 c4)).heap.size := by simp
      refine hK _ _ ?_
      unfold CIS
      simp only [gneP (show (14 : Nat) ≠ 0 by decide), gneP (show (14 : Nat) ≠ 1 by decide), gneP (show (14 : Nat) ≠ 2 by decide), gneP (show (14 : Nat) ≠ 3 by decide), gneP (show (14 : Nat) ≠ 4 by decide), gneP (show (14 : Nat) ≠ 5 by decide), gneP (show (14 : Nat) ≠ 6 by decide), gneP (show (14 : Nat) ≠ 7 by decide), gneP (show (14 : Nat) ≠ 8 by decide), gneP (show (14 : Nat) ≠ 9 by decide), gneP (show (14 : Nat) ≠ 10 by decide), gneP (show (14 : Nat) ≠ 11 by decide), gneP (show (14 : Nat) ≠ 12 by decide), gneP (show (14 : Nat) ≠ 13 by decide)]
      rw [geqP (show 14 < L.size by rw [hsz]; decide)]
      exact ⟨v3, v4, v5, v6, v7, v8, v9, v10, _, v12, v13, _, rfl, M.set _ (by simp) (cell_set_off (by decide) M.c3) (cell_set_off (by decide) M.c4) (World.cell?_setCell_same _ _ _ cc), o0, o1, o2, o3, fun _ => d1.out, fun _ => dd.out, f0, f1, fun h => (f2 h).keep hz hk, f3, f4, fun h => (f5 h).keep hz hk, f6, f7, fun _ => (f8 dd.out).keep hz hk, f9, f11, fun _ => rfl⟩
  · intro L a w' hsz hall hI
    have ha : ∀ i, i < 15 → L.getD i false = true := hall
    obtain ⟨v3, v4, v5, v6, v7, v8, v9, v10, v11, v12, v13, v14, rfl, M, o0, o1, o2, o3, o4, o5, f0, f1, f2, f3, f4, f5, f6, f7, f8, f9, f11, f13⟩ := hI
    obtain rfl := f0 (ha 0 (by decide))
    obtain rfl := f1 (ha 1 (by decide))
    obtain rfl := f3 (ha 3 (by decide))
    obtain rfl := f4 (ha 4 (by decide))
    obtain rfl := f6 (ha 6 (by decide))
    obtain rfl := f7 (ha 7 (by decide))
    obtain rfl := f9 (ha 9 (by decide))
    obtain rfl := f11 (ha 11 (by decide))
    obtain rfl := f13 (ha 13 (by decide))
    rw [ha 10 (by decide), ha 12 (by decide), ha 14 (by decide)] at M
    obtain ⟨A4, n4, c4, rfl, s4, q4⟩ := f2 (ha 2 (by decide))
    obtain ⟨A5, n5, c5, rfl, s5, q5⟩ := f5 (ha 5 (by decide))
    obtain ⟨A6, n6, c6, rfl, s6, q6⟩ := f8 (ha 8 (by decide))
    have hM := Hd.mk M
    obtain ⟨_, _, fr1, fr2, fx, x3, x4, x5, z⟩ := M
    have x00 := fx 0 _ rfl
    have x11 := fx 1 _ rfl
    obtain ⟨u0, hu0⟩ := Option.isSome_iff_exists.1 (z 0 (by decide))
    obtain ⟨u1, hu1⟩ := Option.isSome_iff_exists.1 (z 1 (by decide))
    obtain ⟨u2, hu2⟩ := Option.isSome_iff_exists.1 (z 2 (by decide))
    obtain ⟨u3, hu3⟩ := Option.isSome_iff_exists.1 (z 3 (by decide))
    obtain ⟨u4, hu4⟩ := Option.isSome_iff_exists.1 (z 4 (by decide))
    dsimp only [cond] at x3 x4 x5
    simp only [Nat.zero_add] at x00 x11
    have HS := Hd.mk (And.intro s4 (And.intro q4 (And.intro s5 (And.intro q5 (And.intro s6 q6)))))
    clear s4 q4 s5 q5 s6 q6 z fx hall hsz M0 hsz0 X1 X2 X3 o0 o1 o2 o3 o4 o5 f0 f1 f2 f3 f4 f5 f6 f7 f8 f9 f11 f13
    refine ‹∀ (a : Act) (w : World), Code.wp Tryz.prog _ _ a w → _› _ _ ?_
    go_wp2_with fail
    obtain ⟨W, hW⟩ : ∃ W : World, W = (((((w'.setCell ⟨w.heap.size + 1, 0, none⟩ (.int .i64 k)).setCell ⟨w.heap.size + 1, 1, none⟩ (.string n)).setCell ⟨w.heap.size + 1, 2, none⟩ (.slice A4 n4 c4)).setCell ⟨w.heap.size + 1, 3, none⟩ (.slice A5 n5 c5)).setCell ⟨w.heap.size + 1, 4, none⟩ (.slice A6 n6 c6)) := ⟨_, rfl⟩
    rw [← hW]
    have hWs : W = w'.setCells (w.heap.size + 1) 0 [.int .i64 k, .string n, .slice A4 n4 c4, .slice A5 n5 c5, .slice A6 n6 c6] := hW
    clear hW
    obtain ⟨hsz, hbl, hin, hout, hfr⟩ := stored_row (vs := [.int .i64 k, .string n, .slice A4 n4 c4, .slice A5 n5 c5, .slice A6 n6 c6]) hWs (isSome5 hu0 hu1 hu2 hu3 hu4)
    have hk : Kp (w.heap.size + 2) w'.heap.size w' W := fun q h1 _ => hbl q (by omega)
    refine bodyPost_ret (results_cell_mid rfl _ _ (w.heap.size + 1) 0 [.int .i64 k, .string n, .slice A4 n4 c4, .slice A5 n5 c5, .slice A6 n6 c6] _ rfl hin Tryz.underlying98 rfl (by kernel_rfl)) rfl ?_
    obtain ⟨s4, q4, s5, q5, s6, q6⟩ := HS.out
    exact ⟨k, n, e, bd, el, A4, n4, c4, A5, n5, c5, A6, n6, c6, rfl, rfl, below_setRow hM.out.below hsz hbl (Nat.le_succ _) hWs, SlE_keep hk s4 q4, q4.mono fun _ _ h => h.keep (by omega) (by rw [hsz]; exact Nat.le_refl _) hk, SlS_keep hk s5 q5, q5.mono fun _ _ h => h.keep (by omega) (by rw [hsz]; exact Nat.le_refl _) hk, SlS_keep hk s6 q6, q6.mono fun _ _ h => h.keep (by omega) (by rw [hsz]; exact Nat.le_refl _) hk⟩
def CID (N : Nat) (k : Int) (y : Bool) (n : ByteArray) (t : Int) (ps : List Pa) (e : Exs) (bd : Sts) (A1 A2 A3 : Option Addr) (l1 c1 l2 c2 l3 c3 : Nat) (W0 : World) (L : Array Bool) (a : Act) (w : World) : Prop := ∃ (v3 v4 v5 v6 v7 v8 v9 v10 v11 v12 v13 v14 : Value), a = { tmps := #[.agg #[.int .i64 k, .bool y, .string n, .int .i64 t, .slice A1 l1 c1, .slice A2 l2 c2, .slice A3 l3 c3], .pointer (some ⟨N, 0, none⟩), .pointer (some ⟨N + 1, 0, none⟩), v3, v4, v5, v6, v7, v8, v9, v10, v11, v12, v13, v14, undef], defers := [] } ∧
  CM N 4 5 6 [.int .i64 k, .bool y, .string n, .int .i64 t] W0 (cond (L.getD 10 false) v5 (.slice A1 l1 c1)) (cond (L.getD 12 false) v8 (.slice A2 l2 c2)) (cond (L.getD 14 false) v11 (.slice A3 l3 c3)) w ∧
  (L.getD 10 false = true → L.getD 1 false = true) ∧ (L.getD 10 false = true → L.getD 2 false = true) ∧ (L.getD 12 false = true → L.getD 4 false = true) ∧ (L.getD 12 false = true → L.getD 5 false = true) ∧ (L.getD 14 false = true → L.getD 7 false = true) ∧ (L.getD 14 false = true → L.getD 8 false = true) ∧
  (L.getD 0 false = true → v3 = .pointer (some ⟨N, 4, none⟩)) ∧
  (L.getD 1 false = true → v4 = .slice A1 l1 c1) ∧
  (L.getD 2 false = true → ResP (N + 2) ps v5 w) ∧
  (L.getD 3 false = true → v6 = .pointer (some ⟨N, 5, none⟩)) ∧
  (L.getD 4 false = true → v7 = .slice A2 l2 c2) ∧
  (L.getD 5 false = true → ResE (N + 2) e.toList v8 w) ∧
  (L.getD 6 false = true → v9 = .pointer (some ⟨N, 6, none⟩)) ∧
  (L.getD 7 false = true → v10 = .slice A3 l3 c3) ∧
  (L.getD 8 false = true → ResS (N + 2) bd.toList v11 w) ∧
  (L.getD 9 false = true → v12 = .pointer (some ⟨N, 4, none⟩)) ∧
  (L.getD 11 false = true → v13 = .pointer (some ⟨N, 5, none⟩)) ∧
  (L.getD 13 false = true → v14 = .pointer (some ⟨N, 6, none⟩))
theorem copyD_walk (k : Int) (y : Bool) (n : ByteArray) (t : Int) (ps : List Pa) (e : Exs) (bd : Sts) (A1 A2 A3 : Option Addr) (l1 c1 l2 c2 l3 c3 : Nat) (w : World) (X1 : ∀ w', Below w.heap.size w w' → Calls Tryz.prog 64 #[.slice A1 l1 c1] w' (PPost ps w'))
    (X2 : ∀ w', Below w.heap.size w w' → Calls Tryz.prog 65 #[.slice A2 l2 c2, .func (.func 66) #[] #[]] w' (EPost e.toList w'))
    (X3 : ∀ w', Below w.heap.size w w' → Calls Tryz.prog 67 #[.slice A3 l3 c3, .func (.func 68) #[] #[]] w' (SPost bd.toList w')) : Calls Tryz.prog 63 #[.agg #[.int .i64 k, .bool y, .string n, .int .i64 t, .slice A1 l1 c1, .slice A2 l2 c2, .slice A3 l3 c3]] w (CDPost (⟨k, y, n, t, ps, e, bd⟩) w) := by
  have X1 := Hd.mk X1
  have X2 := Hd.mk X2
  have X3 := Hd.mk X3
  go_enter Tryz.func63, Tryz.ntmps63
  go_wp2_with fail
  have hsz0 : ((w.alloc (.cells #[.int .i64 k, .bool y, .string n, .int .i64 t, .slice A1 l1 c1, .slice A2 l2 c2, .slice A3 l3 c3] 47 (0, 0))).alloc (.cells #[.int .i64 0, .bool false, .string ⟨#[]⟩, .int .i64 0, .slice none 0 0, .slice none 0 0, .slice none 0 0] 47 (0, 0))).heap.size = w.heap.size + 1 + 1 := by simp
  have M0 : CM w.heap.size 4 5 6 [.int .i64 k, .bool y, .string n, .int .i64 t] w (.slice A1 l1 c1) (.slice A2 l2 c2) (.slice A3 l3 c3) ((w.alloc (.cells #[.int .i64 k, .bool y, .string n, .int .i64 t, .slice A1 l1 c1, .slice A2 l2 c2, .slice A3 l3 c3] 47 (0, 0))).alloc (.cells #[.int .i64 0, .bool false, .string ⟨#[]⟩, .int .i64 0, .slice none 0 0, .slice none 0 0, .slice none 0 0] 47 (0, 0))).drew := box2 w 47 #[.int .i64 k, .bool y, .string n, .int .i64 t, .slice A1 l1 c1, .slice A2 l2 c2, .slice A3 l3 c3] #[.int .i64 0, .bool false, .string ⟨#[]⟩, .int .i64 0, .slice none 0 0, .slice none 0 0, .slice none 0 0] 4 5 6 [.int .i64 k, .bool y, .string n, .int .i64 t] _ _ _ (fun j v hv => by match j, hv with | 0, hv => exact hv | 1, hv => exact hv | 2, hv => exact hv | 3, hv => exact hv | j + 4, hv => simp at hv) rfl rfl rfl (by decide)
  refine wp_region_inv (CID w.heap.size k y n t ps e bd A1 A2 A3 l1 c1 l2 c2 l3 c3 w) (by kernel_rfl) (hac_ofP (by kernel_rfl)) ?_ ?_ ?_
  · exact ⟨undef, undef, undef, undef, undef, undef, undef, undef, undef, undef, undef, undef, rfl, M0, fun h => by simp at h, fun h => by simp at h, fun h => by simp at h, fun h => by simp at h, fun h => by simp at h, fun h => by simp at h, fun h => by simp at h, fun h => by simp at h, fun h => by simp at h, fun h => by simp at h, fun h => by simp at h, fun h => by simp at h, fun h => by simp at h, fun h => by simp at h, fun h => by simp at h, fun h => by simp at h, fun h => by simp at h, fun h => by simp at h⟩
  · intro i o L a w' ho hsz h1 h2 hI
    have hi : i < 15 := (Array.getElem?_eq_some_iff.1 ho).1
    obtain ⟨v3, v4, v5, v6, v7, v8, v9, v10, v11, v12, v13, v14, rfl, M, o0, o1, o2, o3, o4, o5, f0, f1, f2, f3, f4, f5, f6, f7, f8, f9, f11, f13⟩ := hI
    have hi' : i = 0 ∨ i = 1 ∨ i = 2 ∨ i = 3 ∨ i = 4 ∨ i = 5 ∨ i = 6 ∨ i = 7 ∨ i = 8 ∨ i = 9 ∨ i = 10 ∨ i = 11 ∨ i = 12 ∨ i = 13 ∨ i = 14 := by omega
    rcases hi' with rfl | rfl | rfl | rfl | rfl | rfl | rfl | rfl | rfl | rfl | rfl | rfl | rfl | rfl | rfl
    all_goals obtain rfl := Option.some.inj ho
    all_goals clear ho
    · refine wpOp_doP (o := _) rfl rfl fun K hK => ?_
      go_simp
      refine hK _ _ ?_
      unfold CID
      simp only [gneP (show (0 : Nat) ≠ 1 by decide), gneP (show (0 : Nat) ≠ 2 by decide), gneP (show (0 : Nat) ≠ 3 by decide), gneP (show (0 : Nat) ≠ 4 by decide), gneP (show (0 : Nat) ≠ 5 by decide), gneP (show (0 : Nat) ≠ 6 by decide), gneP (show (0 : Nat) ≠ 7 by decide), gneP (show (0 : Nat) ≠ 8 by decide), gneP (show (0 : Nat) ≠ 9 by decide), gneP (show (0 : Nat) ≠ 10 by decide), gneP (show (0 : Nat) ≠ 11 by decide), gneP (show (0 : Nat) ≠ 12 by decide), gneP (show (0 : Nat) ≠ 13 by decide), gneP (show (0 : Nat) ≠ 14 by decide)]
      exact ⟨_, v4, v5, v6, v7, v8, v9, v10, v11, v12, v13, v14, rfl, M, o0, o1, o2, o3, o4, o5, fun _ => rfl, f1, f2, f3, f4, f5, f6, f7, f8, f9, f11, f13⟩
    · obtain rfl := f0 (h2 ⟨0, .data⟩ (by simp) rfl)
      have e0 := noL o0 h1
      have cc := condF M.c3 e0
      refine wpOp_doP (o := _) rfl rfl fun K hK => ?_
      go_simp
      refine hK _ _ ?_
      unfold CID
      simp only [gneP (show (1 : Nat) ≠ 0 by decide), gneP (show (1 : Nat) ≠ 2 by decide), gneP (show (1 : Nat) ≠ 3 by decide), gneP (show (1 : Nat) ≠ 4 by decide), gneP (show (1 : Nat) ≠ 5 by decide), gneP (show (1 : Nat) ≠ 6 by decide), gneP (show (1 : Nat) ≠ 7 by decide), gneP (show (1 : Nat) ≠ 8 by decide), gneP (show (1 : Nat) ≠ 9 by decide), gneP (show (1 : Nat) ≠ 10 by decide), gneP (show (1 : Nat) ≠ 11 by decide), gneP (show (1 : Nat) ≠ 12 by decide), gneP (show (1 : Nat) ≠ 13 by decide), gneP (show (1 : Nat) ≠ 14 by decide)]
      exact ⟨_, _, v5, v6, v7, v8, v9, v10, v11, v12, v13, v14, rfl, M, fun _ => geqP (by rw [hsz]; decide), o1, o2, o3, o4, o5, fun _ => rfl, fun _ => rfl, f2, f3, f4, f5, f6, f7, f8, f9, f11, f13⟩
    · obtain rfl := f1 (h2 ⟨1, .data⟩ (by simp) rfl)
      have e0 := noL o1 h1
      refine wpOp_doP (o := _) rfl rfl fun K hK => ?_
      go_simp
      refine (X1.out _ M.below).mono ?_
      rintro r w2 ⟨A4, n4, c4, rfl, hb, hs, ho⟩
      have hk := Kp.of_below (lo := w.heap.size + 2) hb (Nat.le_refl _)
      have hz := M.size
      refine hK _ _ ?_
      unfold CID
      simp only [gneP (show (2 : Nat) ≠ 0 by decide), gneP (show (2 : Nat) ≠ 1 by decide), gneP (show (2 : Nat) ≠ 3 by decide), gneP (show (2 : Nat) ≠ 4 by decide), gneP (show (2 : Nat) ≠ 5 by decide), gneP (show (2 : Nat) ≠ 6 by decide), gneP (show (2 : Nat) ≠ 7 by decide), gneP (show (2 : Nat) ≠ 8 by decide), gneP (show (2 : Nat) ≠ 9 by decide), gneP (show (2 : Nat) ≠ 10 by decide), gneP (show (2 : Nat) ≠ 11 by decide), gneP (show (2 : Nat) ≠ 12 by decide), gneP (show (2 : Nat) ≠ 13 by decide), gneP (show (2 : Nat) ≠ 14 by decide)]
      rw [e0] at M
      rw [e0]
      exact ⟨v3, _, _, v6, v7, v8, v9, v10, v11, v12, v13, v14, rfl, M.call hb, fun h => by simp at h, fun h => by simp at h, o2, o3, o4, o5, f0, fun _ => rfl, fun _ => ⟨A4, n4, c4, rfl, hs, ho.mono fun _ _ h => h.keep hz (Nat.le_refl _) (fun _ _ _ => rfl)⟩, f3, f4, fun h => (f5 h).keep hb.size hk, f6, f7, fun h => (f8 h).keep hb.size hk, f9, f11, f13⟩
    · refine wpOp_doP (o := _) rfl rfl fun K hK => ?_
      go_simp
      refine hK _ _ ?_
      unfold CID
      simp only [gneP (show (3 : Nat) ≠ 0 by decide), gneP (show (3 : Nat) ≠ 1 by decide), gneP (show (3 : Nat) ≠ 2 by decide), gneP (show (3 : Nat) ≠ 4 by decide), gneP (show (3 : Nat) ≠ 5 by decide), gneP (show (3 : Nat) ≠ 6 by decide), gneP (show (3 : Nat) ≠ 7 by decide), gneP (show (3 : Nat) ≠ 8 by decide), gneP (show (3 : Nat) ≠ 9 by decide), gneP (show (3 : Nat) ≠ 10 by decide), gneP (show (3 : Nat) ≠ 11 by decide), gneP (show (3 : Nat) ≠ 12 by decide), gneP (show (3 : Nat) ≠ 13 by decide), gneP (show (3 : Nat) ≠ 14 by decide)]
      exact ⟨v3, v4, v5, _, v7, v8, v9, v10, v11, v12, v13, v14, rfl, M, o0, o1, o2, o3, o4, o5, f0, f1, f2, fun _ => rfl, f4, f5, f6, f7, f8, f9, f11, f13⟩
    · obtain rfl := f3 (h2 ⟨3, .data⟩ (by simp) rfl)
      have e0 := noL o2 h1
      have cc := condF M.c4 e0
      refine wpOp_doP (o := _) rfl rfl fun K hK => ?_
      go_simp
      refine hK _ _ ?_
      unfold CID
      simp only [gneP (show (4 : Nat) ≠ 0 by decide), gneP (show (4 : Nat) ≠ 1 by decide), gneP (show (4 : Nat) ≠ 2 by decide), gneP (show (4 : Nat) ≠ 3 by decide), gneP (show (4 : Nat) ≠ 5 by decide), gneP (show (4 : Nat) ≠ 6 by decide), gneP (show (4 : Nat) ≠ 7 by decide), gneP (show (4 : Nat) ≠ 8 by decide), gneP (show (4 : Nat) ≠ 9 by decide), gneP (show (4 : Nat) ≠ 10 by decide), gneP (show (4 : Nat) ≠ 11 by decide), gneP (show (4 : Nat) ≠ 12 by decide), gneP (show (4 : Nat) ≠ 13 by decide), gneP (show (4 : Nat) ≠ 14 by decide)]
      exact ⟨v3, v4, v5, _, _, v8, v9, v10, v11, v12, v13, v14, rfl, M, o0, o1, fun _ => geqP (by rw [hsz]; decide), o3, o4, o5, f0, f1, f2, fun _ => rfl, fun _ => rfl, f5, f6, f7, f8, f9, f11, f13⟩
    · obtain rfl := f4 (h2 ⟨4, .data⟩ (by simp) rfl)
      have e0 := noL o3 h1
      refine wpOp_doP (o := _) rfl rfl fun K hK => ?_
      go_simp
      refine (X2.out _ M.below).mono ?_
      rintro r w2 ⟨A4, n4, c4, rfl, hb, hs, ho⟩
      have hk := Kp.of_below (lo := w.heap.size + 2) hb (Nat.le_refl _)
      have hz := M.size
      refine hK _ _ ?_
      unfold CID
      simp only [gneP (show (5 : Nat) ≠ 0 by decide), gneP (show (5 : Nat) ≠ 1 by decide), gneP (show (5 : Nat) ≠ 2 by decide), gneP (show (5 : Nat) ≠ 3 by decide), gneP (show (5 : Nat) ≠ 4 by decide), gneP (show (5 : Nat) ≠ 6 by decide), gneP (show (5 : Nat) ≠ 7 by decide), gneP (show (5 : Nat) ≠ 8 by decide), gneP (show (5 : Nat) ≠ 9 by decide), gneP (show (5 : Nat) ≠ 10 by decide), gneP (show (5 : Nat) ≠ 11 by decide), gneP (show (5 : Nat) ≠ 12 by decide), gneP (show (5 : Nat) ≠ 13 by decide), gneP (show (5 : Nat) ≠ 14 by decide)]
      rw [e0] at M
      rw [e0]
      exact ⟨v3, v4, v5, v6, _, _, v9, v10, v11, v12, v13, v14, rfl, M.call hb, o0, o1, fun h => by simp at h, fun h => by simp at h, o4, o5, f0, f1, fun h => (f2 h).keep hb.size hk, f3, fun _ => rfl, fun _ => ⟨A4, n4, c4, rfl, hs, ho.mono fun _ _ h => h.keep hz (Nat.le_refl _) (fun _ _ _ => rfl)⟩, f6, f7, fun h => (f8 h).keep hb.size hk, f9, f11, f13⟩
    · refine wpOp_doP (o := _) rfl rfl fun K hK => ?_
      go_simp
      refine hK _ _ ?_
      unfold CID
      simp only [gneP (show (6 : Nat) ≠ 0 by decide), gneP (show (6 : Nat) ≠ 1 by decide), gneP (show (6 : Nat) ≠ 2 by decide), gneP (show (6 : Nat) ≠ 3 by decide), gneP (show (6 : Nat) ≠ 4 by decide), gneP (show (6 : Nat) ≠ 5 by decide), gneP (show (6 : Nat) ≠ 7 by decide), gneP (show (6 : Nat) ≠ 8 by decide), gneP (show (6 : Nat) ≠ 9 by decide), gneP (show (6 : Nat) ≠ 10 by decide), gneP (show (6 : Nat) ≠ 11 by decide), gneP (show (6 : Nat) ≠ 12 by decide), gneP (show (6 : Nat) ≠ 13 by decide), gneP (show (6 : Nat) ≠ 14 by decide)]
      exact ⟨v3, v4, v5, v6, v7, v8, _, v10, v11, v12, v13, v14, rfl, M, o0, o1, o2, o3, o4, o5, f0, f1, f2, f3, f4, f5, fun _ => rfl, f7, f8, f9, f11, f13⟩
    · obtain rfl := f6 (h2 ⟨6, .data⟩ (by simp) rfl)
      have e0 := noL o4 h1
      have cc := condF M.c5 e0
      refine wpOp_doP (o := _) rfl rfl fun K hK => ?_
      go_simp
      refine hK _ _ ?_
      unfold CID
      simp only [gneP (show (7 : Nat) ≠ 0 by decide), gneP (show (7 : Nat) ≠ 1 by decide), gneP (show (7 : Nat) ≠ 2 by decide), gneP (show (7 : Nat) ≠ 3 by decide), gneP (show (7 : Nat) ≠ 4 by decide), gneP (show (7 : Nat) ≠ 5 by decide), gneP (show (7 : Nat) ≠ 6 by decide), gneP (show (7 : Nat) ≠ 8 by decide), gneP (show (7 : Nat) ≠ 9 by decide), gneP (show (7 : Nat) ≠ 10 by decide), gneP (show (7 : Nat) ≠ 11 by decide), gneP (show (7 : Nat) ≠ 12 by decide), gneP (show (7 : Nat) ≠ 13 by decide), gneP (show (7 : Nat) ≠ 14 by decide)]
      exact ⟨v3, v4, v5, v6, v7, v8, _, _, v11, v12, v13, v14, rfl, M, o0, o1, o2, o3, fun _ => geqP (by rw [hsz]; decide), o5, f0, f1, f2, f3, f4, f5, fun _ => rfl, fun _ => rfl, f8, f9, f11, f13⟩
    · obtain rfl := f7 (h2 ⟨7, .data⟩ (by simp) rfl)
      have e0 := noL o5 h1
      refine wpOp_doP (o := _) rfl rfl fun K hK => ?_
      go_simp
      refine (X3.out _ M.below).mono ?_
      rintro r w2 ⟨A4, n4, c4, rfl, hb, hs, ho⟩
      have hk := Kp.of_below (lo := w.heap.size + 2) hb (Nat.le_refl _)
      have hz := M.size
      refine hK _ _ ?_
      unfold CID
      simp only [gneP (show (8 : Nat) ≠ 0 by decide), gneP (show (8 : Nat) ≠ 1 by decide), gneP (show (8 : Nat) ≠ 2 by decide), gneP (show (8 : Nat) ≠ 3 by decide), gneP (show (8 : Nat) ≠ 4 by decide), gneP (show (8 : Nat) ≠ 5 by decide), gneP (show (8 : Nat) ≠ 6 by decide), gneP (show (8 : Nat) ≠ 7 by decide), gneP (show (8 : Nat) ≠ 9 by decide), gneP (show (8 : Nat) ≠ 10 by decide), gneP (show (8 : Nat) ≠ 11 by decide), gneP (show (8 : Nat) ≠ 12 by decide), gneP (show (8 : Nat) ≠ 13 by decide), gneP (show (8 : Nat) ≠ 14 by decide)]
      rw [e0] at M
      rw [e0]
      exact ⟨v3, v4, v5, v6, v7, v8, v9, _, _, v12, v13, v14, rfl, M.call hb, o0, o1, o2, o3, fun h => by simp at h, fun h => by simp at h, f0, f1, fun h => (f2 h).keep hb.size hk, f3, f4, fun h => (f5 h).keep hb.size hk, f6, fun _ => rfl, fun _ => ⟨A4, n4, c4, rfl, hs, ho.mono fun _ _ h => h.keep hz (Nat.le_refl _) (fun _ _ _ => rfl)⟩, f9, f11, f13⟩
    · refine wpOp_doP (o := _) rfl rfl fun K hK => ?_
      go_simp
      refine hK _ _ ?_
      unfold CID
      simp only [gneP (show (9 : Nat) ≠ 0 by decide), gneP (show (9 : Nat) ≠ 1 by decide), gneP (show (9 : Nat) ≠ 2 by decide), gneP (show (9 : Nat) ≠ 3 by decide), gneP (show (9 : Nat) ≠ 4 by decide), gneP (show (9 : Nat) ≠ 5 by decide), gneP (show (9 : Nat) ≠ 6 by decide), gneP (show (9 : Nat) ≠ 7 by decide), gneP (show (9 : Nat) ≠ 8 by decide), gneP (show (9 : Nat) ≠ 10 by decide), gneP (show (9 : Nat) ≠ 11 by decide), gneP (show (9 : Nat) ≠ 12 by decide), gneP (show (9 : Nat) ≠ 13 by decide), gneP (show (9 : Nat) ≠ 14 by decide)]
      exact ⟨v3, v4, v5, v6, v7, v8, v9, v10, v11, _, v13, v14, rfl, M, o0, o1, o2, o3, o4, o5, f0, f1, f2, f3, f4, f5, f6, f7, f8, fun _ => rfl, f11, f13⟩
    · obtain rfl := f9 (h2 ⟨9, .data⟩ (by simp) rfl)
      have dd := Hd.mk (h2 ⟨2, .data⟩ (by simp) rfl)
      have d1 := Hd.mk (h2 ⟨1, .phase⟩ (by simp) rfl)
      obtain ⟨A4, n4, c4, rfl, s4, q4⟩ := f2 dd.out
      have cc := M.c3
      have ff := M.fr1 4
      refine wpOp_doP (o := _) rfl rfl fun K hK => ?_
      go_simp
      have hk : Kp (w.heap.size + 2) w'.heap.size w' (w'.setCell ⟨w.heap.size, 4, none⟩ (.slice A4 n4 c4)) := fun b h1 _ => by rw [Below.heap_setCell _ _ _ _ (by show b ≠ w.heap.size; omega)]
      have hz : w'.heap.size ≤ (w'.setCell ⟨w.heap.size, 4, none⟩ (.slice A4 n4 c4)).heap.size := by simp
      refine hK _ _ ?_
      unfold CID
      simp only [gneP (show (10 : Nat) ≠ 0 by decide), gneP (show (10 : Nat) ≠ 1 by decide), gneP (show (10 : Nat) ≠ 2 by decide), gneP (show (10 : Nat) ≠ 3 by decide), gneP (show (10 : Nat) ≠ 4 by decide), gneP (show (10 : Nat) ≠ 5 by decide), gneP (show (10 : Nat) ≠ 6 by decide), gneP (show (10 : Nat) ≠ 7 by decide), gneP (show (10 : Nat) ≠ 8 by decide), gneP (show (10 : Nat) ≠ 9 by decide), gneP (show (10 : Nat) ≠ 11 by decide), gneP (show (10 : Nat) ≠ 12 by decide), gneP (show (10 : Nat) ≠ 13 by decide), gneP (show (10 : Nat) ≠ 14 by decide)]
      rw [geqP (show 10 < L.size by rw [hsz]; decide)]
      exact ⟨v3, v4, _, v6, v7, v8, v9, v10, v11, _, v13, v14, rfl, M.set _ (by simp) (World.cell?_setCell_same _ _ _ cc) (cell_set_off (by decide) M.c4) (cell_set_off (by decide) M.c5), fun _ => d1.out, fun _ => dd.out, o2, o3, o4, o5, f0, f1, fun _ => (f2 dd.out).keep hz hk, f3, f4, fun h => (f5 h).keep hz hk, f6, f7, fun h => (f8 h).keep hz hk, fun _ => rfl, f11, f13⟩
    · refine wpOp_doP (o := _) rfl rfl fun K hK => ?_
      go_simp
      refine hK _ _ ?_
      unfold CID
      simp only [gneP (show (11 : Nat) ≠ 0 by decide), gneP (show (11 : Nat) ≠ 1 by decide), gneP (show (11 : Nat) ≠ 2 by decide), gneP (show (11 : Nat) ≠ 3 by decide), gneP (show (11 : Nat) ≠ 4 by decide), gneP (show (11 : Nat) ≠ 5 by decide), gneP (show (11 : Nat) ≠ 6 by decide), gneP (show (11 : Nat) ≠ 7 by decide), gneP (show (11 : Nat) ≠ 8 by decide), gneP (show (11 : Nat) ≠ 9 by decide), gneP (show (11 : Nat) ≠ 10 by decide), gneP (show (11 : Nat) ≠ 12 by decide), gneP (show (11 : Nat) ≠ 13 by decide), gneP (show (11 : Nat) ≠ 14 by decide)]
      exact ⟨v3, v4, v5, v6, v7, v8, v9, v10, v11, v12, _, v14, rfl, M, o0, o1, o2, o3, o4, o5, f0, f1, f2, f3, f4, f5, f6, f7, f8, f9, fun _ => rfl, f13⟩
    · obtain rfl := f11 (h2 ⟨11, .data⟩ (by simp) rfl)
      have dd := Hd.mk (h2 ⟨5, .data⟩ (by simp) rfl)
      have d1 := Hd.mk (h2 ⟨4, .phase⟩ (by simp) rfl)
      obtain ⟨A4, n4, c4, rfl, s4, q4⟩ := f5 dd.out
      have cc := M.c4
      have ff := M.fr1 5
      refine wpOp_doP (o := _) rfl rfl fun K hK => ?_
      go_simp
      have hk : Kp (w.heap.size + 2) w'.heap.size w' (w'.setCell ⟨w.heap.size, 5, none⟩ (.slice A4 n4 c4)) := fun b h1 _ => by rw [Below.heap_setCell _ _ _ _ (by show b ≠ w.heap.size; omega)]
      have hz : w'.heap.size ≤ (w'.setCell ⟨w.heap.size, 5, none⟩ (.slice A4 n4 c4)).heap.size := by simp
      refine hK _ _ ?_
      unfold CID
      simp only [gneP (show (12 : Nat) ≠ 0 by decide), gneP (show (12 : Nat) ≠ 1 by decide), gneP (show (12 : Nat) ≠ 2 by decide), gneP (show (12 : Nat) ≠ 3 by decide), gneP (show (12 : Nat) ≠ 4 by decide), gneP (show (12 : Nat) ≠ 5 by decide), gneP (show (12 : Nat) ≠ 6 by decide), gneP (show (12 : Nat) ≠ 7 by decide), gneP (show (12 : Nat) ≠ 8 by decide), gneP (show (12 : Nat) ≠ 9 by decide), gneP (show (12 : Nat) ≠ 10 by decide), gneP (show (12 : Nat) ≠ 11 by decide), gneP (show (12 : Nat) ≠ 13 by decide), gneP (show (12 : Nat) ≠ 14 by decide)]
      rw [geqP (show 12 < L.size by rw [hsz]; decide)]
      exact ⟨v3, v4, v5, v6, v7, _, v9, v10, v11, v12, _, v14, rfl, M.set _ (by simp) (cell_set_off (by decide) M.c3) (World.cell?_setCell_same _ _ _ cc) (cell_set_off (by decide) M.c5), o0, o1, fun _ => d1.out, fun _ => dd.out, o4, o5, f0, f1, fun h => (f2 h).keep hz hk, f3, f4, fun _ => (f5 dd.out).keep hz hk, f6, f7, fun h => (f8 h).keep hz hk, f9, fun _ => rfl, f13⟩
    · refine wpOp_doP (o := _) rfl rfl fun K hK => ?_
      go_simp
      refine hK _ _ ?_
      unfold CID
      simp only [gneP (show (13 : Nat) ≠ 0 by decide), gneP (show (13 : Nat) ≠ 1 by decide), gneP (show (13 : Nat) ≠ 2 by decide), gneP (show (13 : Nat) ≠ 3 by decide), gneP (show (13 : Nat) ≠ 4 by decide), gneP (show (13 : Nat) ≠ 5 by decide), gneP (show (13 : Nat) ≠ 6 by decide), gneP (show (13 : Nat) ≠ 7 by decide), gneP (show (13 : Nat) ≠ 8 by decide), gneP (show (13 : Nat) ≠ 9 by decide), gneP (show (13 : Nat) ≠ 10 by decide), gneP (show (13 : Nat) ≠ 11 by decide), gneP (show (13 : Nat) ≠ 12 by decide), gneP (show (13 : Nat) ≠ 14 by decide)]
      exact ⟨v3, v4, v5, v6, v7, v8, v9, v10, v11, v12, v13, _, rfl, M, o0, o1, o2, o3, o4, o5, f0, f1, f2, f3, f4, f5, f6, f7, f8, f9, f11, fun _ => rfl⟩
    · obtain rfl := f13 (h2 ⟨13, .data⟩ (by simp) rfl)
      have dd := Hd.mk (h2 ⟨8, .data⟩ (by simp) rfl)
      have d1 := Hd.mk (h2 ⟨7, .phase⟩ (by simp) rfl)
      obtain ⟨A4, n4, c4, rfl, s4, q4⟩ := f8 dd.out
      have cc := M.c5
      have ff := M.fr1 6
      refine wpOp_doP (o := _) rfl rfl fun K hK => ?_
      go_simp
      have hk : Kp (w.heap.size + 2) w'.heap.size w' (w'.setCell ⟨w.heap.size, 6, none⟩ (.slice A4 n4 c4)) := fun b h1 _ => by rw [Below.heap_setCell _ _ _ _ (by show b ≠ w.heap.size; omega)]
      have hz : w'.heap.size ≤ (w'.setCell ⟨w.heap.size, 6, none⟩ (.slice A4 n4 c4)).heap.size := by simp
      refine hK _ _ ?_
      unfold CID
      simp only [gneP (show (14 : Nat) ≠ 0 by decide), gneP (show (14 : Nat) ≠ 1 by decide), gneP (show (14 : Nat) ≠ 2 by decide), gneP (show (14 : Nat) ≠ 3 by decide), gneP (show (14 : Nat) ≠ 4 by decide), gneP (show (14 : Nat) ≠ 5 by decide), gneP (show (14 : Nat) ≠ 6 by decide), gneP (show (14 : Nat) ≠ 7 by decide), gneP (show (14 : Nat) ≠ 8 by decide), gneP (show (14 : Nat) ≠ 9 by decide), gneP (show (14 : Nat) ≠ 10 by decide), gneP (show (14 : Nat) ≠ 11 by decide), gneP (show (14 : Nat) ≠ 12 by decide), gneP (show (14 : Nat) ≠ 13 by decide)]
      rw [geqP (show 14 < L.size by rw [hsz]; decide)]
      exact ⟨v3, v4, v5, v6, v7, v8, v9, v10, _, v12, v13, _, rfl, M.set _ (by simp) (cell_set_off (by decide) M.c3) (cell_set_off (by decide) M.c4) (World.cell?_setCell_same _ _ _ cc), o0, o1, o2, o3, fun _ => d1.out, fun _ => dd.out, f0, f1, fun h => (f2 h).keep hz hk, f3, f4, fun h => (f5 h).keep hz hk, f6, f7, fun _ => (f8 dd.out).keep hz hk, f9, f11, fun _ => rfl⟩
  · intro L a w' hsz hall hI
    have ha : ∀ i, i < 15 → L.getD i false = true := hall
    obtain ⟨v3, v4, v5, v6, v7, v8, v9, v10, v11, v12, v13, v14, rfl, M, o0, o1, o2, o3, o4, o5, f0, f1, f2, f3, f4, f5, f6, f7, f8, f9, f11, f13⟩ := hI
    obtain rfl := f0 (ha 0 (by decide))
    obtain rfl := f1 (ha 1 (by decide))
    obtain rfl := f3 (ha 3 (by decide))
    obtain rfl := f4 (ha 4 (by decide))
    obtain rfl := f6 (ha 6 (by decide))
    obtain rfl := f7 (ha 7 (by decide))
    obtain rfl := f9 (ha 9 (by decide))
    obtain rfl := f11 (ha 11 (by decide))
    obtain rfl := f13 (ha 13 (by decide))
    rw [ha 10 (by decide), ha 12 (by decide), ha 14 (by decide)] at M
    obtain ⟨A4, n4, c4, rfl, s4, q4⟩ := f2 (ha 2 (by decide))
    obtain ⟨A5, n5, c5, rfl, s5, q5⟩ := f5 (ha 5 (by decide))
    obtain ⟨A6, n6, c6, rfl, s6, q6⟩ := f8 (ha 8 (by decide))
    have hM := Hd.mk M
    obtain ⟨_, _, fr1, fr2, fx, x3, x4, x5, z⟩ := M
    have x00 := fx 0 _ rfl
    have x11 := fx 1 _ rfl
    have x22 := fx 2 _ rfl
    have x33 := fx 3 _ rfl
    obtain ⟨u0, hu0⟩ := Option.isSome_iff_exists.1 (z 0 (by decide))
    obtain ⟨u1, hu1⟩ := Option.isSome_iff_exists.1 (z 1 (by decide))
    obtain ⟨u2, hu2⟩ := Option.isSome_iff_exists.1 (z 2 (by decide))
    obtain ⟨u3, hu3⟩ := Option.isSome_iff_exists.1 (z 3 (by decide))
    obtain ⟨u4, hu4⟩ := Option.isSome_iff_exists.1 (z 4 (by decide))
    obtain ⟨u5, hu5⟩ := Option.isSome_iff_exists.1 (z 5 (by decide))
    obtain ⟨u6, hu6⟩ := Option.isSome_iff_exists.1 (z 6 (by decide))
    dsimp only [cond] at x3 x4 x5
    simp only [Nat.zero_add] at x00 x11 x22 x33
    have HS := Hd.mk (And.intro s4 (And.intro q4 (And.intro s5 (And.intro q5 (And.intro s6 q6)))))
    clear s4 q4 s5 q5 s6 q6 z fx hall hsz M0 hsz0 X1 X2 X3 o0 o1 o2 o3 o4 o5 f0 f1 f2 f3 f4 f5 f6 f7 f8 f9 f11 f13
    refine ‹∀ (a : Act) (w : World), Code.wp Tryz.prog _ _ a w → _› _ _ ?_
    go_wp2_with fail
    obtain ⟨W, hW⟩ : ∃ W : World, W = (((((((w'.setCell ⟨w.heap.size + 1, 0, none⟩ (.int .i64 k)).setCell ⟨w.heap.size + 1, 1, none⟩ (.bool y)).setCell ⟨w.heap.size + 1, 2, none⟩ (.string n)).setCell ⟨w.heap.size + 1, 3, none⟩ (.int .i64 t)).setCell ⟨w.heap.size + 1, 4, none⟩ (.slice A4 n4 c4)).setCell ⟨w.heap.size + 1, 5, none⟩ (.slice A5 n5 c5)).setCell ⟨w.heap.size + 1, 6, none⟩ (.slice A6 n6 c6)) := ⟨_, rfl⟩
    rw [← hW]
    have hWs : W = w'.setCells (w.heap.size + 1) 0 [.int .i64 k, .bool y, .string n, .int .i64 t, .slice A4 n4 c4, .slice A5 n5 c5, .slice A6 n6 c6] := hW
    clear hW
    obtain ⟨hsz, hbl, hin, hout, hfr⟩ := stored_row (vs := [.int .i64 k, .bool y, .string n, .int .i64 t, .slice A4 n4 c4, .slice A5 n5 c5, .slice A6 n6 c6]) hWs (isSome7 hu0 hu1 hu2 hu3 hu4 hu5 hu6)
    have hk : Kp (w.heap.size + 2) w'.heap.size w' W := fun q h1 _ => hbl q (by omega)
    refine bodyPost_ret (results_cell_mid rfl _ _ (w.heap.size + 1) 0 [.int .i64 k, .bool y, .string n, .int .i64 t, .slice A4 n4 c4, .slice A5 n5 c5, .slice A6 n6 c6] _ rfl hin Tryz.underlying47 rfl (by kernel_rfl)) rfl ?_
    obtain ⟨s4, q4, s5, q5, s6, q6⟩ := HS.out
    exact ⟨k, y, n, t, ps, e, bd, A4, n4, c4, A5, n5, c5, A6, n6, c6, rfl, rfl, below_setRow hM.out.below hsz hbl (Nat.le_succ _) hWs, SlP_keep hk s4 q4, q4.mono fun _ _ h => h.keep (by omega) (by rw [hsz]; exact Nat.le_refl _) hk, SlE_keep hk s5 q5, q5.mono fun _ _ h => h.keep (by omega) (by rw [hsz]; exact Nat.le_refl _) hk, SlS_keep hk s6 q6, q6.mono fun _ _ h => h.keep (by omega) (by rw [hsz]; exact Nat.le_refl _) hk⟩
end Go.Proofs.YtbhgpegcdiohlaaGreatDoor.Tr
