import Derived.Test.YtbhgpegcdiohlaaGreatDoorRtI
import Derived.Test.YtbhgpegcdiohlaaGreatDoorTrP
import Derived.Test.YtbhgpegcdiohlaaGreatDoorLvU
import Derived.Deep.AppendLies
import Derived.Deep.RegionHeld3
namespace Go.Proofs.YtbhgpegcdiohlaaGreatDoor.Tr
open Go Go.RowKit Go.Proofs
set_option linter.unusedVariables false
set_option maxRecDepth 100000
set_option maxHeartbeats 8000000
theorem infoDe : (Tryz.prog.info? 47).map (fun i => (i.zero, i.size, i.bytes)) = some (some (.agg #[.int .i64 0, .bool false, .string ⟨#[]⟩, .int .i64 0, .slice none 0 0, .slice none 0 0, .slice none 0 0]), 7, 112) := by kernel_rfl
theorem own_nil {w : World} {base : Nat} {e : TypeId} {size G : Nat} (h : w.heap[G]? = some (.cells #[] e (0, 0))) (hb : base ≤ G) : w.ownsRow base e size (.slice (some ⟨G, 0, none⟩) 0 0) 0 [] := by
  refine ⟨by simp, .inr ⟨G, 0, #[], rfl, hb, h, Nat.le_refl _, Nat.zero_le _, by simp, by simp⟩⟩
theorem own_set {w : World} {base : Nat} {e : TypeId} {size n : Nat} {v : Value} {xs : List Value} (h : w.ownsRow base e size v n xs) (p : Addr) (u : Value) (hp : v.ownBlock ≠ some p.block) : (w.setCell p u).ownsRow base e size v n xs := by
  obtain ⟨h1, h2⟩ := h
  refine ⟨h1, ?_⟩
  rcases h2 with h2 | ⟨g, cap, cur, hv, hb, hh, h3⟩
  · exact .inl h2
  · refine .inr ⟨g, cap, cur, hv, hb, ?_, h3⟩
    rw [Below.heap_setCell _ _ _ _ (by subst hv; simp only [Value.ownBlock] at hp; exact fun h => hp (by rw [h])), hh]
theorem wpOp_do {P : Program} {ops : Array Oper} {Q : Exit → Act → World → Prop} {i : Nat} {o : Oper} {a : Act} {w : World} {I : Act → World → Prop} (ho : ops[i]? = some o) (hw : Region.wanted o (yielded ops a.tmps) = true) (h : ∀ K : Act → World → Prop, (∀ a' w', I a' w' → K a' w') → o.wp P a w K Q) : wpOp P ops Q i I a w := by
  unfold wpOp
  rw [ho]
  simp only [hw, if_true]
  exact .inl (h I fun _ _ x => x)
theorem gne {L : Array Bool} {i j : Nat} (h : i ≠ j) : (L.setIfInBounds i true).getD j false = L.getD j false := getD_set_ne false h
theorem geq {L : Array Bool} {i : Nat} (h : i < L.size) : (L.setIfInBounds i true).getD i false = true := by simp [h]
theorem hac_of {ops : Array Oper} (h : (List.range ops.size).all (fun i => match ops[i]? with | some o => o.after.all (fun e => decide (e.on < i)) | none => true) = true) : ∀ (i : Nat) (o : Oper), ops[i]? = some o → ∀ e ∈ o.after, e.on < i := by
  intro i o ho e he
  have hi := (Array.getElem?_eq_some_iff.1 ho).1
  have := List.all_eq_true.1 h i (List.mem_range.2 hi)
  rw [ho] at this
  have := Array.all_eq_true_iff_forall_mem.1 this e he
  exact of_decide_eq_true this
theorem new_cellD (w : World) (cs : Array Value) (t : TypeId) (i : Nat) : ((w.alloc (.cells cs t (0, 0))).drew).cell? ⟨w.heap.size, i, none⟩ = cs[i]? := new_cell w cs t i
theorem S11 {N : Nat} {w0 w w' : World} (hb : Below w.heap.size w w') (hN : w0.heap.size = N) {a0 a1 a2 a3 a4 a5 a6 a7 a8 a9 a10 : Addr} {v0 v1 v2 v3 v4 v5 v6 v7 v8 v9 v10 : Value} (h : Below N w0 w ∧ w.cell? a0 = some v0 ∧ w.cell? a1 = some v1 ∧ w.cell? a2 = some v2 ∧ w.cell? a3 = some v3 ∧ w.cell? a4 = some v4 ∧ w.cell? a5 = some v5 ∧ w.cell? a6 = some v6 ∧ w.cell? a7 = some v7 ∧ w.cell? a8 = some v8 ∧ w.cell? a9 = some v9 ∧ w.cell? a10 = some v10) : Below N w0 w' ∧ w'.cell? a0 = some v0 ∧ w'.cell? a1 = some v1 ∧ w'.cell? a2 = some v2 ∧ w'.cell? a3 = some v3 ∧ w'.cell? a4 = some v4 ∧ w'.cell? a5 = some v5 ∧ w'.cell? a6 = some v6 ∧ w'.cell? a7 = some v7 ∧ w'.cell? a8 = some v8 ∧ w'.cell? a9 = some v9 ∧ w'.cell? a10 = some v10 := by
  subst hN
  obtain ⟨h, c0, c1, c2, c3, c4, c5, c6, c7, c8, c9, c10⟩ := h
  exact ⟨step h hb, keep hb c0, keep hb c1, keep hb c2, keep hb c3, keep hb c4, keep hb c5, keep hb c6, keep hb c7, keep hb c8, keep hb c9, keep hb c10⟩
def FI (N : Nat) (mn : ByteArray) (A0 B0 : Option Addr) (l0 c0 m0 d0 : Nat) (k : Int) (ex : Bool) (n : ByteArray) (t : Int) (A1 A2 A3 : Option Addr) (l1 c1 l2 c2 l3 c3 : Nat) (news : List Value) (w0 : World) (L : Array Bool) (a : Act) (w : World) : Prop := ∃ (v5 v9 v10 v11 v12 v13 v14 v15 v16 v17 v18 v19 v20 : Value) (R : Option Nat), a = { tmps := #[.agg #[.string mn, .slice A0 l0 c0, .slice B0 m0 d0], .agg #[.int .i64 k, .bool ex, .string n, .int .i64 t, .slice A1 l1 c1, .slice A2 l2 c2, .slice A3 l3 c3], .pointer (some ⟨N, 0, none⟩), .pointer (some ⟨N + 1, 0, none⟩), .bool false, v5, undef, .bool true, .bool false, v9, v10, v11, v12, v13, v14, v15, v16, v17, v18, v19, v20, undef, undef, undef, undef, undef, undef, undef, undef, undef, undef, undef, undef, undef, undef, undef, undef, undef, undef, undef, undef, undef, undef, undef, undef], defers := [] } ∧
  Below w0.heap.size w0 w ∧
  (∀ r, R = some r → r < w.heap.size ∧ w0.heap.size ≤ r) ∧
  ((L.getD 7 false = true → L.getD 4 false = true) ∧ (L.getD 10 false = true → L.getD 7 false = true) ∧ (L.getD 13 false = true → L.getD 12 false = true) ∧ (L.getD 11 false = true → L.getD 10 false = true) ∧ (L.getD 13 false = true → L.getD 11 false = true)) ∧
  (L.getD 0 false = true → v9 = .pointer (some ⟨N, 0, none⟩)) ∧
  (L.getD 1 false = true → v10 = .string mn) ∧
  (L.getD 2 false = true → v11 = .pointer (some ⟨N, 1, none⟩)) ∧
  (L.getD 3 false = true → v12 = .slice A0 l0 c0) ∧
  (L.getD 4 false = true → L.getD 7 false = false → ∃ G, v13 = .slice (some ⟨G, 0, none⟩) 0 0 ∧ R = some G ∧ w.ownsRow w0.heap.size 47 7 (.slice (some ⟨G, 0, none⟩) 0 0) 0 []) ∧
  (L.getD 5 false = true → v14 = .pointer (some ⟨N, 2, none⟩)) ∧
  (L.getD 6 false = true → v15 = .slice B0 m0 d0) ∧
  (L.getD 7 false = true → L.getD 10 false = false → ∃ g cap, v16 = .slice (some ⟨g, 0, none⟩) m0 cap ∧ R = some g ∧ w.ownsRow w0.heap.size 47 7 (.slice (some ⟨g, 0, none⟩) m0 cap) m0 news) ∧
  (L.getD 8 false = true → v17 = .agg #[.int .i64 k, .bool ex, .string n, .int .i64 t, .slice A1 l1 c1, .slice A2 l2 c2, .slice A3 l3 c3]) ∧
  (L.getD 9 false = true → L.getD 10 false = false → ∃ G, v18 = .slice (some ⟨G, 0, none⟩) 1 1 ∧ R ≠ some G ∧ G < w.heap.size ∧ ∀ (j : Nat) (u : Value), ([.int .i64 k, .bool ex, .string n, .int .i64 t, .slice A1 l1 c1, .slice A2 l2 c2, .slice A3 l3 c3] : List Value)[j]? = some u → w.cell? ((⟨G, 0, none⟩ : Addr).add j) = some u) ∧
  (L.getD 10 false = true → ∃ g cap, v19 = .slice (some ⟨g, 0, none⟩) (m0 + 1) cap ∧ R = some g ∧ w.ownsRow w0.heap.size 47 7 (.slice (some ⟨g, 0, none⟩) (m0 + 1) cap) (m0 + 1) (news ++ [.int .i64 k, .bool ex, .string n, .int .i64 t, .slice A1 l1 c1, .slice A2 l2 c2, .slice A3 l3 c3])) ∧
  (L.getD 11 false = true → v20 = .agg #[.string mn, .slice A0 l0 c0, v19]) ∧
  (L.getD 12 false = true → ∃ K, v5 = .pointer (some ⟨K, 0, none⟩) ∧ w0.heap.size ≤ K ∧ R ≠ some K ∧ K < w.heap.size ∧ w.frozen? ⟨K, 0, none⟩ = false ∧ w.frozen? ⟨K, 1, none⟩ = false ∧ w.frozen? ⟨K, 2, none⟩ = false ∧ ∃ x y z, w.cell? ⟨K, 0, none⟩ = some x ∧ w.cell? ⟨K, 1, none⟩ = some y ∧ w.cell? ⟨K, 2, none⟩ = some z ∧ (L.getD 13 false = true → x = .string mn ∧ y = .slice A0 l0 c0 ∧ z = v19))
structure FH (N : Nat) (mn : ByteArray) (A0 B0 : Option Addr) (l0 c0 m0 d0 : Nat) (k : Int) (ex : Bool) (n : ByteArray) (t : Int) (A1 A2 A3 : Option Addr) (l1 c1 l2 c2 l3 c3 : Nat) (news : List Value) (w0 : World) : Prop where
  q0 : w0.cell? ⟨N, 0, none⟩ = some (.string mn)
  q1 : w0.cell? ⟨N, 1, none⟩ = some (.slice A0 l0 c0)
  q2 : w0.cell? ⟨N, 2, none⟩ = some (.slice B0 m0 d0)
  q3 : w0.cell? ⟨N + 1, 0, none⟩ = some (.int .i64 k)
  q4 : w0.cell? ⟨N + 1, 1, none⟩ = some (.bool ex)
  q5 : w0.cell? ⟨N + 1, 2, none⟩ = some (.string n)
  q6 : w0.cell? ⟨N + 1, 3, none⟩ = some (.int .i64 t)
  q7 : w0.cell? ⟨N + 1, 4, none⟩ = some (.slice A1 l1 c1)
  q8 : w0.cell? ⟨N + 1, 5, none⟩ = some (.slice A2 l2 c2)
  q9 : w0.cell? ⟨N + 1, 6, none⟩ = some (.slice A3 l3 c3)
  hl : news.length = m0 * 7
  hone : ∀ u ∈ news, u.oneCell' = true
  hnews : 0 < m0 → ∃ B o, B0 = some ⟨B, o, none⟩ ∧ ∀ (j : Nat) (u : Value), news[j]? = some u → w0.cell? ((⟨B, o, none⟩ : Addr).add j) = some u
  hm : m0 * 112 ≤ 140737488351232
theorem new_frozen (w : World) (cs : Array Value) (t : TypeId) (i : Nat) : (w.alloc (.cells cs t (0, 0))).frozen? ⟨w.heap.size, i, none⟩ = false := by
  have h := heap_alloc_new w (.cells cs t (0, 0))
  unfold World.frozen?
  rw [h]
  simp
theorem nof {L : Array Bool} {i : Nat} (h : L.getD i true = false) : ¬ L.getD i false = true := by
  intro g
  rcases Nat.lt_or_ge i L.size with hlt | hge
  · simp [hlt] at h g; rw [h] at g; cases g
  · simp [hge] at h
theorem first_walk (mn : ByteArray) (A0 B0 : Option Addr) (l0 c0 m0 d0 : Nat) (k : Int) (ex : Bool) (n : ByteArray) (t : Int) (A1 A2 A3 : Option Addr) (l1 c1 l2 c2 l3 c3 : Nat) (news : List Value) (w : World) (p pa po : Int) (hl : news.length = m0 * 7) (hone : ∀ u ∈ news, u.oneCell' = true)
    (hnews : 0 < m0 → ∃ B o, B0 = some ⟨B, o, none⟩ ∧ ∀ (j : Nat) (u : Value), news[j]? = some u → w.cell? ((⟨B, o, none⟩ : Addr).add j) = some u) (hm : m0 * 112 ≤ 140737488351232)
    (XM : ∀ w', Below w.heap.size w w' → Calls Tryz.prog 13 #[.agg #[.string mn, .slice A0 l0 c0, .slice B0 m0 d0]] w' (SaysI p w'))
    (XA : ∀ (w' : World) (base g cap : Nat), Below w.heap.size w w' → w'.ownsRow base 47 7 (.slice (some ⟨g, 0, none⟩) (m0 + 1) cap) (m0 + 1) (news ++ [.int .i64 k, .bool ex, .string n, .int .i64 t, .slice A1 l1 c1, .slice A2 l2 c2, .slice A3 l3 c3]) → ∀ w'', Below w'.heap.size w' w'' → Calls Tryz.prog 13 #[.agg #[.string mn, .slice A0 l0 c0, .slice (some ⟨g, 0, none⟩) (m0 + 1) cap]] w'' (SaysI pa w''))
    (XO : ∀ (w' : World) (G : Nat), Below w.heap.size w w' → (∀ (j : Nat) (u : Value), ([.int .i64 k, .bool ex, .string n, .int .i64 t, .slice A1 l1 c1, .slice A2 l2 c2, .slice A3 l3 c3] : List Value)[j]? = some u → w'.cell? ⟨G, j, none⟩ = some u) → Calls Tryz.prog 13 #[.agg #[.string mn, .slice none 0 0, .slice (some ⟨G, 0, none⟩) 1 1]] w' (SaysI po w'))
    (hA : 64 < m0 + 1 → pa ≠ 0) (hB : m0 + 1 ≤ 64 → p ≠ 0 → pa = p) (hC : m0 + 1 ≤ 64 → p = 0 → pa = po) :
    Calls Tryz.prog 7 #[.agg #[.string mn, .slice A0 l0 c0, .slice B0 m0 d0], .agg #[.int .i64 k, .bool ex, .string n, .int .i64 t, .slice A1 l1 c1, .slice A2 l2 c2, .slice A3 l3 c3]] w (Says true w) := by
  have HX := Hd.mk XM
  have HXA := Hd.mk XA
  have HXO := Hd.mk XO
  have HNW := Hd.mk hnews
  have HL := Hd.mk hl
  have HONE := Hd.mk hone
  have HAA := Hd.mk hA
  have HBB := Hd.mk hB
  have HCC := Hd.mk hC
  clear XM XA XO hnews hl hone hA hB hC
  have b1 := new_cell w #[.string mn, .slice A0 l0 c0, .slice B0 m0 d0] 25
  have b2 := new_cell (w.alloc (.cells #[.string mn, .slice A0 l0 c0, .slice B0 m0 d0] 25 (0, 0))) #[.int .i64 k, .bool ex, .string n, .int .i64 t, .slice A1 l1 c1, .slice A2 l2 c2, .slice A3 l3 c3] 47
  rw [show (w.alloc (.cells #[.string mn, .slice A0 l0 c0, .slice B0 m0 d0] 25 (0, 0))).heap.size = w.heap.size + 1 by simp] at b2
  have C1 := Hd.mk b1
  have C2 := Hd.mk b2
  clear b1 b2
  go_enter Tryz.func7, Tryz.ntmps7
  go_wp2_with (go_at_call 17; (with_reducible refine ((live_any _).mono ?_)); (rintro e w3 ⟨rfl, hb3⟩; have HB3 := Hd.mk hb3; clear hb3))
  have FH0 : FH w.heap.size mn A0 B0 l0 c0 m0 d0 k ex n t A1 A2 A3 l1 c1 l2 c2 l3 c3 news w3 := ⟨keep HB3.out (keep (up (up0 _) _) (C1.out 0)), keep HB3.out (keep (up (up0 _) _) (C1.out 1)), keep HB3.out (keep (up (up0 _) _) (C1.out 2)), keep HB3.out (C2.out 0), keep HB3.out (C2.out 1), keep HB3.out (C2.out 2), keep HB3.out (C2.out 3), keep HB3.out (C2.out 4), keep HB3.out (C2.out 5), keep HB3.out (C2.out 6), HL.out, HONE.out, fun h => by
    obtain ⟨B, o, hB, hn⟩ := HNW.out h
    exact ⟨B, o, hB, fun j u hj => keep (step (up (up (up0 _) _) _) HB3.out) (hn j u hj)⟩, hm⟩
  refine wp_region_inv (FI w.heap.size mn A0 B0 l0 c0 m0 d0 k ex n t A1 A2 A3 l1 c1 l2 c2 l3 c3 news w3) (by kernel_rfl) (hac_of (by kernel_rfl)) ?_ ?_ ?_
  · exact ⟨undef, undef, undef, undef, undef, undef, undef, undef, undef, undef, undef, undef, undef, none, rfl, (Below.refl _ _).drew, (fun _ h => by cases h), ⟨fun h => by simp at h, fun h => by simp at h, fun h => by simp at h, fun h => by simp at h, fun h => by simp at h⟩, fun h => by simp at h, fun h => by simp at h, fun h => by simp at h, fun h => by simp at h, fun h => by simp at h, fun h => by simp at h, fun h => by simp at h, fun h => by simp at h, fun h => by simp at h, fun h => by simp at h, fun h => by simp at h, fun h => by simp at h, fun h => by simp at h⟩
  · clear HX HXA HXO HNW HL HONE HAA HBB HCC C1 C2
    intro i o L a w' ho hsz h1 h2 hI
    have hi : i < 14 := (Array.getElem?_eq_some_iff.1 ho).1
    clear HB3
    generalize w.heap.size = N at *
    obtain ⟨v5, v9, v10, v11, v12, v13, v14, v15, v16, v17, v18, v19, v20, R, rfl, fB, fR, fC, f0, f1, f2, f3, f4, f5, f6, f7, f8, f9, f10, f11, f12⟩ := hI
    generalize w3 = w0 at *
    rename_i w
    clear w
    obtain ⟨w, rfl⟩ : ∃ w, w = w' := ⟨_, rfl⟩
    have hi' : i = 0 ∨ i = 1 ∨ i = 2 ∨ i = 3 ∨ i = 4 ∨ i = 5 ∨ i = 6 ∨ i = 7 ∨ i = 8 ∨ i = 9 ∨ i = 10 ∨ i = 11 ∨ i = 12 ∨ i = 13 := by omega
    rcases hi' with rfl | rfl | rfl | rfl | rfl | rfl | rfl | rfl | rfl | rfl | rfl | rfl | rfl | rfl
    all_goals obtain rfl := Option.some.inj ho
    all_goals clear ho
    · refine wpOp_do (o := _) rfl rfl fun K hK => ?_
      go_simp
      refine hK _ _ ?_
      unfold FI
      simp only [gne (show (0 : Nat) ≠ 1 by decide), gne (show (0 : Nat) ≠ 2 by decide), gne (show (0 : Nat) ≠ 3 by decide), gne (show (0 : Nat) ≠ 4 by decide), gne (show (0 : Nat) ≠ 5 by decide), gne (show (0 : Nat) ≠ 6 by decide), gne (show (0 : Nat) ≠ 7 by decide), gne (show (0 : Nat) ≠ 8 by decide), gne (show (0 : Nat) ≠ 9 by decide), gne (show (0 : Nat) ≠ 10 by decide), gne (show (0 : Nat) ≠ 11 by decide), gne (show (0 : Nat) ≠ 12 by decide), gne (show (0 : Nat) ≠ 13 by decide)]
      refine ⟨v5, _, v10, v11, v12, v13, v14, v15, v16, v17, v18, v19, v20, R, rfl, ?_⟩
      exact ⟨fB, fR, fC, fun _ => rfl, f1, f2, f3, f4, f5, f6, f7, f8, f9, f10, f11, f12⟩
    · have d0 : L.getD 0 false = true := h2 ⟨0, .data⟩ (by simp) rfl
      obtain rfl := f0 d0
      have e0 := keep fB FH0.q0
      refine wpOp_do (o := _) rfl rfl fun K hK => ?_
      go_simp
      refine hK _ _ ?_
      unfold FI
      simp only [gne (show (1 : Nat) ≠ 0 by decide), gne (show (1 : Nat) ≠ 2 by decide), gne (show (1 : Nat) ≠ 3 by decide), gne (show (1 : Nat) ≠ 4 by decide), gne (show (1 : Nat) ≠ 5 by decide), gne (show (1 : Nat) ≠ 6 by decide), gne (show (1 : Nat) ≠ 7 by decide), gne (show (1 : Nat) ≠ 8 by decide), gne (show (1 : Nat) ≠ 9 by decide), gne (show (1 : Nat) ≠ 10 by decide), gne (show (1 : Nat) ≠ 11 by decide), gne (show (1 : Nat) ≠ 12 by decide), gne (show (1 : Nat) ≠ 13 by decide)]
      refine ⟨v5, _, _, v11, v12, v13, v14, v15, v16, v17, v18, v19, v20, R, rfl, ?_⟩
      exact ⟨fB, fR, fC, fun _ => rfl, fun _ => rfl, f2, f3, f4, f5, f6, f7, f8, f9, f10, f11, f12⟩
    · refine wpOp_do (o := _) rfl rfl fun K hK => ?_
      go_simp
      refine hK _ _ ?_
      unfold FI
      simp only [gne (show (2 : Nat) ≠ 0 by decide), gne (show (2 : Nat) ≠ 1 by decide), gne (show (2 : Nat) ≠ 3 by decide), gne (show (2 : Nat) ≠ 4 by decide), gne (show (2 : Nat) ≠ 5 by decide), gne (show (2 : Nat) ≠ 6 by decide), gne (show (2 : Nat) ≠ 7 by decide), gne (show (2 : Nat) ≠ 8 by decide), gne (show (2 : Nat) ≠ 9 by decide), gne (show (2 : Nat) ≠ 10 by decide), gne (show (2 : Nat) ≠ 11 by decide), gne (show (2 : Nat) ≠ 12 by decide), gne (show (2 : Nat) ≠ 13 by decide)]
      refine ⟨v5, v9, v10, _, v12, v13, v14, v15, v16, v17, v18, v19, v20, R, rfl, ?_⟩
      exact ⟨fB, fR, fC, f0, f1, fun _ => rfl, f3, f4, f5, f6, f7, f8, f9, f10, f11, f12⟩
    · have d2 : L.getD 2 false = true := h2 ⟨2, .data⟩ (by simp) rfl
      obtain rfl := f2 d2
      have e1 := keep fB FH0.q1
      refine wpOp_do (o := _) rfl rfl fun K hK => ?_
      go_simp
      refine hK _ _ ?_
      unfold FI
      simp only [gne (show (3 : Nat) ≠ 0 by decide), gne (show (3 : Nat) ≠ 1 by decide), gne (show (3 : Nat) ≠ 2 by decide), gne (show (3 : Nat) ≠ 4 by decide), gne (show (3 : Nat) ≠ 5 by decide), gne (show (3 : Nat) ≠ 6 by decide), gne (show (3 : Nat) ≠ 7 by decide), gne (show (3 : Nat) ≠ 8 by decide), gne (show (3 : Nat) ≠ 9 by decide), gne (show (3 : Nat) ≠ 10 by decide), gne (show (3 : Nat) ≠ 11 by decide), gne (show (3 : Nat) ≠ 12 by decide), gne (show (3 : Nat) ≠ 13 by decide)]
      refine ⟨v5, v9, v10, _, _, v13, v14, v15, v16, v17, v18, v19, v20, R, rfl, ?_⟩
      exact ⟨fB, fR, fC, f0, f1, fun _ => rfl, fun _ => rfl, f4, f5, f6, f7, f8, f9, f10, f11, f12⟩
    · refine wpOp_do (o := _) rfl rfl fun K hK => ?_
      go_simp
      have b4 := up (up0 w) (.cells #[] 47 (0, 0))
      refine hK _ _ ?_
      unfold FI
      simp only [gne (show (4 : Nat) ≠ 0 by decide), gne (show (4 : Nat) ≠ 1 by decide), gne (show (4 : Nat) ≠ 2 by decide), gne (show (4 : Nat) ≠ 3 by decide), gne (show (4 : Nat) ≠ 5 by decide), gne (show (4 : Nat) ≠ 6 by decide), gne (show (4 : Nat) ≠ 7 by decide), gne (show (4 : Nat) ≠ 8 by decide), gne (show (4 : Nat) ≠ 9 by decide), gne (show (4 : Nat) ≠ 10 by decide), gne (show (4 : Nat) ≠ 11 by decide), gne (show (4 : Nat) ≠ 12 by decide), gne (show (4 : Nat) ≠ 13 by decide)]
      refine ⟨v5, v9, v10, v11, v12, _, v14, v15, v16, v17, v18, v19, v20, (some w.heap.size), rfl, ?_⟩
      exact ⟨step fB b4, (fun r hr => by cases hr; exact ⟨by simp, fB.size⟩), ⟨fun _ => geq (by rw [hsz]; decide), fC.2.1, fC.2.2⟩, f0, f1, f2, f3, fun _ _ => ⟨_, rfl, rfl, own_nil (heap_alloc_new _ _) fB.size⟩, f5, f6, fun h _ => absurd (fC.1 h) (nof h1), f8, fun h h10 => by obtain ⟨G, x1, x2, x3, x4⟩ := f9 h h10; exact ⟨G, x1, fun hh => by cases hh; omega, by simp; omega, fun j u hj => keep b4 (x4 j u hj)⟩, fun h => absurd (fC.1 (fC.2.1 h)) (nof h1), f11, fun h => by obtain ⟨K0, x1, x2, x3, x4, x5, x6, x7, X, Y, Z, x8, x9, x10, x11⟩ := f12 h; exact ⟨K0, x1, x2, (fun hh => by cases hh; omega), (by simp; omega), (b4.frozen (p := ⟨K0, 0, none⟩) x4).trans x5, (b4.frozen (p := ⟨K0, 1, none⟩) x4).trans x6, (b4.frozen (p := ⟨K0, 2, none⟩) x4).trans x7, X, Y, Z, keep b4 x8, keep b4 x9, keep b4 x10, x11⟩⟩
    · refine wpOp_do (o := _) rfl rfl fun K hK => ?_
      go_simp
      refine hK _ _ ?_
      unfold FI
      simp only [gne (show (5 : Nat) ≠ 0 by decide), gne (show (5 : Nat) ≠ 1 by decide), gne (show (5 : Nat) ≠ 2 by decide), gne (show (5 : Nat) ≠ 3 by decide), gne (show (5 : Nat) ≠ 4 by decide), gne (show (5 : Nat) ≠ 6 by decide), gne (show (5 : Nat) ≠ 7 by decide), gne (show (5 : Nat) ≠ 8 by decide), gne (show (5 : Nat) ≠ 9 by decide), gne (show (5 : Nat) ≠ 10 by decide), gne (show (5 : Nat) ≠ 11 by decide), gne (show (5 : Nat) ≠ 12 by decide), gne (show (5 : Nat) ≠ 13 by decide)]
      refine ⟨v5, v9, v10, v11, v12, v13, _, v15, v16, v17, v18, v19, v20, R, rfl, ?_⟩
      exact ⟨fB, fR, fC, f0, f1, f2, f3, f4, fun _ => rfl, f6, f7, f8, f9, f10, f11, f12⟩
    · have d5 : L.getD 5 false = true := h2 ⟨5, .data⟩ (by simp) rfl
      obtain rfl := f5 d5
      have e2 := keep fB FH0.q2
      refine wpOp_do (o := _) rfl rfl fun K hK => ?_
      go_simp
      refine hK _ _ ?_
      unfold FI
      simp only [gne (show (6 : Nat) ≠ 0 by decide), gne (show (6 : Nat) ≠ 1 by decide), gne (show (6 : Nat) ≠ 2 by decide), gne (show (6 : Nat) ≠ 3 by decide), gne (show (6 : Nat) ≠ 4 by decide), gne (show (6 : Nat) ≠ 5 by decide), gne (show (6 : Nat) ≠ 7 by decide), gne (show (6 : Nat) ≠ 8 by decide), gne (show (6 : Nat) ≠ 9 by decide), gne (show (6 : Nat) ≠ 10 by decide), gne (show (6 : Nat) ≠ 11 by decide), gne (show (6 : Nat) ≠ 12 by decide), gne (show (6 : Nat) ≠ 13 by decide)]
      refine ⟨v5, v9, v10, v11, v12, v13, _, _, v16, v17, v18, v19, v20, R, rfl, ?_⟩
      exact ⟨fB, fR, fC, f0, f1, f2, f3, f4, fun _ => rfl, fun _ => rfl, f7, f8, f9, f10, f11, f12⟩
    · have d4 : L.getD 4 false = true := h2 ⟨4, .data⟩ (by simp) rfl
      have d6 : L.getD 6 false = true := h2 ⟨6, .data⟩ (by simp) rfl
      obtain ⟨i0, hi0, hz0, hz1, hz2⟩ := info_parts infoDe
      obtain rfl := f6 d6
      obtain ⟨G, rfl, rfl, hown⟩ := f4 d4 (by simpa using nof h1)
      rcases Nat.eq_zero_or_pos m0 with hm0 | hm0
      · subst hm0
        obtain rfl : news = [] := List.eq_nil_of_length_eq_zero (by have := FH0.hl; omega)
        refine wpOp_do (o := _) rfl rfl fun K hK => ?_
        cases B0
        all_goals
          go_simp
          refine hK _ _ ?_
          unfold FI
          simp only [gne (show (7 : Nat) ≠ 0 by decide), gne (show (7 : Nat) ≠ 1 by decide), gne (show (7 : Nat) ≠ 2 by decide), gne (show (7 : Nat) ≠ 3 by decide), gne (show (7 : Nat) ≠ 4 by decide), gne (show (7 : Nat) ≠ 5 by decide), gne (show (7 : Nat) ≠ 6 by decide), gne (show (7 : Nat) ≠ 8 by decide), gne (show (7 : Nat) ≠ 9 by decide), gne (show (7 : Nat) ≠ 10 by decide), gne (show (7 : Nat) ≠ 11 by decide), gne (show (7 : Nat) ≠ 12 by decide), gne (show (7 : Nat) ≠ 13 by decide)]
          refine ⟨v5, v9, v10, v11, v12, _, v14, _, _, v17, v18, v19, v20, some G, rfl, ?_⟩
          exact ⟨fB, fR, ⟨fun _ => d4, fun h => geq (by rw [hsz]; decide), fC.2.2⟩, f0, f1, f2, f3, fun _ h => absurd h (by rw [geq (by rw [hsz]; decide)]; decide), f5, fun _ => rfl, fun _ _ => ⟨G, 0, rfl, rfl, hown⟩, f8, f9, fun h => absurd (fC.2.1 h) (nof h1), f11, f12⟩
      obtain ⟨B, o, rfl, hnw⟩ := FH0.hnews hm0
      refine wpOp_do (o := _) rfl rfl fun K hK => ?_
      refine wp_append_lies _ _ _ _ rfl w0.heap.size 47 i0 _ 7 112 Tryz.underlying23 hi0 hz0 hz1 hz2 rfl (by decide) _ 0 [] (by rfl) hown ⟨B, o, none⟩ m0 d0 news (by rfl) FH0.hl (fun j u hj => keep fB (hnw j u hj)) FH0.hone (by omega) (by have := FH0.hm; simp [maxLen]; omega) (by have := FH0.hm; omega) fB.size _ rfl ?_
      intro g cap w1 hown1 hgrow hat hlt
      have hg : g = G ∨ g = w.heap.size := by rcases hat with h | h; exact .inl (by simpa [Value.ownBlock] using h.symm); exact .inr h
      have hG := fR G rfl
      have hne : ∀ X, X < w.heap.size → some G ≠ some X → some g ≠ some X := fun X hX hh h2 => by cases h2; rcases hg with h3 | h3; exact hh (by rw [h3]); omega
      have b4 : Below w0.heap.size w0 w1 := fB.grown hgrow fB.size (fun k hk => by simp only [Value.ownBlock, Option.some.injEq] at hk; omega)
      simp only [Nat.zero_add, List.nil_append] at hown1
      refine hK _ _ ?_
      unfold FI
      simp only [gne (show (7 : Nat) ≠ 0 by decide), gne (show (7 : Nat) ≠ 1 by decide), gne (show (7 : Nat) ≠ 2 by decide), gne (show (7 : Nat) ≠ 3 by decide), gne (show (7 : Nat) ≠ 4 by decide), gne (show (7 : Nat) ≠ 5 by decide), gne (show (7 : Nat) ≠ 6 by decide), gne (show (7 : Nat) ≠ 8 by decide), gne (show (7 : Nat) ≠ 9 by decide), gne (show (7 : Nat) ≠ 10 by decide), gne (show (7 : Nat) ≠ 11 by decide), gne (show (7 : Nat) ≠ 12 by decide), gne (show (7 : Nat) ≠ 13 by decide)]
      refine ⟨v5, v9, v10, v11, v12, _, v14, _, _, v17, v18, v19, v20, (some g), rfl, ?_⟩
      exact ⟨b4, (fun r hr => by cases hr; exact ⟨hlt, by omega⟩), ⟨fun _ => d4, fun h => geq (by rw [hsz]; decide), fC.2.2⟩, f0, f1, f2, f3, fun _ h => absurd h (by rw [geq (by rw [hsz]; decide)]; decide), f5, fun _ => rfl, fun _ _ => ⟨g, cap, by rw [Nat.zero_add], rfl, hown1⟩, f8, fun h h10 => by obtain ⟨G2, x1, x2, x3, x4⟩ := f9 h h10; exact ⟨G2, x1, hne _ x3 x2, Nat.lt_of_lt_of_le x3 (hgrow.size), fun j u hj => by have h9 := x4 j u hj; rw [Go.WideShapes.add_plain] at h9 ⊢; exact (hgrow.cell_far ⟨G2, 0 + j, none⟩ x3 (fun hh => x2 (by simpa [Value.ownBlock] using hh.symm))).trans h9⟩, fun h => absurd (fC.2.1 h) (nof h1), f11, fun h => by obtain ⟨K0, x1, x2, x3, x4, x5, x6, x7, X, Y, Z, x8, x9, x10, x11⟩ := f12 h; exact ⟨K0, x1, x2, hne _ x4 x3, Nat.lt_of_lt_of_le x4 (hgrow.size), (hgrow.frozen_far ⟨K0, 0, none⟩ x4 (fun hh => x3 (by simpa [Value.ownBlock] using hh.symm))).trans x5, (hgrow.frozen_far ⟨K0, 1, none⟩ x4 (fun hh => x3 (by simpa [Value.ownBlock] using hh.symm))).trans x6, (hgrow.frozen_far ⟨K0, 2, none⟩ x4 (fun hh => x3 (by simpa [Value.ownBlock] using hh.symm))).trans x7, X, Y, Z, (hgrow.cell_far ⟨K0, 0, none⟩ x4 (fun hh => x3 (by simpa [Value.ownBlock] using hh.symm))).trans x8, (hgrow.cell_far ⟨K0, 1, none⟩ x4 (fun hh => x3 (by simpa [Value.ownBlock] using hh.symm))).trans x9, (hgrow.cell_far ⟨K0, 2, none⟩ x4 (fun hh => x3 (by simpa [Value.ownBlock] using hh.symm))).trans x10, x11⟩⟩
    · have e3 := keep fB FH0.q3
      have e4 := keep fB FH0.q4
      have e5 := keep fB FH0.q5
      have e6 := keep fB FH0.q6
      have e7 := keep fB FH0.q7
      have e8 := keep fB FH0.q8
      have e9 := keep fB FH0.q9
      refine wpOp_do (o := _) rfl rfl fun K hK => ?_
      go_simp
      refine hK _ _ ?_
      unfold FI
      simp only [gne (show (8 : Nat) ≠ 0 by decide), gne (show (8 : Nat) ≠ 1 by decide), gne (show (8 : Nat) ≠ 2 by decide), gne (show (8 : Nat) ≠ 3 by decide), gne (show (8 : Nat) ≠ 4 by decide), gne (show (8 : Nat) ≠ 5 by decide), gne (show (8 : Nat) ≠ 6 by decide), gne (show (8 : Nat) ≠ 7 by decide), gne (show (8 : Nat) ≠ 9 by decide), gne (show (8 : Nat) ≠ 10 by decide), gne (show (8 : Nat) ≠ 11 by decide), gne (show (8 : Nat) ≠ 12 by decide), gne (show (8 : Nat) ≠ 13 by decide)]
      refine ⟨v5, v9, v10, v11, v12, v13, v14, v15, v16, _, v18, v19, v20, R, rfl, ?_⟩
      exact ⟨fB, fR, fC, f0, f1, f2, f3, f4, f5, f6, f7, fun _ => rfl, f9, f10, f11, f12⟩
    · have d8 : L.getD 8 false = true := h2 ⟨8, .data⟩ (by simp) rfl
      obtain rfl := f8 d8
      refine wpOp_do (o := _) rfl rfl fun K hK => ?_
      go_simp
      have b4 := up (up0 w) (.cells #[.int .i64 k, .bool ex, .string n, .int .i64 t, .slice A1 l1 c1, .slice A2 l2 c2, .slice A3 l3 c3] 47 (0, 0))
      refine hK _ _ ?_
      unfold FI
      simp only [gne (show (9 : Nat) ≠ 0 by decide), gne (show (9 : Nat) ≠ 1 by decide), gne (show (9 : Nat) ≠ 2 by decide), gne (show (9 : Nat) ≠ 3 by decide), gne (show (9 : Nat) ≠ 4 by decide), gne (show (9 : Nat) ≠ 5 by decide), gne (show (9 : Nat) ≠ 6 by decide), gne (show (9 : Nat) ≠ 7 by decide), gne (show (9 : Nat) ≠ 8 by decide), gne (show (9 : Nat) ≠ 10 by decide), gne (show (9 : Nat) ≠ 11 by decide), gne (show (9 : Nat) ≠ 12 by decide), gne (show (9 : Nat) ≠ 13 by decide)]
      refine ⟨v5, v9, v10, v11, v12, v13, v14, v15, v16, _, _, v19, v20, R, rfl, ?_⟩
      exact ⟨step fB b4, (fun r hr => ⟨by have := (fR r hr).1; simp; omega, (fR r hr).2⟩), fC, f0, f1, f2, f3, fun h h7 => by obtain ⟨G, x1, x2, x3⟩ := f4 h h7; exact ⟨G, x1, x2, x3.alloc _⟩, f5, f6, fun h h7 => by obtain ⟨g, cap, x1, x2, x3⟩ := f7 h h7; exact ⟨g, cap, x1, x2, x3.alloc _⟩, fun _ => rfl, fun _ _ => ⟨_, rfl, fun hh => absurd (fR _ hh).1 (by omega), by simp, fun j u hj => by rw [new_add]; exact (List.getElem?_toArray ..).trans hj⟩, fun h => by obtain ⟨g, cap, x1, x2, x3⟩ := f10 h; exact ⟨g, cap, x1, x2, x3.alloc _⟩, f11, fun h => by obtain ⟨K0, x1, x2, x3, x4, x5, x6, x7, X, Y, Z, x8, x9, x10, x11⟩ := f12 h; exact ⟨K0, x1, x2, x3, (by simp; omega), (b4.frozen (p := ⟨K0, 0, none⟩) x4).trans x5, (b4.frozen (p := ⟨K0, 1, none⟩) x4).trans x6, (b4.frozen (p := ⟨K0, 2, none⟩) x4).trans x7, X, Y, Z, keep b4 x8, keep b4 x9, keep b4 x10, x11⟩⟩
    · have d7 : L.getD 7 false = true := h2 ⟨7, .data⟩ (by simp) rfl
      have d9 : L.getD 9 false = true := h2 ⟨9, .data⟩ (by simp) rfl
      obtain ⟨i0, hi0, hz0, hz1, hz2⟩ := info_parts infoDe
      obtain ⟨G, cap0, rfl, rfl, hown⟩ := f7 d7 (by simpa using nof h1)
      obtain ⟨G2, rfl, y2, y3, y4⟩ := f9 d9 (by simpa using nof h1)
      refine wpOp_do (o := _) rfl rfl fun K hK => ?_
      refine wp_append_lies _ _ _ _ rfl w0.heap.size 47 i0 _ 7 112 Tryz.underlying23 hi0 hz0 hz1 hz2 rfl (by decide) _ m0 news (by rfl) hown ⟨G2, 0, none⟩ 1 1 [.int .i64 k, .bool ex, .string n, .int .i64 t, .slice A1 l1 c1, .slice A2 l2 c2, .slice A3 l3 c3] (by rfl) rfl y4 (by intro u hu; simp only [List.mem_cons, List.not_mem_nil, or_false] at hu; rcases hu with rfl | rfl | rfl | rfl | rfl | rfl | rfl <;> rfl) (by omega) (by have := FH0.hm; simp [maxLen]; omega) (by have := FH0.hm; omega) fB.size _ rfl ?_
      intro g cap w1 hown1 hgrow hat hlt
      have hg : g = G ∨ g = w.heap.size := by rcases hat with h | h; exact .inl (by simpa [Value.ownBlock] using h.symm); exact .inr h
      have hG := fR G rfl
      have hne : ∀ X, X < w.heap.size → some G ≠ some X → some g ≠ some X := fun X hX hh h2 => by cases h2; rcases hg with h3 | h3; exact hh (by rw [h3]); omega
      have b4 : Below w0.heap.size w0 w1 := fB.grown hgrow fB.size (fun k hk => by simp only [Value.ownBlock, Option.some.injEq] at hk; omega)
      refine hK _ _ ?_
      unfold FI
      simp only [gne (show (10 : Nat) ≠ 0 by decide), gne (show (10 : Nat) ≠ 1 by decide), gne (show (10 : Nat) ≠ 2 by decide), gne (show (10 : Nat) ≠ 3 by decide), gne (show (10 : Nat) ≠ 4 by decide), gne (show (10 : Nat) ≠ 5 by decide), gne (show (10 : Nat) ≠ 6 by decide), gne (show (10 : Nat) ≠ 7 by decide), gne (show (10 : Nat) ≠ 8 by decide), gne (show (10 : Nat) ≠ 9 by decide), gne (show (10 : Nat) ≠ 11 by decide), gne (show (10 : Nat) ≠ 12 by decide), gne (show (10 : Nat) ≠ 13 by decide)]
      refine ⟨v5, v9, v10, v11, v12, v13, v14, v15, _, v17, _, _, v20, (some g), rfl, ?_⟩
      exact ⟨b4, (fun r hr => by cases hr; exact ⟨hlt, by omega⟩), ⟨fC.1, fun _ => d7, fC.2.2.1, fun _ => geq (by rw [hsz]; decide), fC.2.2.2.2⟩, f0, f1, f2, f3, fun _ h => absurd d7 (by rw [h]; decide), f5, f6, fun _ h => absurd h (by rw [geq (by rw [hsz]; decide)]; decide), f8, fun _ h => absurd h (by rw [geq (by rw [hsz]; decide)]; decide), fun _ => ⟨g, cap, rfl, rfl, hown1⟩, fun h => absurd (fC.2.2.2.1 h) (nof h1), fun h => by obtain ⟨K0, x1, x2, x3, x4, x5, x6, x7, X, Y, Z, x8, x9, x10, x11⟩ := f12 h; exact ⟨K0, x1, x2, hne _ x4 x3, Nat.lt_of_lt_of_le x4 (hgrow.size), (hgrow.frozen_far ⟨K0, 0, none⟩ x4 (fun hh => x3 (by simpa [Value.ownBlock] using hh.symm))).trans x5, (hgrow.frozen_far ⟨K0, 1, none⟩ x4 (fun hh => x3 (by simpa [Value.ownBlock] using hh.symm))).trans x6, (hgrow.frozen_far ⟨K0, 2, none⟩ x4 (fun hh => x3 (by simpa [Value.ownBlock] using hh.symm))).trans x7, X, Y, Z, (hgrow.cell_far ⟨K0, 0, none⟩ x4 (fun hh => x3 (by simpa [Value.ownBlock] using hh.symm))).trans x8, (hgrow.cell_far ⟨K0, 1, none⟩ x4 (fun hh => x3 (by simpa [Value.ownBlock] using hh.symm))).trans x9, (hgrow.cell_far ⟨K0, 2, none⟩ x4 (fun hh => x3 (by simpa [Value.ownBlock] using hh.symm))).trans x10, fun h13 => absurd (fC.2.2.2.1 (fC.2.2.2.2 h13)) (nof h1)⟩⟩
    · have d1 : L.getD 1 false = true := h2 ⟨1, .data⟩ (by simp) rfl
      have d3 : L.getD 3 false = true := h2 ⟨3, .data⟩ (by simp) rfl
      have d10 : L.getD 10 false = true := h2 ⟨10, .data⟩ (by simp) rfl
      obtain rfl := f1 d1
      obtain rfl := f3 d3
      obtain ⟨g, cap, rfl, y1, y2⟩ := f10 d10
      refine wpOp_do (o := _) rfl rfl fun K hK => ?_
      go_simp
      refine hK _ _ ?_
      unfold FI
      simp only [gne (show (11 : Nat) ≠ 0 by decide), gne (show (11 : Nat) ≠ 1 by decide), gne (show (11 : Nat) ≠ 2 by decide), gne (show (11 : Nat) ≠ 3 by decide), gne (show (11 : Nat) ≠ 4 by decide), gne (show (11 : Nat) ≠ 5 by decide), gne (show (11 : Nat) ≠ 6 by decide), gne (show (11 : Nat) ≠ 7 by decide), gne (show (11 : Nat) ≠ 8 by decide), gne (show (11 : Nat) ≠ 9 by decide), gne (show (11 : Nat) ≠ 10 by decide), gne (show (11 : Nat) ≠ 12 by decide), gne (show (11 : Nat) ≠ 13 by decide)]
      refine ⟨v5, v9, _, v11, _, v13, v14, v15, v16, v17, v18, _, _, R, rfl, ?_⟩
      exact ⟨fB, fR, ⟨fC.1, fC.2.1, fC.2.2.1, fun _ => d10, fun _ => geq (by rw [hsz]; decide)⟩, f0, fun _ => rfl, f2, fun _ => rfl, f4, f5, f6, f7, f8, f9, fun _ => ⟨g, cap, rfl, y1, y2⟩, fun _ => rfl, f12⟩
    · refine wpOp_do (o := _) rfl rfl fun K hK => ?_
      go_simp
      have b4 := up (up0 w) (.cells #[.string ⟨#[]⟩, .slice none 0 0, .slice none 0 0] 25 (0, 0))
      refine hK _ _ ?_
      unfold FI
      simp only [gne (show (12 : Nat) ≠ 0 by decide), gne (show (12 : Nat) ≠ 1 by decide), gne (show (12 : Nat) ≠ 2 by decide), gne (show (12 : Nat) ≠ 3 by decide), gne (show (12 : Nat) ≠ 4 by decide), gne (show (12 : Nat) ≠ 5 by decide), gne (show (12 : Nat) ≠ 6 by decide), gne (show (12 : Nat) ≠ 7 by decide), gne (show (12 : Nat) ≠ 8 by decide), gne (show (12 : Nat) ≠ 9 by decide), gne (show (12 : Nat) ≠ 10 by decide), gne (show (12 : Nat) ≠ 11 by decide), gne (show (12 : Nat) ≠ 13 by decide)]
      refine ⟨_, v9, v10, v11, v12, v13, v14, v15, v16, v17, v18, v19, v20, R, rfl, ?_⟩
      exact ⟨step fB b4, (fun r hr => ⟨by have := (fR r hr).1; simp; omega, (fR r hr).2⟩), ⟨fC.1, fC.2.1, fun _ => geq (by rw [hsz]; decide), fC.2.2.2⟩, f0, f1, f2, f3, fun h h7 => by obtain ⟨G, x1, x2, x3⟩ := f4 h h7; exact ⟨G, x1, x2, x3.alloc _⟩, f5, f6, fun h h7 => by obtain ⟨g, cap, x1, x2, x3⟩ := f7 h h7; exact ⟨g, cap, x1, x2, x3.alloc _⟩, f8, fun h h10 => by obtain ⟨G, x1, x2, x3, x4⟩ := f9 h h10; exact ⟨G, x1, x2, by simp; omega, fun j u hj => keep b4 (x4 j u hj)⟩, fun h => by obtain ⟨g, cap, x1, x2, x3⟩ := f10 h; exact ⟨g, cap, x1, x2, x3.alloc _⟩, f11, fun _ => ⟨_, rfl, fB.size, fun hh => absurd (fR _ hh).1 (by omega), by simp, new_frozen .., new_frozen .., new_frozen .., _, _, _, new_cell _ _ _ 0, new_cell _ _ _ 1, new_cell _ _ _ 2, fun h => absurd (fC.2.2.1 h) (nof h1)⟩⟩
    · have d11 : L.getD 11 false = true := h2 ⟨11, .data⟩ (by simp) rfl
      have d12 : L.getD 12 false = true := h2 ⟨12, .data⟩ (by simp) rfl
      obtain rfl := f11 d11
      obtain ⟨K0, rfl, x2, x3, x4, x5, x6, x7, X, Y, Z, x8, x9, x10, x11⟩ := f12 d12
      have d10 := fC.2.2.2.1 d11
      obtain ⟨g, cap, rfl, y1, y2⟩ := f10 d10
      refine wpOp_do (o := _) rfl rfl fun K hK => ?_
      go_simp
      have b4 : Below w0.heap.size w0 (((w.setCell ⟨K0, 0, none⟩ (.string mn)).setCell ⟨K0, 1, none⟩ (.slice A0 l0 c0)).setCell ⟨K0, 2, none⟩ (.slice (some ⟨g, 0, none⟩) (m0 + 1) cap)) := ((fB.setCell x2 _).setCell x2 _).setCell x2 _
      refine hK _ _ ?_
      unfold FI
      simp only [gne (show (13 : Nat) ≠ 0 by decide), gne (show (13 : Nat) ≠ 1 by decide), gne (show (13 : Nat) ≠ 2 by decide), gne (show (13 : Nat) ≠ 3 by decide), gne (show (13 : Nat) ≠ 4 by decide), gne (show (13 : Nat) ≠ 5 by decide), gne (show (13 : Nat) ≠ 6 by decide), gne (show (13 : Nat) ≠ 7 by decide), gne (show (13 : Nat) ≠ 8 by decide), gne (show (13 : Nat) ≠ 9 by decide), gne (show (13 : Nat) ≠ 10 by decide), gne (show (13 : Nat) ≠ 11 by decide), gne (show (13 : Nat) ≠ 12 by decide)]
      refine ⟨_, v9, v10, v11, v12, v13, v14, v15, v16, v17, v18, _, _, R, rfl, ?_⟩
      exact ⟨b4, (fun r hr => ⟨by have := (fR r hr).1; simpa using this, (fR r hr).2⟩), ⟨fC.1, fC.2.1, fun _ => d12, fC.2.2.2.1, fun _ => d11⟩, f0, f1, f2, f3, fun _ h => absurd (fC.2.1 d10) (by rw [h]; decide), f5, f6, fun _ h => absurd d10 (by rw [h]; decide), f8, fun _ h => absurd d10 (by rw [h]; decide), fun _ => ⟨g, cap, rfl, y1, own_set (own_set (own_set y2 _ _ (by simp only [Value.ownBlock]; exact fun hh => x3 (y1.trans hh))) _ _ (by simp only [Value.ownBlock]; exact fun hh => x3 (y1.trans hh))) _ _ (by simp only [Value.ownBlock]; exact fun hh => x3 (y1.trans hh))⟩, fun _ => rfl, fun _ => ⟨K0, rfl, x2, x3, by simpa using x4, by simpa using x5, by simpa using x6, by simpa using x7, _, _, _, ((World.cell?_setCell_other _ _ _ _ (by intro hh; injection hh with h1 h2; omega)).trans (World.cell?_setCell_other _ _ _ _ (by intro hh; injection hh with h1 h2; omega))).trans (World.cell?_setCell_same _ _ _ x8), (World.cell?_setCell_other _ _ _ _ (by intro hh; injection hh with h1 h2; omega)).trans (World.cell?_setCell_same _ _ _ ((World.cell?_setCell_other _ _ _ _ (by intro hh; injection hh with h1 h2; omega)).trans x9)), World.cell?_setCell_same _ _ _ ((World.cell?_setCell_other _ _ _ _ (by intro hh; injection hh with h1 h2; omega)).trans ((World.cell?_setCell_other _ _ _ _ (by intro hh; injection hh with h1 h2; omega)).trans x10)), fun _ => ⟨rfl, rfl, rfl⟩⟩⟩
  · intro L a w' hsz hall hI
    have hsz' : L.size = 14 := hsz
    have ha : ∀ i, i < 14 → L.getD i false = true := hall
    obtain ⟨v5, v9, v10, v11, v12, v13, v14, v15, v16, v17, v18, v19, v20, R, rfl, fB, fR, fC, f0, f1, f2, f3, f4, f5, f6, f7, f8, f9, f10, f11, f12⟩ := hI
    obtain ⟨g, cap, rfl, y1, y2⟩ := f10 (ha 10 (by decide))
    obtain ⟨K0, rfl, x2, x3, x4, x5, x6, x7, X, Y, Z, x8, x9, x10, x11⟩ := f12 (ha 12 (by decide))
    obtain ⟨rfl, rfl, rfl⟩ := x11 (ha 13 (by decide))
    have hW := Hd.mk (step (step (up (up (up0 _) _) _) HB3.out) fB)
    have OW := Hd.mk y2
    have e0 := keep fB FH0.q0
    have e1 := keep fB FH0.q1
    have e2 := keep fB FH0.q2
    have e3 := keep fB FH0.q3
    have e4 := keep fB FH0.q4
    have e5 := keep fB FH0.q5
    have e6 := keep fB FH0.q6
    have e7 := keep fB FH0.q7
    have e8 := keep fB FH0.q8
    have e9 := keep fB FH0.q9
    have lt0 : w.heap.size < w'.heap.size := World.block_lt_of_cell? w' _ e0
    have lt1 : w.heap.size + 1 < w'.heap.size := World.block_lt_of_cell? w' _ e3
    clear f0 f1 f2 f3 f4 f5 f6 f7 f8 f9 f10 f11 f12 fC fR ha hall hsz hsz' x2 x3 x5 x6 x7 y1 y2 x11 fB C1 C2 FH0 HONE HL HNW HB3
    refine ‹∀ (a : Act) (w : World), Code.wp Tryz.prog _ _ a w → _› _ _ ?_
    dsimp only
    by_cases h64 : 64 < m0 + 1
    · have hpa := HAA.out h64
      have g64 : decide (64 < ((m0 + 1 : Nat) : Int)) = true := decide_eq_true (by omega)
      have q1 : (pa != 0) = true := bne_iff_ne.mpr hpa
      go_wp2_with (first
        | (go_at_call 13; (with_reducible refine ((HX.out _ hW.out).mono ?_)); (rintro e w4 ⟨rfl, hb4⟩; have HB4 := Hd.mk hb4; have hc4 := bcell hb4; have s4 := hb4.size; clear hb4))
        | (go_at_call 13; (with_reducible refine ((HXA.out _ _ _ _ hW.out OW.out _ HB4.out).mono ?_)); (rintro e w5 ⟨rfl, hb5⟩; have HB5 := Hd.mk hb5; clear hb5)))
      go_ret
      exact ⟨rfl, step (step hW.out HB4.out) HB5.out⟩
    · have g64 : decide (64 < ((m0 + 1 : Nat) : Int)) = false := decide_eq_false (by omega)
      by_cases hp : p = 0
      · subst hp
        have hpa := HCC.out (by omega) rfl
        have HPA := Hd.mk hpa
        have hO : Hd (∀ (w' : World) (G : Nat), Below w.heap.size w w' → (∀ (j : Nat) (u : Value), ([.int .i64 k, .bool ex, .string n, .int .i64 t, .slice A1 l1 c1, .slice A2 l2 c2, .slice A3 l3 c3] : List Value)[j]? = some u → w'.cell? ⟨G, j, none⟩ = some u) → Calls Tryz.prog 13 #[.agg #[.string mn, .slice none 0 0, .slice (some ⟨G, 0, none⟩) 1 1]] w' (SaysI pa w')) := ⟨fun w' G h1 h2 => hpa ▸ HXO.out w' G h1 h2⟩
        clear hpa
        go_wp2_with (first
          | (go_at_call 13; (with_reducible refine ((HX.out _ hW.out).mono ?_)); (rintro e w4 ⟨rfl, hb4⟩; have HB4 := Hd.mk hb4; have hc4 := bcell hb4; have s4 := hb4.size; clear hb4)))
        have s0 := Nat.lt_of_lt_of_le lt0 s4
        have s1 := Nat.lt_of_lt_of_le lt1 s4
        have s2 := Nat.lt_of_lt_of_le x4 s4
        have t0 := keep HB4.out e0
        have t8 := keep HB4.out x8
        have t9 := keep HB4.out x9
        have t10 := keep HB4.out x10
        have u3 := keep HB4.out e3
        have u4 := keep HB4.out e4
        have u5 := keep HB4.out e5
        have u6 := keep HB4.out e6
        have u7 := keep HB4.out e7
        have u8 := keep HB4.out e8
        have u9 := keep HB4.out e9
        have H4 := Hd.mk (step hW.out HB4.out)
        clear hc4 s4 e0 e1 e2 e3 e4 e5 e6 e7 e8 e9 x8 x9 x10 lt0 lt1 x4
        have S0 : (fun w' => Below w4.heap.size w4 w' ∧ w'.cell? ⟨w.heap.size, 0, none⟩ = some (.string mn) ∧ w'.cell? ⟨K0, 0, none⟩ = some (.string mn) ∧ w'.cell? ⟨K0, 1, none⟩ = some (.slice A0 l0 c0) ∧ w'.cell? ⟨K0, 2, none⟩ = some (.slice (some ⟨g, 0, none⟩) (m0 + 1) cap) ∧ w'.cell? ⟨w.heap.size + 1, 0, none⟩ = some (.int .i64 k) ∧ w'.cell? ⟨w.heap.size + 1, 1, none⟩ = some (.bool ex) ∧ w'.cell? ⟨w.heap.size + 1, 2, none⟩ = some (.string n) ∧ w'.cell? ⟨w.heap.size + 1, 3, none⟩ = some (.int .i64 t) ∧ w'.cell? ⟨w.heap.size + 1, 4, none⟩ = some (.slice A1 l1 c1) ∧ w'.cell? ⟨w.heap.size + 1, 5, none⟩ = some (.slice A2 l2 c2) ∧ w'.cell? ⟨w.heap.size + 1, 6, none⟩ = some (.slice A3 l3 c3)) w4 := ⟨Below.refl _ _, t0, t8, t9, t10, u3, u4, u5, u6, u7, u8, u9⟩
        have HS0 := Hd.mk S0
        clear S0
        go_region_held3 (fun w' => Below w4.heap.size w4 w' ∧ w'.cell? ⟨w.heap.size, 0, none⟩ = some (.string mn) ∧ w'.cell? ⟨K0, 0, none⟩ = some (.string mn) ∧ w'.cell? ⟨K0, 1, none⟩ = some (.slice A0 l0 c0) ∧ w'.cell? ⟨K0, 2, none⟩ = some (.slice (some ⟨g, 0, none⟩) (m0 + 1) cap) ∧ w'.cell? ⟨w.heap.size + 1, 0, none⟩ = some (.int .i64 k) ∧ w'.cell? ⟨w.heap.size + 1, 1, none⟩ = some (.bool ex) ∧ w'.cell? ⟨w.heap.size + 1, 2, none⟩ = some (.string n) ∧ w'.cell? ⟨w.heap.size + 1, 3, none⟩ = some (.int .i64 t) ∧ w'.cell? ⟨w.heap.size + 1, 4, none⟩ = some (.slice A1 l1 c1) ∧ w'.cell? ⟨w.heap.size + 1, 5, none⟩ = some (.slice A2 l2 c2) ∧ w'.cell? ⟨w.heap.size + 1, 6, none⟩ = some (.slice A3 l3 c3)) (first | exact ⟨HS0.out.1.drew, HS0.out.2⟩ | exact S11 (up (up0 _) _) rfl (by assumption) | exact S11 (by assumption) rfl (by assumption))
          (first
            | (go_at_call 13; (with_reducible refine ((HXA.out _ _ _ _ hW.out OW.out _ (step HB4.out (And.left (by assumption)))).mono ?_)); (rintro e w5 ⟨rfl, hb5⟩; have HB5 := Hd.mk hb5))
            | (go_at_call 13; (with_reducible refine ((hO.out _ _ (step H4.out (And.left (by assumption))) (fun j u hj => (new_cellD ..).trans ((List.getElem?_toArray ..).trans hj))).mono ?_)); (rintro e w6 ⟨rfl, hb6⟩))
            | (go_at_call 13; (with_reducible refine ((hO.out _ _ (step H4.out (And.left (by assumption))) (fun j u hj => (new_cell ..).trans ((List.getElem?_toArray ..).trans hj))).mono ?_)); (rintro e w6 ⟨rfl, hb6⟩))
            | (go_at_call 13; (with_reducible refine ((hO.out _ _ (step H4.out (And.left (by assumption))) (fun j u hj => keep HB5.out ((new_cellD ..).trans ((List.getElem?_toArray ..).trans hj)))).mono ?_)); (rintro e w6 ⟨rfl, hb6⟩))
            | (go_at_call 13; (with_reducible refine ((hO.out _ _ (step H4.out (And.left (by assumption))) (fun j u hj => keep HB5.out ((new_cell ..).trans ((List.getElem?_toArray ..).trans hj)))).mono ?_)); (rintro e w6 ⟨rfl, hb6⟩)))
        all_goals
          obtain ⟨hS, _⟩ := (show Below _ _ _ ∧ _ from by assumption)
          have hW2 := step H4.out hS
          go_wp2_with fail
          go_ret
          exact ⟨rfl, hW2⟩
      · have hpa := HBB.out (by omega) hp
        subst hpa
        have q2 : (pa == 0) = false := beq_eq_false_iff_ne.mpr hp
        have q3 : (pa != 0) = true := bne_iff_ne.mpr hp
        go_wp2_with (first
          | (go_at_call 13; (with_reducible refine ((HX.out _ hW.out).mono ?_)); (rintro e w4 ⟨rfl, hb4⟩; have HB4 := Hd.mk hb4; have hc4 := bcell hb4; have s4 := hb4.size; clear hb4))
          | (go_at_call 13; (with_reducible refine ((HXA.out _ _ _ _ hW.out OW.out _ HB4.out).mono ?_)); (rintro e w5 ⟨rfl, hb5⟩; have HB5 := Hd.mk hb5; clear hb5)))
        go_ret
        exact ⟨rfl, step (step hW.out HB4.out) HB5.out⟩
end Go.Proofs.YtbhgpegcdiohlaaGreatDoor.Tr
