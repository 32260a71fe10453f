import Derived.Test.YtbhgpegcdiohlaaGreatDoorTrK
namespace Go.Proofs.YtbhgpegcdiohlaaGreatDoor.Tr
open Go Go.ChangeShapes Go.WideShapes Go.RowKit Go.Proofs
set_option linter.unusedVariables false
set_option linter.unusedSimpArgs false
set_option maxRecDepth 100000
section
variable {H : Type} {enc : TypeId × Value → H} {w : World} {base : Nat} {spare : Nat → Bool} {held : Bool}
theorem Sts.In_of {w : World} : ∀ {ks : Sts} {B o : Nat}, (∀ (i : Nat) (x : St), ks.toList[i]? = some x → x.In w B (o + i * 5)) → ks.In w B o
  | .nil, _, _, _ => by unfold Sts.In; trivial
  | .cons e l, B, o, h => by
    unfold Sts.In
    refine ⟨by simpa using h 0 e rfl, Sts.In_of fun i x hx => ?_⟩
    have := h (i + 1) x (by simpa [Sts.toList] using hx)
    rw [show o + (i + 1) * 5 = o + 5 + i * 5 by omega] at this
    exact this
theorem St.put {w : World} {x : St} {cs : Array Value} (h' : x.Is w (.agg cs)) {B o : Nat} (hc : ∀ i v, cs[i]? = some v → w.cell? ⟨B, o + i, none⟩ = some v) : x.In w B o := by
  cases x with
  | mk k n e bd el =>
    unfold St.Is at h'
    obtain ⟨A, l, c, A1, l1, c1, A2, l2, c2, e, hs, ⟨hl1, hm1, hs1⟩, ⟨hl2, hm2, hs2⟩⟩ := h'
    injection e with e
    subst e
    unfold St.In
    refine ⟨hc 0 _ rfl, hc 1 _ rfl, ⟨A, l, c, hc 2 _ rfl, hs⟩, ⟨A1, l1, c1, hc 3 _ rfl, hl1, hm1, fun hp => ?_⟩, ⟨A2, l2, c2, hc 4 _ rfl, hl2, hm2, fun hp => ?_⟩⟩
    · obtain ⟨B', o', hA, hi⟩ := hs1 hp
      exact ⟨B', o', hA, Sts.In_of hi⟩
    · obtain ⟨B', o', hA, hi⟩ := hs2 hp
      exact ⟨B', o', hA, Sts.In_of hi⟩
theorem exprs_open {fuel : Nat} {c : Value} {x : DataW H × List MemPlace} (h : DataW.trod enc Tryz.prog w base spare held fuel 29 [c] = some x) : ∃ A len cap, ∃ l : List Ex, c = .slice A len cap ∧ Sl 7 (fun x => x.In w) l A len :=
  slice_open (t := 29) (e := 31) (sz := 7) Tryz.underlying29 c31 (by decide) (fun (x : Ex) B o => x.In w B o) (fun m cs y hm hy B o _ hc => by
    obtain ⟨e, he⟩ := expr_open m cs y hy
    exact ⟨e, Ex.put he (Below.refl _ _) (fun i v hv => hc i v (by simpa using hv))⟩) h
theorem stmt_open : ∀ (fuel : Nat) (cs : List Value) (x : DataW H × List MemPlace), DataW.trod enc Tryz.prog w base spare held fuel 98 cs = some x → ∃ e : St, e.Is w (.agg cs.toArray) := by
  intro fuel
  induction fuel using Nat.strongRecOn with
  | _ fuel ih =>
  intro cs x h
  obtain ⟨n, rfl, hl, hF⟩ := struct_open (t := 98) (l := [(3, 0), (9, 1), (29, 2), (45, 3), (45, 4)]) (by kernel_rfl) h
  rw [c98] at hl
  match cs, hl with
  | [c0, c1, c2, c3', c4'], _ =>
  obtain ⟨y0, g0⟩ := hF 0 3 0 rfl
  obtain ⟨y1, g1⟩ := hF 1 9 1 rfl
  obtain ⟨y2, g2⟩ := hF 2 29 2 rfl
  obtain ⟨y3, g3⟩ := hF 3 45 3 rfl
  obtain ⟨y4, g4⟩ := hF 4 45 4 rfl
  rw [c3] at g0
  rw [c9] at g1
  rw [c29] at g2
  rw [c45] at g3 g4
  obtain ⟨k, q0, _⟩ := DataW.trod_int Tryz.underlying3 g0
  obtain ⟨nm, q1, _⟩ := DataW.trod_string Tryz.underlying9 g1
  obtain ⟨A, len, cap, l, q2, hs⟩ := exprs_open g2
  have hel : ∀ (m : Nat) (cs : List Value) (y : DataW H × List MemPlace), m < n → DataW.trod enc Tryz.prog w base spare held m 98 cs = some y → ∀ B o, cs.length = 5 → (∀ (i : Nat) (v : Value), cs[i]? = some v → w.cell? ⟨B, o + i, none⟩ = some v) → ∃ a : St, a.In w B o := fun m cs y hm hy B o _ hc => by
    obtain ⟨e, he⟩ := ih m (by omega) cs y hy
    exact ⟨e, St.put he (fun i v hv => hc i v (by simpa using hv))⟩
  obtain ⟨A1, len1, cap1, l1, q3, hs1⟩ := slice_open (t := 45) (e := 98) (sz := 5) Tryz.underlying45 c98 (by decide) (fun (x : St) B o => x.In w B o) hel g3
  obtain ⟨A2, len2, cap2, l2, q4, hs2⟩ := slice_open (t := 45) (e := 98) (sz := 5) Tryz.underlying45 c98 (by decide) (fun (x : St) B o => x.In w B o) hel g4
  obtain ⟨ks, rfl⟩ := Exs.of_list l
  obtain ⟨b1, rfl⟩ := Sts.of_list l1
  obtain ⟨b2, rfl⟩ := Sts.of_list l2
  simp at q0 q1
  subst q0 q1 q2 q3 q4
  refine ⟨.mk k nm ks b1 b2, ?_⟩
  unfold St.Is
  exact ⟨A, len, cap, A1, len1, cap1, A2, len2, cap2, rfl, hs, hs1, hs2⟩
theorem stmts_open {fuel : Nat} {c : Value} {x : DataW H × List MemPlace} (h : DataW.trod enc Tryz.prog w base spare held fuel 45 [c] = some x) : ∃ A len cap, ∃ l : List St, c = .slice A len cap ∧ Sl 5 (fun x => x.In w) l A len :=
  slice_open (t := 45) (e := 98) (sz := 5) Tryz.underlying45 c98 (by decide) (fun (x : St) B o => x.In w B o) (fun m cs y hm hy B o _ hc => by
    obtain ⟨e, he⟩ := stmt_open m cs y hy
    exact ⟨e, St.put he (fun i v hv => hc i v (by simpa using hv))⟩) h
theorem params_open {fuel : Nat} {c : Value} {x : DataW H × List MemPlace} (h : DataW.trod enc Tryz.prog w base spare held fuel 44 [c] = some x) : ∃ A len cap, ∃ l : List Pa, c = .slice A len cap ∧ Sl 2 (fun x => x.In w) l A len :=
  slice_open (t := 44) (e := 93) (sz := 2) Tryz.underlying44 c93 (by decide) (fun (x : Pa) B o => x.In w B o) (fun m cs y hm hy B o hl hc => by
    obtain ⟨n, rfl, _, hF⟩ := struct_open (t := 93) (l := [(9, 0), (3, 1)]) (by kernel_rfl) hy
    match cs, hl with
    | [c0, c1], _ =>
    obtain ⟨y0, g0⟩ := hF 0 9 0 rfl
    obtain ⟨y1, g1⟩ := hF 1 3 1 rfl
    rw [c9] at g0
    rw [c3] at g1
    obtain ⟨nm, q0, _⟩ := DataW.trod_string Tryz.underlying9 g0
    obtain ⟨t, q1, _⟩ := DataW.trod_int Tryz.underlying3 g1
    simp at q0 q1
    subst q0 q1
    exact ⟨⟨nm, t⟩, hc 0 _ rfl, hc 1 _ rfl⟩) h
theorem texts_open {fuel : Nat} {c : Value} {x : DataW H × List MemPlace} (h : DataW.trod enc Tryz.prog w base spare held fuel 22 [c] = some x) : ∃ A len cap, ∃ l : List ByteArray, c = .slice A len cap ∧ Sl 1 (strIn w) l A len :=
  slice_open (t := 22) (e := 9) (sz := 1) Tryz.underlying22 c9 (by decide) (strIn w) (fun m cs y hm hy B o hl hc => by
    obtain ⟨nm, q0, _⟩ := DataW.trod_string Tryz.underlying9 hy
    subst q0
    exact ⟨nm, hc 0 _ rfl⟩) h
theorem decl_open (fuel : Nat) (cs : List Value) (x : DataW H × List MemPlace) (h : DataW.trod enc Tryz.prog w base spare held fuel 47 cs = some x) : ∃ e : De, e.Is w (.agg cs.toArray) := by
  obtain ⟨n, rfl, hl, hF⟩ := struct_open (t := 47) (l := [(3, 0), (4, 1), (9, 2), (3, 3), (44, 4), (29, 5), (45, 6)]) (by kernel_rfl) h
  rw [c47] at hl
  match cs, hl with
  | [c0, c1, c2, c3', c4', c5, c6], _ =>
  obtain ⟨y0, g0⟩ := hF 0 3 0 rfl
  obtain ⟨y1, g1⟩ := hF 1 4 1 rfl
  obtain ⟨y2, g2⟩ := hF 2 9 2 rfl
  obtain ⟨y3, g3⟩ := hF 3 3 3 rfl
  obtain ⟨y4, g4⟩ := hF 4 44 4 rfl
  obtain ⟨y5, g5⟩ := hF 5 29 5 rfl
  obtain ⟨y6, g6⟩ := hF 6 45 6 rfl
  rw [c3] at g0 g3
  rw [c4] at g1
  rw [c9] at g2
  rw [c44] at g4
  rw [c29] at g5
  rw [c45] at g6
  obtain ⟨k, q0, _⟩ := DataW.trod_int Tryz.underlying3 g0
  obtain ⟨ex, q1, _⟩ := DataW.trod_bool Tryz.underlying4 g1
  obtain ⟨nm, q2, _⟩ := DataW.trod_string Tryz.underlying9 g2
  obtain ⟨t, q3, _⟩ := DataW.trod_int Tryz.underlying3 g3
  obtain ⟨A, len, cap, l, q4, hs⟩ := params_open g4
  obtain ⟨A1, len1, cap1, l1, q5, hs1⟩ := exprs_open g5
  obtain ⟨A2, len2, cap2, l2, q6, hs2⟩ := stmts_open g6
  obtain ⟨ks, rfl⟩ := Exs.of_list l1
  obtain ⟨b2, rfl⟩ := Sts.of_list l2
  simp at q0 q1 q2 q3
  subst q0 q1 q2 q3 q4 q5 q6
  exact ⟨⟨k, ex, nm, t, l, ks, b2⟩, A, len, cap, A1, len1, cap1, A2, len2, cap2, rfl, hs, hs1, hs2⟩
theorem De.put {w : World} {x : De} {cs : Array Value} (h' : x.Is w (.agg cs)) {B o : Nat} (hc : ∀ i v, cs[i]? = some v → w.cell? ⟨B, o + i, none⟩ = some v) : x.In w B o := by
  obtain ⟨A, l, c, A1, l1, c1, A2, l2, c2, e, hs, hs1, hs2⟩ := h'
  injection e with e
  subst e
  exact ⟨hc 0 _ rfl, hc 1 _ rfl, hc 2 _ rfl, hc 3 _ rfl, ⟨A, l, c, hc 4 _ rfl, hs⟩, ⟨A1, l1, c1, hc 5 _ rfl, hs1⟩, ⟨A2, l2, c2, hc 6 _ rfl, hs2⟩⟩
theorem module_open {fuel : Nat} {cs : List Value} {x : DataW H × List MemPlace} (h : DataW.trod enc Tryz.prog w base spare held fuel 25 cs = some x) : ∃ m : Mo, m.Is w (.agg cs.toArray) := by
  obtain ⟨n, rfl, hl, hF⟩ := struct_open (t := 25) (l := [(9, 0), (22, 1), (23, 2)]) (by kernel_rfl) h
  rw [c25] at hl
  match cs, hl with
  | [c0, c1, c2], _ =>
  obtain ⟨y0, g0⟩ := hF 0 9 0 rfl
  obtain ⟨y1, g1⟩ := hF 1 22 1 rfl
  obtain ⟨y2, g2⟩ := hF 2 23 2 rfl
  rw [c9] at g0
  rw [c22] at g1
  rw [c23] at g2
  obtain ⟨nm, q0, _⟩ := DataW.trod_string Tryz.underlying9 g0
  obtain ⟨A, len, cap, l, q1, hs⟩ := texts_open g1
  obtain ⟨A1, len1, cap1, l1, q2, hs1⟩ := slice_open (t := 23) (e := 47) (sz := 7) Tryz.underlying23 c47 (by decide) (fun (x : De) B o => x.In w B o) (fun m cs y hm hy B o _ hc => by
    obtain ⟨e, he⟩ := decl_open m cs y hy
    exact ⟨e, De.put he (fun i v hv => hc i v (by simpa using hv))⟩) g2
  simp at q0
  subst q0 q1 q2
  exact ⟨⟨nm, l, l1⟩, A, len, cap, A1, len1, cap1, rfl, hs, hs1⟩
end
end Go.Proofs.YtbhgpegcdiohlaaGreatDoor.Tr
