import Derived.Test.YtbhgpegcdiohlaaGreatDoorTrO
import Derived.Test.YtbhgpegcdiohlaaGreatDoorTrL
import Derived.Test.YtbhgpegcdiohlaaGreatDoorPaD
namespace Go.Proofs.YtbhgpegcdiohlaaGreatDoor.Tr
open Go Go.ChangeShapes Go.WideShapes Go.RowKit Go.Proofs
set_option linter.unusedVariables false
set_option linter.unusedSimpArgs false
set_option maxRecDepth 100000
theorem sumN_F {α : Type} (f : α → Nat) : ∀ l : List α, sumN f l = sumF f l
  | [] => rfl
  | a :: l => by rw [sumN, sumF, sumN_F f l]
theorem cntL_F : ∀ ks : Exs, cntL ks = sumF cntE ks.toList
  | .nil => rfl
  | .cons e l => by simp only [cntL, Exs.toList, sumF, cntL_F l]
theorem cntSs_F : ∀ ks : Sts, cntSs ks = sumF (fun s => 1 + cntS s) ks.toList
  | .nil => rfl
  | .cons e l => by simp only [cntSs, Sts.toList, sumF, cntSs_F l]
theorem sumF_one {α : Type} (f : α → Nat) (h : ∀ a, f a = 1) : ∀ l : List α, sumF f l = l.length
  | [] => rfl
  | a :: l => by rw [sumF, sumF_one f h l, h, List.length_cons]; omega
section
variable {H : Type} {enc : TypeId × Value → H} {w : World} {base : Nat} {spare : Nat → Bool} {held : Bool}
theorem expr_openN : ∀ (fuel : Nat) (cs : List Value) (x : DataW H × List MemPlace), DataW.trod enc Tryz.prog w base spare held fuel 31 cs = some x → ∃ e : Ex, e.Is w (.agg cs.toArray) ∧ True ∧ cntE e ≤ 1 * Rows.uptoBulk x.1 := by
  intro fuel
  induction fuel using Nat.strongRecOn with
  | _ fuel ih =>
  intro cs x h
  obtain ⟨n, parts, rfl, hx, hpl, hl, hF⟩ := struct_openB (t := 31) (l := [(3, 0), (3, 1), (9, 2), (9, 3), (28, 4), (29, 6)]) (by kernel_rfl) h
  rw [c31] at hl
  match cs, hl, parts, hpl with
  | [c0, c1, c2, c3', c4', c5, c6], _, [p0, p1, p2, p3, p4, p5], _ =>
  obtain ⟨y0, g0, e0⟩ := hF 0 3 0 rfl
  obtain ⟨y1, g1, e1⟩ := hF 1 3 1 rfl
  obtain ⟨y2, g2, e2⟩ := hF 2 9 2 rfl
  obtain ⟨y3, g3, e3⟩ := hF 3 9 3 rfl
  obtain ⟨y4, g4, e4⟩ := hF 4 28 4 rfl
  obtain ⟨y5, g5, e5⟩ := hF 5 29 6 rfl
  simp at e0 e1 e2 e3 e4 e5
  rw [c3] at g0 g1
  rw [c9] at g2 g3
  rw [c28] at g4
  rw [c29] at g5
  obtain ⟨k, q0, _⟩ := DataW.trod_int Tryz.underlying3 g0
  obtain ⟨op, q1, _⟩ := DataW.trod_int Tryz.underlying3 g1
  obtain ⟨m, q2, b2, z2⟩ := DataW.trod_string Tryz.underlying9 g2
  obtain ⟨nm, q3, b3, z3⟩ := DataW.trod_string Tryz.underlying9 g3
  obtain ⟨t, v, q4, q5, v0, v1⟩ := value_openW (a := c4') (b := c5) g4
  obtain ⟨A, len, cap, l, q6, hs, hK⟩ := slice_openB (t := 29) (e := 31) (sz := 7) Tryz.underlying29 c31 (by decide) (fun (x : Ex) B o => x.In w B o) cntE 1 (fun m cs y hm hy B o _ hc => by
    obtain ⟨e, he, _, hg⟩ := ih m (by omega) cs y hy
    exact ⟨e, Ex.put he (Below.refl _ _) (fun i v hv => hc i v (by simpa using hv)), hg⟩) g5
  obtain ⟨ks, rfl⟩ := Exs.of_list l
  simp at q0 q1 q2 q3
  subst q0 q1 q2 q3 q4 q5 q6
  refine ⟨.mk k op m nm t v ks, ?_⟩
  unfold Ex.Is
  refine ⟨⟨A, len, cap, rfl, hs⟩, trivial, ?_⟩
  rw [cntE, cntL_F, hx, e0, e1, e2, e3, e4, e5]
  simp only [Rows.uptoBulk, Rows.uptoBulkAll]
  have h0 := bulk_one y0.1
  omega
theorem exprs_openN {fuel : Nat} {c : Value} {x : DataW H × List MemPlace} (h : DataW.trod enc Tryz.prog w base spare held fuel 29 [c] = some x) : ∃ A len cap, ∃ l : List Ex, c = .slice A len cap ∧ Sl 7 (fun x => x.In w) l A len ∧ sumF cntE l + 1 ≤ 1 * Rows.uptoBulk x.1 :=
  slice_openB (t := 29) (e := 31) (sz := 7) Tryz.underlying29 c31 (by decide) (fun (x : Ex) B o => x.In w B o) cntE 1 (fun m cs y hm hy B o _ hc => by
    obtain ⟨e, he, _, hg⟩ := expr_openN m cs y hy
    exact ⟨e, Ex.put he (Below.refl _ _) (fun i v hv => hc i v (by simpa using hv)), hg⟩) h
theorem stmt_openN : ∀ (fuel : Nat) (cs : List Value) (x : DataW H × List MemPlace), DataW.trod enc Tryz.prog w base spare held fuel 98 cs = some x → ∃ e : St, e.Is w (.agg cs.toArray) ∧ 1 + cntS e ≤ 1 * Rows.uptoBulk x.1 := by
  intro fuel
  induction fuel using Nat.strongRecOn with
  | _ fuel ih =>
  intro cs x h
  obtain ⟨n, parts, rfl, hx, hpl, hl, hF⟩ := struct_openB (t := 98) (l := [(3, 0), (9, 1), (29, 2), (45, 3), (45, 4)]) (by kernel_rfl) h
  rw [c98] at hl
  match cs, hl, parts, hpl with
  | [c0, c1, c2, c3', c4'], _, [p0, p1, p2, p3, p4], _ =>
  obtain ⟨y0, g0, e0⟩ := hF 0 3 0 rfl
  obtain ⟨y1, g1, e1⟩ := hF 1 9 1 rfl
  obtain ⟨y2, g2, e2⟩ := hF 2 29 2 rfl
  obtain ⟨y3, g3, e3⟩ := hF 3 45 3 rfl
  obtain ⟨y4, g4, e4⟩ := hF 4 45 4 rfl
  simp at e0 e1 e2 e3 e4
  rw [c3] at g0
  rw [c9] at g1
  rw [c29] at g2
  rw [c45] at g3 g4
  obtain ⟨k, q0, _⟩ := DataW.trod_int Tryz.underlying3 g0
  obtain ⟨nm, q1, _⟩ := DataW.trod_string Tryz.underlying9 g1
  obtain ⟨A, len, cap, l, q2, hs, hK⟩ := exprs_openN g2
  have hel : ∀ (m : Nat) (cs : List Value) (y : DataW H × List MemPlace), m < n → DataW.trod enc Tryz.prog w base spare held m 98 cs = some y → ∀ B o, cs.length = 5 → (∀ (i : Nat) (v : Value), cs[i]? = some v → w.cell? ⟨B, o + i, none⟩ = some v) → ∃ a : St, a.In w B o ∧ 1 + cntS a ≤ 1 * Rows.uptoBulk y.1 := fun m cs y hm hy B o _ hc => by
    obtain ⟨e, he, hg⟩ := ih m (by omega) cs y hy
    exact ⟨e, St.put he (fun i v hv => hc i v (by simpa using hv)), hg⟩
  obtain ⟨A1, len1, cap1, l1, q3, hs1, hK1⟩ := slice_openB (t := 45) (e := 98) (sz := 5) Tryz.underlying45 c98 (by decide) (fun (x : St) B o => x.In w B o) (fun s => 1 + cntS s) 1 hel g3
  obtain ⟨A2, len2, cap2, l2, q4, hs2, hK2⟩ := slice_openB (t := 45) (e := 98) (sz := 5) Tryz.underlying45 c98 (by decide) (fun (x : St) B o => x.In w B o) (fun s => 1 + cntS s) 1 hel g4
  obtain ⟨ks, rfl⟩ := Exs.of_list l
  obtain ⟨b1, rfl⟩ := Sts.of_list l1
  obtain ⟨b2, rfl⟩ := Sts.of_list l2
  simp at q0 q1
  subst q0 q1 q2 q3 q4
  refine ⟨.mk k nm ks b1 b2, ?_⟩
  unfold St.Is
  refine ⟨⟨A, len, cap, A1, len1, cap1, A2, len2, cap2, rfl, hs, hs1, hs2⟩, ?_⟩
  rw [cntS, cntL_F, cntSs_F, cntSs_F, hx, e0, e1, e2, e3, e4]
  simp only [Rows.uptoBulk, Rows.uptoBulkAll]
  have h0 := bulk_one y0.1
  have h1 := bulk_one y1.1
  omega
theorem decl_openN (fuel : Nat) (cs : List Value) (x : DataW H × List MemPlace) (h : DataW.trod enc Tryz.prog w base spare held fuel 47 cs = some x) : ∃ e : De, e.Is w (.agg cs.toArray) ∧ True ∧ cntD e ≤ 1 * Rows.uptoBulk x.1 := by
  obtain ⟨n, parts, rfl, hx, hpl, hl, hF⟩ := struct_openB (t := 47) (l := [(3, 0), (4, 1), (9, 2), (3, 3), (44, 4), (29, 5), (45, 6)]) (by kernel_rfl) h
  rw [c47] at hl
  match cs, hl, parts, hpl with
  | [c0, c1, c2, c3', c4', c5, c6], _, [p0, p1, p2, p3, p4, p5, p6], _ =>
  obtain ⟨y0, g0, e0⟩ := hF 0 3 0 rfl
  obtain ⟨y1, g1, e1⟩ := hF 1 4 1 rfl
  obtain ⟨y2, g2, e2⟩ := hF 2 9 2 rfl
  obtain ⟨y3, g3, e3⟩ := hF 3 3 3 rfl
  obtain ⟨y4, g4, e4⟩ := hF 4 44 4 rfl
  obtain ⟨y5, g5, e5⟩ := hF 5 29 5 rfl
  obtain ⟨y6, g6, e6⟩ := hF 6 45 6 rfl
  simp at e0 e1 e2 e3 e4 e5 e6
  rw [c3] at g0 g3
  rw [c4] at g1
  rw [c9] at g2
  rw [c44] at g4
  rw [c29] at g5
  rw [c45] at g6
  obtain ⟨k, q0, _⟩ := DataW.trod_int Tryz.underlying3 g0
  obtain ⟨ex, q1, _⟩ := DataW.trod_bool Tryz.underlying4 g1
  obtain ⟨nm, q2, _⟩ := DataW.trod_string Tryz.underlying9 g2
  obtain ⟨t, q3, _⟩ := DataW.trod_int Tryz.underlying3 g3
  obtain ⟨A, len, cap, l, q4, hs, hK⟩ := slice_openB (t := 44) (e := 93) (sz := 2) Tryz.underlying44 c93 (by decide) (fun (x : Pa) B o => x.In w B o) (fun _ => 1) 1 (fun m cs y hm hy B o hl hc => by
    have hb := bulk_one y.1
    obtain ⟨n, rfl, _, hF⟩ := struct_open (t := 93) (l := [(9, 0), (3, 1)]) (by kernel_rfl) hy
    match cs, hl with
    | [c0, c1], _ =>
    obtain ⟨y0, g0⟩ := hF 0 9 0 rfl
    obtain ⟨y1, g1⟩ := hF 1 3 1 rfl
    rw [c9] at g0
    rw [c3] at g1
    obtain ⟨nm, q0, _⟩ := DataW.trod_string Tryz.underlying9 g0
    obtain ⟨t, q1, _⟩ := DataW.trod_int Tryz.underlying3 g1
    simp at q0 q1
    subst q0 q1
    exact ⟨⟨nm, t⟩, ⟨hc 0 _ rfl, hc 1 _ rfl⟩, by omega⟩) g4
  obtain ⟨A1, len1, cap1, l1, q5, hs1, hK1⟩ := exprs_openN g5
  obtain ⟨A2, len2, cap2, l2, q6, hs2, hK2⟩ := slice_openB (t := 45) (e := 98) (sz := 5) Tryz.underlying45 c98 (by decide) (fun (x : St) B o => x.In w B o) (fun s => 1 + cntS s) 1 (fun m cs y hm hy B o _ hc => by
    obtain ⟨e, he, hg⟩ := stmt_openN m cs y hy
    exact ⟨e, St.put he (fun i v hv => hc i v (by simpa using hv)), hg⟩) g6
  obtain ⟨ks, rfl⟩ := Exs.of_list l1
  obtain ⟨b2, rfl⟩ := Sts.of_list l2
  simp at q0 q1 q2 q3
  subst q0 q1 q2 q3 q4 q5 q6
  refine ⟨⟨k, ex, nm, t, l, ks, b2⟩, ⟨A, len, cap, A1, len1, cap1, A2, len2, cap2, rfl, hs, hs1, hs2⟩, trivial, ?_⟩
  rw [cntD, cntL_F, cntSs_F, hx, e0, e1, e2, e3, e4, e5, e6]
  simp only [Rows.uptoBulk, Rows.uptoBulkAll]
  rw [sumF_one _ (fun _ => rfl)] at hK
  have h0 := bulk_one y0.1
  omega
theorem module_openN (fuel : Nat) (cs : List Value) (x : DataW H × List MemPlace) (h : DataW.trod enc Tryz.prog w base spare held fuel 25 cs = some x) : ∃ m : Mo, m.Is w (.agg cs.toArray) ∧ True ∧ sumN cntD m.ds ≤ 1 * Rows.uptoBulk x.1 := by
  obtain ⟨n, parts, rfl, hx, hpl, hl, hF⟩ := struct_openB (t := 25) (l := [(9, 0), (22, 1), (23, 2)]) (by kernel_rfl) h
  rw [c25] at hl
  match cs, hl, parts, hpl with
  | [c0, c1, c2], _, [p0, p1, p2], _ =>
  obtain ⟨y0, g0, e0⟩ := hF 0 9 0 rfl
  obtain ⟨y1, g1, e1⟩ := hF 1 22 1 rfl
  obtain ⟨y2, g2, e2⟩ := hF 2 23 2 rfl
  simp at e0 e1 e2
  rw [c9] at g0
  rw [c22] at g1
  rw [c23] at g2
  obtain ⟨nm, q0, _⟩ := DataW.trod_string Tryz.underlying9 g0
  obtain ⟨A, len, cap, l, q1, hs⟩ := texts_open g1
  obtain ⟨A1, len1, cap1, l1, q2, hs1, hK⟩ := slice_openB (t := 23) (e := 47) (sz := 7) Tryz.underlying23 c47 (by decide) (fun (x : De) B o => x.In w B o) cntD 1 (fun m cs y hm hy B o _ hc => by
    obtain ⟨e, he, _, hg⟩ := decl_openN m cs y hy
    exact ⟨e, De.put he (fun i v hv => hc i v (by simpa using hv)), hg⟩) g2
  simp at q0
  subst q0 q1 q2
  refine ⟨⟨nm, l, l1⟩, ⟨A, len, cap, A1, len1, cap1, rfl, hs, hs1⟩, trivial, ?_⟩
  rw [sumN_F, hx, e0, e1, e2]
  simp only [Rows.uptoBulk, Rows.uptoBulkAll]
  omega
theorem cntD_len (l : List De) : l.length ≤ sumN cntD l := by
  induction l with
  | nil => simp
  | cons d r ih => rw [sumN, List.length_cons, cntD]; omega
end
end Go.Proofs.YtbhgpegcdiohlaaGreatDoor.Tr
