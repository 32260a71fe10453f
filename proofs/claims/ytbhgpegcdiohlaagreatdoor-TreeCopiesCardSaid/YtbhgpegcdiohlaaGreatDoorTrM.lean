import Derived.Test.YtbhgpegcdiohlaaGreatDoorTrL
import Derived.Test.YtbhgpegcdiohlaaGreatDoorRtA
namespace Go.Proofs.YtbhgpegcdiohlaaGreatDoor.Tr
open Go Go.ChangeShapes Go.WideShapes Go.RowKit Go.Proofs
set_option linter.unusedVariables false
set_option linter.unusedSimpArgs false
set_option maxRecDepth 100000
mutual
def Ex.Wf : Ex → Prop
  | .mk k op m n t b ks => 0 ≤ b ∧ b < 18446744073709551616 ∧ strOk m ∧ strOk n ∧ ks.Wf
def Exs.Wf : Exs → Prop
  | .nil => True
  | .cons e l => e.Wf ∧ l.Wf
end
theorem Exs.Wf_iff : ∀ {ks : Exs}, ks.Wf ↔ ∀ x ∈ ks.toList, x.Wf
  | .nil => by simp [Exs.Wf, Exs.toList]
  | .cons e l => by simp [Exs.Wf, Exs.toList, Exs.Wf_iff (ks := l)]
mutual
def St.Wf : St → Prop
  | .mk k n e bd el => strOk n ∧ e.Wf ∧ bd.Wf ∧ el.Wf
def Sts.Wf : Sts → Prop
  | .nil => True
  | .cons e l => e.Wf ∧ l.Wf
end
theorem Sts.Wf_iff : ∀ {ks : Sts}, ks.Wf ↔ ∀ x ∈ ks.toList, x.Wf
  | .nil => by simp [Sts.Wf, Sts.toList]
  | .cons e l => by simp [Sts.Wf, Sts.toList, Sts.Wf_iff (ks := l)]
def De.Wf (d : De) : Prop := strOk d.n ∧ (∀ p ∈ d.ps, strOk p.n) ∧ d.e.Wf ∧ d.bd.Wf
def Mo.Wf (m : Mo) : Prop := strOk m.n ∧ (∀ s ∈ m.im, strOk s) ∧ ∀ d ∈ m.ds, d.Wf
theorem Sl.parts {α : Type} {sz : Nat} {P : α → Nat → Nat → Prop} {Q : α → Prop} {l : List α} {A : Option Addr} {n : Nat} (h : Sl sz (fun x B o => P x B o ∧ Q x) l A n) : Sl sz P l A n ∧ ∀ x ∈ l, Q x := by
  refine ⟨h.mono fun x B o g => g.1, fun x hx => ?_⟩
  obtain ⟨i, hi⟩ := List.mem_iff_getElem?.1 hx
  obtain ⟨B, o, _, g⟩ := h.2.2 (by rw [h.1]; exact List.length_pos_of_mem hx)
  exact (g i x hi).2
theorem bits_wf {v : Int} (h : (Lit.int .u64 v).wf = true) : 0 ≤ v ∧ v < 18446744073709551616 := by
  simp only [Lit.wf, Bool.and_eq_true, decide_eq_true_eq] at h
  have h1 : IntKind.u64.min = 0 := by decide
  have h2 : IntKind.u64.max = 18446744073709551615 := by decide
  omega
section
variable {H : Type} {enc : TypeId × Value → H} {w : World} {base : Nat} {spare : Nat → Bool} {held : Bool}
theorem value_openW {fuel : Nat} {a b : Value} {x : DataW H × List MemPlace} (h : DataW.trod enc Tryz.prog w base spare held fuel 28 [a, b] = some x) : ∃ t v, a = .int .i64 t ∧ b = .int .u64 v ∧ 0 ≤ v ∧ v < 18446744073709551616 := by
  obtain ⟨n, rfl, hl, hF⟩ := struct_open (t := 28) (l := [(3, 0), (26, 1)]) (by kernel_rfl) h
  obtain ⟨y0, g0⟩ := hF 0 3 0 rfl
  obtain ⟨y1, g1⟩ := hF 1 26 1 rfl
  rw [c3] at g0
  rw [c26] at g1
  obtain ⟨t, q0, _⟩ := DataW.trod_int Tryz.underlying3 g0
  obtain ⟨v, q1, _, w1⟩ := DataW.trod_int Tryz.underlying26 g1
  simp at q0 q1
  exact ⟨t, v, q0, q1, bits_wf w1⟩
theorem expr_openW : ∀ (fuel : Nat) (cs : List Value) (x : DataW H × List MemPlace), DataW.trod enc Tryz.prog w base spare held fuel 31 cs = some x → ∃ e : Ex, e.Is w (.agg cs.toArray) ∧ e.Wf := by
  intro fuel
  induction fuel using Nat.strongRecOn with
  | _ fuel ih =>
  intro cs x h
  obtain ⟨n, rfl, hl, hF⟩ := struct_open (t := 31) (l := [(3, 0), (3, 1), (9, 2), (9, 3), (28, 4), (29, 6)]) (by kernel_rfl) h
  rw [c31] at hl
  match cs, hl with
  | [c0, c1, c2, c3', c4', c5, c6], _ =>
  obtain ⟨y0, g0⟩ := hF 0 3 0 rfl
  obtain ⟨y1, g1⟩ := hF 1 3 1 rfl
  obtain ⟨y2, g2⟩ := hF 2 9 2 rfl
  obtain ⟨y3, g3⟩ := hF 3 9 3 rfl
  obtain ⟨y4, g4⟩ := hF 4 28 4 rfl
  obtain ⟨y5, g5⟩ := hF 5 29 6 rfl
  rw [c3] at g0 g1
  rw [c9] at g2 g3
  rw [c28] at g4
  rw [c29] at g5
  obtain ⟨k, q0, _⟩ := DataW.trod_int Tryz.underlying3 g0
  obtain ⟨op, q1, _⟩ := DataW.trod_int Tryz.underlying3 g1
  obtain ⟨m, q2, _, z2⟩ := DataW.trod_string Tryz.underlying9 g2
  obtain ⟨nm, q3, _, z3⟩ := DataW.trod_string Tryz.underlying9 g3
  obtain ⟨t, v, q4, q5, v0, v1⟩ := value_openW (a := c4') (b := c5) g4
  obtain ⟨A, len, cap, l, q6, hs⟩ := slice_open (t := 29) (e := 31) (sz := 7) Tryz.underlying29 c31 (by decide) (fun (x : Ex) B o => x.In w B o ∧ x.Wf) (fun m cs y hm hy B o _ hc => by
    obtain ⟨e, he, hf⟩ := ih m (by omega) cs y hy
    exact ⟨e, Ex.put he (Below.refl _ _) (fun i v hv => hc i v (by simpa using hv)), hf⟩) g5
  obtain ⟨hs, hF'⟩ := hs.parts
  obtain ⟨ks, rfl⟩ := Exs.of_list l
  simp at q0 q1 q2 q3
  subst q0 q1 q2 q3 q4 q5 q6
  refine ⟨.mk k op m nm t v ks, ?_⟩
  unfold Ex.Is Ex.Wf
  exact ⟨⟨A, len, cap, rfl, hs⟩, v0, v1, z2, z3, Exs.Wf_iff.2 hF'⟩
theorem exprs_openW {fuel : Nat} {c : Value} {x : DataW H × List MemPlace} (h : DataW.trod enc Tryz.prog w base spare held fuel 29 [c] = some x) : ∃ A len cap, ∃ l : List Ex, c = .slice A len cap ∧ Sl 7 (fun x B o => x.In w B o ∧ x.Wf) l A len :=
  slice_open (t := 29) (e := 31) (sz := 7) Tryz.underlying29 c31 (by decide) (fun (x : Ex) B o => x.In w B o ∧ x.Wf) (fun m cs y hm hy B o _ hc => by
    obtain ⟨e, he, hf⟩ := expr_openW m cs y hy
    exact ⟨e, Ex.put he (Below.refl _ _) (fun i v hv => hc i v (by simpa using hv)), hf⟩) h
theorem stmt_openW : ∀ (fuel : Nat) (cs : List Value) (x : DataW H × List MemPlace), DataW.trod enc Tryz.prog w base spare held fuel 98 cs = some x → ∃ e : St, e.Is w (.agg cs.toArray) ∧ e.Wf := by
  intro fuel
  induction fuel using Nat.strongRecOn with
  | _ fuel ih =>
  intro cs x h
  obtain ⟨n, rfl, hl, hF⟩ := struct_open (t := 98) (l := [(3, 0), (9, 1), (29, 2), (45, 3), (45, 4)]) (by kernel_rfl) h
  rw [c98] at hl
  match cs, hl with
  | [c0, c1, c2, c3', c4'], _ =>
  obtain ⟨y0, g0⟩ := hF 0 3 0 rfl
  obtain ⟨y1, g1⟩ := hF 1 9 1 rfl
  obtain ⟨y2, g2⟩ := hF 2 29 2 rfl
  obtain ⟨y3, g3⟩ := hF 3 45 3 rfl
  obtain ⟨y4, g4⟩ := hF 4 45 4 rfl
  rw [c3] at g0
  rw [c9] at g1
  rw [c29] at g2
  rw [c45] at g3 g4
  obtain ⟨k, q0, _⟩ := DataW.trod_int Tryz.underlying3 g0
  obtain ⟨nm, q1, _, z1⟩ := DataW.trod_string Tryz.underlying9 g1
  obtain ⟨A, len, cap, l, q2, hs⟩ := exprs_openW g2
  obtain ⟨hs, hF0⟩ := hs.parts
  have hel : ∀ (m : Nat) (cs : List Value) (y : DataW H × List MemPlace), m < n → DataW.trod enc Tryz.prog w base spare held m 98 cs = some y → ∀ B o, cs.length = 5 → (∀ (i : Nat) (v : Value), cs[i]? = some v → w.cell? ⟨B, o + i, none⟩ = some v) → ∃ a : St, a.In w B o ∧ a.Wf := fun m cs y hm hy B o _ hc => by
    obtain ⟨e, he, hf⟩ := ih m (by omega) cs y hy
    exact ⟨e, St.put he (fun i v hv => hc i v (by simpa using hv)), hf⟩
  obtain ⟨A1, len1, cap1, l1, q3, hs1⟩ := slice_open (t := 45) (e := 98) (sz := 5) Tryz.underlying45 c98 (by decide) (fun (x : St) B o => x.In w B o ∧ x.Wf) hel g3
  obtain ⟨A2, len2, cap2, l2, q4, hs2⟩ := slice_open (t := 45) (e := 98) (sz := 5) Tryz.underlying45 c98 (by decide) (fun (x : St) B o => x.In w B o ∧ x.Wf) hel g4
  obtain ⟨hs1, hF1⟩ := hs1.parts
  obtain ⟨hs2, hF2⟩ := hs2.parts
  obtain ⟨ks, rfl⟩ := Exs.of_list l
  obtain ⟨b1, rfl⟩ := Sts.of_list l1
  obtain ⟨b2, rfl⟩ := Sts.of_list l2
  simp at q0 q1
  subst q0 q1 q2 q3 q4
  refine ⟨.mk k nm ks b1 b2, ?_⟩
  unfold St.Is St.Wf
  exact ⟨⟨A, len, cap, A1, len1, cap1, A2, len2, cap2, rfl, hs, hs1, hs2⟩, z1, Exs.Wf_iff.2 hF0, Sts.Wf_iff.2 hF1, Sts.Wf_iff.2 hF2⟩
theorem stmts_openW {fuel : Nat} {c : Value} {x : DataW H × List MemPlace} (h : DataW.trod enc Tryz.prog w base spare held fuel 45 [c] = some x) : ∃ A len cap, ∃ l : List St, c = .slice A len cap ∧ Sl 5 (fun x B o => x.In w B o ∧ x.Wf) l A len :=
  slice_open (t := 45) (e := 98) (sz := 5) Tryz.underlying45 c98 (by decide) (fun (x : St) B o => x.In w B o ∧ x.Wf) (fun m cs y hm hy B o _ hc => by
    obtain ⟨e, he, hf⟩ := stmt_openW m cs y hy
    exact ⟨e, St.put he (fun i v hv => hc i v (by simpa using hv)), hf⟩) h
theorem params_openW {fuel : Nat} {c : Value} {x : DataW H × List MemPlace} (h : DataW.trod enc Tryz.prog w base spare held fuel 44 [c] = some x) : ∃ A len cap, ∃ l : List Pa, c = .slice A len cap ∧ Sl 2 (fun x B o => x.In w B o ∧ strOk x.n) l A len :=
  slice_open (t := 44) (e := 93) (sz := 2) Tryz.underlying44 c93 (by decide) (fun (x : Pa) B o => x.In w B o ∧ strOk x.n) (fun m cs y hm hy B o hl hc => by
    obtain ⟨n, rfl, _, hF⟩ := struct_open (t := 93) (l := [(9, 0), (3, 1)]) (by kernel_rfl) hy
    match cs, hl with
    | [c0, c1], _ =>
    obtain ⟨y0, g0⟩ := hF 0 9 0 rfl
    obtain ⟨y1, g1⟩ := hF 1 3 1 rfl
    rw [c9] at g0
    rw [c3] at g1
    obtain ⟨nm, q0, _, z0⟩ := DataW.trod_string Tryz.underlying9 g0
    obtain ⟨t, q1, _⟩ := DataW.trod_int Tryz.underlying3 g1
    simp at q0 q1
    subst q0 q1
    exact ⟨⟨nm, t⟩, ⟨hc 0 _ rfl, hc 1 _ rfl⟩, z0⟩) h
theorem texts_openW {fuel : Nat} {c : Value} {x : DataW H × List MemPlace} (h : DataW.trod enc Tryz.prog w base spare held fuel 22 [c] = some x) : ∃ A len cap, ∃ l : List ByteArray, c = .slice A len cap ∧ Sl 1 (fun x B o => strIn w x B o ∧ strOk x) l A len :=
  slice_open (t := 22) (e := 9) (sz := 1) Tryz.underlying22 c9 (by decide) (fun x B o => strIn w x B o ∧ strOk x) (fun m cs y hm hy B o hl hc => by
    obtain ⟨nm, q0, _, z0⟩ := DataW.trod_string Tryz.underlying9 hy
    subst q0
    exact ⟨nm, hc 0 _ rfl, z0⟩) h
theorem decl_openW (fuel : Nat) (cs : List Value) (x : DataW H × List MemPlace) (h : DataW.trod enc Tryz.prog w base spare held fuel 47 cs = some x) : ∃ e : De, e.Is w (.agg cs.toArray) ∧ e.Wf := by
  obtain ⟨n, rfl, hl, hF⟩ := struct_open (t := 47) (l := [(3, 0), (4, 1), (9, 2), (3, 3), (44, 4), (29, 5), (45, 6)]) (by kernel_rfl) h
  rw [c47] at hl
  match cs, hl with
  | [c0, c1, c2, c3', c4', c5, c6], _ =>
  obtain ⟨y0, g0⟩ := hF 0 3 0 rfl
  obtain ⟨y1, g1⟩ := hF 1 4 1 rfl
  obtain ⟨y2, g2⟩ := hF 2 9 2 rfl
  obtain ⟨y3, g3⟩ := hF 3 3 3 rfl
  obtain ⟨y4, g4⟩ := hF 4 44 4 rfl
  obtain ⟨y5, g5⟩ := hF 5 29 5 rfl
  obtain ⟨y6, g6⟩ := hF 6 45 6 rfl
  rw [c3] at g0 g3
  rw [c4] at g1
  rw [c9] at g2
  rw [c44] at g4
  rw [c29] at g5
  rw [c45] at g6
  obtain ⟨k, q0, _⟩ := DataW.trod_int Tryz.underlying3 g0
  obtain ⟨ex, q1, _⟩ := DataW.trod_bool Tryz.underlying4 g1
  obtain ⟨nm, q2, _, z2⟩ := DataW.trod_string Tryz.underlying9 g2
  obtain ⟨t, q3, _⟩ := DataW.trod_int Tryz.underlying3 g3
  obtain ⟨A, len, cap, l, q4, hs⟩ := params_openW g4
  obtain ⟨A1, len1, cap1, l1, q5, hs1⟩ := exprs_openW g5
  obtain ⟨A2, len2, cap2, l2, q6, hs2⟩ := stmts_openW g6
  obtain ⟨hs, hF0⟩ := hs.parts
  obtain ⟨hs1, hF1⟩ := hs1.parts
  obtain ⟨hs2, hF2⟩ := hs2.parts
  obtain ⟨ks, rfl⟩ := Exs.of_list l1
  obtain ⟨b2, rfl⟩ := Sts.of_list l2
  simp at q0 q1 q2 q3
  subst q0 q1 q2 q3 q4 q5 q6
  exact ⟨⟨k, ex, nm, t, l, ks, b2⟩, ⟨A, len, cap, A1, len1, cap1, A2, len2, cap2, rfl, hs, hs1, hs2⟩, z2, hF0, Exs.Wf_iff.2 hF1, Sts.Wf_iff.2 hF2⟩
theorem module_openW {fuel : Nat} {cs : List Value} {x : DataW H × List MemPlace} (h : DataW.trod enc Tryz.prog w base spare held fuel 25 cs = some x) : ∃ m : Mo, m.Is w (.agg cs.toArray) ∧ m.Wf := by
  obtain ⟨n, rfl, hl, hF⟩ := struct_open (t := 25) (l := [(9, 0), (22, 1), (23, 2)]) (by kernel_rfl) h
  rw [c25] at hl
  match cs, hl with
  | [c0, c1, c2], _ =>
  obtain ⟨y0, g0⟩ := hF 0 9 0 rfl
  obtain ⟨y1, g1⟩ := hF 1 22 1 rfl
  obtain ⟨y2, g2⟩ := hF 2 23 2 rfl
  rw [c9] at g0
  rw [c22] at g1
  rw [c23] at g2
  obtain ⟨nm, q0, _, z0⟩ := DataW.trod_string Tryz.underlying9 g0
  obtain ⟨A, len, cap, l, q1, hs⟩ := texts_openW g1
  obtain ⟨A1, len1, cap1, l1, q2, hs1⟩ := slice_open (t := 23) (e := 47) (sz := 7) Tryz.underlying23 c47 (by decide) (fun (x : De) B o => x.In w B o ∧ x.Wf) (fun m cs y hm hy B o _ hc => by
    obtain ⟨e, he, hf⟩ := decl_openW m cs y hy
    exact ⟨e, De.put he (fun i v hv => hc i v (by simpa using hv)), hf⟩) g2
  obtain ⟨hs, hF0⟩ := hs.parts
  obtain ⟨hs1, hF1⟩ := hs1.parts
  simp at q0
  subst q0 q1 q2
  exact ⟨⟨nm, l, l1⟩, ⟨A, len, cap, A1, len1, cap1, rfl, hs, hs1⟩, z0, hF0, hF1⟩
end
end Go.Proofs.YtbhgpegcdiohlaaGreatDoor.Tr
