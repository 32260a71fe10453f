import Derived.Test.YtbhgpegcdiohlaaGreatDoorCpA
import Derived.Test.YtbhgpegcdiohlaaGreatDoorTrM
import Derived.SizedLaws
namespace Go.Proofs.YtbhgpegcdiohlaaGreatDoor.Tr
open Go Go.ChangeShapes Go.WideShapes Go.RowKit Go.Proofs
set_option linter.unusedVariables false
set_option linter.unusedSimpArgs false
set_option maxRecDepth 100000
section
variable {H : Type} {enc : TypeId × Value → H} {w : World} {base : Nat} {spare : Nat → Bool} {held : Bool}
/-- all of a datum's slices are no more than memory holds -/
def Wt (t : TypeId) (d : DataW H) : Prop := ∀ n ∈ d.weights Tryz.prog t, n ≤ reachBytes
theorem weightsAll_mem {e : TypeId} : ∀ {l : List (DataW H)} {y : DataW H}, y ∈ l → ∀ n ∈ y.weights Tryz.prog e, n ∈ DataW.weightsAll Tryz.prog e l
  | a :: l, y, hy, n, hn => by
    simp only [DataW.weightsAll, List.mem_append]
    rcases List.mem_cons.1 hy with rfl | hy
    · exact .inl hn
    · exact .inr (weightsAll_mem hy n hn)
theorem struct_openB {t : TypeId} {l : List (TypeId × Nat)} {fuel : Nat} {cs : List Value} {x : DataW H × List MemPlace} (e : (match Tryz.prog.underlying t with | some (.struct fs) => some (fs.toList.map (fun f => (f.type, f.offset))) | _ => none) = some l) (h : DataW.trod enc Tryz.prog w base spare held fuel t cs = some x) :
    ∃ (n : Nat) (parts : List (DataW H)), fuel = n + 1 ∧ x.1 = .agg parts ∧ parts.length = l.length ∧ cs.length = Tryz.prog.cellsOf t ∧ ∀ (i : Nat) (ty : TypeId) (off : Nat), l[i]? = some (ty, off) → ∃ y, DataW.trod enc Tryz.prog w base spare held n ty ((cs.drop off).take (Tryz.prog.cellsOf ty)) = some y ∧ parts[i]? = some y.1 := by
  obtain ⟨fs, hu, hf⟩ := fields_of e
  obtain ⟨xs, n, hn, hx, hl, hlen, hF⟩ := DataW.trod_struct hu h
  refine ⟨n, xs.map (·.1), hn, by rw [hx], by rw [← hf]; simp [hlen], hl, fun i ty off hi => ?_⟩
  rw [← hf, List.getElem?_map] at hi
  obtain ⟨f, hfi, hfe⟩ := Option.map_eq_some_iff.1 hi
  simp only [Prod.mk.injEq] at hfe
  obtain ⟨rfl, rfl⟩ := hfe
  have hfi' : fs[i]? = some f := by rw [← Array.getElem?_toList]; exact hfi
  have := hF i f hfi'
  have hlt : i < xs.length := by rw [hlen]; exact (Array.getElem?_eq_some_iff.1 hfi').1
  exact ⟨xs[i], this.trans (List.getElem?_eq_getElem hlt), by rw [List.getElem?_map, List.getElem?_eq_getElem hlt]; rfl⟩
theorem struct_openR {t : TypeId} {l : List (TypeId × Nat)} {fuel : Nat} {cs : List Value} {x : DataW H × List MemPlace} (e : (match Tryz.prog.underlying t with | some (.struct fs) => some (fs.toList.map (fun f => (f.type, f.offset))) | _ => none) = some l) (h : DataW.trod enc Tryz.prog w base spare held fuel t cs = some x) (hw : Wt t x.1) :
    ∃ (n : Nat), fuel = n + 1 ∧ cs.length = Tryz.prog.cellsOf t ∧ ∀ (i : Nat) (ty : TypeId) (off : Nat), l[i]? = some (ty, off) → ∃ y, DataW.trod enc Tryz.prog w base spare held n ty ((cs.drop off).take (Tryz.prog.cellsOf ty)) = some y ∧ Wt ty y.1 := by
  obtain ⟨fs, hu, hf⟩ := fields_of e
  obtain ⟨n, parts, h1, h2, h3, h4, h5⟩ := struct_openB e h
  refine ⟨n, h1, h4, fun i ty off hi => ?_⟩
  obtain ⟨y, g1, g2⟩ := h5 i ty off hi
  refine ⟨y, g1, fun m hm => hw m ?_⟩
  rw [h2, DataW.weights, hu]
  refine DataW.weights_mem_each (j := i) (t := ty) (d := y.1) ?_ g2 m hm
  have := congrArg (Option.map Prod.fst) hi
  rw [← hf, ← List.getElem?_map, List.map_map] at this
  exact this
theorem slice_openR {α : Type} {t e : TypeId} {sz fuel : Nat} {c : Value} {x : DataW H × List MemPlace} (ht : Tryz.prog.underlying t = some (.slice e)) (hC : Tryz.prog.cellsOf e = sz) (hs0 : 0 < sz) (P : α → Nat → Nat → Prop) (R : α → Prop) (hw : Wt t x.1)
    (hel : ∀ (m : Nat) (cs : List Value) (y : DataW H × List MemPlace), m < fuel → DataW.trod enc Tryz.prog w base spare held m e cs = some y → Wt e y.1 → ∀ B o, cs.length = sz → (∀ (i : Nat) (v : Value), cs[i]? = some v → w.cell? ⟨B, o + i, none⟩ = some v) → ∃ a, P a B o ∧ R a)
    (h : DataW.trod enc Tryz.prog w base spare held fuel t [c] = some x) : ∃ A len cap l, c = .slice A len cap ∧ Sl sz P l A len ∧ l.length * Tryz.prog.bytesOf e ≤ 140737488351232 ∧ ∀ a ∈ l, R a := by
  rcases DataW.trod_slice ht h with ⟨hc, hx⟩ | ⟨a, len, cap, elems, rest, n, hn, hc, hx, hb, hl, hm, hlen, hi, _, _⟩
  · simp only [List.cons.injEq, and_true] at hc
    subst hc
    exact ⟨none, 0, 0, [], rfl, ⟨rfl, by omega, fun h => absurd h (by omega)⟩, by simp, by simp⟩
  · simp only [List.cons.injEq, and_true] at hc
    subst hc
    rw [hC] at hi
    have hmx : maxLen = 9223372036854775807 := by decide
    have hrb : reachBytes = 140737488351232 - 1 + 0 ∨ reachBytes ≤ 140737488351232 := .inr (by decide)
    have hsz : elems.length * Tryz.prog.bytesOf e ≤ 140737488351232 := by
      have := hw ((elems.length + rest.length) * Tryz.prog.bytesOf e) (by rw [hx]; simp [DataW.weights, ht])
      have h2 := Nat.mul_le_mul_right (Tryz.prog.bytesOf e) (Nat.le_add_right elems.length rest.length)
      have h3 : reachBytes ≤ 140737488351232 := by decide
      omega
    have hwe : ∀ y ∈ elems, Wt e y.1 := fun y hy m hm => by
      apply hw m
      rw [hx]
      simp only [DataW.weights, ht]
      refine List.mem_cons_of_mem _ (List.mem_append_left _ (weightsAll_mem (List.mem_map.2 ⟨y, hy, rfl⟩) m hm))
    have key : ∀ i, i < len → ∃ cs y, w.cells? base (a.add (i * sz)) sz = some cs ∧ DataW.trod enc Tryz.prog w base spare held n e cs = some y ∧ elems[i]? = some y := by
      intro i hil
      have h1 := hi i hil
      have h2 : elems[i]? = some elems[i] := List.getElem?_eq_getElem (by omega)
      rw [h2] at h1
      obtain ⟨cs, e1, e2⟩ := Option.bind_eq_some_iff.mp h1
      exact ⟨cs, _, e1, e2, h2⟩
    rcases Nat.eq_zero_or_pos len with hz | hp
    · subst hz
      exact ⟨some a, 0, cap, [], rfl, ⟨rfl, by omega, fun h => absurd h (by omega)⟩, by simp, by simp⟩
    obtain ⟨b, off, spot⟩ := a
    have hspot : spot = none := by
      obtain ⟨cs, y, e1, e2, _⟩ := key 0 hp
      obtain ⟨_, h2, h3⟩ := World.cells?_some e1
      have h4 := h3 0 hs0
      rw [List.getElem?_eq_getElem (by omega)] at h4
      simpa [Addr.add] using World.cell?_spot h4
    subst hspot
    have all : ∀ k, k ≤ len → ∃ l : List α, l.length = k ∧ (∀ (i : Nat) (z : α), l[i]? = some z → P z b (off + i * sz)) ∧ ∀ a ∈ l, R a := by
      intro k
      induction k with
      | zero => intro _; exact ⟨[], rfl, fun i z hz => by simp at hz, by simp⟩
      | succ k ih =>
        intro hk
        obtain ⟨l, l1, l2, l3⟩ := ih (by omega)
        obtain ⟨cs, y, e1, e2, e3⟩ := key k (by omega)
        obtain ⟨_, h2, h3⟩ := World.cells?_some e1
        obtain ⟨z, hz, hzc⟩ := hel n cs y (by omega) e2 (hwe y (List.mem_of_getElem? e3)) b (off + k * sz) h2 (fun i v hv => by
          have hil : i < sz := by rw [← h2]; exact (List.getElem?_eq_some_iff.1 hv).1
          have := h3 i hil
          rw [Go.WideShapes.add_plain, Go.WideShapes.add_plain, hv] at this
          exact this)
        refine ⟨l ++ [z], by simp [l1], fun i q hq => ?_, ?_⟩
        · rcases Nat.lt_or_ge i l.length with hlt | hge
          · rw [List.getElem?_append_left hlt] at hq
            exact l2 i q hq
          · rw [List.getElem?_append_right hge] at hq
            have : i - l.length = 0 := by
              have := (List.getElem?_eq_some_iff.1 hq).1
              simp at this; omega
            rw [this] at hq
            simp only [List.getElem?_cons_zero, Option.some.injEq] at hq
            subst hq
            rw [show i = k by omega]
            exact hz
        · intro q hq
          rcases List.mem_append.1 hq with hq | hq
          · exact l3 q hq
          · rw [List.mem_singleton.1 hq]; exact hzc
    obtain ⟨l, l1, l2, l3⟩ := all len (Nat.le_refl _)
    exact ⟨_, len, cap, l, rfl, ⟨l1.symm, by omega, fun _ => ⟨b, off, rfl, l2⟩⟩, by rw [l1, ← hlen]; exact hsz, l3⟩
theorem bytesR : Tryz.prog.bytesOf 31 = 88 ∧ Tryz.prog.bytesOf 98 = 96 ∧ Tryz.prog.bytesOf 47 = 112 ∧ Tryz.prog.bytesOf 93 = 24 ∧ Tryz.prog.bytesOf 9 = 16 := ⟨by kernel_rfl, by kernel_rfl, by kernel_rfl, by kernel_rfl, by kernel_rfl⟩
theorem expr_openR : ∀ (fuel : Nat) (cs : List Value) (x : DataW H × List MemPlace), DataW.trod enc Tryz.prog w base spare held fuel 31 cs = some x → Wt 31 x.1 → ∃ e : Ex, e.Is w (.agg cs.toArray) ∧ e.Rm := by
  intro fuel
  induction fuel using Nat.strongRecOn with
  | _ fuel ih =>
  intro cs x h hw
  obtain ⟨n, rfl, hl, hF⟩ := struct_openR (t := 31) (l := [(3, 0), (3, 1), (9, 2), (9, 3), (28, 4), (29, 6)]) (by kernel_rfl) h hw
  rw [c31] at hl
  match cs, hl with
  | [c0, c1, c2, c3', c4', c5, c6], _ =>
  obtain ⟨y0, g0, _⟩ := hF 0 3 0 rfl
  obtain ⟨y1, g1, _⟩ := hF 1 3 1 rfl
  obtain ⟨y2, g2, _⟩ := hF 2 9 2 rfl
  obtain ⟨y3, g3, _⟩ := hF 3 9 3 rfl
  obtain ⟨y4, g4, _⟩ := hF 4 28 4 rfl
  obtain ⟨y5, g5, e5⟩ := hF 5 29 6 rfl
  rw [c3] at g0 g1
  rw [c9] at g2 g3
  rw [c28] at g4
  rw [c29] at g5
  obtain ⟨k, q0, _⟩ := DataW.trod_int Tryz.underlying3 g0
  obtain ⟨op, q1, _⟩ := DataW.trod_int Tryz.underlying3 g1
  obtain ⟨m, q2, b2, z2⟩ := DataW.trod_string Tryz.underlying9 g2
  obtain ⟨nm, q3, b3, z3⟩ := DataW.trod_string Tryz.underlying9 g3
  obtain ⟨t, v, q4, q5, v0, v1⟩ := value_openW (a := c4') (b := c5) g4
  obtain ⟨A, len, cap, l, q6, hs, hK, hR⟩ := slice_openR (t := 29) (e := 31) (sz := 7) Tryz.underlying29 c31 (by decide) (fun (x : Ex) B o => x.In w B o) Ex.Rm e5 (fun m cs y hm hy hy2 B o _ hc => by
    obtain ⟨e, he, hg⟩ := ih m (by omega) cs y hy hy2
    exact ⟨e, Ex.put he (Below.refl _ _) (fun i v hv => hc i v (by simpa using hv)), hg⟩) g5
  obtain ⟨ks, rfl⟩ := Exs.of_list l
  simp at q0 q1 q2 q3
  subst q0 q1 q2 q3 q4 q5 q6
  refine ⟨.mk k op m nm t v ks, ?_⟩
  unfold Ex.Is Ex.Rm
  rw [bytesR.1] at hK
  exact ⟨⟨A, len, cap, rfl, hs⟩, hK, Exs.Rm_iff.2 hR⟩
theorem exprs_openR {fuel : Nat} {c : Value} {x : DataW H × List MemPlace} (h : DataW.trod enc Tryz.prog w base spare held fuel 29 [c] = some x) (hw : Wt 29 x.1) : ∃ A len cap, ∃ l : List Ex, c = .slice A len cap ∧ Sl 7 (fun x => x.In w) l A len ∧ l.length * 88 ≤ 140737488351232 ∧ ∀ a ∈ l, a.Rm := by
  have := slice_openR (t := 29) (e := 31) (sz := 7) Tryz.underlying29 c31 (by decide) (fun (x : Ex) B o => x.In w B o) Ex.Rm hw (fun m cs y hm hy hy2 B o _ hc => by
    obtain ⟨e, he, hg⟩ := expr_openR m cs y hy hy2
    exact ⟨e, Ex.put he (Below.refl _ _) (fun i v hv => hc i v (by simpa using hv)), hg⟩) h
  rw [bytesR.1] at this
  exact this
theorem stmt_openR : ∀ (fuel : Nat) (cs : List Value) (x : DataW H × List MemPlace), DataW.trod enc Tryz.prog w base spare held fuel 98 cs = some x → Wt 98 x.1 → ∃ e : St, e.Is w (.agg cs.toArray) ∧ e.Rm := by
  intro fuel
  induction fuel using Nat.strongRecOn with
  | _ fuel ih =>
  intro cs x h hw
  obtain ⟨n, rfl, hl, hF⟩ := struct_openR (t := 98) (l := [(3, 0), (9, 1), (29, 2), (45, 3), (45, 4)]) (by kernel_rfl) h hw
  rw [c98] at hl
  match cs, hl with
  | [c0, c1, c2, c3', c4'], _ =>
  obtain ⟨y0, g0, _⟩ := hF 0 3 0 rfl
  obtain ⟨y1, g1, _⟩ := hF 1 9 1 rfl
  obtain ⟨y2, g2, e2⟩ := hF 2 29 2 rfl
  obtain ⟨y3, g3, e3⟩ := hF 3 45 3 rfl
  obtain ⟨y4, g4, e4⟩ := hF 4 45 4 rfl
  rw [c3] at g0
  rw [c9] at g1
  rw [c29] at g2
  rw [c45] at g3 g4
  obtain ⟨k, q0, _⟩ := DataW.trod_int Tryz.underlying3 g0
  obtain ⟨nm, q1, _⟩ := DataW.trod_string Tryz.underlying9 g1
  obtain ⟨A, len, cap, l, q2, hs, hK, hR⟩ := exprs_openR g2 e2
  have hel : ∀ (m : Nat) (cs : List Value) (y : DataW H × List MemPlace), m < n → DataW.trod enc Tryz.prog w base spare held m 98 cs = some y → Wt 98 y.1 → ∀ B o, cs.length = 5 → (∀ (i : Nat) (v : Value), cs[i]? = some v → w.cell? ⟨B, o + i, none⟩ = some v) → ∃ a : St, a.In w B o ∧ a.Rm := fun m cs y hm hy hy2 B o _ hc => by
    obtain ⟨e, he, hg⟩ := ih m (by omega) cs y hy hy2
    exact ⟨e, St.put he (fun i v hv => hc i v (by simpa using hv)), hg⟩
  obtain ⟨A1, len1, cap1, l1, q3, hs1, hK1, hR1⟩ := slice_openR (t := 45) (e := 98) (sz := 5) Tryz.underlying45 c98 (by decide) (fun (x : St) B o => x.In w B o) St.Rm e3 hel g3
  obtain ⟨A2, len2, cap2, l2, q4, hs2, hK2, hR2⟩ := slice_openR (t := 45) (e := 98) (sz := 5) Tryz.underlying45 c98 (by decide) (fun (x : St) B o => x.In w B o) St.Rm e4 hel g4
  obtain ⟨ks, rfl⟩ := Exs.of_list l
  obtain ⟨b1, rfl⟩ := Sts.of_list l1
  obtain ⟨b2, rfl⟩ := Sts.of_list l2
  simp at q0 q1
  subst q0 q1 q2 q3 q4
  refine ⟨.mk k nm ks b1 b2, ?_⟩
  unfold St.Is St.Rm
  rw [bytesR.2.1] at hK1 hK2
  exact ⟨⟨A, len, cap, A1, len1, cap1, A2, len2, cap2, rfl, hs, hs1, hs2⟩, ⟨hK, Exs.Rm_iff.2 hR⟩, ⟨hK1, Sts.Rm_iff.2 hR1⟩, hK2, Sts.Rm_iff.2 hR2⟩
theorem decl_openR (fuel : Nat) (cs : List Value) (x : DataW H × List MemPlace) (h : DataW.trod enc Tryz.prog w base spare held fuel 47 cs = some x) (hw : Wt 47 x.1) : ∃ e : De, e.Is w (.agg cs.toArray) ∧ e.Rm := by
  obtain ⟨n, rfl, hl, hF⟩ := struct_openR (t := 47) (l := [(3, 0), (4, 1), (9, 2), (3, 3), (44, 4), (29, 5), (45, 6)]) (by kernel_rfl) h hw
  rw [c47] at hl
  match cs, hl with
  | [c0, c1, c2, c3', c4', c5, c6], _ =>
  obtain ⟨y0, g0, _⟩ := hF 0 3 0 rfl
  obtain ⟨y1, g1, _⟩ := hF 1 4 1 rfl
  obtain ⟨y2, g2, _⟩ := hF 2 9 2 rfl
  obtain ⟨y3, g3, _⟩ := hF 3 3 3 rfl
  obtain ⟨y4, g4, e4⟩ := hF 4 44 4 rfl
  obtain ⟨y5, g5, e5⟩ := hF 5 29 5 rfl
  obtain ⟨y6, g6, e6⟩ := hF 6 45 6 rfl
  rw [c3] at g0 g3
  rw [c4] at g1
  rw [c9] at g2
  rw [c44] at g4
  rw [c29] at g5
  rw [c45] at g6
  obtain ⟨k, q0, _⟩ := DataW.trod_int Tryz.underlying3 g0
  obtain ⟨ex, q1, _⟩ := DataW.trod_bool Tryz.underlying4 g1
  obtain ⟨nm, q2, _⟩ := DataW.trod_string Tryz.underlying9 g2
  obtain ⟨t, q3, _⟩ := DataW.trod_int Tryz.underlying3 g3
  obtain ⟨A, len, cap, l, q4, hs, hK, _⟩ := slice_openR (t := 44) (e := 93) (sz := 2) Tryz.underlying44 c93 (by decide) (fun (x : Pa) B o => x.In w B o) (fun _ => True) e4 (fun m cs y hm hy hy2 B o hl hc => by
    obtain ⟨n, rfl, _, hF⟩ := struct_open (t := 93) (l := [(9, 0), (3, 1)]) (by kernel_rfl) hy
    match cs, hl with
    | [c0, c1], _ =>
    obtain ⟨y0, g0⟩ := hF 0 9 0 rfl
    obtain ⟨y1, g1⟩ := hF 1 3 1 rfl
    rw [c9] at g0
    rw [c3] at g1
    obtain ⟨nm, q0, _⟩ := DataW.trod_string Tryz.underlying9 g0
    obtain ⟨t, q1, _⟩ := DataW.trod_int Tryz.underlying3 g1
    simp at q0 q1
    subst q0 q1
    exact ⟨⟨nm, t⟩, ⟨hc 0 _ rfl, hc 1 _ rfl⟩, trivial⟩) g4
  obtain ⟨A1, len1, cap1, l1, q5, hs1, hK1, hR1⟩ := exprs_openR g5 e5
  obtain ⟨A2, len2, cap2, l2, q6, hs2, hK2, hR2⟩ := slice_openR (t := 45) (e := 98) (sz := 5) Tryz.underlying45 c98 (by decide) (fun (x : St) B o => x.In w B o) St.Rm e6 (fun m cs y hm hy hy2 B o _ hc => by
    obtain ⟨e, he, hg⟩ := stmt_openR m cs y hy hy2
    exact ⟨e, St.put he (fun i v hv => hc i v (by simpa using hv)), hg⟩) g6
  obtain ⟨ks, rfl⟩ := Exs.of_list l1
  obtain ⟨b2, rfl⟩ := Sts.of_list l2
  simp at q0 q1 q2 q3
  subst q0 q1 q2 q3 q4 q5 q6
  rw [bytesR.2.2.2.1] at hK
  rw [bytesR.2.1] at hK2
  exact ⟨⟨k, ex, nm, t, l, ks, b2⟩, ⟨A, len, cap, A1, len1, cap1, A2, len2, cap2, rfl, hs, hs1, hs2⟩, hK, ⟨hK1, Exs.Rm_iff.2 hR1⟩, hK2, Sts.Rm_iff.2 hR2⟩
theorem module_openR (fuel : Nat) (cs : List Value) (x : DataW H × List MemPlace) (h : DataW.trod enc Tryz.prog w base spare held fuel 25 cs = some x) (hw : Wt 25 x.1) : ∃ m : Mo, m.Is w (.agg cs.toArray) ∧ m.Rm := by
  obtain ⟨n, rfl, hl, hF⟩ := struct_openR (t := 25) (l := [(9, 0), (22, 1), (23, 2)]) (by kernel_rfl) h hw
  rw [c25] at hl
  match cs, hl with
  | [c0, c1, c2], _ =>
  obtain ⟨y0, g0, _⟩ := hF 0 9 0 rfl
  obtain ⟨y1, g1, e1⟩ := hF 1 22 1 rfl
  obtain ⟨y2, g2, e2⟩ := hF 2 23 2 rfl
  rw [c9] at g0
  rw [c22] at g1
  rw [c23] at g2
  obtain ⟨nm, q0, _⟩ := DataW.trod_string Tryz.underlying9 g0
  obtain ⟨A, len, cap, l, q1, hs, hK, _⟩ := slice_openR (t := 22) (e := 9) (sz := 1) Tryz.underlying22 c9 (by decide) (fun (x : ByteArray) B o => strIn w x B o) (fun _ => True) e1 (fun m cs y hm hy hy2 B o hl hc => by
    match cs, hl with
    | [c0], _ =>
    obtain ⟨nm, q0, _⟩ := DataW.trod_string Tryz.underlying9 hy
    simp at q0
    subst q0
    exact ⟨nm, hc 0 _ rfl, trivial⟩) g1
  obtain ⟨A1, len1, cap1, l1, q2, hs1, hK1, hR1⟩ := slice_openR (t := 23) (e := 47) (sz := 7) Tryz.underlying23 c47 (by decide) (fun (x : De) B o => x.In w B o) De.Rm e2 (fun m cs y hm hy hy2 B o _ hc => by
    obtain ⟨e, he, hg⟩ := decl_openR m cs y hy hy2
    exact ⟨e, De.put he (fun i v hv => hc i v (by simpa using hv)), hg⟩) g2
  simp at q0
  subst q0 q1 q2
  rw [bytesR.2.2.2.2] at hK
  rw [bytesR.2.2.1] at hK1
  exact ⟨⟨nm, l, l1⟩, ⟨A, len, cap, A1, len1, cap1, rfl, hs, hs1⟩, hK, hK1, hR1⟩
theorem module_reachR {ts : List TypeId} {ds : List (DataW H)} {d : DataW H} (hz : (DataW.weightsEach Tryz.prog (25 :: ts) (d :: ds)).all (· ≤ reachBytes) = true) : Wt 25 d :=
  fun n hn => of_decide_eq_true (List.all_eq_true.1 hz n (DataW.weights_mem_each (j := 0) rfl rfl n hn))
end
end Go.Proofs.YtbhgpegcdiohlaaGreatDoor.Tr
