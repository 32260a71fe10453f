import Derived.Test.YtbhgpegcdiohlaaGreatDoorTrM
import Derived.Test.YtbhgpegcdiohlaaGreatDoorTxC
import Derived.Test.YtbhgpegcdiohlaaGreatDoorRows
namespace Go.Proofs.YtbhgpegcdiohlaaGreatDoor.Tr
open Go Go.ChangeShapes Go.WideShapes Go.RowKit Go.Proofs
set_option linter.unusedVariables false
set_option linter.unusedSimpArgs false
set_option maxRecDepth 100000
def sumF {α : Type} (f : α → Nat) : List α → Nat
  | [] => 0
  | a :: l => f a + sumF f l
theorem sumF_snoc {α : Type} (f : α → Nat) : ∀ (l : List α) (a : α), sumF f (l ++ [a]) = sumF f l + f a
  | [], a => by simp [sumF]
  | b :: l, a => by rw [List.cons_append, sumF, sumF, sumF_snoc f l a]; omega
section
variable {H : Type} {enc : TypeId × Value → H} {w : World} {base : Nat} {spare : Nat → Bool} {held : Bool}
theorem bulk_one (d : DataW H) : 1 ≤ Rows.uptoBulk d := by
  cases d with
  | lit l => cases l <;> simp [Rows.uptoBulk]
  | nil => simp [Rows.uptoBulk]
  | ptr d => simp [Rows.uptoBulk]
  | slice elems spare => simp [Rows.uptoBulk]
  | agg parts => simp [Rows.uptoBulk]
  | iface t d => simp [Rows.uptoBulk]
  | map entries => simp [Rows.uptoBulk]
  | held h => simp [Rows.uptoBulk]
theorem bulkAll_snoc : ∀ (l : List (DataW H)) (a : DataW H), Rows.uptoBulkAll (l ++ [a]) = Rows.uptoBulkAll l + Rows.uptoBulk a
  | [], a => by simp [Rows.uptoBulkAll]
  | b :: l, a => by rw [List.cons_append, Rows.uptoBulkAll, Rows.uptoBulkAll, bulkAll_snoc l a]; omega
theorem struct_openB {t : TypeId} {l : List (TypeId × Nat)} {fuel : Nat} {cs : List Value} {x : DataW H × List MemPlace} (e : (match Tryz.prog.underlying t with | some (.struct fs) => some (fs.toList.map (fun f => (f.type, f.offset))) | _ => none) = some l) (h : DataW.trod enc Tryz.prog w base spare held fuel t cs = some x) :
    ∃ (n : Nat) (parts : List (DataW H)), fuel = n + 1 ∧ x.1 = .agg parts ∧ parts.length = l.length ∧ cs.length = Tryz.prog.cellsOf t ∧ ∀ (i : Nat) (ty : TypeId) (off : Nat), l[i]? = some (ty, off) → ∃ y, DataW.trod enc Tryz.prog w base spare held n ty ((cs.drop off).take (Tryz.prog.cellsOf ty)) = some y ∧ parts[i]? = some y.1 := by
  obtain ⟨fs, hu, hf⟩ := fields_of e
  obtain ⟨xs, n, hn, hx, hl, hlen, hF⟩ := DataW.trod_struct hu h
  refine ⟨n, xs.map (·.1), hn, by rw [hx], by rw [← hf]; simp [hlen], hl, fun i ty off hi => ?_⟩
  rw [← hf, List.getElem?_map] at hi
  obtain ⟨f, hfi, hfe⟩ := Option.map_eq_some_iff.1 hi
  simp only [Prod.mk.injEq] at hfe
  obtain ⟨rfl, rfl⟩ := hfe
  have hfi' : fs[i]? = some f := by rw [← Array.getElem?_toList]; exact hfi
  have := hF i f hfi'
  have hlt : i < xs.length := by rw [hlen]; exact (Array.getElem?_eq_some_iff.1 hfi').1
  exact ⟨xs[i], this.trans (List.getElem?_eq_getElem hlt), by rw [List.getElem?_map, List.getElem?_eq_getElem hlt]; rfl⟩
theorem slice_openB {α : Type} {t e : TypeId} {sz fuel : Nat} {c : Value} {x : DataW H × List MemPlace} (ht : Tryz.prog.underlying t = some (.slice e)) (hC : Tryz.prog.cellsOf e = sz) (hs0 : 0 < sz) (P : α → Nat → Nat → Prop) (cost : α → Nat) (K : Nat)
    (hel : ∀ (m : Nat) (cs : List Value) (y : DataW H × List MemPlace), m < fuel → DataW.trod enc Tryz.prog w base spare held m e cs = some y → ∀ B o, cs.length = sz → (∀ (i : Nat) (v : Value), cs[i]? = some v → w.cell? ⟨B, o + i, none⟩ = some v) → ∃ a, P a B o ∧ cost a ≤ K * Rows.uptoBulk y.1)
    (h : DataW.trod enc Tryz.prog w base spare held fuel t [c] = some x) : ∃ A len cap l, c = .slice A len cap ∧ Sl sz P l A len ∧ sumF cost l + K ≤ K * Rows.uptoBulk x.1 := by
  rcases DataW.trod_slice ht h with ⟨hc, hx⟩ | ⟨a, len, cap, elems, rest, n, hn, hc, hx, hb, hl, hm, hlen, hi, _, _⟩
  · simp only [List.cons.injEq, and_true] at hc
    subst hc
    exact ⟨none, 0, 0, [], rfl, ⟨rfl, by omega, fun h => absurd h (by omega)⟩, by rw [hx]; simp [sumF, Rows.uptoBulk]⟩
  · simp only [List.cons.injEq, and_true] at hc
    subst hc
    rw [hC] at hi
    have hmx : maxLen = 9223372036854775807 := by decide
    have hbk : K + K * Rows.uptoBulkAll (elems.map (·.1)) ≤ K * Rows.uptoBulk x.1 := by
      rw [hx]
      simp only [Rows.uptoBulk]
      rw [show K + K * Rows.uptoBulkAll (elems.map (·.1)) = K * (1 + Rows.uptoBulkAll (elems.map (·.1))) by rw [Nat.mul_add, Nat.mul_one]]
      exact Nat.mul_le_mul_left _ (by omega)
    have key : ∀ i, i < len → ∃ cs y, w.cells? base (a.add (i * sz)) sz = some cs ∧ DataW.trod enc Tryz.prog w base spare held n e cs = some y ∧ elems[i]? = some y := by
      intro i hil
      have h1 := hi i hil
      have h2 : elems[i]? = some elems[i] := List.getElem?_eq_getElem (by omega)
      rw [h2] at h1
      obtain ⟨cs, e1, e2⟩ := Option.bind_eq_some_iff.mp h1
      exact ⟨cs, _, e1, e2, h2⟩
    rcases Nat.eq_zero_or_pos len with hz | hp
    · subst hz
      exact ⟨some a, 0, cap, [], rfl, ⟨rfl, by omega, fun h => absurd h (by omega)⟩, by simp [sumF]; omega⟩
    obtain ⟨b, off, spot⟩ := a
    have hspot : spot = none := by
      obtain ⟨cs, y, e1, e2, _⟩ := key 0 hp
      obtain ⟨_, h2, h3⟩ := World.cells?_some e1
      have h4 := h3 0 hs0
      rw [List.getElem?_eq_getElem (by omega)] at h4
      simpa [Addr.add] using World.cell?_spot h4
    subst hspot
    have all : ∀ k, k ≤ len → ∃ l : List α, l.length = k ∧ (∀ (i : Nat) (z : α), l[i]? = some z → P z b (off + i * sz)) ∧ sumF cost l ≤ K * Rows.uptoBulkAll ((elems.take k).map (·.1)) := by
      intro k
      induction k with
      | zero => intro _; exact ⟨[], rfl, fun i z hz => by simp at hz, by simp [sumF]⟩
      | succ k ih =>
        intro hk
        obtain ⟨l, l1, l2, l3⟩ := ih (by omega)
        obtain ⟨cs, y, e1, e2, e3⟩ := key k (by omega)
        obtain ⟨_, h2, h3⟩ := World.cells?_some e1
        obtain ⟨z, hz, hzc⟩ := hel n cs y (by omega) e2 b (off + k * sz) h2 (fun i v hv => by
          have hil : i < sz := by rw [← h2]; exact (List.getElem?_eq_some_iff.1 hv).1
          have := h3 i hil
          rw [Go.WideShapes.add_plain, Go.WideShapes.add_plain, hv] at this
          exact this)
        refine ⟨l ++ [z], by simp [l1], fun i q hq => ?_, ?_⟩
        · rcases Nat.lt_or_ge i l.length with hlt | hge
          · rw [List.getElem?_append_left hlt] at hq
            exact l2 i q hq
          · rw [List.getElem?_append_right hge] at hq
            have : i - l.length = 0 := by
              have := (List.getElem?_eq_some_iff.1 hq).1
              simp at this; omega
            rw [this] at hq
            simp only [List.getElem?_cons_zero, Option.some.injEq] at hq
            subst hq
            rw [show i = k by omega]
            exact hz
        · obtain ⟨hk1, hk2⟩ := List.getElem?_eq_some_iff.1 e3
          rw [sumF_snoc, List.take_succ_eq_append_getElem hk1, hk2, List.map_append, List.map_cons, List.map_nil, bulkAll_snoc, Nat.mul_add]
          omega
    obtain ⟨l, l1, l2, l3⟩ := all len (Nat.le_refl _)
    rw [List.take_of_length_le (by omega)] at l3
    exact ⟨_, len, cap, l, rfl, ⟨l1.symm, by omega, fun _ => ⟨b, off, rfl, l2⟩⟩, by omega⟩
theorem costL_sum : ∀ ks : Exs, costL ks = sumF (fun x => costE x + 4) ks.toList
  | .nil => rfl
  | .cons e l => by simp only [costL, Exs.toList, sumF, costL_sum l]
theorem expr_openB : ∀ (fuel : Nat) (cs : List Value) (x : DataW H × List MemPlace), DataW.trod enc Tryz.prog w base spare held fuel 31 cs = some x → ∃ e : Ex, e.Is w (.agg cs.toArray) ∧ e.Wf ∧ costE e + 4 ≤ 104 * Rows.uptoBulk x.1 := by
  intro fuel
  induction fuel using Nat.strongRecOn with
  | _ fuel ih =>
  intro cs x h
  obtain ⟨n, parts, rfl, hx, hpl, hl, hF⟩ := struct_openB (t := 31) (l := [(3, 0), (3, 1), (9, 2), (9, 3), (28, 4), (29, 6)]) (by kernel_rfl) h
  rw [c31] at hl
  match cs, hl, parts, hpl with
  | [c0, c1, c2, c3', c4', c5, c6], _, [p0, p1, p2, p3, p4, p5], _ =>
  obtain ⟨y0, g0, e0⟩ := hF 0 3 0 rfl
  obtain ⟨y1, g1, e1⟩ := hF 1 3 1 rfl
  obtain ⟨y2, g2, e2⟩ := hF 2 9 2 rfl
  obtain ⟨y3, g3, e3⟩ := hF 3 9 3 rfl
  obtain ⟨y4, g4, e4⟩ := hF 4 28 4 rfl
  obtain ⟨y5, g5, e5⟩ := hF 5 29 6 rfl
  simp at e0 e1 e2 e3 e4 e5
  rw [c3] at g0 g1
  rw [c9] at g2 g3
  rw [c28] at g4
  rw [c29] at g5
  obtain ⟨k, q0, _⟩ := DataW.trod_int Tryz.underlying3 g0
  obtain ⟨op, q1, _⟩ := DataW.trod_int Tryz.underlying3 g1
  obtain ⟨m, q2, b2, z2⟩ := DataW.trod_string Tryz.underlying9 g2
  obtain ⟨nm, q3, b3, z3⟩ := DataW.trod_string Tryz.underlying9 g3
  obtain ⟨t, v, q4, q5, v0, v1⟩ := value_openW (a := c4') (b := c5) g4
  obtain ⟨A, len, cap, l, q6, hs, hK⟩ := slice_openB (t := 29) (e := 31) (sz := 7) Tryz.underlying29 c31 (by decide) (fun (x : Ex) B o => x.In w B o ∧ x.Wf) (fun x => costE x + 4) 104 (fun m cs y hm hy B o _ hc => by
    obtain ⟨e, he, hf, hg⟩ := ih m (by omega) cs y hy
    exact ⟨e, ⟨Ex.put he (Below.refl _ _) (fun i v hv => hc i v (by simpa using hv)), hf⟩, hg⟩) g5
  obtain ⟨hs, hF'⟩ := hs.parts
  obtain ⟨ks, rfl⟩ := Exs.of_list l
  simp at q0 q1 q2 q3
  subst q0 q1 q2 q3 q4 q5 q6
  refine ⟨.mk k op m nm t v ks, ?_⟩
  unfold Ex.Is Ex.Wf
  refine ⟨⟨A, len, cap, rfl, hs⟩, ⟨v0, v1, z2, z3, Exs.Wf_iff.2 hF'⟩, ?_⟩
  rw [costE, costL_sum, hx, e0, e1, e2, e3, e4, e5]
  rw [b2, b3]
  simp only [Rows.uptoBulk, Rows.uptoBulkAll]
  have h0 := bulk_one y0.1
  have h1 := bulk_one y1.1
  have h4 := bulk_one y4.1
  have hm : m.data.size = m.size := rfl
  have hn : nm.data.size = nm.size := rfl
  have hm2 : m.data.toList.length = m.data.size := Array.length_toList
  have hn2 : nm.data.toList.length = nm.data.size := Array.length_toList
  omega
end
end Go.Proofs.YtbhgpegcdiohlaaGreatDoor.Tr
