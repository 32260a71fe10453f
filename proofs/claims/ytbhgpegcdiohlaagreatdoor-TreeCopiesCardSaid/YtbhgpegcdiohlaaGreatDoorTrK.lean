import Derived.Test.YtbhgpegcdiohlaaGreatDoorTrJ
import Derived.ProofKit
import Derived.OpenShut
namespace Go.Proofs.YtbhgpegcdiohlaaGreatDoor.Tr
open Go Go.ChangeShapes Go.WideShapes Go.RowKit Go.Proofs
set_option linter.unusedVariables false
set_option linter.unusedSimpArgs false
set_option maxRecDepth 100000

section
variable {H : Type} {enc : TypeId × Value → H} {w : World} {base : Nat} {spare : Nat → Bool} {held : Bool}

theorem fields_of {t : TypeId} {l : List (TypeId × Nat)} (e : (match Tryz.prog.underlying t with | some (.struct fs) => some (fs.toList.map (fun f => (f.type, f.offset))) | _ => none) = some l) : ∃ fs : Array Field, Tryz.prog.underlying t = some (.struct fs) ∧ fs.toList.map (fun f => (f.type, f.offset)) = l := by
  split at e
  · rename_i fs hf
    exact ⟨fs, hf, Option.some.inj e⟩
  · cases e
/-- the fields of a struct that is read -/
theorem struct_open {t : TypeId} {l : List (TypeId × Nat)} {fuel : Nat} {cs : List Value} {x : DataW H × List MemPlace} (e : (match Tryz.prog.underlying t with | some (.struct fs) => some (fs.toList.map (fun f => (f.type, f.offset))) | _ => none) = some l) (h : DataW.trod enc Tryz.prog w base spare held fuel t cs = some x) :
    ∃ n, fuel = n + 1 ∧ cs.length = Tryz.prog.cellsOf t ∧ ∀ (i : Nat) (ty : TypeId) (off : Nat), l[i]? = some (ty, off) → ∃ y, DataW.trod enc Tryz.prog w base spare held n ty ((cs.drop off).take (Tryz.prog.cellsOf ty)) = some y := by
  obtain ⟨fs, hu, hf⟩ := fields_of e
  obtain ⟨xs, n, hn, hx, hl, hlen, hF⟩ := DataW.trod_struct hu h
  refine ⟨n, hn, hl, fun i ty off hi => ?_⟩
  rw [← hf, List.getElem?_map] at hi
  obtain ⟨f, hfi, hfe⟩ := Option.map_eq_some_iff.1 hi
  simp only [Prod.mk.injEq] at hfe
  obtain ⟨rfl, rfl⟩ := hfe
  have hfi' : fs[i]? = some f := by rw [← Array.getElem?_toList]; exact hfi
  have := hF i f hfi'
  have hlt : i < xs.length := by rw [hlen]; exact (Array.getElem?_eq_some_iff.1 hfi').1
  exact ⟨xs[i], this.trans (List.getElem?_eq_getElem hlt)⟩
/-- the elements of a slice that is read -/
theorem slice_open {α : Type} {t e : TypeId} {sz fuel : Nat} {c : Value} {x : DataW H × List MemPlace} (ht : Tryz.prog.underlying t = some (.slice e)) (hC : Tryz.prog.cellsOf e = sz) (hs0 : 0 < sz) (P : α → Nat → Nat → Prop)
    (hel : ∀ (m : Nat) (cs : List Value) (y : DataW H × List MemPlace), m < fuel → DataW.trod enc Tryz.prog w base spare held m e cs = some y → ∀ B o, cs.length = sz → (∀ (i : Nat) (v : Value), cs[i]? = some v → w.cell? ⟨B, o + i, none⟩ = some v) → ∃ a, P a B o)
    (h : DataW.trod enc Tryz.prog w base spare held fuel t [c] = some x) : ∃ A len cap l, c = .slice A len cap ∧ Sl sz P l A len := by
  rcases DataW.trod_slice ht h with ⟨hc, _⟩ | ⟨a, len, cap, elems, rest, n, hn, hc, hx, hb, hl, hm, hlen, hi, _, _⟩
  · simp only [List.cons.injEq, and_true] at hc
    subst hc
    exact ⟨none, 0, 0, [], rfl, rfl, by omega, fun h => absurd h (by omega)⟩
  · simp only [List.cons.injEq, and_true] at hc
    subst hc
    rw [hC] at hi
    have hmx : maxLen = 9223372036854775807 := by decide
    have key : ∀ i, i < len → ∃ cs y, w.cells? base (a.add (i * sz)) sz = some cs ∧ DataW.trod enc Tryz.prog w base spare held n e cs = some y := by
      intro i hil
      have h1 := hi i hil
      rw [List.getElem?_eq_getElem (by omega)] at h1
      obtain ⟨cs, e1, e2⟩ := Option.bind_eq_some_iff.mp h1
      exact ⟨cs, _, e1, e2⟩
    rcases Nat.eq_zero_or_pos len with hz | hp
    · subst hz
      exact ⟨some a, 0, cap, [], rfl, rfl, by omega, fun h => absurd h (by omega)⟩
    obtain ⟨b, off, spot⟩ := a
    have hspot : spot = none := by
      obtain ⟨cs, y, e1, e2⟩ := key 0 hp
      obtain ⟨_, h2, h3⟩ := World.cells?_some e1
      have h4 := h3 0 hs0
      rw [List.getElem?_eq_getElem (by omega)] at h4
      simpa [Addr.add] using World.cell?_spot h4
    subst hspot
    have all : ∀ k, k ≤ len → ∃ l : List α, l.length = k ∧ ∀ (i : Nat) (z : α), l[i]? = some z → P z b (off + i * sz) := by
      intro k
      induction k with
      | zero => intro _; exact ⟨[], rfl, fun i z hz => by simp at hz⟩
      | succ k ih =>
        intro hk
        obtain ⟨l, l1, l2⟩ := ih (by omega)
        obtain ⟨cs, y, e1, e2⟩ := key k (by omega)
        obtain ⟨_, h2, h3⟩ := World.cells?_some e1
        obtain ⟨z, hz⟩ := hel n cs y (by omega) e2 b (off + k * sz) h2 (fun i v hv => by
          have hil : i < sz := by rw [← h2]; exact (List.getElem?_eq_some_iff.1 hv).1
          have := h3 i hil
          rw [Go.WideShapes.add_plain, Go.WideShapes.add_plain, hv] at this
          exact this)
        refine ⟨l ++ [z], by simp [l1], fun i q hq => ?_⟩
        rcases Nat.lt_or_ge i l.length with hlt | hge
        · rw [List.getElem?_append_left hlt] at hq
          exact l2 i q hq
        · rw [List.getElem?_append_right hge] at hq
          have : i - l.length = 0 := by
            have := (List.getElem?_eq_some_iff.1 hq).1
            simp at this; omega
          rw [this] at hq
          simp only [List.getElem?_cons_zero, Option.some.injEq] at hq
          subst hq
          rw [show i = k by omega]
          exact hz
    obtain ⟨l, l1, l2⟩ := all len (Nat.le_refl _)
    exact ⟨_, len, cap, l, rfl, l1.symm, by omega, fun _ => ⟨b, off, rfl, l2⟩⟩
theorem Exs.of_list : ∀ l : List Ex, ∃ ks : Exs, ks.toList = l
  | [] => ⟨.nil, rfl⟩
  | e :: l => by obtain ⟨ks, h⟩ := Exs.of_list l; exact ⟨.cons e ks, by simp [Exs.toList, h]⟩
theorem Sts.of_list : ∀ l : List St, ∃ ks : Sts, ks.toList = l
  | [] => ⟨.nil, rfl⟩
  | e :: l => by obtain ⟨ks, h⟩ := Sts.of_list l; exact ⟨.cons e ks, by simp [Sts.toList, h]⟩
theorem c3 : Tryz.prog.cellsOf 3 = 1 := by kernel_rfl
theorem c4 : Tryz.prog.cellsOf 4 = 1 := by kernel_rfl
theorem c9 : Tryz.prog.cellsOf 9 = 1 := by kernel_rfl
theorem c26 : Tryz.prog.cellsOf 26 = 1 := by kernel_rfl
theorem c28 : Tryz.prog.cellsOf 28 = 2 := by kernel_rfl
theorem c29 : Tryz.prog.cellsOf 29 = 1 := by kernel_rfl
theorem c31 : Tryz.prog.cellsOf 31 = 7 := by kernel_rfl
theorem c44 : Tryz.prog.cellsOf 44 = 1 := by kernel_rfl
theorem c45 : Tryz.prog.cellsOf 45 = 1 := by kernel_rfl
theorem c47 : Tryz.prog.cellsOf 47 = 7 := by kernel_rfl
theorem c93 : Tryz.prog.cellsOf 93 = 2 := by kernel_rfl
theorem c98 : Tryz.prog.cellsOf 98 = 5 := by kernel_rfl
theorem c22 : Tryz.prog.cellsOf 22 = 1 := by kernel_rfl
theorem c23 : Tryz.prog.cellsOf 23 = 1 := by kernel_rfl
theorem c25 : Tryz.prog.cellsOf 25 = 3 := by kernel_rfl

theorem value_open {fuel : Nat} {a b : Value} {x : DataW H × List MemPlace} (h : DataW.trod enc Tryz.prog w base spare held fuel 28 [a, b] = some x) : ∃ t v, a = .int .i64 t ∧ b = .int .u64 v := by
  obtain ⟨n, rfl, hl, hF⟩ := struct_open (t := 28) (l := [(3, 0), (26, 1)]) (by kernel_rfl) h
  obtain ⟨y0, g0⟩ := hF 0 3 0 rfl
  obtain ⟨y1, g1⟩ := hF 1 26 1 rfl
  rw [c3] at g0
  rw [c26] at g1
  obtain ⟨t, q0, _⟩ := DataW.trod_int Tryz.underlying3 g0
  obtain ⟨v, q1, _⟩ := DataW.trod_int Tryz.underlying26 g1
  simp at q0 q1
  exact ⟨t, v, q0, q1⟩
theorem expr_open : ∀ (fuel : Nat) (cs : List Value) (x : DataW H × List MemPlace), DataW.trod enc Tryz.prog w base spare held fuel 31 cs = some x → ∃ e : Ex, e.Is w (.agg cs.toArray) := by
  intro fuel
  induction fuel using Nat.strongRecOn with
  | _ fuel ih =>
  intro cs x h
  obtain ⟨n, rfl, hl, hF⟩ := struct_open (t := 31) (l := [(3, 0), (3, 1), (9, 2), (9, 3), (28, 4), (29, 6)]) (by kernel_rfl) h
  rw [c31] at hl
  match cs, hl with
  | [c0, c1, c2, c3', c4', c5, c6], _ =>
  obtain ⟨y0, g0⟩ := hF 0 3 0 rfl
  obtain ⟨y1, g1⟩ := hF 1 3 1 rfl
  obtain ⟨y2, g2⟩ := hF 2 9 2 rfl
  obtain ⟨y3, g3⟩ := hF 3 9 3 rfl
  obtain ⟨y4, g4⟩ := hF 4 28 4 rfl
  obtain ⟨y5, g5⟩ := hF 5 29 6 rfl
  rw [c3] at g0 g1
  rw [c9] at g2 g3
  rw [c28] at g4
  rw [c29] at g5
  obtain ⟨k, q0, _⟩ := DataW.trod_int Tryz.underlying3 g0
  obtain ⟨op, q1, _⟩ := DataW.trod_int Tryz.underlying3 g1
  obtain ⟨m, q2, _⟩ := DataW.trod_string Tryz.underlying9 g2
  obtain ⟨nm, q3, _⟩ := DataW.trod_string Tryz.underlying9 g3
  obtain ⟨t, v, q4, q5⟩ := value_open (a := c4') (b := c5) g4
  obtain ⟨A, len, cap, l, q6, hs⟩ := slice_open (t := 29) (e := 31) (sz := 7) Tryz.underlying29 c31 (by decide) (fun (x : Ex) B o => x.In w B o) (fun m cs y hm hy B o _ hc => by
    obtain ⟨e, he⟩ := ih m (by omega) cs y hy
    exact ⟨e, Ex.put he (Below.refl _ _) (fun i v hv => hc i v (by simpa using hv))⟩) g5
  obtain ⟨ks, rfl⟩ := Exs.of_list l
  simp at q0 q1 q2 q3
  subst q0 q1 q2 q3 q4 q5 q6
  refine ⟨.mk k op m nm t v ks, ?_⟩
  unfold Ex.Is
  exact ⟨A, len, cap, rfl, hs⟩
end
end Go.Proofs.YtbhgpegcdiohlaaGreatDoor.Tr
