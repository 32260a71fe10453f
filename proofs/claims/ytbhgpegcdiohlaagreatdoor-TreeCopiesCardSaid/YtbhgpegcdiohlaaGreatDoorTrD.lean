import Derived.Test.YtbhgpegcdiohlaaGreatDoorTrC
namespace Go.Proofs.YtbhgpegcdiohlaaGreatDoor.Tr
open Go Go.RowKit Go.Proofs
set_option linter.unusedVariables false

mutual
def St.In (w : World) : St → Nat → Nat → Prop
  | .mk k n e bd el, B, o => w.cell? ⟨B, o, none⟩ = some (.int .i64 k) ∧ w.cell? ⟨B, o + 1, none⟩ = some (.string n) ∧
    (∃ A l c, w.cell? ⟨B, o + 2, none⟩ = some (.slice A l c) ∧ Sl 7 (fun x => x.In w) e.toList A l) ∧
    (∃ A l c, w.cell? ⟨B, o + 3, none⟩ = some (.slice A l c) ∧ l = bd.toList.length ∧ l ≤ 9223372036854775807 ∧ (0 < l → ∃ B' o', A = some ⟨B', o', none⟩ ∧ bd.In w B' o')) ∧
    (∃ A l c, w.cell? ⟨B, o + 4, none⟩ = some (.slice A l c) ∧ l = el.toList.length ∧ l ≤ 9223372036854775807 ∧ (0 < l → ∃ B' o', A = some ⟨B', o', none⟩ ∧ el.In w B' o'))
def Sts.In (w : World) : Sts → Nat → Nat → Prop
  | .nil, _, _ => True
  | .cons e l, B, o => e.In w B o ∧ l.In w B (o + 5)
end
theorem Sts.In_at {w : World} : ∀ {ks : Sts} {B o : Nat}, ks.In w B o → ∀ (i : Nat) (x : St), ks.toList[i]? = some x → x.In w B (o + i * 5)
  | .nil, B, o, h, i, x, e => by simp [Sts.toList] at e
  | .cons a l, B, o, h, 0, x, e => by
    simp only [Sts.toList, List.getElem?_cons_zero, Option.some.injEq] at e
    subst e
    unfold Sts.In at h
    rw [Nat.zero_mul]
    exact h.1
  | .cons a l, B, o, h, i + 1, x, e => by
    simp only [Sts.toList, List.getElem?_cons_succ] at e
    unfold Sts.In at h
    have := Sts.In_at h.2 i x e
    rw [show o + 5 + i * 5 = o + (i + 1) * 5 by omega] at this
    exact this
theorem Sts.toList_inj : ∀ {a b : Sts}, a.toList = b.toList → a = b
  | .nil, .nil, _ => rfl
  | .nil, .cons _ _, h => by simp [Sts.toList] at h
  | .cons _ _, .nil, h => by simp [Sts.toList] at h
  | .cons a l, .cons b m, h => by
    simp only [Sts.toList, List.cons.injEq] at h
    rw [h.1, Sts.toList_inj h.2]
def St.Is (w : World) : St → Value → Prop
  | .mk k n e bd el, v => ∃ A l c A' l' c' A'' l'' c'', v = .agg #[.int .i64 k, .string n, .slice A l c, .slice A' l' c', .slice A'' l'' c''] ∧ Sl 7 (fun x => x.In w) e.toList A l ∧ Sl 5 (fun x => x.In w) bd.toList A' l' ∧ Sl 5 (fun x => x.In w) el.toList A'' l''
theorem St.In_Is {w : World} {x : St} {B o : Nat} (h : x.In w B o) : ∃ k n A l c A' l' c' A'' l'' c'', w.cell? ⟨B, o, none⟩ = some (.int .i64 k) ∧ w.cell? ⟨B, o + 1, none⟩ = some (.string n) ∧ w.cell? ⟨B, o + 2, none⟩ = some (.slice A l c) ∧ w.cell? ⟨B, o + 3, none⟩ = some (.slice A' l' c') ∧ w.cell? ⟨B, o + 4, none⟩ = some (.slice A'' l'' c'') ∧ x.Is w (.agg #[.int .i64 k, .string n, .slice A l c, .slice A' l' c', .slice A'' l'' c'']) := by
  cases x with
  | mk k n e bd el =>
    unfold St.In at h
    obtain ⟨h0, h1, ⟨A, l, c, h2, hs2⟩, ⟨A', l', c', h3, hl, hm, hs⟩, ⟨A'', l'', c'', h4, hl', hm', hs'⟩⟩ := h
    refine ⟨_, _, _, _, _, _, _, _, _, _, _, h0, h1, h2, h3, h4, ?_⟩
    unfold St.Is
    refine ⟨_, _, _, _, _, _, _, _, _, rfl, hs2, ⟨hl, hm, fun hp => ?_⟩, ⟨hl', hm', fun hp => ?_⟩⟩
    · obtain ⟨B', o', hA, hi⟩ := hs hp
      exact ⟨B', o', hA, Sts.In_at hi⟩
    · obtain ⟨B', o', hA, hi⟩ := hs' hp
      exact ⟨B', o', hA, Sts.In_at hi⟩
theorem keep {w w' : World} (hb : Below w.heap.size w w') {a : Addr} {v : Value} (h : w.cell? a = some v) : w'.cell? a = some v := (hb.cell (World.block_lt_of_cell? w a h)).trans h
mutual
theorem St.In_below {w w' : World} (hb : Below w.heap.size w w') : ∀ (x : St) {B o : Nat}, x.In w B o → x.In w' B o
  | .mk k n e bd el, B, o, h => by
    unfold St.In at h ⊢
    obtain ⟨h0, h1, ⟨A, l, c, h2, hs2⟩, ⟨A', l', c', h3, hl, hm, hs⟩, ⟨A'', l'', c'', h4, hl', hm', hs'⟩⟩ := h
    refine ⟨keep hb h0, keep hb h1, ⟨A, l, c, keep hb h2, Sl_up hb hs2⟩, ⟨A', l', c', keep hb h3, hl, hm, fun hp => ?_⟩, ⟨A'', l'', c'', keep hb h4, hl', hm', fun hp => ?_⟩⟩
    · obtain ⟨B', o', hA, hi⟩ := hs hp
      exact ⟨B', o', hA, Sts.In_below hb bd hi⟩
    · obtain ⟨B', o', hA, hi⟩ := hs' hp
      exact ⟨B', o', hA, Sts.In_below hb el hi⟩
theorem Sts.In_below {w w' : World} (hb : Below w.heap.size w w') : ∀ (ks : Sts) {B o : Nat}, ks.In w B o → ks.In w' B o
  | .nil, _, _, _ => by unfold Sts.In; trivial
  | .cons e l, B, o, h => by
    unfold Sts.In at h ⊢
    exact ⟨St.In_below hb e h.1, Sts.In_below hb l h.2⟩
end
theorem SlS_up {w a : World} (hb : Below w.heap.size w a) {l : List St} {A : Option Addr} {n : Nat} (h : Sl 5 (fun x => x.In w) l A n) : Sl 5 (fun x => x.In a) l A n := h.mono fun x B o hx => x.In_below hb hx
theorem St.Is_below {w w' : World} (hb : Below w.heap.size w w') {x : St} {v : Value} (h : x.Is w v) : x.Is w' v := by
  cases x with
  | mk k n e bd el =>
    unfold St.Is at h ⊢
    obtain ⟨A, l, c, A', l', c', A'', l'', c'', rfl, hs, hs', hs''⟩ := h
    exact ⟨A, l, c, A', l', c', A'', l'', c'', rfl, Sl_up hb hs, SlS_up hb hs', SlS_up hb hs''⟩

/-- a text, a parameter, a declaration in memory -/
def strIn (w : World) (s : ByteArray) (B o : Nat) : Prop := w.cell? ⟨B, o, none⟩ = some (.string s)
def Pa.In (w : World) (p : Pa) (B o : Nat) : Prop := w.cell? ⟨B, o, none⟩ = some (.string p.n) ∧ w.cell? ⟨B, o + 1, none⟩ = some (.int .i64 p.t)
theorem strIn_below {w w' : World} (hb : Below w.heap.size w w') (x : ByteArray) {B o : Nat} (h : strIn w x B o) : strIn w' x B o := keep hb h
theorem Pa.In_below {w w' : World} (hb : Below w.heap.size w w') (x : Pa) {B o : Nat} (h : x.In w B o) : x.In w' B o := ⟨keep hb h.1, keep hb h.2⟩
theorem Slt_up {w a : World} (hb : Below w.heap.size w a) {l : List ByteArray} {A : Option Addr} {n : Nat} (h : Sl 1 (strIn w) l A n) : Sl 1 (strIn a) l A n := h.mono fun x B o hx => strIn_below hb x hx
theorem Slp_up {w a : World} (hb : Below w.heap.size w a) {l : List Pa} {A : Option Addr} {n : Nat} (h : Sl 2 (fun x => x.In w) l A n) : Sl 2 (fun x => x.In a) l A n := h.mono fun x B o hx => x.In_below hb hx
def De.In (w : World) (d : De) (B o : Nat) : Prop := w.cell? ⟨B, o, none⟩ = some (.int .i64 d.k) ∧ w.cell? ⟨B, o + 1, none⟩ = some (.bool d.x) ∧ w.cell? ⟨B, o + 2, none⟩ = some (.string d.n) ∧ w.cell? ⟨B, o + 3, none⟩ = some (.int .i64 d.t) ∧
  (∃ A l c, w.cell? ⟨B, o + 4, none⟩ = some (.slice A l c) ∧ Sl 2 (fun x => x.In w) d.ps A l) ∧ (∃ A l c, w.cell? ⟨B, o + 5, none⟩ = some (.slice A l c) ∧ Sl 7 (fun x => x.In w) d.e.toList A l) ∧ (∃ A l c, w.cell? ⟨B, o + 6, none⟩ = some (.slice A l c) ∧ Sl 5 (fun x => x.In w) d.bd.toList A l)
def De.Is (w : World) (d : De) (v : Value) : Prop := ∃ A l c A' l' c' A'' l'' c'', v = .agg #[.int .i64 d.k, .bool d.x, .string d.n, .int .i64 d.t, .slice A l c, .slice A' l' c', .slice A'' l'' c''] ∧ Sl 2 (fun x => x.In w) d.ps A l ∧ Sl 7 (fun x => x.In w) d.e.toList A' l' ∧ Sl 5 (fun x => x.In w) d.bd.toList A'' l''
theorem De.In_Is {w : World} {x : De} {B o : Nat} (h : x.In w B o) : ∃ k y n t A l c A' l' c' A'' l'' c'', w.cell? ⟨B, o, none⟩ = some (.int .i64 k) ∧ w.cell? ⟨B, o + 1, none⟩ = some (.bool y) ∧ w.cell? ⟨B, o + 2, none⟩ = some (.string n) ∧ w.cell? ⟨B, o + 3, none⟩ = some (.int .i64 t) ∧ w.cell? ⟨B, o + 4, none⟩ = some (.slice A l c) ∧ w.cell? ⟨B, o + 5, none⟩ = some (.slice A' l' c') ∧ w.cell? ⟨B, o + 6, none⟩ = some (.slice A'' l'' c'') ∧ x.Is w (.agg #[.int .i64 k, .bool y, .string n, .int .i64 t, .slice A l c, .slice A' l' c', .slice A'' l'' c'']) := by
  obtain ⟨h0, h1, h2, h3, ⟨A, l, c, h4, s4⟩, ⟨A', l', c', h5, s5⟩, ⟨A'', l'', c'', h6, s6⟩⟩ := h
  exact ⟨_, _, _, _, _, _, _, _, _, _, _, _, _, h0, h1, h2, h3, h4, h5, h6, ⟨_, _, _, _, _, _, _, _, _, rfl, s4, s5, s6⟩⟩
theorem De.In_below {w w' : World} (hb : Below w.heap.size w w') (x : De) {B o : Nat} (h : x.In w B o) : x.In w' B o := by
  obtain ⟨h0, h1, h2, h3, ⟨A, l, c, h4, s4⟩, ⟨A', l', c', h5, s5⟩, ⟨A'', l'', c'', h6, s6⟩⟩ := h
  exact ⟨keep hb h0, keep hb h1, keep hb h2, keep hb h3, ⟨A, l, c, keep hb h4, Slp_up hb s4⟩, ⟨A', l', c', keep hb h5, Sl_up hb s5⟩, ⟨A'', l'', c'', keep hb h6, SlS_up hb s6⟩⟩
theorem SlD_up {w a : World} (hb : Below w.heap.size w a) {l : List De} {A : Option Addr} {n : Nat} (h : Sl 7 (fun x => x.In w) l A n) : Sl 7 (fun x => x.In a) l A n := h.mono fun x B o hx => x.In_below hb hx
theorem De.Is_below {w w' : World} (hb : Below w.heap.size w w') {x : De} {v : Value} (h : x.Is w v) : x.Is w' v := by
  obtain ⟨A, l, c, A', l', c', A'', l'', c'', hv, s4, s5, s6⟩ := h
  exact ⟨A, l, c, A', l', c', A'', l'', c'', hv, Slp_up hb s4, Sl_up hb s5, SlS_up hb s6⟩
def Mo.Is (w : World) (m : Mo) (v : Value) : Prop := ∃ A l c A' l' c', v = .agg #[.string m.n, .slice A l c, .slice A' l' c'] ∧ Sl 1 (strIn w) m.im A l ∧ Sl 7 (fun x => x.In w) m.ds A' l'
theorem Mo.Is_below {w w' : World} (hb : Below w.heap.size w w') {x : Mo} {v : Value} (h : x.Is w v) : x.Is w' v := by
  obtain ⟨A, l, c, A', l', c', hv, s4, s5⟩ := h
  exact ⟨A, l, c, A', l', c', hv, Slt_up hb s4, SlD_up hb s5⟩
def SameSt (x : St) : Prop := ∀ (y : St) (w : World) (v u : Value), x.Is w v → y.Is w u → Calls Tryz.prog 114 #[v, u] w (Says (eqB x y) w)
def SameDe (x : De) : Prop := ∀ (y : De) (w : World) (v u : Value), x.Is w v → y.Is w u → Calls Tryz.prog 57 #[v, u] w (Says (eqB x y) w)
end Go.Proofs.YtbhgpegcdiohlaaGreatDoor.Tr
