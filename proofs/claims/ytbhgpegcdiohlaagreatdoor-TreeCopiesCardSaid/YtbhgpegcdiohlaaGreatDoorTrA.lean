import Derived.Test.YtbhgpegcdiohlaaGreatDoorProg
import Derived.WalkKit
import Derived.WalkMore
import Derived.Outline
import Derived.Below
namespace Go.Proofs.YtbhgpegcdiohlaaGreatDoor.Tr
open Go Go.RowKit Go.Proofs
set_option linter.unusedVariables false

/-- a fact that the walk does not see -/
structure Hd (p : Prop) : Prop where
  out : p

mutual
inductive Ex where
  | mk (k op : Int) (m n : ByteArray) (t b : Int) (ks : Exs)
inductive Exs where
  | nil
  | cons (e : Ex) (l : Exs)
end
mutual
inductive St where
  | mk (k : Int) (n : ByteArray) (e : Exs) (bd el : Sts)
inductive Sts where
  | nil
  | cons (s : St) (l : Sts)
end
structure Pa where
  n : ByteArray
  t : Int
structure De where
  k : Int
  x : Bool
  n : ByteArray
  t : Int
  ps : List Pa
  e : Exs
  bd : Sts
structure Mo where
  n : ByteArray
  im : List ByteArray
  ds : List De

def Exs.toList : Exs → List Ex
  | .nil => []
  | .cons e l => e :: l.toList
def Sts.toList : Sts → List St
  | .nil => []
  | .cons e l => e :: l.toList

/-- a slice's header over n elements, each in so many cells, that lie as P says -/
def Sl {α : Type} (sz : Nat) (P : α → Nat → Nat → Prop) (l : List α) (A : Option Addr) (n : Nat) : Prop :=
  n = l.length ∧ n ≤ 9223372036854775807 ∧ (0 < n → ∃ B o, A = some ⟨B, o, none⟩ ∧ ∀ i x, l[i]? = some x → P x B (o + i * sz))

mutual
def Ex.In (w : World) : Ex → Nat → Nat → Prop
  | .mk k op m n t b ks, B, o => w.cell? ⟨B, o, none⟩ = some (.int .i64 k) ∧ w.cell? ⟨B, o + 1, none⟩ = some (.int .i64 op) ∧ w.cell? ⟨B, o + 2, none⟩ = some (.string m) ∧ w.cell? ⟨B, o + 3, none⟩ = some (.string n) ∧
    w.cell? ⟨B, o + 4, none⟩ = some (.int .i64 t) ∧ w.cell? ⟨B, o + 5, none⟩ = some (.int .u64 b) ∧ ∃ A l c, w.cell? ⟨B, o + 6, none⟩ = some (.slice A l c) ∧ l = ks.toList.length ∧ l ≤ 9223372036854775807 ∧ (0 < l → ∃ B' o', A = some ⟨B', o', none⟩ ∧ ks.In w B' o')
def Exs.In (w : World) : Exs → Nat → Nat → Prop
  | .nil, _, _ => True
  | .cons e l, B, o => e.In w B o ∧ l.In w B (o + 7)
end
theorem Exs.In_at {w : World} : ∀ {ks : Exs} {B o : Nat}, ks.In w B o → ∀ (i : Nat) (x : Ex), ks.toList[i]? = some x → x.In w B (o + i * 7)
  | .nil, B, o, h, i, x, e => by simp [Exs.toList] at e
  | .cons a l, B, o, h, 0, x, e => by
    simp only [Exs.toList, List.getElem?_cons_zero, Option.some.injEq] at e
    subst e
    unfold Exs.In at h
    rw [Nat.zero_mul]
    exact h.1
  | .cons a l, B, o, h, i + 1, x, e => by
    simp only [Exs.toList, List.getElem?_cons_succ] at e
    unfold Exs.In at h
    have := Exs.In_at h.2 i x e
    rw [show o + 7 + i * 7 = o + (i + 1) * 7 by omega] at this
    exact this
theorem Exs.toList_inj : ∀ {a b : Exs}, a.toList = b.toList → a = b
  | .nil, .nil, _ => rfl
  | .nil, .cons _ _, h => by simp [Exs.toList] at h
  | .cons _ _, .nil, h => by simp [Exs.toList] at h
  | .cons a l, .cons b m, h => by
    simp only [Exs.toList, List.cons.injEq] at h
    rw [h.1, Exs.toList_inj h.2]
/-- an expression as a value -/
def Ex.Is (w : World) : Ex → Value → Prop
  | .mk k op m n t b ks, v => ∃ A l c, v = .agg #[.int .i64 k, .int .i64 op, .string m, .string n, .int .i64 t, .int .u64 b, .slice A l c] ∧ Sl 7 (fun x => x.In w) ks.toList A l
theorem Ex.In_Is {w : World} {x : Ex} {B o : Nat} (h : x.In w B o) : ∃ k op m n t b A l c, w.cell? ⟨B, o, none⟩ = some (.int .i64 k) ∧ w.cell? ⟨B, o + 1, none⟩ = some (.int .i64 op) ∧ w.cell? ⟨B, o + 2, none⟩ = some (.string m) ∧ w.cell? ⟨B, o + 3, none⟩ = some (.string n) ∧ w.cell? ⟨B, o + 4, none⟩ = some (.int .i64 t) ∧ w.cell? ⟨B, o + 5, none⟩ = some (.int .u64 b) ∧ w.cell? ⟨B, o + 6, none⟩ = some (.slice A l c) ∧ x.Is w (.agg #[.int .i64 k, .int .i64 op, .string m, .string n, .int .i64 t, .int .u64 b, .slice A l c]) := by
  cases x with
  | mk k op m n t b ks =>
    unfold Ex.In at h
    obtain ⟨h0, h1, h2, h3, h4, h5, A, l, c, h6, hl, hm, hs⟩ := h
    refine ⟨_, _, _, _, _, _, _, _, _, h0, h1, h2, h3, h4, h5, h6, ?_⟩
    unfold Ex.Is
    refine ⟨A, l, c, rfl, hl, hm, fun hp => ?_⟩
    obtain ⟨B', o', hA, hi⟩ := hs hp
    exact ⟨B', o', hA, Exs.In_at hi⟩

mutual
theorem Ex.In_below {w w' : World} (hb : Below w.heap.size w w') : ∀ (x : Ex) {B o : Nat}, x.In w B o → x.In w' B o
  | .mk k op m n t b ks, B, o, h => by
    unfold Ex.In at h ⊢
    obtain ⟨h0, h1, h2, h3, h4, h5, A, l, c, h6, hl, hm, hs⟩ := h
    have tr : ∀ {a : Addr} {v : Value}, w.cell? a = some v → w'.cell? a = some v := fun {a v} h => (hb.cell (World.block_lt_of_cell? w a h)).trans h
    refine ⟨tr h0, tr h1, tr h2, tr h3, tr h4, tr h5, A, l, c, tr h6, hl, hm, fun hp => ?_⟩
    obtain ⟨B', o', hA, hi⟩ := hs hp
    exact ⟨B', o', hA, Exs.In_below hb ks hi⟩
theorem Exs.In_below {w w' : World} (hb : Below w.heap.size w w') : ∀ (ks : Exs) {B o : Nat}, ks.In w B o → ks.In w' B o
  | .nil, _, _, _ => by unfold Exs.In; trivial
  | .cons e l, B, o, h => by
    unfold Exs.In at h ⊢
    exact ⟨Ex.In_below hb e h.1, Exs.In_below hb l h.2⟩
end
theorem Sl.mono {α : Type} {sz : Nat} {P Q : α → Nat → Nat → Prop} {l : List α} {A : Option Addr} {n : Nat} (h : Sl sz P l A n) (hpq : ∀ x B o, P x B o → Q x B o) : Sl sz Q l A n := by
  obtain ⟨h1, h2, h3⟩ := h
  refine ⟨h1, h2, fun hp => ?_⟩
  obtain ⟨B, o, hA, hi⟩ := h3 hp
  exact ⟨B, o, hA, fun i x hx => hpq _ _ _ (hi i x hx)⟩
theorem Ex.Is_below {w w' : World} (hb : Below w.heap.size w w') {x : Ex} {v : Value} (h : x.Is w v) : x.Is w' v := by
  cases x with
  | mk k op m n t b ks =>
    unfold Ex.Is at h ⊢
    obtain ⟨A, l, c, rfl, hs⟩ := h
    exact ⟨A, l, c, rfl, hs.mono fun x B o hx => x.In_below hb hx⟩

/-- memory is only made -/
theorem up {w a : World} (h : Below w.heap.size w a) (o : Obj) : Below w.heap.size w (a.alloc o) := h.alloc h.size o
theorem step {w a b : World} (h : Below w.heap.size w a) (g : Below a.heap.size a b) : Below w.heap.size w b := h.trans (g.mono h.size)
theorem up0 (w : World) : Below w.heap.size w w := Below.refl _ _
/-- the answer of a call that makes memory and turns nothing -/
def Says (b : Bool) (w : World) (e : Ending) (w' : World) : Prop := e = .returned (.bool b) ∧ Below w.heap.size w w'
open Classical in
noncomputable def eqB {α : Type} (x y : α) : Bool := decide (x = y)
theorem eqB_self {α : Type} (x : α) : eqB x x = true := by simp [eqB]
theorem eqB_ne {α : Type} {x y : α} (h : x ≠ y) : eqB x y = false := by simp [eqB, h]
def SameIs (x : Ex) : Prop := ∀ (y : Ex) (w : World) (v u : Value), x.Is w v → y.Is w u → Calls Tryz.prog 25 #[v, u] w (Says (eqB x y) w)
end Go.Proofs.YtbhgpegcdiohlaaGreatDoor.Tr
