import Derived.Test.YtbhgpegcdiohlaaGreatDoorCpK
import Derived.Test.YtbhgpegcdiohlaaGreatDoorTrP
import Derived.Test.YtbhgpegcdiohlaaGreatDoorLvU
namespace Go.Proofs.YtbhgpegcdiohlaaGreatDoor.Tr
open Go Go.RowKit Go.Proofs
set_option linter.unusedVariables false
set_option maxRecDepth 100000
set_option maxHeartbeats 4000000
/-- one of two copies on its way: c it is made, a its box is there, s it lies in the box -/
structure HR (m : Mo) (N0 : Nat) (c a s : Bool) (vc vb : Value) (lo hi bx : Nat) (w : World) : Prop where
  res : c = true → ResM lo hi m vc w ∧ N0 ≤ lo ∧ hi ≤ w.heap.size
  box : a = true → vb = .pointer (some ⟨bx, 0, none⟩) ∧ N0 ≤ bx ∧ bx < w.heap.size ∧ (∀ r, w.frozen? ⟨bx, r, none⟩ = false) ∧ ∀ r, r < 3 → (w.cell? ⟨bx, r, none⟩).isSome = true
  out : a = true → c = true → bx < lo ∨ hi ≤ bx
  sto : s = true → a = true ∧ c = true ∧ ∃ c0 c1 c2, vc = .agg #[c0, c1, c2] ∧ w.rangeAt bx 0 [c0, c1, c2]
theorem HR.keep {m : Mo} {N0 : Nat} {c a s : Bool} {vc vb : Value} {lo hi bx : Nat} {w w' : World} (h : HR m N0 c a s vc vb lo hi bx w) (hb : Below w.heap.size w w') : HR m N0 c a s vc vb lo hi bx w' := by
  refine ⟨fun e => ?_, fun e => ?_, h.out, fun e => ?_⟩
  · obtain ⟨r, h1, h2⟩ := h.res e
    exact ⟨r.keep (Kp.of_below hb h2), h1, Nat.le_trans h2 hb.size⟩
  · obtain ⟨e1, h1, h2, h3, h4⟩ := h.box e
    exact ⟨e1, h1, Nat.lt_of_lt_of_le h2 hb.size, fun r => (hb.frozen (p := ⟨bx, r, none⟩) h2).trans (h3 r), fun r hr => by rw [hb.cell (p := ⟨bx, r, none⟩) h2]; exact h4 r hr⟩
  · obtain ⟨h1, h2, c0, c1, c2, h3, h4⟩ := h.sto e
    exact ⟨h1, h2, c0, c1, c2, h3, fun j v hv => Tr.keep hb (h4 j v hv)⟩
theorem HR.other {m : Mo} {N0 : Nat} {c a s : Bool} {vc vb : Value} {lo hi bx : Nat} {w W : World} (h : HR m N0 c a s vc vb lo hi bx w) {g : Nat} (hs : W.heap.size = w.heap.size) (hbl : ∀ q, q ≠ g → W.heap[q]? = w.heap[q]?) (h1 : a = true → bx ≠ g) (h2 : c = true → g < lo ∨ hi ≤ g) : HR m N0 c a s vc vb lo hi bx W := by
  have ck : a = true → ∀ r, W.cell? ⟨bx, r, none⟩ = w.cell? ⟨bx, r, none⟩ := fun e r => World.cell?_of_block (w := w) (a := ⟨bx, r, none⟩) (hbl bx (h1 e))
  refine ⟨fun e => ?_, fun e => ?_, h.out, fun e => ?_⟩
  · obtain ⟨r, k1, k2⟩ := h.res e
    exact ⟨r.keep fun q q1 q2 => hbl q (by have := h2 e; omega), k1, by rw [hs]; exact k2⟩
  · obtain ⟨e1, k1, k2, k3, k4⟩ := h.box e
    exact ⟨e1, k1, by rw [hs]; exact k2, fun r => (World.frozen?_of_block (w := w) (a := ⟨bx, r, none⟩) (hbl bx (h1 e))).trans (k3 r), fun r hr => by rw [ck e]; exact k4 r hr⟩
  · obtain ⟨k1, k2, c0, c1, c2, k3, k4⟩ := h.sto e
    exact ⟨k1, k2, c0, c1, c2, k3, fun j v hv => (ck k1 _).trans (k4 j v hv)⟩
theorem HR.call {m : Mo} {N0 : Nat} {a : Bool} {vc vb v : Value} {lo hi bx : Nat} {w w' : World} {s : Bool} (h : HR m N0 false a s vc vb lo hi bx w) (hb : Below w.heap.size w w') (hN : N0 ≤ w.heap.size) (hr : ResM w.heap.size w'.heap.size m v w') : HR m N0 true a s v vb w.heap.size w'.heap.size bx w' := by
  have h' := h.keep hb
  refine ⟨fun _ => ⟨hr, hN, Nat.le_refl _⟩, h'.box, fun e _ => .inl (h.box e).2.2.1, fun e => ?_⟩
  obtain ⟨_, k2, _⟩ := h.sto e
  cases k2
theorem HR.mk_box {m : Mo} {N0 : Nat} {c : Bool} {vc vb : Value} {lo hi bx : Nat} {w : World} {s : Bool} (h : HR m N0 c false s vc vb lo hi bx w) (hN : N0 ≤ w.heap.size) (cs : Array Value) (hc : cs.size = 3) : HR m N0 c true s vc (.pointer (some ⟨w.heap.size, 0, none⟩)) lo hi w.heap.size (w.alloc (.cells cs 25 (0, 0))) := by
  have h' := h.keep (up (up0 w) (.cells cs 25 (0, 0)))
  refine ⟨h'.res, fun _ => ⟨rfl, hN, by simp, fun r => new_frozenC w _ _ r, fun r hr => ?_⟩, fun _ e => .inr (h.res e).2.2, fun e => ?_⟩
  · rw [new_cell, Array.getElem?_eq_getElem (by omega)]
    rfl
  · obtain ⟨k1, _⟩ := h.sto e
    cases k1
theorem HR.put {m : Mo} {N0 : Nat} {c a s : Bool} {vb : Value} {lo hi bx : Nat} {w W : World} {c0 c1 c2 : Value} (h : HR m N0 c a s (.agg #[c0, c1, c2]) vb lo hi bx w) (ha : a = true) (hc : c = true) (hW : W = w.setCells bx 0 [c0, c1, c2]) : HR m N0 c a true (.agg #[c0, c1, c2]) vb lo hi bx W ∧ W.heap.size = w.heap.size ∧ (∀ q, q ≠ bx → W.heap[q]? = w.heap[q]?) := by
  obtain ⟨e1, k1, k2, k3, k4⟩ := h.box ha
  obtain ⟨hsz, hbl, hin, hout, hfr⟩ := stored_row (vs := [c0, c1, c2]) hW (fun r hr => by rw [Nat.zero_add]; exact k4 r hr)
  obtain ⟨r, q1, q2⟩ := h.res hc
  have ho := h.out ha hc
  refine ⟨⟨fun _ => ⟨r.keep fun q p1 p2 => hbl q (by omega), q1, by rw [hsz]; exact q2⟩, fun _ => ⟨e1, k1, by rw [hsz]; exact k2, fun r => (hfr r).trans (k3 r), fun r hr => ?_⟩, h.out, fun _ => ⟨ha, hc, c0, c1, c2, rfl, hin⟩⟩, hsz, hbl⟩
  match r, hr with
  | 0, _ => rw [hin 0 c0 rfl]; rfl
  | 1, _ => rw [hin 1 c1 rfl]; rfl
  | 2, _ => rw [hin 2 c2 rfl]; rfl
structure CX (c1 c2 a1 a2 : Bool) (l1 h1 b1 l2 h2 b2 : Nat) : Prop where
  d : c1 = true → c2 = true → h1 ≤ l2 ∨ h2 ≤ l1
  e1 : a1 = true → c2 = true → b1 < l2 ∨ h2 ≤ b1
  e2 : a2 = true → c1 = true → b2 < l1 ∨ h1 ≤ b2
  ne : a1 = true → a2 = true → b1 ≠ b2
theorem CX.symm {c1 c2 a1 a2 : Bool} {l1 h1 b1 l2 h2 b2 : Nat} (h : CX c1 c2 a1 a2 l1 h1 b1 l2 h2 b2) : CX c2 c1 a2 a1 l2 h2 b2 l1 h1 b1 := ⟨fun x y => (h.d y x).symm, h.e2, h.e1, fun x y => (h.ne y x).symm⟩
/-- the first of the two is made now -/
theorem CX.call {m : Mo} {N0 : Nat} {c2 a1 a2 s2 s1 : Bool} {vc vb vc1 vb1 : Value} {l1 h1 b1 l2 h2 b2 : Nat} {w w' : World} (h : CX false c2 a1 a2 l1 h1 b1 l2 h2 b2) (h1' : HR m N0 false a1 s1 vc1 vb1 l1 h1 b1 w) (h2' : HR m N0 c2 a2 s2 vc vb l2 h2 b2 w) : CX true c2 a1 a2 w.heap.size w'.heap.size b1 l2 h2 b2 :=
  ⟨fun _ e => .inr (h2'.res e).2.2, h.e1, fun e _ => .inl (h2'.box e).2.2.1, h.ne⟩
theorem CX.mk_box {m : Mo} {N0 : Nat} {c1 c2 a2 s2 : Bool} {vc vb : Value} {l1 h1 b1 l2 h2 b2 : Nat} {w : World} (h : CX c1 c2 false a2 l1 h1 b1 l2 h2 b2) (h2' : HR m N0 c2 a2 s2 vc vb l2 h2 b2 w) : CX c1 c2 true a2 l1 h1 w.heap.size l2 h2 b2 :=
  ⟨h.d, fun _ e => .inr (h2'.res e).2.2, h.e2, fun _ e => by have := (h2'.box e).2.2.1; omega⟩
def CIc (N : Nat) (cv : Value) (m : Mo) (W0 : World) (L : Array Bool) (a : Act) (w : World) : Prop := ∃ (v3 v4 v7 v8 v9 v10 : Value) (la ha b3 lb hb b4 : Nat),
  a = { tmps := #[cv, .pointer (some ⟨N, 0, none⟩), .bool false, v3, v4, .bool true, .bool false, v7, v8, v9, v10, undef, undef, undef, undef, undef, undef, undef, undef, undef, undef, undef, undef, undef, undef, undef], defers := [] } ∧
  Below W0.heap.size W0 w ∧ HR m W0.heap.size (L.getD 1 false) (L.getD 4 false) (L.getD 6 false) v8 v3 la ha b3 w ∧ HR m W0.heap.size (L.getD 3 false) (L.getD 5 false) (L.getD 7 false) v10 v4 lb hb b4 w ∧ CX (L.getD 1 false) (L.getD 3 false) (L.getD 4 false) (L.getD 5 false) la ha b3 lb hb b4 ∧
  (L.getD 0 false = true → v7 = cv) ∧ (L.getD 2 false = true → v9 = cv)
end Go.Proofs.YtbhgpegcdiohlaaGreatDoor.Tr
