import Derived.Test.YtbhgpegcdiohlaaGreatDoorTrL
import Derived.Deep.MidRow
namespace Go.Proofs.YtbhgpegcdiohlaaGreatDoor.Tr
open Go Go.RowKit Go.Proofs
set_option linter.unusedVariables false
set_option maxRecDepth 100000
/-! ### Memory of a tree's own -/
theorem Ex.byKids {P : Ex → Prop} (h : ∀ k op m n t b ks, (∀ x ∈ ks.toList, P x) → P (.mk k op m n t b ks)) : ∀ x, P x := fun x =>
  Ex.rec (motive_1 := P) (motive_2 := fun ks => ∀ x ∈ ks.toList, P x) (fun k op m n t b ks hk => h k op m n t b ks hk) (fun x hx => by simp [Exs.toList] at hx)
    (fun e l he hl x hx => by
      simp only [Exs.toList, List.mem_cons] at hx
      rcases hx with rfl | hx
      · exact he
      · exact hl x hx) x
/-- the blocks from lo to hi are as they were -/
def Kp (lo hi : Nat) (w w' : World) : Prop := ∀ b, lo ≤ b → b < hi → w'.heap[b]? = w.heap[b]?
theorem Kp.cell {lo hi : Nat} {w w' : World} (h : Kp lo hi w w') {a : Addr} (h1 : lo ≤ a.block) (h2 : a.block < hi) : w'.cell? a = w.cell? a := by
  have := h a.block h1 h2
  unfold World.cell?
  rw [this]
theorem Kp.frozen {lo hi : Nat} {w w' : World} (h : Kp lo hi w w') {a : Addr} (h1 : lo ≤ a.block) (h2 : a.block < hi) : w'.frozen? a = w.frozen? a := World.frozen?_of_block (w := w) (h a.block h1 h2)
theorem Kp.of_below {lo hi B : Nat} {w w' : World} (h : Below B w w') (hB : hi ≤ B) : Kp lo hi w w' := fun b _ h2 => h.block b (by omega)
/-- a slice over so many elements, each as P says -/
def SlO (sz : Nat) (P : Nat → Nat → Prop) (A : Option Addr) (l : Nat) : Prop := 0 < l → ∃ B o, A = some ⟨B, o, none⟩ ∧ ∀ i, i < l → P B (o + i * sz)
theorem SlO.mono {sz : Nat} {P Q : Nat → Nat → Prop} {A : Option Addr} {l : Nat} (h : SlO sz P A l) (hpq : ∀ B o, P B o → Q B o) : SlO sz Q A l := fun hp => by
  obtain ⟨B, o, h1, h2⟩ := h hp
  exact ⟨B, o, h1, fun i hi => hpq _ _ (h2 i hi)⟩
/-- an expression's cells and all below it lie in the blocks from lo to hi, and may be written -/
inductive OwE (lo hi : Nat) (w : World) : Nat → Nat → Prop
  | mk (B o : Nat) (n : Int) (s : ByteArray) (A : Option Addr) (l c B' o' : Nat) (h1 : lo ≤ B) (h2 : B < hi) (h3 : ∀ r, w.frozen? ⟨B, r, none⟩ = false) (h4 : w.cell? ⟨B, o, none⟩ = some (.int .i64 n)) (h5 : w.cell? ⟨B, o + 3, none⟩ = some (.string s)) (h6 : w.cell? ⟨B, o + 6, none⟩ = some (.slice A l c)) (h7 : l ≤ 9223372036854775807) (h8 : 0 < l → A = some ⟨B', o', none⟩) (h9 : ∀ i, i < l → OwE lo hi w B' (o' + i * 7)) : OwE lo hi w B o
inductive OwS (lo hi : Nat) (w : World) : Nat → Nat → Prop
  | mk (B o : Nat) (n : Int) (s : ByteArray) (A : Option Addr) (l c : Nat) (A1 : Option Addr) (l1 c1 B1 o1 : Nat) (A2 : Option Addr) (l2 c2 B2 o2 : Nat) (h1 : lo ≤ B) (h2 : B < hi) (h3 : ∀ r, w.frozen? ⟨B, r, none⟩ = false) (h4 : w.cell? ⟨B, o, none⟩ = some (.int .i64 n)) (h5 : w.cell? ⟨B, o + 1, none⟩ = some (.string s))
      (h6 : w.cell? ⟨B, o + 2, none⟩ = some (.slice A l c)) (h7 : l ≤ 9223372036854775807) (h8 : SlO 7 (OwE lo hi w) A l)
      (g6 : w.cell? ⟨B, o + 3, none⟩ = some (.slice A1 l1 c1)) (g7 : l1 ≤ 9223372036854775807) (g8 : 0 < l1 → A1 = some ⟨B1, o1, none⟩) (g9 : ∀ i, i < l1 → OwS lo hi w B1 (o1 + i * 5))
      (k6 : w.cell? ⟨B, o + 4, none⟩ = some (.slice A2 l2 c2)) (k7 : l2 ≤ 9223372036854775807) (k8 : 0 < l2 → A2 = some ⟨B2, o2, none⟩) (k9 : ∀ i, i < l2 → OwS lo hi w B2 (o2 + i * 5)) : OwS lo hi w B o
def OwP (lo hi : Nat) (w : World) (B o : Nat) : Prop := lo ≤ B ∧ B < hi ∧ (∀ r, w.frozen? ⟨B, r, none⟩ = false) ∧ ∃ s, w.cell? ⟨B, o, none⟩ = some (.string s)
structure OwD (lo hi : Nat) (w : World) (B o : Nat) : Prop where
  h1 : lo ≤ B
  h2 : B < hi
  h3 : ∀ r, w.frozen? ⟨B, r, none⟩ = false
  h4 : ∃ n, w.cell? ⟨B, o, none⟩ = some (.int .i64 n)
  h5 : ∃ A l c, w.cell? ⟨B, o + 4, none⟩ = some (.slice A l c) ∧ l ≤ 9223372036854775807 ∧ SlO 2 (OwP lo hi w) A l
  h6 : ∃ A l c, w.cell? ⟨B, o + 5, none⟩ = some (.slice A l c) ∧ l ≤ 9223372036854775807 ∧ SlO 7 (OwE lo hi w) A l
  h7 : ∃ A l c, w.cell? ⟨B, o + 6, none⟩ = some (.slice A l c) ∧ l ≤ 9223372036854775807 ∧ SlO 5 (OwS lo hi w) A l
theorem OwE.keep {lo hi lo' hi' : Nat} {w w' : World} (hl : lo' ≤ lo) (hh : hi ≤ hi') (hk : Kp lo hi w w') {B o : Nat} (h : OwE lo hi w B o) : OwE lo' hi' w' B o := by
  induction h with
  | mk B o n s A l c B' o' h1 h2 h3 h4 h5 h6 h7 h8 h9 ih =>
    exact .mk B o n s A l c B' o' (by omega) (by omega) (fun r => by rw [hk.frozen h1 h2]; exact h3 r) (by rw [hk.cell h1 h2]; exact h4) (by rw [hk.cell h1 h2]; exact h5) (by rw [hk.cell h1 h2]; exact h6) h7 h8 ih
theorem OwS.keep {lo hi lo' hi' : Nat} {w w' : World} (hl : lo' ≤ lo) (hh : hi ≤ hi') (hk : Kp lo hi w w') {B o : Nat} (h : OwS lo hi w B o) : OwS lo' hi' w' B o := by
  induction h with
  | mk B o n s A l c A1 l1 c1 B1 o1 A2 l2 c2 B2 o2 h1 h2 h3 h4 h5 h6 h7 h8 g6 g7 g8 g9 k6 k7 k8 k9 ih1 ih2 =>
    exact .mk B o n s A l c A1 l1 c1 B1 o1 A2 l2 c2 B2 o2 (by omega) (by omega) (fun r => by rw [hk.frozen h1 h2]; exact h3 r) (by rw [hk.cell h1 h2]; exact h4) (by rw [hk.cell h1 h2]; exact h5) (by rw [hk.cell h1 h2]; exact h6) h7 (h8.mono fun _ _ h => h.keep hl hh hk)
      (by rw [hk.cell h1 h2]; exact g6) g7 g8 ih1 (by rw [hk.cell h1 h2]; exact k6) k7 k8 ih2
theorem OwP.keep {lo hi lo' hi' : Nat} {w w' : World} (hl : lo' ≤ lo) (hh : hi ≤ hi') (hk : Kp lo hi w w') {B o : Nat} (h : OwP lo hi w B o) : OwP lo' hi' w' B o := by
  obtain ⟨h1, h2, h3, s, h4⟩ := h
  exact ⟨by omega, by omega, fun r => by rw [hk.frozen h1 h2]; exact h3 r, s, by rw [hk.cell h1 h2]; exact h4⟩
theorem OwD.keep {lo hi lo' hi' : Nat} {w w' : World} (hl : lo' ≤ lo) (hh : hi ≤ hi') (hk : Kp lo hi w w') {B o : Nat} (h : OwD lo hi w B o) : OwD lo' hi' w' B o := by
  obtain ⟨h1, h2, h3, ⟨n, h4⟩, ⟨A, l, c, h5, h6, h7⟩, ⟨A1, l1, c1, g5, g6, g7⟩, ⟨A2, l2, c2, k5, k6, k7⟩⟩ := h
  exact ⟨by omega, by omega, fun r => by rw [hk.frozen h1 h2]; exact h3 r, ⟨n, by rw [hk.cell h1 h2]; exact h4⟩, ⟨A, l, c, by rw [hk.cell h1 h2]; exact h5, h6, h7.mono fun _ _ h => h.keep hl hh hk⟩,
    ⟨A1, l1, c1, by rw [hk.cell h1 h2]; exact g5, g6, g7.mono fun _ _ h => h.keep hl hh hk⟩, ⟨A2, l2, c2, by rw [hk.cell h1 h2]; exact k5, k6, k7.mono fun _ _ h => h.keep hl hh hk⟩⟩
/-! ### What it says stays, too -/
/-- a slice in memory of its own -/
theorem Sl.keepO {α : Type} {sz : Nat} {P Q : α → Nat → Nat → Prop} {R : Nat → Nat → Prop} {l : List α} {A : Option Addr} {n : Nat} (h : Sl sz P l A n) (g : SlO sz R A n) (hpq : ∀ x ∈ l, ∀ B o, P x B o → R B o → Q x B o) : Sl sz Q l A n := by
  obtain ⟨h1, h2, h3⟩ := h
  refine ⟨h1, h2, fun hp => ?_⟩
  obtain ⟨B, o, hA, hi⟩ := h3 hp
  obtain ⟨B', o', hA', hi'⟩ := g hp
  rw [hA] at hA'
  injection hA' with hA'
  injection hA' with e1 e2
  subst e1 e2
  refine ⟨B, o, hA, fun i x hx => hpq x (List.mem_of_getElem? hx) _ _ (hi i x hx) (hi' i ?_)⟩
  rw [h1]
  exact (List.getElem?_eq_some_iff.1 hx).1
theorem Ex.In_keep {lo hi : Nat} {w w' : World} (hk : Kp lo hi w w') : ∀ (x : Ex) (B o : Nat), x.In w B o → OwE lo hi w B o → x.In w' B o := by
  refine Ex.byKids fun k op m n t b ks ih B o h g => ?_
  cases g with
  | mk _ _ n' s' A' l' c' B1 o1 h1 h2 h3 h4 h5 h6 h7 h8 h9 =>
    unfold Ex.In at h ⊢
    obtain ⟨g0, g1, g2, g3, g4, g5, A, l, c, g6, hl, hm, hs⟩ := h
    rw [g6] at h6
    simp only [Option.some.injEq, Value.slice.injEq] at h6
    obtain ⟨rfl, rfl, rfl⟩ := h6
    refine ⟨by rw [hk.cell h1 h2]; exact g0, by rw [hk.cell h1 h2]; exact g1, by rw [hk.cell h1 h2]; exact g2, by rw [hk.cell h1 h2]; exact g3, by rw [hk.cell h1 h2]; exact g4, by rw [hk.cell h1 h2]; exact g5, A, l, c, by rw [hk.cell h1 h2]; exact g6, hl, hm, fun hp => ?_⟩
    obtain ⟨B', o', hA, hi'⟩ := hs hp
    have e := (h8 hp).symm.trans hA
    simp only [Option.some.injEq, Addr.mk.injEq, and_true] at e
    obtain ⟨rfl, rfl⟩ := e
    exact ⟨_, _, hA, Exs.In_of fun i x hx => ih x (List.mem_of_getElem? hx) _ _ (Exs.In_at hi' i x hx) (h9 i (by rw [hl]; exact (List.getElem?_eq_some_iff.1 hx).1))⟩
theorem SlE_keep {lo hi : Nat} {w w' : World} (hk : Kp lo hi w w') {l : List Ex} {A : Option Addr} {n : Nat} (h : Sl 7 (fun x => x.In w) l A n) (g : SlO 7 (OwE lo hi w) A n) : Sl 7 (fun x => x.In w') l A n :=
  h.keepO g fun x _ B o h1 h2 => x.In_keep hk B o h1 h2
theorem St.In_keep {lo hi : Nat} {w w' : World} (hk : Kp lo hi w w') : ∀ (x : St) (B o : Nat), x.In w B o → OwS lo hi w B o → x.In w' B o := by
  suffices H : ∀ ks : Sts, ∀ x ∈ ks.toList, ∀ (B o : Nat), x.In w B o → OwS lo hi w B o → x.In w' B o from fun x => H (.cons x .nil) x (by simp [Sts.toList])
  intro ks
  refine Sts.rec (motive_1 := fun x => ∀ (B o : Nat), x.In w B o → OwS lo hi w B o → x.In w' B o) (motive_2 := fun ks => ∀ x ∈ ks.toList, ∀ (B o : Nat), x.In w B o → OwS lo hi w B o → x.In w' B o) (fun k n e bd el ib ie B o h g => ?_) (fun x hx => by simp [Sts.toList] at hx) (fun e l he hl x hx => ?_) ks
  · cases g with
    | mk _ _ n' s' A' l' c' A1' l1' c1' B1 o1 A2' l2' c2' B2 o2 h1 h2 h3 h4 h5 h6 h7 h8 g6 g7 g8 g9 k6 k7 k8 k9 =>
      unfold St.In at h ⊢
      obtain ⟨a0, a1, ⟨A, l, c, a2, s0⟩, ⟨A1, l1, c1, a3, hl1, hm1, s1⟩, ⟨A2, l2, c2, a4, hl2, hm2, s2⟩⟩ := h
      rw [a2] at h6
      simp only [Option.some.injEq, Value.slice.injEq] at h6
      obtain ⟨rfl, rfl, rfl⟩ := h6
      rw [a3] at g6
      simp only [Option.some.injEq, Value.slice.injEq] at g6
      obtain ⟨rfl, rfl, rfl⟩ := g6
      rw [a4] at k6
      simp only [Option.some.injEq, Value.slice.injEq] at k6
      obtain ⟨rfl, rfl, rfl⟩ := k6
      refine ⟨by rw [hk.cell h1 h2]; exact a0, by rw [hk.cell h1 h2]; exact a1, ⟨A, l, c, by rw [hk.cell h1 h2]; exact a2, SlE_keep hk s0 h8⟩, ⟨A1, l1, c1, by rw [hk.cell h1 h2]; exact a3, hl1, hm1, fun hp => ?_⟩, ⟨A2, l2, c2, by rw [hk.cell h1 h2]; exact a4, hl2, hm2, fun hp => ?_⟩⟩
      · obtain ⟨B', o', hA, hi'⟩ := s1 hp
        have e := (g8 hp).symm.trans hA
        simp only [Option.some.injEq, Addr.mk.injEq, and_true] at e
        obtain ⟨rfl, rfl⟩ := e
        exact ⟨_, _, hA, Sts.In_of fun i x hx => ib x (List.mem_of_getElem? hx) _ _ (Sts.In_at hi' i x hx) (g9 i (by rw [hl1]; exact (List.getElem?_eq_some_iff.1 hx).1))⟩
      · obtain ⟨B', o', hA, hi'⟩ := s2 hp
        have e := (k8 hp).symm.trans hA
        simp only [Option.some.injEq, Addr.mk.injEq, and_true] at e
        obtain ⟨rfl, rfl⟩ := e
        exact ⟨_, _, hA, Sts.In_of fun i x hx => ie x (List.mem_of_getElem? hx) _ _ (Sts.In_at hi' i x hx) (k9 i (by rw [hl2]; exact (List.getElem?_eq_some_iff.1 hx).1))⟩
  · simp only [Sts.toList, List.mem_cons] at hx
    rcases hx with rfl | hx
    · exact he
    · exact hl x hx
theorem SlS_keep {lo hi : Nat} {w w' : World} (hk : Kp lo hi w w') {l : List St} {A : Option Addr} {n : Nat} (h : Sl 5 (fun x => x.In w) l A n) (g : SlO 5 (OwS lo hi w) A n) : Sl 5 (fun x => x.In w') l A n :=
  h.keepO g fun x _ B o h1 h2 => x.In_keep hk B o h1 h2
theorem SlP_keep {lo hi : Nat} {w w' : World} (hk : Kp lo hi w w') {l : List Pa} {A : Option Addr} {n : Nat} (h : Sl 2 (fun x => x.In w) l A n) (g : SlO 2 (OwP lo hi w) A n) : Sl 2 (fun x => x.In w') l A n :=
  h.keepO g fun x _ B o h1 h2 => ⟨by rw [hk.cell h2.1 h2.2.1]; exact h1.1, by rw [hk.cell h2.1 h2.2.1]; exact h1.2⟩
theorem SlT_keep {lo hi : Nat} {w w' : World} (hk : Kp lo hi w w') {l : List ByteArray} {A : Option Addr} {n : Nat} (h : Sl 1 (strIn w) l A n) (g : SlO 1 (OwP lo hi w) A n) : Sl 1 (strIn w') l A n :=
  h.keepO g fun x _ B o h1 h2 => by unfold strIn; rw [hk.cell h2.1 h2.2.1]; exact h1
theorem De.In_keep {lo hi : Nat} {w w' : World} (hk : Kp lo hi w w') (x : De) (B o : Nat) (h : x.In w B o) (g : OwD lo hi w B o) : x.In w' B o := by
  obtain ⟨h1, h2, h3, _, ⟨A, l, c, h5, h6, h7⟩, ⟨A1, l1, c1, g5, g6, g7⟩, ⟨A2, l2, c2, k5, k6, k7⟩⟩ := g
  obtain ⟨a0, a1, a2, a3, ⟨A', l', c', a4, s0⟩, ⟨A1', l1', c1', a5, s1⟩, ⟨A2', l2', c2', a6, s2⟩⟩ := h
  rw [a4] at h5
  simp only [Option.some.injEq, Value.slice.injEq] at h5
  obtain ⟨rfl, rfl, rfl⟩ := h5
  rw [a5] at g5
  simp only [Option.some.injEq, Value.slice.injEq] at g5
  obtain ⟨rfl, rfl, rfl⟩ := g5
  rw [a6] at k5
  simp only [Option.some.injEq, Value.slice.injEq] at k5
  obtain ⟨rfl, rfl, rfl⟩ := k5
  exact ⟨by rw [hk.cell h1 h2]; exact a0, by rw [hk.cell h1 h2]; exact a1, by rw [hk.cell h1 h2]; exact a2, by rw [hk.cell h1 h2]; exact a3, ⟨_, _, _, by rw [hk.cell h1 h2]; exact a4, SlP_keep hk s0 h7⟩, ⟨_, _, _, by rw [hk.cell h1 h2]; exact a5, SlE_keep hk s1 g7⟩, ⟨_, _, _, by rw [hk.cell h1 h2]; exact a6, SlS_keep hk s2 k7⟩⟩
theorem SlD_keep {lo hi : Nat} {w w' : World} (hk : Kp lo hi w w') {l : List De} {A : Option Addr} {n : Nat} (h : Sl 7 (fun x => x.In w) l A n) (g : SlO 7 (OwD lo hi w) A n) : Sl 7 (fun x => x.In w') l A n :=
  h.keepO g fun x _ B o h1 h2 => x.In_keep hk B o h1 h2
/-! ### No slice is longer than memory -/
mutual
def Ex.Rm : Ex → Prop
  | .mk _ _ _ _ _ _ ks => ks.toList.length * 88 ≤ 140737488351232 ∧ ks.Rm
def Exs.Rm : Exs → Prop
  | .nil => True
  | .cons e l => e.Rm ∧ l.Rm
end
mutual
def St.Rm : St → Prop
  | .mk _ _ e bd el => (e.toList.length * 88 ≤ 140737488351232 ∧ e.Rm) ∧ (bd.toList.length * 96 ≤ 140737488351232 ∧ bd.Rm) ∧ (el.toList.length * 96 ≤ 140737488351232 ∧ el.Rm)
def Sts.Rm : Sts → Prop
  | .nil => True
  | .cons e l => e.Rm ∧ l.Rm
end
def De.Rm (d : De) : Prop := d.ps.length * 24 ≤ 140737488351232 ∧ (d.e.toList.length * 88 ≤ 140737488351232 ∧ d.e.Rm) ∧ (d.bd.toList.length * 96 ≤ 140737488351232 ∧ d.bd.Rm)
def Mo.Rm (m : Mo) : Prop := m.im.length * 16 ≤ 140737488351232 ∧ m.ds.length * 112 ≤ 140737488351232 ∧ ∀ d ∈ m.ds, d.Rm
theorem Exs.Rm_iff : ∀ {ks : Exs}, ks.Rm ↔ ∀ x ∈ ks.toList, x.Rm
  | .nil => by simp [Exs.Rm, Exs.toList]
  | .cons e l => by simp [Exs.Rm, Exs.toList, Exs.Rm_iff (ks := l)]
theorem Sts.Rm_iff : ∀ {ks : Sts}, ks.Rm ↔ ∀ x ∈ ks.toList, x.Rm
  | .nil => by simp [Sts.Rm, Sts.toList]
  | .cons e l => by simp [Sts.Rm, Sts.toList, Sts.Rm_iff (ks := l)]
end Go.Proofs.YtbhgpegcdiohlaaGreatDoor.Tr
