import Derived.Test.YtbhgpegcdiohlaaGreatDoorCpF
namespace Go.Proofs.YtbhgpegcdiohlaaGreatDoor.Tr
open Go Go.RowKit Go.Proofs
set_option linter.unusedVariables false
set_option maxRecDepth 100000
theorem copyS_one (k : Int) (n : ByteArray) (e : Exs) (bd el : Sts) (ib : ∀ x ∈ bd.toList, CopyS x) (ie : ∀ x ∈ el.toList, CopyS x) : CopyS (.mk k n e bd el) := by
  intro w v hv hR
  unfold St.Is at hv
  obtain ⟨A, l, c, A1, l1, c1, A2, l2, c2, rfl, h0, h1, h2⟩ := hv
  unfold St.Rm at hR
  obtain ⟨⟨r0, r0'⟩, ⟨r1, r1'⟩, ⟨r2, r2'⟩⟩ := hR
  exact copyS_walk k n e bd el A A1 A2 l c l1 c1 l2 c2 w
    (fun w' hb => each65 e.toList (fun x _ => copyE_any x) w' A l c (h0.mono fun x B o h => x.In_below hb h) (by rw [h0.1]; exact r0) (Exs.Rm_iff.1 r0'))
    (fun w' hb => each67 bd.toList ib w' A1 l1 c1 (h1.mono fun x B o h => x.In_below hb h) (by rw [h1.1]; exact r1) (Sts.Rm_iff.1 r1'))
    (fun w' hb => each67 el.toList ie w' A2 l2 c2 (h2.mono fun x B o h => x.In_below hb h) (by rw [h2.1]; exact r2) (Sts.Rm_iff.1 r2'))
theorem copyS_all : ∀ ks : Sts, ∀ x ∈ ks.toList, CopyS x := fun ks =>
  Sts.rec (motive_1 := CopyS) (motive_2 := fun ks => ∀ x ∈ ks.toList, CopyS x) (fun k n e bd el ib ie => copyS_one k n e bd el ib ie) (fun x hx => by simp [Sts.toList] at hx) (fun e l he hl x hx => by
    simp only [Sts.toList, List.mem_cons] at hx
    rcases hx with rfl | hx
    · exact he
    · exact hl x hx) ks
theorem copyS_any (x : St) : CopyS x := copyS_all (.cons x .nil) x (by simp [Sts.toList])
theorem copyD_any (x : De) : CopyD x := by
  obtain ⟨k, y, n, t, ps, e, bd⟩ := x
  intro w v hv hR
  obtain ⟨A, l, c, A1, l1, c1, A2, l2, c2, rfl, h0, h1, h2⟩ := hv
  obtain ⟨r0, ⟨r1, r1'⟩, ⟨r2, r2'⟩⟩ := hR
  exact copyD_walk k y n t ps e bd A A1 A2 l c l1 c1 l2 c2 w
    (fun w' hb => clone64P ps w' A l c (h0.mono fun x B o h => x.In_below hb h) (by rw [h0.1]; exact r0))
    (fun w' hb => each65 e.toList (fun x _ => copyE_any x) w' A1 l1 c1 (h1.mono fun x B o h => x.In_below hb h) (by rw [h1.1]; exact r1) (Exs.Rm_iff.1 r1'))
    (fun w' hb => each67 bd.toList (fun x _ => copyS_any x) w' A2 l2 c2 (h2.mono fun x B o h => x.In_below hb h) (by rw [h2.1]; exact r2) (Sts.Rm_iff.1 r2'))
/-- a clone of imports -/
def TPost (l : List ByteArray) (w : World) (e : Ending) (w' : World) : Prop := ∃ (A' : Option Addr) (n c' : Nat), e = .returned (.slice A' n c') ∧ Below w.heap.size w w' ∧ Sl 1 (strIn w') l A' n ∧ SlO 1 (OwP w.heap.size w'.heap.size w') A' n
theorem clone61T (ps : List ByteArray) (w : World) (A : Option Addr) (l c : Nat) (hs : Sl 1 (strIn w) ps A l) (hR : l * 16 ≤ 140737488351232) : Calls Tryz.prog 61 #[.slice A l c] w (TPost ps w) := by
  have hone : ∀ (x : ByteArray) B o, strIn w x B o → ∀ r, r < 1 → ∃ u, w.cell? ⟨B, o + r, none⟩ = some u ∧ u.oneCell' = true := fun x B o h r hr => by
    match r, hr with
    | 0, _ => exact ⟨_, h, rfl⟩
  obtain ⟨news, n1, n2, n3, n4⟩ := cells_gen (by decide) hone hs
  refine (clone61 w A l c news n1 n2 n3 hR).mono ?_
  rintro e w' ⟨A', c', rfl, hb, hg⟩
  obtain ⟨h1, h2, h3⟩ := hs
  refine ⟨A', l, c', rfl, hb, ⟨h1, h2, fun hp => ?_⟩, fun hp => ?_⟩
  · obtain ⟨B, o, hA, hi⟩ := h3 hp
    obtain ⟨g, rfl, g1, g2, g3, g4⟩ := hg hp
    refine ⟨g, 0, rfl, fun i x hx => ?_⟩
    have hlt : i < l := by rw [h1]; exact (List.getElem?_eq_some_iff.1 hx).1
    have := g3 i (by omega)
    rw [n4 B o hA i (by omega)] at this
    unfold strIn
    rw [Nat.zero_add, Nat.mul_one, this]
    have := hi i x hx
    rw [Nat.mul_one] at this
    exact this
  · obtain ⟨B, o, hA, hi⟩ := h3 hp
    obtain ⟨g, rfl, g1, g2, g3, g4⟩ := hg hp
    refine ⟨g, 0, rfl, fun i hi' => ⟨g1, g2, g4, ?_⟩⟩
    obtain ⟨x, hx⟩ : ∃ x, ps[i]? = some x := ⟨_, List.getElem?_eq_getElem (by rw [← h1]; exact hi')⟩
    refine ⟨x, ?_⟩
    have := g3 i (by omega)
    rw [n4 B o hA i (by omega)] at this
    rw [Nat.zero_add, Nat.mul_one, this]
    have := hi i x hx
    rw [Nat.mul_one] at this
    exact this
end Go.Proofs.YtbhgpegcdiohlaaGreatDoor.Tr
