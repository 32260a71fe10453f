import Derived.Test.YtbhgpegcdiohlaaGreatDoorLvQ
namespace Go.Proofs.YtbhgpegcdiohlaaGreatDoor.Tr
open Go Go.RowKit Go.Proofs
set_option linter.unusedVariables false
set_option maxRecDepth 100000
set_option maxHeartbeats 2000000
def StrIn (b g n cap cells : Nat) (p : Value) (l : List UInt8) (w : World) : Prop := w.heap[b]? = some (.cells #[p, .slice (some ⟨g, 0, none⟩) n cap] 72 (0, 0)) ∧ w.shape? g = some (5, cells) ∧ ∀ j x, l[j]? = some x → w.cell? ((⟨g, 0, none⟩ : Addr).add j) = some (.int .u8 x.toNat)
theorem strIn_of {B b : Nat} {p : Value} {bs : List Value} {w : World} (l : List UInt8) (h : Lib.BuilderAt 72 5 B b p bs w) (hl : bs = Lib.byteCells l) (h0 : l ≠ []) :
    ∃ g cap cells, B ≤ g ∧ b ≠ g ∧ l.length ≤ cap ∧ cap ≤ 9223372036854775807 ∧ l.length ≤ cells ∧ StrIn b g l.length cap cells p l w := by
  subst hl
  obtain ⟨hB, v, hbk, hown, hne⟩ := h
  have hl0 : l.length ≠ 0 := by simpa using h0
  rw [Lib.byteCells_length] at hown
  obtain ⟨g, cap, cur, rfl, hbg, hg, hnc, hcm, hcs, htake⟩ : ∃ g cap cur, v = .slice (some ⟨g, 0, none⟩) l.length cap ∧ B ≤ g ∧ w.heap[g]? = some (.cells cur 5 (0, 0)) ∧ l.length ≤ cap ∧ cap ≤ maxLen ∧ cur.size = cap * 1 ∧ cur.toList.take (l.length * 1) = Lib.byteCells l := by
    rcases hown.2 with ⟨_, hz⟩ | ⟨g, cap, cur, hv, r⟩
    · exact absurd hz hl0
    · exact ⟨g, cap, cur, hv, r⟩
  refine ⟨g, cap, cur.size, hbg, ?_, hnc, hcm, by omega, hbk, by simp [World.shape?, hg], ?_⟩
  · intro e; apply hne; simp [Value.ownBlock, e]
  · intro j x hx
    exact hown.cells (g := g) rfl j (.int .u8 x.toNat) (by simp [Lib.byteCells, hx])
theorem strIn_later {b g n cap cells : Nat} {p : Value} {l : List UInt8} {w w' : World} (h : StrIn b g n cap cells p l w) (hne : b ≠ g) (k : Nat) (hb : Below (w.drew.freeze ⟨g, 0, none⟩ k).heap.size (w.drew.freeze ⟨g, 0, none⟩ k) w') : StrIn b g n cap cells p l w' := by
  obtain ⟨h1, h2, h3⟩ := h
  obtain ⟨cur, fr, hg, hcz⟩ : ∃ cur fr, w.heap[g]? = some (.cells cur 5 fr) ∧ cur.size = cells := by
    unfold World.shape? at h2
    split at h2
    · rename_i c e f hh
      simp only [Option.some.injEq, Prod.mk.injEq] at h2
      obtain ⟨rfl, rfl⟩ := h2
      exact ⟨c, f, hh, rfl⟩
    · cases h2
  have hsz : (w.drew.freeze ⟨g, 0, none⟩ k).heap.size = w.heap.size := by
    unfold World.freeze; split
    · rfl
    · simp [Array.size_modify]
  have f1 : (w.drew.freeze ⟨g, 0, none⟩ k).heap[b]? = w.heap[b]? := by
    unfold World.freeze; split
    · rfl
    · show (w.heap.modify g _)[b]? = _
      rw [Array.getElem?_modify]; simp [hne.symm]
  obtain ⟨fr', f2⟩ : ∃ fr', (w.drew.freeze ⟨g, 0, none⟩ k).heap[g]? = some (.cells cur 5 fr') := by
    unfold World.freeze; split
    · exact ⟨fr, hg⟩
    · obtain ⟨lo, hi⟩ := fr
      exact ⟨if lo == hi then (0, 0 + k) else (min lo 0, max hi (0 + k)), by
        show (w.heap.modify g _)[g]? = _
        rw [Array.getElem?_modify]; simp [hg]⟩
  have lb := (Array.getElem?_eq_some_iff.1 h1).1
  have lg := (Array.getElem?_eq_some_iff.1 hg).1
  have g1 : w'.heap[b]? = _ := (hb.block b (by omega)).trans (f1.trans h1)
  have g2 : w'.heap[g]? = _ := (hb.block g (by omega)).trans f2
  refine ⟨g1, by simp [World.shape?, g2, hcz], fun j x hx => ?_⟩
  have h4 := h3 j x hx
  have e : ∀ i, w'.cell? ⟨g, i, none⟩ = w.cell? ⟨g, i, none⟩ := fun i => by rw [cell_of_row w' g i _ _ _ g2, cell_of_row w g i _ _ _ hg]
  have ha : (⟨g, 0, none⟩ : Addr).add j = ⟨g, j, none⟩ := by
    unfold Addr.add
    split
    · rename_i e; subst e; rfl
    · simp
  rw [ha] at h4 ⊢
  rw [e]; exact h4
theorem string_in {b g cap cells : Nat} {p : Value} {l : List UInt8} {w : World} (h : StrIn b g l.length cap cells p l w) (h0 : l ≠ []) (hc : l.length ≤ cap) (hm : cap ≤ 9223372036854775807) (hcl : l.length ≤ cells) :
    Calls Tryz.prog 49 #[.pointer (some ⟨b, 0, none⟩)] w fun e w' => e = .returned (.string ⟨l.toArray⟩) ∧ w' = w.drew.freeze ⟨g, 0, none⟩ l.length :=
  string_any b g _ cap cells p l w h.1 rfl h0 hc hm h.2.1 hcl h.2.2
end Go.Proofs.YtbhgpegcdiohlaaGreatDoor.Tr
