import Derived.Test.YtbhgpegcdiohlaaGreatDoorTrB
namespace Go.Proofs.YtbhgpegcdiohlaaGreatDoor.Tr
open Go Go.RowKit Go.Proofs
set_option linter.unusedVariables false
theorem says_of {b b' : Bool} (h : b = b') {w : World} {e : Ending} {w' : World} (hs : Says b w e w') : Says b' w e w' := h ▸ hs
theorem Sl_up {w a : World} (hb : Below w.heap.size w a) {l : List Ex} {A : Option Addr} {n : Nat} (h : Sl 7 (fun x => x.In w) l A n) : Sl 7 (fun x => x.In a) l A n := h.mono fun x B o hx => x.In_below hb hx
theorem bytes_eq {a b : ByteArray} (h : a.toList = b.toList) : a = b := by
  have : a.data.toList = b.data.toList := by rw [← ByteArray.toList_eq, ← ByteArray.toList_eq, h]
  cases a; cases b
  simp only [ByteArray.mk.injEq]
  exact Array.ext' this

set_option maxHeartbeats 4000000 in
set_option maxRecDepth 100000 in
theorem sameEx_walk (k op : Int) (m n : ByteArray) (t b : Int) (ks : Exs) (hK : ∀ x ∈ ks.toList, SameIs x) : SameIs (.mk k op m n t b ks) := by
  intro y w v u hv hu
  cases y with
  | mk k' op' m' n' t' b' ks' =>
  unfold Ex.Is at hv hu
  obtain ⟨A, l, c, rfl, h1⟩ := hv
  obtain ⟨A', l', c', rfl, h2⟩ := hu
  have H1 := Hd.mk h1
  have H2 := Hd.mk h2
  have HK := Hd.mk hK
  clear h1 h2 hK
  go_enter Tryz.func25, Tryz.ntmps25
  go_wp2_with (go_at_call 59; (refine ((eqf59_any ks.toList ks'.toList HK.out _ _ _ _ _ _ _ (Sl_up (up (up (up0 _) _) _) H1.out) (Sl_up (up (up (up0 _) _) _) H2.out)).mono ?_)); (rintro e w1 ⟨rfl, hb1⟩; have HB1 := Hd.mk hb1; clear hb1))
  all_goals go_ret
  · refine says_of ?_ ⟨rfl, step (up (up (up0 _) _) _) HB1.out⟩
    have e1 : m = m' := bytes_eq (by assumption)
    have e2 : n = n' := bytes_eq (by assumption)
    have e3 := @Exs.toList_inj ks ks'
    subst e1 e2
    unfold eqB
    congr 1
    simp only [Ex.mk.injEq, true_and, eq_iff_iff]
    exact ⟨fun h => by simp_all, fun h => by simp_all⟩
  all_goals exact says_of (eqB_ne fun h => by simp_all).symm ⟨rfl, up (up (up0 _) _) _⟩
mutual
theorem sameEx : ∀ x : Ex, SameIs x
  | .mk k op m n t b ks => sameEx_walk k op m n t b ks (sameExs ks)
theorem sameExs : ∀ (ks : Exs), ∀ x ∈ ks.toList, SameIs x
  | .nil => fun x hx => by simp [Exs.toList] at hx
  | .cons e l => fun x hx => by
    simp only [Exs.toList, List.mem_cons] at hx
    rcases hx with h | hx
    · rw [h]; exact sameEx e
    · exact sameExs l x hx
end
end Go.Proofs.YtbhgpegcdiohlaaGreatDoor.Tr
