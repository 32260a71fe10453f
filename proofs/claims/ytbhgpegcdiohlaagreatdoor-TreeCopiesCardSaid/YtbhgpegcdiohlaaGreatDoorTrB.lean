import Derived.Test.YtbhgpegcdiohlaaGreatDoorTrA
namespace Go.Proofs.YtbhgpegcdiohlaaGreatDoor.Tr
open Go Go.RowKit Go.Proofs
set_option linter.unusedVariables false
theorem Sl.at {α : Type} {sz : Nat} {P : α → Nat → Nat → Prop} {l : List α} {A : Option Addr} {n : Nat} (h : Sl sz P l A n) (hp : 0 < n) : ∃ B o, A = some ⟨B, o, none⟩ ∧ ∀ (i : Nat) (x : α), l[i]? = some x → P x B (o + i * sz) := h.2.2 hp

theorem take_next {α : Type} {l : List α} {k : Nat} {x : α} (h : l[k]? = some x) : l.take (k + 1) = l.take k ++ [x] := by
  obtain ⟨hk, rfl⟩ := List.getElem?_eq_some_iff.1 h
  exact List.take_succ_eq_append_getElem hk

set_option maxHeartbeats 4000000 in
set_option maxRecDepth 100000 in
theorem eqf59_ne (l1 l2 : List Ex) (w : World) (A1 A2 : Option Addr) (n1 n2 c1 c2 : Nat) (h1 : Sl 7 (fun x => x.In w) l1 A1 n1) (h2 : Sl 7 (fun x => x.In w) l2 A2 n2) (hne : n1 ≠ n2) :
    Calls Tryz.prog 59 #[.slice A1 n1 c1, .slice A2 n2 c2, .func (.func 25) #[] #[]] w (Says (eqB l1 l2) w) := by
  have e : eqB l1 l2 = false := eqB_ne fun h => hne (by rw [h1.1, h2.1, h])
  rw [e]
  clear h1 h2 e
  have hd : ((n1 : Int) != (n2 : Int)) = true := bne_iff_ne.mpr (by omega)
  have hd' : ((n1 : Int) == (n2 : Int)) = false := beq_eq_false_iff_ne.mpr (by omega)
  go_enter Tryz.func59, Tryz.ntmps59
  go_wp2
  go_ret
  exact ⟨rfl, Below.refl _ _⟩
set_option maxHeartbeats 4000000 in
set_option maxRecDepth 100000 in
theorem eqf59 (l1 l2 : List Ex) (hK : ∀ x ∈ l1, SameIs x) (w : World) (A1 A2 : Option Addr) (n c1 c2 : Nat) (h1 : Sl 7 (fun x => x.In w) l1 A1 n) (h2 : Sl 7 (fun x => x.In w) l2 A2 n) :
    Calls Tryz.prog 59 #[.slice A1 n c1, .slice A2 n c2, .func (.func 25) #[] #[]] w (Says (eqB l1 l2) w) := by
  have hn := h1.2.1
  have HK := Hd.mk hK
  clear hK
  rcases Nat.eq_zero_or_pos n with hz | hp
  · subst hz
    have e1 : l1 = [] := List.eq_nil_of_length_eq_zero h1.1.symm
    have e2 : l2 = [] := List.eq_nil_of_length_eq_zero h2.1.symm
    subst e1 e2
    rw [eqB_self]
    clear h1 h2 hn
    go_enter Tryz.func59, Tryz.ntmps59
    go_wp2
    refine wp_loop_rounds 1 ?_
    rw [rounds_succ]
    go_wp2
    go_ret
    exact ⟨rfl, Below.refl _ _⟩
  · obtain ⟨B1, o1, rfl, g1⟩ := h1.at hp
    obtain ⟨B2, o2, rfl, g2⟩ := h2.at hp
    have e1 := Hd.mk h1.1
    have e2 := Hd.mk h2.1
    have G1 := Hd.mk g1
    have G2 := Hd.mk g2
    clear h1 h2 g1 g2
    go_enter Tryz.func59, Tryz.ntmps59
    go_wp2
    go_loopw [17] (fun i w' => ∃ k : Nat, k ≤ n ∧ i = .int .i64 k ∧ Below w.heap.size w w' ∧ l1.take k = l2.take k) (fun i _ => n - (intOf i).toNat)
    case atStart => exact ⟨0, by omega, rfl, Below.refl _ _, rfl⟩
    case round =>
      obtain ⟨k, hk, rfl, hb, ht⟩ := hrel
      have HB := Hd.mk hb
      have HT := Hd.mk ht
      clear hb ht
      by_cases hlt : k < n
      · obtain ⟨x1, m1⟩ : ∃ x, l1[k]? = some x := ⟨_, List.getElem?_eq_getElem (by rw [← e1.out]; exact hlt)⟩
        obtain ⟨x2, m2⟩ : ∃ x, l2[k]? = some x := ⟨_, List.getElem?_eq_getElem (by rw [← e2.out]; exact hlt)⟩
        rename_i wr
        have i1 := Ex.In_below HB.out x1 (G1.out k x1 m1)
        have i2 := Ex.In_below HB.out x2 (G2.out k x2 m2)
        obtain ⟨v0, v1, v2, v3, v4, v5, v6, v7, v8, a0, a1, a2, a3, a4, a5, a6, ax⟩ := Ex.In_Is i1
        obtain ⟨u0, u1, u2, u3, u4, u5, u6, u7, u8, b0, b1, b2, b3, b4, b5, b6, bx⟩ := Ex.In_Is i2
        have M1 := Hd.mk m1
        have M2 := Hd.mk m2
        have AX := Hd.mk ax
        have BX := Hd.mk bx
        clear m1 m2 ax bx i1 i2
        have hsz := Hd.mk (HB.out.size)
        have lt1 : B1 < wr.heap.size := World.block_lt_of_cell? wr _ a0
        have lt2 : B2 < wr.heap.size := World.block_lt_of_cell? wr _ b0
        by_cases he : x1 = x2
        · have hans : Says (eqB x1 x2) = Says true := by rw [he, eqB_self]
          have HA := Hd.mk hans
          clear hans
          go_wp2_with (go_at_call 25; (refine ((HK.out x1 (List.mem_of_getElem? M1.out) x2 _ _ _ (Ex.Is_below ?_ AX.out) (Ex.Is_below ?_ BX.out)).mono ?_)); rotate_left 2; (rw [HA.out]; rintro e w1 ⟨rfl, hb1⟩; have HB1 := Hd.mk hb1; clear hb1))
          · refine ⟨⟨k + 1, by omega, by go_num, step (up (up HB.out _) _) HB1.out, ?_⟩, by simp [intOf]; omega⟩
            rw [take_next M1.out, take_next M2.out, HT.out, he]
          · exact up (up (up0 _) _) _
          · exact up (up (up0 _) _) _
        · have hans : Says (eqB x1 x2) = Says false := by rw [eqB_ne he]
          have HA := Hd.mk hans
          have hans2 : eqB l1 l2 = false := eqB_ne fun h => he (by have := M1.out; rw [h, M2.out] at this; exact (Option.some.inj this).symm)
          have HE := Hd.mk hans2
          clear hans hans2
          go_wp2_with (go_at_call 25; (refine ((HK.out x1 (List.mem_of_getElem? M1.out) x2 _ _ _ (Ex.Is_below ?_ AX.out) (Ex.Is_below ?_ BX.out)).mono ?_)); rotate_left 2; (rw [HA.out]; rintro e w1 ⟨rfl, hb1⟩; have HB1 := Hd.mk hb1; clear hb1))
          · go_ret
            rw [HE.out]
            exact ⟨rfl, step (up (up HB.out _) _) HB1.out⟩
          · exact up (up (up0 _) _) _
          · exact up (up (up0 _) _) _
      · have hk2 : k = n := by omega
        subst hk2
        have hans2 : eqB l1 l2 = true := by
          have := HT.out
          rw [List.take_of_length_le (by rw [← e1.out]; omega), List.take_of_length_le (by rw [← e2.out]; omega)] at this
          rw [this, eqB_self]
        have HE := Hd.mk hans2
        clear hans2
        go_wp2_with fail
        go_ret
        rw [HE.out]
        exact ⟨rfl, HB.out⟩
theorem eqf59_any (l1 l2 : List Ex) (hK : ∀ x ∈ l1, SameIs x) (w : World) (A1 A2 : Option Addr) (n1 n2 c1 c2 : Nat) (h1 : Sl 7 (fun x => x.In w) l1 A1 n1) (h2 : Sl 7 (fun x => x.In w) l2 A2 n2) :
    Calls Tryz.prog 59 #[.slice A1 n1 c1, .slice A2 n2 c2, .func (.func 25) #[] #[]] w (Says (eqB l1 l2) w) := by
  by_cases h : n1 = n2
  · subst h
    exact eqf59 l1 l2 hK w A1 A2 n1 c1 c2 h1 h2
  · exact eqf59_ne l1 l2 w A1 A2 n1 n2 c1 c2 h1 h2 h
end Go.Proofs.YtbhgpegcdiohlaaGreatDoor.Tr
