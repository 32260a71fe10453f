import Derived.Test.YtbhgpegcdiohlaaGreatDoorTrD
import Derived.Deep.QuietTactic
import Derived.BigQuiet
namespace Go.Proofs.YtbhgpegcdiohlaaGreatDoor.Tr
open Go Go.RowKit Go.Proofs
set_option linter.unusedVariables false
theorem drewN_below (n : Nat) (w : World) (k : Nat) : Below n w (w.drewN k) := by
  induction k with
  | zero => exact Below.refl _ _
  | succ k ih => exact ih.drew

set_option maxHeartbeats 4000000 in
set_option maxRecDepth 100000 in
theorem eqf55_ne (l1 l2 : List ByteArray) (w : World) (A1 A2 : Option Addr) (n1 n2 c1 c2 : Nat) (h1 : Sl 1 (strIn w) l1 A1 n1) (h2 : Sl 1 (strIn w) l2 A2 n2) (hne : n1 ≠ n2) :
    Calls Tryz.prog 55 #[.slice A1 n1 c1, .slice A2 n2 c2] w (Says (eqB l1 l2) w) := by
  have e : eqB l1 l2 = false := eqB_ne fun h => hne (by rw [h1.1, h2.1, h])
  rw [e]
  clear h1 h2 e
  have hd : ((n1 : Int) != (n2 : Int)) = true := bne_iff_ne.mpr (by omega)
  have hd' : ((n1 : Int) == (n2 : Int)) = false := beq_eq_false_iff_ne.mpr (by omega)
  go_enter Tryz.func55, Tryz.ntmps55
  go_wp2
  go_ret
  exact ⟨rfl, Below.refl _ _⟩
set_option maxHeartbeats 4000000 in
set_option maxRecDepth 100000 in
theorem eqf55_eq (l1 l2 : List ByteArray) (w : World) (A1 A2 : Option Addr) (n c1 c2 : Nat) (h1 : Sl 1 (strIn w) l1 A1 n) (h2 : Sl 1 (strIn w) l2 A2 n) :
    Calls Tryz.prog 55 #[.slice A1 n c1, .slice A2 n c2] w (Says (eqB l1 l2) w) := by
  have hn := h1.2.1
  rcases Nat.eq_zero_or_pos n with hz | hp
  · subst hz
    have e1 : l1 = [] := List.eq_nil_of_length_eq_zero h1.1.symm
    have e2 : l2 = [] := List.eq_nil_of_length_eq_zero h2.1.symm
    subst e1 e2
    rw [eqB_self]
    clear h1 h2 hn
    go_enter Tryz.func55, Tryz.ntmps55
    go_wp2
    refine wp_loop_rounds 1 ?_
    rw [rounds_succ]
    go_wp2
    go_ret
    exact ⟨rfl, Below.refl _ _⟩
  · obtain ⟨B1, o1, rfl, g1⟩ := h1.at hp
    obtain ⟨B2, o2, rfl, g2⟩ := h2.at hp
    have e1 := Hd.mk h1.1
    have e2 := Hd.mk h2.1
    have G1 := Hd.mk g1
    have G2 := Hd.mk g2
    clear h1 h2 g1 g2
    go_enter Tryz.func55, Tryz.ntmps55
    go_wp2
    go_loopw [13] (fun i w' => ∃ k : Nat, k ≤ n ∧ i = .int .i64 k ∧ Below w.heap.size w w' ∧ l1.take k = l2.take k) (fun i _ => n - (intOf i).toNat)
    case atStart => exact ⟨0, by omega, rfl, Below.refl _ _, rfl⟩
    case round =>
      obtain ⟨k, hk, rfl, hb, ht⟩ := hrel
      have HB := Hd.mk hb
      have HT := Hd.mk ht
      clear hb ht
      by_cases hlt : k < n
      · obtain ⟨x1, m1⟩ : ∃ x, l1[k]? = some x := ⟨_, List.getElem?_eq_getElem (by rw [← e1.out]; exact hlt)⟩
        obtain ⟨x2, m2⟩ : ∃ x, l2[k]? = some x := ⟨_, List.getElem?_eq_getElem (by rw [← e2.out]; exact hlt)⟩
        rename_i wr
        have i1 := strIn_below HB.out x1 (G1.out k x1 m1)
        have i2 := strIn_below HB.out x2 (G2.out k x2 m2)
        have M1 := Hd.mk m1
        have M2 := Hd.mk m2
        clear m1 m2
        unfold strIn at i1 i2
        have a0 := i1
        have b0 := i2
        rw [Nat.mul_one] at a0 b0
        clear i1 i2
        have k0 : (0 : Int) ≤ (k : Int) := by omega
        have k1 : (k : Int) < (n : Int) := by omega
        by_cases he : x1 = x2
        · subst he
          go_wp2_with fail
          go_quiet (fail)
          go_wp2_with fail
          refine ⟨⟨k + 1, by omega, by go_num, HB.out.trans (drewN_below _ _ _), ?_⟩, by simp [intOf]; omega⟩
          rw [take_next M1.out, take_next M2.out, HT.out]
        · have hans2 : eqB l1 l2 = false := eqB_ne fun h => he (by have := M1.out; rw [h, M2.out] at this; exact (Option.some.inj this).symm)
          have HE := Hd.mk hans2
          clear hans2
          have hx : (x1.toList == x2.toList) = false := beq_eq_false_iff_ne.mpr fun h => he (bytes_eq h)
          go_wp2_with fail
          go_quiet (fail)
          go_wp2_with fail
          go_ret
          rw [HE.out]
          exact ⟨rfl, HB.out.trans (drewN_below _ _ _)⟩
      · have hk2 : k = n := by omega
        subst hk2
        have hans2 : eqB l1 l2 = true := by
          have := HT.out
          rw [List.take_of_length_le (by rw [← e1.out]; omega), List.take_of_length_le (by rw [← e2.out]; omega)] at this
          rw [this, eqB_self]
        have HE := Hd.mk hans2
        clear hans2
        go_wp2_with fail
        go_ret
        rw [HE.out]
        exact ⟨rfl, HB.out⟩
theorem eqf55_any (l1 l2 : List ByteArray) (w : World) (A1 A2 : Option Addr) (n1 n2 c1 c2 : Nat) (h1 : Sl 1 (strIn w) l1 A1 n1) (h2 : Sl 1 (strIn w) l2 A2 n2) :
    Calls Tryz.prog 55 #[.slice A1 n1 c1, .slice A2 n2 c2] w (Says (eqB l1 l2) w) := by
  by_cases h : n1 = n2
  · subst h
    exact eqf55_eq l1 l2 w A1 A2 n1 c1 c2 h1 h2
  · exact eqf55_ne l1 l2 w A1 A2 n1 n2 c1 c2 h1 h2 h

set_option maxHeartbeats 4000000 in
set_option maxRecDepth 100000 in
theorem eqf112_ne (l1 l2 : List Pa) (w : World) (A1 A2 : Option Addr) (n1 n2 c1 c2 : Nat) (h1 : Sl 2 (fun x => x.In w) l1 A1 n1) (h2 : Sl 2 (fun x => x.In w) l2 A2 n2) (hne : n1 ≠ n2) :
    Calls Tryz.prog 112 #[.slice A1 n1 c1, .slice A2 n2 c2] w (Says (eqB l1 l2) w) := by
  have e : eqB l1 l2 = false := eqB_ne fun h => hne (by rw [h1.1, h2.1, h])
  rw [e]
  clear h1 h2 e
  have hd : ((n1 : Int) != (n2 : Int)) = true := bne_iff_ne.mpr (by omega)
  have hd' : ((n1 : Int) == (n2 : Int)) = false := beq_eq_false_iff_ne.mpr (by omega)
  go_enter Tryz.func112, Tryz.ntmps112
  go_wp2
  go_ret
  exact ⟨rfl, Below.refl _ _⟩
set_option maxHeartbeats 4000000 in
set_option maxRecDepth 100000 in
theorem eqf112_eq (l1 l2 : List Pa) (w : World) (A1 A2 : Option Addr) (n c1 c2 : Nat) (h1 : Sl 2 (fun x => x.In w) l1 A1 n) (h2 : Sl 2 (fun x => x.In w) l2 A2 n) :
    Calls Tryz.prog 112 #[.slice A1 n c1, .slice A2 n c2] w (Says (eqB l1 l2) w) := by
  have hn := h1.2.1
  rcases Nat.eq_zero_or_pos n with hz | hp
  · subst hz
    have e1 : l1 = [] := List.eq_nil_of_length_eq_zero h1.1.symm
    have e2 : l2 = [] := List.eq_nil_of_length_eq_zero h2.1.symm
    subst e1 e2
    rw [eqB_self]
    clear h1 h2 hn
    go_enter Tryz.func112, Tryz.ntmps112
    go_wp2
    refine wp_loop_rounds 1 ?_
    rw [rounds_succ]
    go_wp2
    go_ret
    exact ⟨rfl, Below.refl _ _⟩
  · obtain ⟨B1, o1, rfl, g1⟩ := h1.at hp
    obtain ⟨B2, o2, rfl, g2⟩ := h2.at hp
    have e1 := Hd.mk h1.1
    have e2 := Hd.mk h2.1
    have G1 := Hd.mk g1
    have G2 := Hd.mk g2
    clear h1 h2 g1 g2
    go_enter Tryz.func112, Tryz.ntmps112
    go_wp2
    go_loopw [13] (fun i w' => ∃ k : Nat, k ≤ n ∧ i = .int .i64 k ∧ Below w.heap.size w w' ∧ l1.take k = l2.take k) (fun i _ => n - (intOf i).toNat)
    case atStart => exact ⟨0, by omega, rfl, Below.refl _ _, rfl⟩
    case round =>
      obtain ⟨k, hk, rfl, hb, ht⟩ := hrel
      have HB := Hd.mk hb
      have HT := Hd.mk ht
      clear hb ht
      by_cases hlt : k < n
      · obtain ⟨x1, m1⟩ : ∃ x, l1[k]? = some x := ⟨_, List.getElem?_eq_getElem (by rw [← e1.out]; exact hlt)⟩
        obtain ⟨x2, m2⟩ : ∃ x, l2[k]? = some x := ⟨_, List.getElem?_eq_getElem (by rw [← e2.out]; exact hlt)⟩
        rename_i wr
        have i1 := Pa.In_below HB.out x1 (G1.out k x1 m1)
        have i2 := Pa.In_below HB.out x2 (G2.out k x2 m2)
        have M1 := Hd.mk m1
        have M2 := Hd.mk m2
        clear m1 m2
        obtain ⟨a0, a1⟩ := i1
        obtain ⟨b0, b1⟩ := i2
        obtain ⟨s1, t1⟩ := x1
        obtain ⟨s2, t2⟩ := x2
        dsimp only at a0 a1 b0 b1
        have k0 : (0 : Int) ≤ (k : Int) := by omega
        have k1 : (k : Int) < (n : Int) := by omega
        by_cases he : (⟨s1, t1⟩ : Pa) = ⟨s2, t2⟩
        · have hs : s1 = s2 := congrArg Pa.n he
          have ht : t1 = t2 := congrArg Pa.t he
          clear he
          subst hs ht
          go_wp2_with fail
          go_quiet (fail)
          go_wp2_with fail
          refine ⟨⟨k + 1, by omega, by go_num, HB.out.trans (drewN_below _ _ _), ?_⟩, by simp [intOf]; omega⟩
          rw [take_next M1.out, take_next M2.out, HT.out]
        · have hans2 : eqB l1 l2 = false := eqB_ne fun h => he (by have := M1.out; rw [h, M2.out] at this; exact (Option.some.inj this).symm)
          have HE := Hd.mk hans2
          clear hans2
          by_cases hs : s1 = s2
          · subst hs
            have ht : (t1 == t2) = false := beq_eq_false_iff_ne.mpr fun h => he (by rw [h])
            have ht2 : ¬ t1 = t2 := fun h => he (by rw [h])
            go_wp2_with fail
            go_quiet (fail)
            go_wp2_with fail
            go_ret
            rw [HE.out]
            exact ⟨rfl, HB.out.trans (drewN_below _ _ _)⟩
          · have hx : (s1.toList == s2.toList) = false := beq_eq_false_iff_ne.mpr fun h => hs (bytes_eq h)
            have hx2 : ¬ s1.toList = s2.toList := fun h => hs (bytes_eq h)
            go_wp2_with fail
            go_quiet (fail)
            go_wp2_with fail
            go_ret
            rw [HE.out]
            exact ⟨rfl, HB.out.trans (drewN_below _ _ _)⟩
      · have hk2 : k = n := by omega
        subst hk2
        have hans2 : eqB l1 l2 = true := by
          have := HT.out
          rw [List.take_of_length_le (by rw [← e1.out]; omega), List.take_of_length_le (by rw [← e2.out]; omega)] at this
          rw [this, eqB_self]
        have HE := Hd.mk hans2
        clear hans2
        go_wp2_with fail
        go_ret
        rw [HE.out]
        exact ⟨rfl, HB.out⟩
theorem eqf112_any (l1 l2 : List Pa) (w : World) (A1 A2 : Option Addr) (n1 n2 c1 c2 : Nat) (h1 : Sl 2 (fun x => x.In w) l1 A1 n1) (h2 : Sl 2 (fun x => x.In w) l2 A2 n2) :
    Calls Tryz.prog 112 #[.slice A1 n1 c1, .slice A2 n2 c2] w (Says (eqB l1 l2) w) := by
  by_cases h : n1 = n2
  · subst h
    exact eqf112_eq l1 l2 w A1 A2 n1 c1 c2 h1 h2
  · exact eqf112_ne l1 l2 w A1 A2 n1 n2 c1 c2 h1 h2 h
end Go.Proofs.YtbhgpegcdiohlaaGreatDoor.Tr
