import Derived.Test.YtbhgpegcdiohlaaGreatDoorTrJ
import Derived.Deep.RegionHeld3
namespace Go.Proofs.YtbhgpegcdiohlaaGreatDoor.Tr
open Go Go.RowKit Go.Proofs
set_option linter.unusedVariables false
set_option maxRecDepth 100000
def RefIs (x : Ex) : Prop := ∀ (y : Ex) (w : World) (v u : Value), x.Is w v → y.Is w u → Calls Tryz.prog 26 #[v, u] w (Says (eqB x y) w)
theorem S14 {N : Nat} {w0 w w' : World} (hb : Below w.heap.size w w') (hN : w0.heap.size = N) {a0 a1 a2 a3 a4 a5 a6 a7 a8 a9 a10 a11 a12 a13 : Addr} {v0 v1 v2 v3 v4 v5 v6 v7 v8 v9 v10 v11 v12 v13 : Value} (h : Below N w0 w ∧ w.cell? a0 = some v0 ∧ w.cell? a1 = some v1 ∧ w.cell? a2 = some v2 ∧ w.cell? a3 = some v3 ∧ w.cell? a4 = some v4 ∧ w.cell? a5 = some v5 ∧ w.cell? a6 = some v6 ∧ w.cell? a7 = some v7 ∧ w.cell? a8 = some v8 ∧ w.cell? a9 = some v9 ∧ w.cell? a10 = some v10 ∧ w.cell? a11 = some v11 ∧ w.cell? a12 = some v12 ∧ w.cell? a13 = some v13) : Below N w0 w' ∧ w'.cell? a0 = some v0 ∧ w'.cell? a1 = some v1 ∧ w'.cell? a2 = some v2 ∧ w'.cell? a3 = some v3 ∧ w'.cell? a4 = some v4 ∧ w'.cell? a5 = some v5 ∧ w'.cell? a6 = some v6 ∧ w'.cell? a7 = some v7 ∧ w'.cell? a8 = some v8 ∧ w'.cell? a9 = some v9 ∧ w'.cell? a10 = some v10 ∧ w'.cell? a11 = some v11 ∧ w'.cell? a12 = some v12 ∧ w'.cell? a13 = some v13 := by
  subst hN
  obtain ⟨h, c0, c1, c2, c3, c4, c5, c6, c7, c8, c9, c10, c11, c12, c13⟩ := h
  exact ⟨step h hb, keep hb c0, keep hb c1, keep hb c2, keep hb c3, keep hb c4, keep hb c5, keep hb c6, keep hb c7, keep hb c8, keep hb c9, keep hb c10, keep hb c11, keep hb c12, keep hb c13⟩
set_option maxHeartbeats 4000000 in
theorem rf60_ne (l1 l2 : List Ex) (w : World) (A1 A2 : Option Addr) (n1 n2 c1 c2 : Nat) (h1 : Sl 7 (fun x => x.In w) l1 A1 n1) (h2 : Sl 7 (fun x => x.In w) l2 A2 n2) (hne : n1 ≠ n2) :
    Calls Tryz.prog 60 #[.slice A1 n1 c1, .slice A2 n2 c2] w (Says (eqB l1 l2) w) := by
  have e : eqB l1 l2 = false := eqB_ne fun h => hne (by rw [h1.1, h2.1, h])
  rw [e]
  clear h1 h2 e
  have hd : ((n1 : Int) != (n2 : Int)) = true := bne_iff_ne.mpr (by omega)
  have hd' : ((n1 : Int) == (n2 : Int)) = false := beq_eq_false_iff_ne.mpr (by omega)
  go_enter Tryz.func60, Tryz.ntmps60
  go_wp2
  go_ret
  exact ⟨rfl, Below.refl _ _⟩
set_option maxHeartbeats 4000000 in
theorem rf60_eq (l1 l2 : List Ex) (hK : ∀ x ∈ l1, RefIs x) (w : World) (A1 A2 : Option Addr) (n c1 c2 : Nat) (h1 : Sl 7 (fun x => x.In w) l1 A1 n) (h2 : Sl 7 (fun x => x.In w) l2 A2 n) :
    Calls Tryz.prog 60 #[.slice A1 n c1, .slice A2 n c2] w (Says (eqB l1 l2) w) := by
  have hn := h1.2.1
  have HK := Hd.mk hK
  clear hK
  rcases Nat.eq_zero_or_pos n with hz | hp
  · subst hz
    have e1 : l1 = [] := List.eq_nil_of_length_eq_zero h1.1.symm
    have e2 : l2 = [] := List.eq_nil_of_length_eq_zero h2.1.symm
    subst e1 e2
    rw [eqB_self]
    clear h1 h2 hn
    go_enter Tryz.func60, Tryz.ntmps60
    go_wp2
    refine wp_loop_rounds 1 ?_
    rw [rounds_succ]
    go_wp2
    go_ret
    exact ⟨rfl, Below.refl _ _⟩
  · obtain ⟨B1, o1, rfl, g1⟩ := h1.at hp
    obtain ⟨B2, o2, rfl, g2⟩ := h2.at hp
    have e1 := Hd.mk h1.1
    have e2 := Hd.mk h2.1
    have G1 := Hd.mk g1
    have G2 := Hd.mk g2
    clear h1 h2 g1 g2
    go_enter Tryz.func60, Tryz.ntmps60
    go_wp2
    go_loopw [5] (fun i w' => ∃ k : Nat, k ≤ n ∧ i = .int .i64 k ∧ Below w.heap.size w w' ∧ l1.take k = l2.take k) (fun i _ => n - (intOf i).toNat)
    case atStart => exact ⟨0, by omega, rfl, Below.refl _ _, rfl⟩
    case round =>
      obtain ⟨k, hk, rfl, hb, ht⟩ := hrel
      have HB := Hd.mk hb
      have HT := Hd.mk ht
      clear hb ht
      by_cases hlt : k < n
      · obtain ⟨x1, m1⟩ : ∃ x, l1[k]? = some x := ⟨_, List.getElem?_eq_getElem (by rw [← e1.out]; exact hlt)⟩
        obtain ⟨x2, m2⟩ : ∃ x, l2[k]? = some x := ⟨_, List.getElem?_eq_getElem (by rw [← e2.out]; exact hlt)⟩
        rename_i wr
        have i1 := Ex.In_below HB.out x1 (G1.out k x1 m1)
        have i2 := Ex.In_below HB.out x2 (G2.out k x2 m2)
        obtain ⟨v0, v1, v2, v3, v4, v5, v6, v7, v8, a0, a1, a2, a3, a4, a5, a6, ax⟩ := Ex.In_Is i1
        obtain ⟨u0, u1, u2, u3, u4, u5, u6, u7, u8, b0, b1, b2, b3, b4, b5, b6, bx⟩ := Ex.In_Is i2
        have M1 := Hd.mk m1
        have M2 := Hd.mk m2
        have AX := Hd.mk ax
        have BX := Hd.mk bx
        clear m1 m2 ax bx i1 i2
        have k0 : (0 : Int) ≤ (k : Int) := by omega
        have k1 : (k : Int) < (n : Int) := by omega
        by_cases he : x1 = x2
        · have hans : Says (eqB x1 x2) = Says true := by rw [he, eqB_self]
          have HA := Hd.mk hans
          have HEQ := Hd.mk he
          clear hans he
          have H0 : Hd ((fun w' => Below wr.heap.size wr w' ∧ w'.cell? ⟨B1, o1 + k * 7, none⟩ = some (.int .i64 v0) ∧ w'.cell? ⟨B1, o1 + k * 7 + 1, none⟩ = some (.int .i64 v1) ∧ w'.cell? ⟨B1, o1 + k * 7 + 2, none⟩ = some (.string v2) ∧ w'.cell? ⟨B1, o1 + k * 7 + 3, none⟩ = some (.string v3) ∧ w'.cell? ⟨B1, o1 + k * 7 + 4, none⟩ = some (.int .i64 v4) ∧ w'.cell? ⟨B1, o1 + k * 7 + 5, none⟩ = some (.int .u64 v5) ∧ w'.cell? ⟨B1, o1 + k * 7 + 6, none⟩ = some (.slice v6 v7 v8) ∧ w'.cell? ⟨B2, o2 + k * 7, none⟩ = some (.int .i64 u0) ∧ w'.cell? ⟨B2, o2 + k * 7 + 1, none⟩ = some (.int .i64 u1) ∧ w'.cell? ⟨B2, o2 + k * 7 + 2, none⟩ = some (.string u2) ∧ w'.cell? ⟨B2, o2 + k * 7 + 3, none⟩ = some (.string u3) ∧ w'.cell? ⟨B2, o2 + k * 7 + 4, none⟩ = some (.int .i64 u4) ∧ w'.cell? ⟨B2, o2 + k * 7 + 5, none⟩ = some (.int .u64 u5) ∧ w'.cell? ⟨B2, o2 + k * 7 + 6, none⟩ = some (.slice u6 u7 u8)) wr) := ⟨⟨up0 _, a0, a1, a2, a3, a4, a5, a6, b0, b1, b2, b3, b4, b5, b6⟩⟩
          have X : Hd (∀ w', Below wr.heap.size wr w' → Calls Tryz.prog 26 #[.agg #[.int .i64 v0, .int .i64 v1, .string v2, .string v3, .int .i64 v4, .int .u64 v5, .slice v6 v7 v8], .agg #[.int .i64 u0, .int .i64 u1, .string u2, .string u3, .int .i64 u4, .int .u64 u5, .slice u6 u7 u8]] w' (Says true w')) := ⟨fun w' hb => HA.out ▸ HK.out x1 (List.mem_of_getElem? M1.out) x2 _ _ _ (Ex.Is_below hb AX.out) (Ex.Is_below hb BX.out)⟩
          clear a0 a1 a2 a3 a4 a5 a6 b0 b1 b2 b3 b4 b5 b6
          go_wp2_with fail
          go_region_held3 (fun w' => Below wr.heap.size wr w' ∧ w'.cell? ⟨B1, o1 + k * 7, none⟩ = some (.int .i64 v0) ∧ w'.cell? ⟨B1, o1 + k * 7 + 1, none⟩ = some (.int .i64 v1) ∧ w'.cell? ⟨B1, o1 + k * 7 + 2, none⟩ = some (.string v2) ∧ w'.cell? ⟨B1, o1 + k * 7 + 3, none⟩ = some (.string v3) ∧ w'.cell? ⟨B1, o1 + k * 7 + 4, none⟩ = some (.int .i64 v4) ∧ w'.cell? ⟨B1, o1 + k * 7 + 5, none⟩ = some (.int .u64 v5) ∧ w'.cell? ⟨B1, o1 + k * 7 + 6, none⟩ = some (.slice v6 v7 v8) ∧ w'.cell? ⟨B2, o2 + k * 7, none⟩ = some (.int .i64 u0) ∧ w'.cell? ⟨B2, o2 + k * 7 + 1, none⟩ = some (.int .i64 u1) ∧ w'.cell? ⟨B2, o2 + k * 7 + 2, none⟩ = some (.string u2) ∧ w'.cell? ⟨B2, o2 + k * 7 + 3, none⟩ = some (.string u3) ∧ w'.cell? ⟨B2, o2 + k * 7 + 4, none⟩ = some (.int .i64 u4) ∧ w'.cell? ⟨B2, o2 + k * 7 + 5, none⟩ = some (.int .u64 u5) ∧ w'.cell? ⟨B2, o2 + k * 7 + 6, none⟩ = some (.slice u6 u7 u8)) (first | exact ⟨H0.out.1.drew, H0.out.2⟩ | exact S14 (by assumption) rfl (by assumption)) (first | (go_at_call 26; (with_reducible refine ((X.out _ (And.left (by assumption))).mono ?_)); (rintro e w1 ⟨rfl, hb1⟩)))
          obtain ⟨hS, _⟩ := (show Below _ _ _ ∧ _ from by assumption)
          have HS := Hd.mk hS
          clear hS
          go_wp2_with fail
          refine ⟨⟨k + 1, by omega, by go_num, step HB.out HS.out, ?_⟩, by simp [intOf]; omega⟩
          rw [take_next M1.out, take_next M2.out, HT.out, HEQ.out]
        · have hans : Says (eqB x1 x2) = Says false := by rw [eqB_ne he]
          have HA := Hd.mk hans
          have hans2 : eqB l1 l2 = false := eqB_ne fun h => he (by have := M1.out; rw [h, M2.out] at this; exact (Option.some.inj this).symm)
          have HE := Hd.mk hans2
          clear hans hans2 he
          have H0 : Hd ((fun w' => Below wr.heap.size wr w' ∧ w'.cell? ⟨B1, o1 + k * 7, none⟩ = some (.int .i64 v0) ∧ w'.cell? ⟨B1, o1 + k * 7 + 1, none⟩ = some (.int .i64 v1) ∧ w'.cell? ⟨B1, o1 + k * 7 + 2, none⟩ = some (.string v2) ∧ w'.cell? ⟨B1, o1 + k * 7 + 3, none⟩ = some (.string v3) ∧ w'.cell? ⟨B1, o1 + k * 7 + 4, none⟩ = some (.int .i64 v4) ∧ w'.cell? ⟨B1, o1 + k * 7 + 5, none⟩ = some (.int .u64 v5) ∧ w'.cell? ⟨B1, o1 + k * 7 + 6, none⟩ = some (.slice v6 v7 v8) ∧ w'.cell? ⟨B2, o2 + k * 7, none⟩ = some (.int .i64 u0) ∧ w'.cell? ⟨B2, o2 + k * 7 + 1, none⟩ = some (.int .i64 u1) ∧ w'.cell? ⟨B2, o2 + k * 7 + 2, none⟩ = some (.string u2) ∧ w'.cell? ⟨B2, o2 + k * 7 + 3, none⟩ = some (.string u3) ∧ w'.cell? ⟨B2, o2 + k * 7 + 4, none⟩ = some (.int .i64 u4) ∧ w'.cell? ⟨B2, o2 + k * 7 + 5, none⟩ = some (.int .u64 u5) ∧ w'.cell? ⟨B2, o2 + k * 7 + 6, none⟩ = some (.slice u6 u7 u8)) wr) := ⟨⟨up0 _, a0, a1, a2, a3, a4, a5, a6, b0, b1, b2, b3, b4, b5, b6⟩⟩
          have X : Hd (∀ w', Below wr.heap.size wr w' → Calls Tryz.prog 26 #[.agg #[.int .i64 v0, .int .i64 v1, .string v2, .string v3, .int .i64 v4, .int .u64 v5, .slice v6 v7 v8], .agg #[.int .i64 u0, .int .i64 u1, .string u2, .string u3, .int .i64 u4, .int .u64 u5, .slice u6 u7 u8]] w' (Says false w')) := ⟨fun w' hb => HA.out ▸ HK.out x1 (List.mem_of_getElem? M1.out) x2 _ _ _ (Ex.Is_below hb AX.out) (Ex.Is_below hb BX.out)⟩
          clear a0 a1 a2 a3 a4 a5 a6 b0 b1 b2 b3 b4 b5 b6
          go_wp2_with fail
          go_region_held3 (fun w' => Below wr.heap.size wr w' ∧ w'.cell? ⟨B1, o1 + k * 7, none⟩ = some (.int .i64 v0) ∧ w'.cell? ⟨B1, o1 + k * 7 + 1, none⟩ = some (.int .i64 v1) ∧ w'.cell? ⟨B1, o1 + k * 7 + 2, none⟩ = some (.string v2) ∧ w'.cell? ⟨B1, o1 + k * 7 + 3, none⟩ = some (.string v3) ∧ w'.cell? ⟨B1, o1 + k * 7 + 4, none⟩ = some (.int .i64 v4) ∧ w'.cell? ⟨B1, o1 + k * 7 + 5, none⟩ = some (.int .u64 v5) ∧ w'.cell? ⟨B1, o1 + k * 7 + 6, none⟩ = some (.slice v6 v7 v8) ∧ w'.cell? ⟨B2, o2 + k * 7, none⟩ = some (.int .i64 u0) ∧ w'.cell? ⟨B2, o2 + k * 7 + 1, none⟩ = some (.int .i64 u1) ∧ w'.cell? ⟨B2, o2 + k * 7 + 2, none⟩ = some (.string u2) ∧ w'.cell? ⟨B2, o2 + k * 7 + 3, none⟩ = some (.string u3) ∧ w'.cell? ⟨B2, o2 + k * 7 + 4, none⟩ = some (.int .i64 u4) ∧ w'.cell? ⟨B2, o2 + k * 7 + 5, none⟩ = some (.int .u64 u5) ∧ w'.cell? ⟨B2, o2 + k * 7 + 6, none⟩ = some (.slice u6 u7 u8)) (first | exact ⟨H0.out.1.drew, H0.out.2⟩ | exact S14 (by assumption) rfl (by assumption)) (first | (go_at_call 26; (with_reducible refine ((X.out _ (And.left (by assumption))).mono ?_)); (rintro e w1 ⟨rfl, hb1⟩)))
          obtain ⟨hS, _⟩ := (show Below _ _ _ ∧ _ from by assumption)
          have HS := Hd.mk hS
          clear hS
          go_wp2_with fail
          go_ret
          rw [HE.out]
          exact ⟨rfl, step HB.out HS.out⟩
      · have hk2 : k = n := by omega
        subst hk2
        have hans2 : eqB l1 l2 = true := by
          have := HT.out
          rw [List.take_of_length_le (by rw [← e1.out]; omega), List.take_of_length_le (by rw [← e2.out]; omega)] at this
          rw [this, eqB_self]
        have HE := Hd.mk hans2
        clear hans2
        go_wp2_with fail
        go_ret
        rw [HE.out]
        exact ⟨rfl, HB.out⟩
theorem rf60_any (l1 l2 : List Ex) (hK : ∀ x ∈ l1, RefIs x) (w : World) (A1 A2 : Option Addr) (n1 n2 c1 c2 : Nat) (h1 : Sl 7 (fun x => x.In w) l1 A1 n1) (h2 : Sl 7 (fun x => x.In w) l2 A2 n2) :
    Calls Tryz.prog 60 #[.slice A1 n1 c1, .slice A2 n2 c2] w (Says (eqB l1 l2) w) := by
  by_cases h : n1 = n2
  · subst h
    exact rf60_eq l1 l2 hK w A1 A2 n1 c1 c2 h1 h2
  · exact rf60_ne l1 l2 w A1 A2 n1 n2 c1 c2 h1 h2 h

set_option maxHeartbeats 4000000 in
theorem refEx_walk (k op : Int) (m n : ByteArray) (t b : Int) (ks : Exs) (hK : ∀ x ∈ ks.toList, RefIs x) : RefIs (.mk k op m n t b ks) := by
  intro y w v u hv hu
  cases y with
  | mk k' op' m' n' t' b' ks' =>
  unfold Ex.Is at hv hu
  obtain ⟨A, l, c, rfl, h1⟩ := hv
  obtain ⟨A', l', c', rfl, h2⟩ := hu
  have H1 := Hd.mk h1
  have H2 := Hd.mk h2
  have HK := Hd.mk hK
  clear h1 h2 hK
  go_enter Tryz.func26, Tryz.ntmps26
  go_wp2_with (go_at_call 60; (refine ((rf60_any ks.toList ks'.toList HK.out _ _ _ _ _ _ _ (Sl_up (up (up (up0 _) _) _) H1.out) (Sl_up (up (up (up0 _) _) _) H2.out)).mono ?_)); (rintro e w1 ⟨rfl, hb1⟩; have HB1 := Hd.mk hb1; clear hb1))
  all_goals go_ret
  all_goals first
    | (refine says_of ?_ ⟨rfl, step (up (up (up0 _) _) _) HB1.out⟩
       have e1 : m = m' := bytes_eq (by simp_all)
       have e2 : n = n' := bytes_eq (by simp_all)
       have e3 := @Exs.toList_inj ks ks'
       subst e1 e2
       unfold eqB
       congr 1
       simp only [Ex.mk.injEq, true_and, eq_iff_iff]
       exact ⟨fun h => by simp_all, fun h => by simp_all⟩)
    | exact says_of (eqB_ne fun h => by simp_all).symm ⟨rfl, up (up (up0 _) _) _⟩
mutual
theorem refEx : ∀ x : Ex, RefIs x
  | .mk k op m n t b ks => refEx_walk k op m n t b ks (refExs ks)
theorem refExs : ∀ (ks : Exs), ∀ x ∈ ks.toList, RefIs x
  | .nil => fun x hx => by simp [Exs.toList] at hx
  | .cons e l => fun x hx => by
    simp only [Exs.toList, List.mem_cons] at hx
    rcases hx with h | hx
    · rw [h]; exact refEx e
    · exact refExs l x hx
end
end Go.Proofs.YtbhgpegcdiohlaaGreatDoor.Tr
