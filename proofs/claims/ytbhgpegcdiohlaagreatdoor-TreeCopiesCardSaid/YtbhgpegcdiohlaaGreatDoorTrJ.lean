import Derived.Test.YtbhgpegcdiohlaaGreatDoorLvU
import Derived.Deep.RegionHeld3
namespace Go.Proofs.YtbhgpegcdiohlaaGreatDoor.Tr
open Go Go.RowKit Go.Proofs
set_option linter.unusedVariables false
set_option maxRecDepth 100000
set_option maxHeartbeats 4000000
theorem eqB_comm {α : Type} (x y : α) : eqB x y = eqB y x := by
  unfold eqB
  congr 1
  exact propext ⟨Eq.symm, Eq.symm⟩
theorem S9 {N : Nat} {w0 w w' : World} (hb : Below w.heap.size w w') (hN : w0.heap.size = N) {a0 a1 a2 a3 a4 a5 a6 a7 a8 : Addr} {v0 v1 v2 v3 v4 v5 v6 v7 v8 : Value} (h : Below N w0 w ∧ w.cell? a0 = some v0 ∧ w.cell? a1 = some v1 ∧ w.cell? a2 = some v2 ∧ w.cell? a3 = some v3 ∧ w.cell? a4 = some v4 ∧ w.cell? a5 = some v5 ∧ w.cell? a6 = some v6 ∧ w.cell? a7 = some v7 ∧ w.cell? a8 = some v8) : Below N w0 w' ∧ w'.cell? a0 = some v0 ∧ w'.cell? a1 = some v1 ∧ w'.cell? a2 = some v2 ∧ w'.cell? a3 = some v3 ∧ w'.cell? a4 = some v4 ∧ w'.cell? a5 = some v5 ∧ w'.cell? a6 = some v6 ∧ w'.cell? a7 = some v7 ∧ w'.cell? a8 = some v8 := by
  subst hN
  obtain ⟨h, c0, c1, c2, c3, c4, c5, c6, c7, c8⟩ := h
  exact ⟨step h hb, keep hb c0, keep hb c1, keep hb c2, keep hb c3, keep hb c4, keep hb c5, keep hb c6, keep hb c7, keep hb c8⟩
theorem equality_walk (a b c : Mo) (p q r : Bool) (hp : eqB a b = p) (hq : eqB b c = q) (hr : eqB a c = r) (hl : p = false ∨ q = false ∨ r = true) (w : World) (u v z : Value) (ha : a.Is w u) (hb : b.Is w v) (hc : c.Is w z) : Calls Tryz.prog 10 #[u, v, z] w (Says true w) := by
  have hp' : eqB b a = p := (eqB_comm b a).trans hp
  have HA := Hd.mk ha
  have HB := Hd.mk hb
  have HC := Hd.mk hc
  obtain ⟨A0, l0, c0, B0, m0, d0, rfl, _, _⟩ := ha
  obtain ⟨A1, l1, c1, B1, m1, d1, rfl, _, _⟩ := hb
  obtain ⟨A2, l2, c2, B2, m2, d2, rfl, _, _⟩ := hc
  generalize a.n = n0 at *
  generalize b.n = n1 at *
  generalize c.n = n2 at *
  have P := Hd.mk hp
  have P' := Hd.mk hp'
  have Q := Hd.mk hq
  have R := Hd.mk hr
  clear hp hp' hq hr
  have b3 : Below w.heap.size w (((w.alloc (.cells #[.string n0, .slice A0 l0 c0, .slice B0 m0 d0] 25 (0, 0))).alloc (.cells #[.string n1, .slice A1 l1 c1, .slice B1 m1 d1] 25 (0, 0))).alloc (.cells #[.string n2, .slice A2 l2 c2, .slice B2 m2 d2] 25 (0, 0))) := up (up (up (up0 w) _) _) _
  have H3 := Hd.mk b3
  have S0 : (fun w' => Below (((w.alloc (.cells #[.string n0, .slice A0 l0 c0, .slice B0 m0 d0] 25 (0, 0))).alloc (.cells #[.string n1, .slice A1 l1 c1, .slice B1 m1 d1] 25 (0, 0))).alloc (.cells #[.string n2, .slice A2 l2 c2, .slice B2 m2 d2] 25 (0, 0))).heap.size (((w.alloc (.cells #[.string n0, .slice A0 l0 c0, .slice B0 m0 d0] 25 (0, 0))).alloc (.cells #[.string n1, .slice A1 l1 c1, .slice B1 m1 d1] 25 (0, 0))).alloc (.cells #[.string n2, .slice A2 l2 c2, .slice B2 m2 d2] 25 (0, 0))) w' ∧ w'.cell? ⟨w.heap.size, 0, none⟩ = some (.string n0) ∧ w'.cell? ⟨w.heap.size, 1, none⟩ = some (.slice A0 l0 c0) ∧ w'.cell? ⟨w.heap.size, 2, none⟩ = some (.slice B0 m0 d0) ∧ w'.cell? ⟨w.heap.size + 1, 0, none⟩ = some (.string n1) ∧ w'.cell? ⟨w.heap.size + 1, 1, none⟩ = some (.slice A1 l1 c1) ∧ w'.cell? ⟨w.heap.size + 1, 2, none⟩ = some (.slice B1 m1 d1) ∧ w'.cell? ⟨w.heap.size + 1 + 1, 0, none⟩ = some (.string n2) ∧ w'.cell? ⟨w.heap.size + 1 + 1, 1, none⟩ = some (.slice A2 l2 c2) ∧ w'.cell? ⟨w.heap.size + 1 + 1, 2, none⟩ = some (.slice B2 m2 d2)) (((w.alloc (.cells #[.string n0, .slice A0 l0 c0, .slice B0 m0 d0] 25 (0, 0))).alloc (.cells #[.string n1, .slice A1 l1 c1, .slice B1 m1 d1] 25 (0, 0))).alloc (.cells #[.string n2, .slice A2 l2 c2, .slice B2 m2 d2] 25 (0, 0))) := by
    have k0 := new_cell w #[.string n0, .slice A0 l0 c0, .slice B0 m0 d0] 25
    have k1 := new_cell (w.alloc (.cells #[.string n0, .slice A0 l0 c0, .slice B0 m0 d0] 25 (0, 0))) #[.string n1, .slice A1 l1 c1, .slice B1 m1 d1] 25
    have k2 := new_cell ((w.alloc (.cells #[.string n0, .slice A0 l0 c0, .slice B0 m0 d0] 25 (0, 0))).alloc (.cells #[.string n1, .slice A1 l1 c1, .slice B1 m1 d1] 25 (0, 0))) #[.string n2, .slice A2 l2 c2, .slice B2 m2 d2] 25
    have z1 : (w.alloc (.cells #[.string n0, .slice A0 l0 c0, .slice B0 m0 d0] 25 (0, 0))).heap.size = w.heap.size + 1 := by simp
    have z2 : ((w.alloc (.cells #[.string n0, .slice A0 l0 c0, .slice B0 m0 d0] 25 (0, 0))).alloc (.cells #[.string n1, .slice A1 l1 c1, .slice B1 m1 d1] 25 (0, 0))).heap.size = w.heap.size + 1 + 1 := by simp
    rw [z1] at k1
    rw [z2] at k2
    have t1 := up (up (up0 (w.alloc (.cells #[.string n0, .slice A0 l0 c0, .slice B0 m0 d0] 25 (0, 0)))) (.cells #[.string n1, .slice A1 l1 c1, .slice B1 m1 d1] 25 (0, 0))) (.cells #[.string n2, .slice A2 l2 c2, .slice B2 m2 d2] 25 (0, 0))
    have t2 := up (up0 ((w.alloc (.cells #[.string n0, .slice A0 l0 c0, .slice B0 m0 d0] 25 (0, 0))).alloc (.cells #[.string n1, .slice A1 l1 c1, .slice B1 m1 d1] 25 (0, 0)))) (.cells #[.string n2, .slice A2 l2 c2, .slice B2 m2 d2] 25 (0, 0))
    exact ⟨Below.refl _ _, keep t1 (k0 0), keep t1 (k0 1), keep t1 (k0 2), keep t2 (k1 0), keep t2 (k1 1), keep t2 (k1 2), k2 0, k2 1, k2 2⟩
  have H0 := Hd.mk S0
  clear S0 b3
  cases p <;> cases q <;> cases r <;> first | (exfalso; simp at hl; done) | skip
  all_goals
    clear hl
    go_enter Tryz.func10, Tryz.ntmps10
    go_wp2_with fail
    go_region_held3 (fun w' => Below (((w.alloc (.cells #[.string n0, .slice A0 l0 c0, .slice B0 m0 d0] 25 (0, 0))).alloc (.cells #[.string n1, .slice A1 l1 c1, .slice B1 m1 d1] 25 (0, 0))).alloc (.cells #[.string n2, .slice A2 l2 c2, .slice B2 m2 d2] 25 (0, 0))).heap.size (((w.alloc (.cells #[.string n0, .slice A0 l0 c0, .slice B0 m0 d0] 25 (0, 0))).alloc (.cells #[.string n1, .slice A1 l1 c1, .slice B1 m1 d1] 25 (0, 0))).alloc (.cells #[.string n2, .slice A2 l2 c2, .slice B2 m2 d2] 25 (0, 0))) w' ∧ w'.cell? ⟨w.heap.size, 0, none⟩ = some (.string n0) ∧ w'.cell? ⟨w.heap.size, 1, none⟩ = some (.slice A0 l0 c0) ∧ w'.cell? ⟨w.heap.size, 2, none⟩ = some (.slice B0 m0 d0) ∧ w'.cell? ⟨w.heap.size + 1, 0, none⟩ = some (.string n1) ∧ w'.cell? ⟨w.heap.size + 1, 1, none⟩ = some (.slice A1 l1 c1) ∧ w'.cell? ⟨w.heap.size + 1, 2, none⟩ = some (.slice B1 m1 d1) ∧ w'.cell? ⟨w.heap.size + 1 + 1, 0, none⟩ = some (.string n2) ∧ w'.cell? ⟨w.heap.size + 1 + 1, 1, none⟩ = some (.slice A2 l2 c2) ∧ w'.cell? ⟨w.heap.size + 1 + 1, 2, none⟩ = some (.slice B2 m2 d2)) (first | exact ⟨H0.out.1.drew, H0.out.2⟩ | exact S9 (by assumption) rfl (by assumption))
      (first
        | (go_at_call 17; (with_reducible refine ((live_any _).mono ?_)); (rintro e w3 ⟨rfl, hb3⟩))
        | (go_at_call 23; (with_reducible refine ((same_any a b _ _ _ (Mo.Is_below (step H3.out (And.left (by assumption))) HA.out) (Mo.Is_below (step H3.out (And.left (by assumption))) HB.out)).mono ?_)); (rw [P.out]; rintro e w3 ⟨rfl, hb3⟩))
        | (go_at_call 23; (with_reducible refine ((same_any b a _ _ _ (Mo.Is_below (step H3.out (And.left (by assumption))) HB.out) (Mo.Is_below (step H3.out (And.left (by assumption))) HA.out)).mono ?_)); (rw [P'.out]; rintro e w3 ⟨rfl, hb3⟩)))
    obtain ⟨hS, e0, e1, e2, e3, e4, e5, e6, e7, e8⟩ := (show Below _ _ _ ∧ _ from by assumption)
    have hW := step H3.out hS
    have y0 := World.block_lt_of_cell? _ _ e0
    have y1 := World.block_lt_of_cell? _ _ e3
    have y2 := World.block_lt_of_cell? _ _ e6
    clear hS
    go_wp2_with (first
      | (go_at_call 23; (with_reducible refine ((same_any a b _ _ _ (Mo.Is_below (by assumption) HA.out) (Mo.Is_below (by assumption) HB.out)).mono ?_)); (rw [P.out]; rintro e w4 ⟨rfl, hb4⟩); have hW4 := step hW hb4; have hs4 := hb4.size; have x0 := Nat.lt_of_lt_of_le y0 hs4; have x1 := Nat.lt_of_lt_of_le y1 hs4; have x2 := Nat.lt_of_lt_of_le y2 hs4; have f0 := keep hb4 e0; have f1 := keep hb4 e1; have f2 := keep hb4 e2; have f3 := keep hb4 e3; have f4 := keep hb4 e4; have f5 := keep hb4 e5; have f6 := keep hb4 e6; have f7 := keep hb4 e7; have f8 := keep hb4 e8; clear hs4 hb4)
      | (go_at_call 23; (with_reducible refine ((same_any b c _ _ _ (Mo.Is_below (by assumption) HB.out) (Mo.Is_below (by assumption) HC.out)).mono ?_)); (rw [Q.out]; rintro e w5 ⟨rfl, hb5⟩); have hW5 := step hW4 hb5; have hs5 := hb5.size; have u0 := Nat.lt_of_lt_of_le x0 hs5; have u1 := Nat.lt_of_lt_of_le x1 hs5; have u2 := Nat.lt_of_lt_of_le x2 hs5; have g0 := keep hb5 f0; have g1 := keep hb5 f1; have g2 := keep hb5 f2; have g3 := keep hb5 f3; have g4 := keep hb5 f4; have g5 := keep hb5 f5; have g6 := keep hb5 f6; have g7 := keep hb5 f7; have g8 := keep hb5 f8; clear hs5 hb5)
      | (go_at_call 23; (with_reducible refine ((same_any a c _ _ _ (Mo.Is_below (by assumption) HA.out) (Mo.Is_below (by assumption) HC.out)).mono ?_)); (rw [R.out]; rintro e w6 ⟨rfl, hb6⟩); have hW6 := step hW5 hb6; clear hb6))
    go_ret
    exact ⟨rfl, by assumption⟩
theorem tree_equality (a b c : Mo) (w : World) (u v z : Value) (ha : a.Is w u) (hb : b.Is w v) (hc : c.Is w z) : Calls Tryz.prog 10 #[u, v, z] w (Says true w) := by
  refine equality_walk a b c _ _ _ rfl rfl rfl ?_ w u v z ha hb hc
  by_cases h1 : a = b
  · by_cases h2 : b = c
    · exact .inr (.inr (by rw [h1, h2, eqB_self]))
    · exact .inr (.inl (eqB_ne h2))
  · exact .inl (eqB_ne h1)
end Go.Proofs.YtbhgpegcdiohlaaGreatDoor.Tr
