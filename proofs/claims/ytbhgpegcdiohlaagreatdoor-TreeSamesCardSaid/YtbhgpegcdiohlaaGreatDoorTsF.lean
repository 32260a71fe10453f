import Derived.Test.YtbhgpegcdiohlaaGreatDoorTsE
import Derived.Deep.RegionHeld3
namespace Go.Proofs.YtbhgpegcdiohlaaGreatDoor.Tr
open Go Go.RowKit Go.Proofs
set_option linter.unusedVariables false
set_option maxRecDepth 100000
set_option maxHeartbeats 8000000
theorem S20 {N : Nat} {w0 w w' : World} (hb : Below w.heap.size w w') (hN : w0.heap.size = N) {a0 a1 a2 a3 a4 a5 a6 a7 a8 a9 a10 a11 a12 a13 a14 a15 a16 a17 a18 a19 : Addr} {v0 v1 v2 v3 v4 v5 v6 v7 v8 v9 v10 v11 v12 v13 v14 v15 v16 v17 v18 v19 : Value} (h : Below N w0 w ∧ w.cell? a0 = some v0 ∧ w.cell? a1 = some v1 ∧ w.cell? a2 = some v2 ∧ w.cell? a3 = some v3 ∧ w.cell? a4 = some v4 ∧ w.cell? a5 = some v5 ∧ w.cell? a6 = some v6 ∧ w.cell? a7 = some v7 ∧ w.cell? a8 = some v8 ∧ w.cell? a9 = some v9 ∧ w.cell? a10 = some v10 ∧ w.cell? a11 = some v11 ∧ w.cell? a12 = some v12 ∧ w.cell? a13 = some v13 ∧ w.cell? a14 = some v14 ∧ w.cell? a15 = some v15 ∧ w.cell? a16 = some v16 ∧ w.cell? a17 = some v17 ∧ w.cell? a18 = some v18 ∧ w.cell? a19 = some v19) : Below N w0 w' ∧ w'.cell? a0 = some v0 ∧ w'.cell? a1 = some v1 ∧ w'.cell? a2 = some v2 ∧ w'.cell? a3 = some v3 ∧ w'.cell? a4 = some v4 ∧ w'.cell? a5 = some v5 ∧ w'.cell? a6 = some v6 ∧ w'.cell? a7 = some v7 ∧ w'.cell? a8 = some v8 ∧ w'.cell? a9 = some v9 ∧ w'.cell? a10 = some v10 ∧ w'.cell? a11 = some v11 ∧ w'.cell? a12 = some v12 ∧ w'.cell? a13 = some v13 ∧ w'.cell? a14 = some v14 ∧ w'.cell? a15 = some v15 ∧ w'.cell? a16 = some v16 ∧ w'.cell? a17 = some v17 ∧ w'.cell? a18 = some v18 ∧ w'.cell? a19 = some v19 := by
  subst hN
  obtain ⟨h, c0, c1, c2, c3, c4, c5, c6, c7, c8, c9, c10, c11, c12, c13, c14, c15, c16, c17, c18, c19⟩ := h
  exact ⟨step h hb, keep hb c0, keep hb c1, keep hb c2, keep hb c3, keep hb c4, keep hb c5, keep hb c6, keep hb c7, keep hb c8, keep hb c9, keep hb c10, keep hb c11, keep hb c12, keep hb c13, keep hb c14, keep hb c15, keep hb c16, keep hb c17, keep hb c18, keep hb c19⟩
theorem sames_walk (a b : Mo) (e f : Ex) (p q : Bool) (hp : eqB a b = p) (hq : eqB e f = q) (w : World) (va vb ve vf : Value) (ha : a.Is w va) (hb : b.Is w vb) (he : e.Is w ve) (hf : f.Is w vf) : Calls Tryz.prog 8 #[va, vb, ve, vf] w (Says true w) := by
  have HA := Hd.mk ha
  have HB := Hd.mk hb
  have HE := Hd.mk he
  have HF := Hd.mk hf
  obtain ⟨A0, l0, c0, B0, m0, d0, rfl, _, _⟩ := ha
  obtain ⟨A1, l1, c1, B1, m1, d1, rfl, _, _⟩ := hb
  have e1 : ∃ k o s r t b A l c, ve = .agg #[.int .i64 k, .int .i64 o, .string s, .string r, .int .i64 t, .int .u64 b, .slice A l c] := by
    cases e
    unfold Ex.Is at he
    obtain ⟨A, l, c, h, _⟩ := he
    exact ⟨_, _, _, _, _, _, _, _, _, h⟩
  have e2 : ∃ k o s r t b A l c, vf = .agg #[.int .i64 k, .int .i64 o, .string s, .string r, .int .i64 t, .int .u64 b, .slice A l c] := by
    cases f
    unfold Ex.Is at hf
    obtain ⟨A, l, c, h, _⟩ := hf
    exact ⟨_, _, _, _, _, _, _, _, _, h⟩
  clear he hf
  obtain ⟨k2, o2, s2, r2, t2, b2, A2, l2, c2, rfl⟩ := e1
  obtain ⟨k3, o3, s3, r3, t3, b3, A3, l3, c3, rfl⟩ := e2
  generalize a.n = n0 at *
  generalize b.n = n1 at *
  have XAB : Hd (∀ w', Below w.heap.size w w' → Calls Tryz.prog 23 #[.agg #[.string n0, .slice A0 l0 c0, .slice B0 m0 d0], .agg #[.string n1, .slice A1 l1 c1, .slice B1 m1 d1]] w' (Says p w')) := ⟨fun w' h => hp ▸ same_any a b _ _ _ (Mo.Is_below h HA.out) (Mo.Is_below h HB.out)⟩
  have YAB : Hd (∀ w', Below w.heap.size w w' → Calls Tryz.prog 24 #[.agg #[.string n0, .slice A0 l0 c0, .slice B0 m0 d0], .agg #[.string n1, .slice A1 l1 c1, .slice B1 m1 d1]] w' (Says p w')) := ⟨fun w' h => hp ▸ ref_same_any a b _ _ _ (Mo.Is_below h HA.out) (Mo.Is_below h HB.out)⟩
  have XEF : Hd (∀ w', Below w.heap.size w w' → Calls Tryz.prog 25 #[.agg #[.int .i64 k2, .int .i64 o2, .string s2, .string r2, .int .i64 t2, .int .u64 b2, .slice A2 l2 c2], .agg #[.int .i64 k3, .int .i64 o3, .string s3, .string r3, .int .i64 t3, .int .u64 b3, .slice A3 l3 c3]] w' (Says q w')) := ⟨fun w' h => hq ▸ sameEx e f _ _ _ (Ex.Is_below h HE.out) (Ex.Is_below h HF.out)⟩
  have YEF : Hd (∀ w', Below w.heap.size w w' → Calls Tryz.prog 26 #[.agg #[.int .i64 k2, .int .i64 o2, .string s2, .string r2, .int .i64 t2, .int .u64 b2, .slice A2 l2 c2], .agg #[.int .i64 k3, .int .i64 o3, .string s3, .string r3, .int .i64 t3, .int .u64 b3, .slice A3 l3 c3]] w' (Says q w')) := ⟨fun w' h => hq ▸ refEx e f _ _ _ (Ex.Is_below h HE.out) (Ex.Is_below h HF.out)⟩
  have XAA : Hd (∀ w', Below w.heap.size w w' → Calls Tryz.prog 23 #[.agg #[.string n0, .slice A0 l0 c0, .slice B0 m0 d0], .agg #[.string n0, .slice A0 l0 c0, .slice B0 m0 d0]] w' (Says true w')) := ⟨fun w' h => eqB_self a ▸ same_any a a _ _ _ (Mo.Is_below h HA.out) (Mo.Is_below h HA.out)⟩
  have XEE : Hd (∀ w', Below w.heap.size w w' → Calls Tryz.prog 25 #[.agg #[.int .i64 k2, .int .i64 o2, .string s2, .string r2, .int .i64 t2, .int .u64 b2, .slice A2 l2 c2], .agg #[.int .i64 k2, .int .i64 o2, .string s2, .string r2, .int .i64 t2, .int .u64 b2, .slice A2 l2 c2]] w' (Says true w')) := ⟨fun w' h => eqB_self e ▸ sameEx e e _ _ _ (Ex.Is_below h HE.out) (Ex.Is_below h HE.out)⟩
  clear HA HB HE HF hp hq
  have b4 : Below w.heap.size w ((((w.alloc (.cells #[.string n0, .slice A0 l0 c0, .slice B0 m0 d0] 25 (0, 0))).alloc (.cells #[.string n1, .slice A1 l1 c1, .slice B1 m1 d1] 25 (0, 0))).alloc (.cells #[.int .i64 k2, .int .i64 o2, .string s2, .string r2, .int .i64 t2, .int .u64 b2, .slice A2 l2 c2] 31 (0, 0))).alloc (.cells #[.int .i64 k3, .int .i64 o3, .string s3, .string r3, .int .i64 t3, .int .u64 b3, .slice A3 l3 c3] 31 (0, 0))) := up (up (up (up (up0 w) _) _) _) _
  have H4 := Hd.mk b4
  have S0 : (fun w' => Below ((((w.alloc (.cells #[.string n0, .slice A0 l0 c0, .slice B0 m0 d0] 25 (0, 0))).alloc (.cells #[.string n1, .slice A1 l1 c1, .slice B1 m1 d1] 25 (0, 0))).alloc (.cells #[.int .i64 k2, .int .i64 o2, .string s2, .string r2, .int .i64 t2, .int .u64 b2, .slice A2 l2 c2] 31 (0, 0))).alloc (.cells #[.int .i64 k3, .int .i64 o3, .string s3, .string r3, .int .i64 t3, .int .u64 b3, .slice A3 l3 c3] 31 (0, 0))).heap.size ((((w.alloc (.cells #[.string n0, .slice A0 l0 c0, .slice B0 m0 d0] 25 (0, 0))).alloc (.cells #[.string n1, .slice A1 l1 c1, .slice B1 m1 d1] 25 (0, 0))).alloc (.cells #[.int .i64 k2, .int .i64 o2, .string s2, .string r2, .int .i64 t2, .int .u64 b2, .slice A2 l2 c2] 31 (0, 0))).alloc (.cells #[.int .i64 k3, .int .i64 o3, .string s3, .string r3, .int .i64 t3, .int .u64 b3, .slice A3 l3 c3] 31 (0, 0))) w' ∧ w'.cell? ⟨w.heap.size, 0, none⟩ = some (.string n0) ∧ w'.cell? ⟨w.heap.size, 1, none⟩ = some (.slice A0 l0 c0) ∧ w'.cell? ⟨w.heap.size, 2, none⟩ = some (.slice B0 m0 d0) ∧ w'.cell? ⟨w.heap.size + 1, 0, none⟩ = some (.string n1) ∧ w'.cell? ⟨w.heap.size + 1, 1, none⟩ = some (.slice A1 l1 c1) ∧ w'.cell? ⟨w.heap.size + 1, 2, none⟩ = some (.slice B1 m1 d1) ∧ w'.cell? ⟨w.heap.size + 1 + 1, 0, none⟩ = some (.int .i64 k2) ∧ w'.cell? ⟨w.heap.size + 1 + 1, 1, none⟩ = some (.int .i64 o2) ∧ w'.cell? ⟨w.heap.size + 1 + 1, 2, none⟩ = some (.string s2) ∧ w'.cell? ⟨w.heap.size + 1 + 1, 3, none⟩ = some (.string r2) ∧ w'.cell? ⟨w.heap.size + 1 + 1, 4, none⟩ = some (.int .i64 t2) ∧ w'.cell? ⟨w.heap.size + 1 + 1, 5, none⟩ = some (.int .u64 b2) ∧ w'.cell? ⟨w.heap.size + 1 + 1, 6, none⟩ = some (.slice A2 l2 c2) ∧ w'.cell? ⟨w.heap.size + 1 + 1 + 1, 0, none⟩ = some (.int .i64 k3) ∧ w'.cell? ⟨w.heap.size + 1 + 1 + 1, 1, none⟩ = some (.int .i64 o3) ∧ w'.cell? ⟨w.heap.size + 1 + 1 + 1, 2, none⟩ = some (.string s3) ∧ w'.cell? ⟨w.heap.size + 1 + 1 + 1, 3, none⟩ = some (.string r3) ∧ w'.cell? ⟨w.heap.size + 1 + 1 + 1, 4, none⟩ = some (.int .i64 t3) ∧ w'.cell? ⟨w.heap.size + 1 + 1 + 1, 5, none⟩ = some (.int .u64 b3) ∧ w'.cell? ⟨w.heap.size + 1 + 1 + 1, 6, none⟩ = some (.slice A3 l3 c3)) ((((w.alloc (.cells #[.string n0, .slice A0 l0 c0, .slice B0 m0 d0] 25 (0, 0))).alloc (.cells #[.string n1, .slice A1 l1 c1, .slice B1 m1 d1] 25 (0, 0))).alloc (.cells #[.int .i64 k2, .int .i64 o2, .string s2, .string r2, .int .i64 t2, .int .u64 b2, .slice A2 l2 c2] 31 (0, 0))).alloc (.cells #[.int .i64 k3, .int .i64 o3, .string s3, .string r3, .int .i64 t3, .int .u64 b3, .slice A3 l3 c3] 31 (0, 0))) := by
    have g0 := new_cell w #[.string n0, .slice A0 l0 c0, .slice B0 m0 d0] 25
    have g1 := new_cell (w.alloc (.cells #[.string n0, .slice A0 l0 c0, .slice B0 m0 d0] 25 (0, 0))) #[.string n1, .slice A1 l1 c1, .slice B1 m1 d1] 25
    have g2 := new_cell ((w.alloc (.cells #[.string n0, .slice A0 l0 c0, .slice B0 m0 d0] 25 (0, 0))).alloc (.cells #[.string n1, .slice A1 l1 c1, .slice B1 m1 d1] 25 (0, 0))) #[.int .i64 k2, .int .i64 o2, .string s2, .string r2, .int .i64 t2, .int .u64 b2, .slice A2 l2 c2] 31
    have g3 := new_cell (((w.alloc (.cells #[.string n0, .slice A0 l0 c0, .slice B0 m0 d0] 25 (0, 0))).alloc (.cells #[.string n1, .slice A1 l1 c1, .slice B1 m1 d1] 25 (0, 0))).alloc (.cells #[.int .i64 k2, .int .i64 o2, .string s2, .string r2, .int .i64 t2, .int .u64 b2, .slice A2 l2 c2] 31 (0, 0))) #[.int .i64 k3, .int .i64 o3, .string s3, .string r3, .int .i64 t3, .int .u64 b3, .slice A3 l3 c3] 31
    have z1 : (w.alloc (.cells #[.string n0, .slice A0 l0 c0, .slice B0 m0 d0] 25 (0, 0))).heap.size = w.heap.size + 1 := by simp
    rw [z1] at g1
    have z2 : ((w.alloc (.cells #[.string n0, .slice A0 l0 c0, .slice B0 m0 d0] 25 (0, 0))).alloc (.cells #[.string n1, .slice A1 l1 c1, .slice B1 m1 d1] 25 (0, 0))).heap.size = w.heap.size + 1 + 1 := by simp
    rw [z2] at g2
    have z3 : (((w.alloc (.cells #[.string n0, .slice A0 l0 c0, .slice B0 m0 d0] 25 (0, 0))).alloc (.cells #[.string n1, .slice A1 l1 c1, .slice B1 m1 d1] 25 (0, 0))).alloc (.cells #[.int .i64 k2, .int .i64 o2, .string s2, .string r2, .int .i64 t2, .int .u64 b2, .slice A2 l2 c2] 31 (0, 0))).heap.size = w.heap.size + 1 + 1 + 1 := by simp
    rw [z3] at g3
    have y0 := up (up (up (up0 (w.alloc (.cells #[.string n0, .slice A0 l0 c0, .slice B0 m0 d0] 25 (0, 0)))) (.cells #[.string n1, .slice A1 l1 c1, .slice B1 m1 d1] 25 (0, 0))) (.cells #[.int .i64 k2, .int .i64 o2, .string s2, .string r2, .int .i64 t2, .int .u64 b2, .slice A2 l2 c2] 31 (0, 0))) (.cells #[.int .i64 k3, .int .i64 o3, .string s3, .string r3, .int .i64 t3, .int .u64 b3, .slice A3 l3 c3] 31 (0, 0))
    have y1 := up (up (up0 ((w.alloc (.cells #[.string n0, .slice A0 l0 c0, .slice B0 m0 d0] 25 (0, 0))).alloc (.cells #[.string n1, .slice A1 l1 c1, .slice B1 m1 d1] 25 (0, 0)))) (.cells #[.int .i64 k2, .int .i64 o2, .string s2, .string r2, .int .i64 t2, .int .u64 b2, .slice A2 l2 c2] 31 (0, 0))) (.cells #[.int .i64 k3, .int .i64 o3, .string s3, .string r3, .int .i64 t3, .int .u64 b3, .slice A3 l3 c3] 31 (0, 0))
    have y2 := up (up0 (((w.alloc (.cells #[.string n0, .slice A0 l0 c0, .slice B0 m0 d0] 25 (0, 0))).alloc (.cells #[.string n1, .slice A1 l1 c1, .slice B1 m1 d1] 25 (0, 0))).alloc (.cells #[.int .i64 k2, .int .i64 o2, .string s2, .string r2, .int .i64 t2, .int .u64 b2, .slice A2 l2 c2] 31 (0, 0)))) (.cells #[.int .i64 k3, .int .i64 o3, .string s3, .string r3, .int .i64 t3, .int .u64 b3, .slice A3 l3 c3] 31 (0, 0))
    exact ⟨Below.refl _ _, keep y0 (g0 0), keep y0 (g0 1), keep y0 (g0 2), keep y1 (g1 0), keep y1 (g1 1), keep y1 (g1 2), keep y2 (g2 0), keep y2 (g2 1), keep y2 (g2 2), keep y2 (g2 3), keep y2 (g2 4), keep y2 (g2 5), keep y2 (g2 6), g3 0, g3 1, g3 2, g3 3, g3 4, g3 5, g3 6⟩
  have H0 := Hd.mk S0
  clear S0 b4
  cases p <;> cases q
  all_goals
    go_enter Tryz.func8, Tryz.ntmps8
    go_wp2_with fail
    go_region_held3 (fun w' => Below ((((w.alloc (.cells #[.string n0, .slice A0 l0 c0, .slice B0 m0 d0] 25 (0, 0))).alloc (.cells #[.string n1, .slice A1 l1 c1, .slice B1 m1 d1] 25 (0, 0))).alloc (.cells #[.int .i64 k2, .int .i64 o2, .string s2, .string r2, .int .i64 t2, .int .u64 b2, .slice A2 l2 c2] 31 (0, 0))).alloc (.cells #[.int .i64 k3, .int .i64 o3, .string s3, .string r3, .int .i64 t3, .int .u64 b3, .slice A3 l3 c3] 31 (0, 0))).heap.size ((((w.alloc (.cells #[.string n0, .slice A0 l0 c0, .slice B0 m0 d0] 25 (0, 0))).alloc (.cells #[.string n1, .slice A1 l1 c1, .slice B1 m1 d1] 25 (0, 0))).alloc (.cells #[.int .i64 k2, .int .i64 o2, .string s2, .string r2, .int .i64 t2, .int .u64 b2, .slice A2 l2 c2] 31 (0, 0))).alloc (.cells #[.int .i64 k3, .int .i64 o3, .string s3, .string r3, .int .i64 t3, .int .u64 b3, .slice A3 l3 c3] 31 (0, 0))) w' ∧ w'.cell? ⟨w.heap.size, 0, none⟩ = some (.string n0) ∧ w'.cell? ⟨w.heap.size, 1, none⟩ = some (.slice A0 l0 c0) ∧ w'.cell? ⟨w.heap.size, 2, none⟩ = some (.slice B0 m0 d0) ∧ w'.cell? ⟨w.heap.size + 1, 0, none⟩ = some (.string n1) ∧ w'.cell? ⟨w.heap.size + 1, 1, none⟩ = some (.slice A1 l1 c1) ∧ w'.cell? ⟨w.heap.size + 1, 2, none⟩ = some (.slice B1 m1 d1) ∧ w'.cell? ⟨w.heap.size + 1 + 1, 0, none⟩ = some (.int .i64 k2) ∧ w'.cell? ⟨w.heap.size + 1 + 1, 1, none⟩ = some (.int .i64 o2) ∧ w'.cell? ⟨w.heap.size + 1 + 1, 2, none⟩ = some (.string s2) ∧ w'.cell? ⟨w.heap.size + 1 + 1, 3, none⟩ = some (.string r2) ∧ w'.cell? ⟨w.heap.size + 1 + 1, 4, none⟩ = some (.int .i64 t2) ∧ w'.cell? ⟨w.heap.size + 1 + 1, 5, none⟩ = some (.int .u64 b2) ∧ w'.cell? ⟨w.heap.size + 1 + 1, 6, none⟩ = some (.slice A2 l2 c2) ∧ w'.cell? ⟨w.heap.size + 1 + 1 + 1, 0, none⟩ = some (.int .i64 k3) ∧ w'.cell? ⟨w.heap.size + 1 + 1 + 1, 1, none⟩ = some (.int .i64 o3) ∧ w'.cell? ⟨w.heap.size + 1 + 1 + 1, 2, none⟩ = some (.string s3) ∧ w'.cell? ⟨w.heap.size + 1 + 1 + 1, 3, none⟩ = some (.string r3) ∧ w'.cell? ⟨w.heap.size + 1 + 1 + 1, 4, none⟩ = some (.int .i64 t3) ∧ w'.cell? ⟨w.heap.size + 1 + 1 + 1, 5, none⟩ = some (.int .u64 b3) ∧ w'.cell? ⟨w.heap.size + 1 + 1 + 1, 6, none⟩ = some (.slice A3 l3 c3)) (first | exact ⟨H0.out.1.drew, H0.out.2⟩ | exact S20 (by assumption) rfl (by assumption))
      (first
        | (go_at_call 17; (with_reducible refine ((live_any _).mono ?_)); (rintro e w3 ⟨rfl, hb3⟩))
        | (go_at_call 24; (with_reducible refine ((YAB.out _ (step H4.out (And.left (by assumption)))).mono ?_)); (rintro e w3 ⟨rfl, hb3⟩))
        | (go_at_call 26; (with_reducible refine ((YEF.out _ (step H4.out (And.left (by assumption)))).mono ?_)); (rintro e w3 ⟨rfl, hb3⟩))
        | (go_at_call 23; (with_reducible refine ((XAB.out _ (step H4.out (And.left (by assumption)))).mono ?_)); (rintro e w3 ⟨rfl, hb3⟩))
        | (go_at_call 23; (with_reducible refine ((XAA.out _ (step H4.out (And.left (by assumption)))).mono ?_)); (rintro e w3 ⟨rfl, hb3⟩))
        | (go_at_call 25; (with_reducible refine ((XEF.out _ (step H4.out (And.left (by assumption)))).mono ?_)); (rintro e w3 ⟨rfl, hb3⟩))
        | (go_at_call 25; (with_reducible refine ((XEE.out _ (step H4.out (And.left (by assumption)))).mono ?_)); (rintro e w3 ⟨rfl, hb3⟩)))
    all_goals
      obtain ⟨hS, _⟩ := (show Below _ _ _ ∧ _ from by assumption)
      have hW := step H4.out hS
      go_wp2_with fail
      go_ret
      exact ⟨rfl, hW⟩
theorem tree_sames (a b : Mo) (e f : Ex) (w : World) (va vb ve vf : Value) (ha : a.Is w va) (hb : b.Is w vb) (he : e.Is w ve) (hf : f.Is w vf) : Calls Tryz.prog 8 #[va, vb, ve, vf] w (Says true w) := sames_walk a b e f _ _ rfl rfl w va vb ve vf ha hb he hf
end Go.Proofs.YtbhgpegcdiohlaaGreatDoor.Tr
