import Derived.Test.YtbhgpegcdiohlaaGreatDoorRtI
import Derived.Test.YtbhgpegcdiohlaaGreatDoorRrM
import Derived.Test.YtbhgpegcdiohlaaGreatDoorLvU
import Derived.Deep.RegionHeld3
namespace Go.Proofs.YtbhgpegcdiohlaaGreatDoor.Tr
open Go Go.RowKit Go.Proofs
set_option linter.unusedVariables false
set_option maxRecDepth 100000
set_option maxHeartbeats 8000000
theorem S10 {N : Nat} {w0 w w' : World} (hb : Below w.heap.size w w') (hN : w0.heap.size = N) {a0 a1 a2 a3 a4 a5 a6 a7 a8 a9 : Addr} {v0 v1 v2 v3 v4 v5 v6 v7 v8 v9 : Value} (h : Below N w0 w ∧ w.cell? a0 = some v0 ∧ w.cell? a1 = some v1 ∧ w.cell? a2 = some v2 ∧ w.cell? a3 = some v3 ∧ w.cell? a4 = some v4 ∧ w.cell? a5 = some v5 ∧ w.cell? a6 = some v6 ∧ w.cell? a7 = some v7 ∧ w.cell? a8 = some v8 ∧ w.cell? a9 = some v9) : Below N w0 w' ∧ w'.cell? a0 = some v0 ∧ w'.cell? a1 = some v1 ∧ w'.cell? a2 = some v2 ∧ w'.cell? a3 = some v3 ∧ w'.cell? a4 = some v4 ∧ w'.cell? a5 = some v5 ∧ w'.cell? a6 = some v6 ∧ w'.cell? a7 = some v7 ∧ w'.cell? a8 = some v8 ∧ w'.cell? a9 = some v9 := by
  subst hN
  obtain ⟨h, c0, c1, c2, c3, c4, c5, c6, c7, c8, c9⟩ := h
  exact ⟨step h hb, keep hb c0, keep hb c1, keep hb c2, keep hb c3, keep hb c4, keep hb c5, keep hb c6, keep hb c7, keep hb c8, keep hb c9⟩
theorem tree_rights (a : Mo) (e : Ex) (wa : a.Wf) (we : e.Wf) (w : World) (va ve : Value) (ha : a.Is w va) (he : e.Is w ve) : Calls Tryz.prog 3 #[va, ve] w (Says true w) := by
  have HA := Hd.mk ha
  have HE := Hd.mk he
  obtain ⟨A0, l0, c0, B0, m0, d0, rfl, _, _⟩ := ha
  have e1 : ∃ k o s r t b A l c, ve = .agg #[.int .i64 k, .int .i64 o, .string s, .string r, .int .i64 t, .int .u64 b, .slice A l c] := by
    cases e
    unfold Ex.Is at he
    obtain ⟨A, l, c, h, _⟩ := he
    exact ⟨_, _, _, _, _, _, _, _, _, h⟩
  clear he
  obtain ⟨k2, o2, s2, r2, t2, b2, A2, l2, c2, rfl⟩ := e1
  generalize hp : errM a = p
  generalize hq : errX e = q
  generalize a.n = n0 at *
  have X1 : Hd (∀ w', Below w.heap.size w w' → Calls Tryz.prog 13 #[.agg #[.string n0, .slice A0 l0 c0, .slice B0 m0 d0]] w' (SaysI p w')) := ⟨fun w' h => hp ▸ right_any a wa _ _ (Mo.Is_below h HA.out)⟩
  have X2 : Hd (∀ w', Below w.heap.size w w' → Calls Tryz.prog 14 #[.agg #[.string n0, .slice A0 l0 c0, .slice B0 m0 d0]] w' (SaysI p w')) := ⟨fun w' h => hp ▸ rright_any a wa _ _ (Mo.Is_below h HA.out)⟩
  have X3 : Hd (∀ w', Below w.heap.size w w' → Calls Tryz.prog 15 #[.agg #[.int .i64 k2, .int .i64 o2, .string s2, .string r2, .int .i64 t2, .int .u64 b2, .slice A2 l2 c2]] w' (SaysI q w')) := ⟨fun w' h => hq ▸ rightExpr_any e we _ _ (Ex.Is_below h HE.out)⟩
  have X4 : Hd (∀ w', Below w.heap.size w w' → Calls Tryz.prog 16 #[.agg #[.int .i64 k2, .int .i64 o2, .string s2, .string r2, .int .i64 t2, .int .u64 b2, .slice A2 l2 c2]] w' (SaysI q w')) := ⟨fun w' h => hq ▸ rrightExpr_any e we _ _ (Ex.Is_below h HE.out)⟩
  clear HA HE hp hq wa we
  have b4 : Below w.heap.size w ((w.alloc (.cells #[.string n0, .slice A0 l0 c0, .slice B0 m0 d0] 25 (0, 0))).alloc (.cells #[.int .i64 k2, .int .i64 o2, .string s2, .string r2, .int .i64 t2, .int .u64 b2, .slice A2 l2 c2] 31 (0, 0))) := up (up (up0 w) _) _
  have H4 := Hd.mk b4
  have S0 : (fun w' => Below ((w.alloc (.cells #[.string n0, .slice A0 l0 c0, .slice B0 m0 d0] 25 (0, 0))).alloc (.cells #[.int .i64 k2, .int .i64 o2, .string s2, .string r2, .int .i64 t2, .int .u64 b2, .slice A2 l2 c2] 31 (0, 0))).heap.size ((w.alloc (.cells #[.string n0, .slice A0 l0 c0, .slice B0 m0 d0] 25 (0, 0))).alloc (.cells #[.int .i64 k2, .int .i64 o2, .string s2, .string r2, .int .i64 t2, .int .u64 b2, .slice A2 l2 c2] 31 (0, 0))) w' ∧ w'.cell? ⟨w.heap.size, 0, none⟩ = some (.string n0) ∧ w'.cell? ⟨w.heap.size, 1, none⟩ = some (.slice A0 l0 c0) ∧ w'.cell? ⟨w.heap.size, 2, none⟩ = some (.slice B0 m0 d0) ∧ w'.cell? ⟨w.heap.size + 1, 0, none⟩ = some (.int .i64 k2) ∧ w'.cell? ⟨w.heap.size + 1, 1, none⟩ = some (.int .i64 o2) ∧ w'.cell? ⟨w.heap.size + 1, 2, none⟩ = some (.string s2) ∧ w'.cell? ⟨w.heap.size + 1, 3, none⟩ = some (.string r2) ∧ w'.cell? ⟨w.heap.size + 1, 4, none⟩ = some (.int .i64 t2) ∧ w'.cell? ⟨w.heap.size + 1, 5, none⟩ = some (.int .u64 b2) ∧ w'.cell? ⟨w.heap.size + 1, 6, none⟩ = some (.slice A2 l2 c2)) ((w.alloc (.cells #[.string n0, .slice A0 l0 c0, .slice B0 m0 d0] 25 (0, 0))).alloc (.cells #[.int .i64 k2, .int .i64 o2, .string s2, .string r2, .int .i64 t2, .int .u64 b2, .slice A2 l2 c2] 31 (0, 0))) := by
    have g0 := new_cell w #[.string n0, .slice A0 l0 c0, .slice B0 m0 d0] 25
    have g1 := new_cell (w.alloc (.cells #[.string n0, .slice A0 l0 c0, .slice B0 m0 d0] 25 (0, 0))) #[.int .i64 k2, .int .i64 o2, .string s2, .string r2, .int .i64 t2, .int .u64 b2, .slice A2 l2 c2] 31
    have z1 : (w.alloc (.cells #[.string n0, .slice A0 l0 c0, .slice B0 m0 d0] 25 (0, 0))).heap.size = w.heap.size + 1 := by simp
    rw [z1] at g1
    have y0 := up (up0 (w.alloc (.cells #[.string n0, .slice A0 l0 c0, .slice B0 m0 d0] 25 (0, 0)))) (.cells #[.int .i64 k2, .int .i64 o2, .string s2, .string r2, .int .i64 t2, .int .u64 b2, .slice A2 l2 c2] 31 (0, 0))
    exact ⟨Below.refl _ _, keep y0 (g0 0), keep y0 (g0 1), keep y0 (g0 2), g1 0, g1 1, g1 2, g1 3, g1 4, g1 5, g1 6⟩
  have H0 := Hd.mk S0
  clear S0 b4
  go_enter Tryz.func3, Tryz.ntmps3
  go_wp2_with fail
  go_region_held3 (fun w' => Below ((w.alloc (.cells #[.string n0, .slice A0 l0 c0, .slice B0 m0 d0] 25 (0, 0))).alloc (.cells #[.int .i64 k2, .int .i64 o2, .string s2, .string r2, .int .i64 t2, .int .u64 b2, .slice A2 l2 c2] 31 (0, 0))).heap.size ((w.alloc (.cells #[.string n0, .slice A0 l0 c0, .slice B0 m0 d0] 25 (0, 0))).alloc (.cells #[.int .i64 k2, .int .i64 o2, .string s2, .string r2, .int .i64 t2, .int .u64 b2, .slice A2 l2 c2] 31 (0, 0))) w' ∧ w'.cell? ⟨w.heap.size, 0, none⟩ = some (.string n0) ∧ w'.cell? ⟨w.heap.size, 1, none⟩ = some (.slice A0 l0 c0) ∧ w'.cell? ⟨w.heap.size, 2, none⟩ = some (.slice B0 m0 d0) ∧ w'.cell? ⟨w.heap.size + 1, 0, none⟩ = some (.int .i64 k2) ∧ w'.cell? ⟨w.heap.size + 1, 1, none⟩ = some (.int .i64 o2) ∧ w'.cell? ⟨w.heap.size + 1, 2, none⟩ = some (.string s2) ∧ w'.cell? ⟨w.heap.size + 1, 3, none⟩ = some (.string r2) ∧ w'.cell? ⟨w.heap.size + 1, 4, none⟩ = some (.int .i64 t2) ∧ w'.cell? ⟨w.heap.size + 1, 5, none⟩ = some (.int .u64 b2) ∧ w'.cell? ⟨w.heap.size + 1, 6, none⟩ = some (.slice A2 l2 c2)) (first | exact ⟨H0.out.1.drew, H0.out.2⟩ | exact S10 (by assumption) rfl (by assumption))
      (first
        | (go_at_call 17; (with_reducible refine ((live_any _).mono ?_)); (rintro e w3 ⟨rfl, hb3⟩))
        | (go_at_call 13; (with_reducible refine ((X1.out _ (step H4.out (And.left (by assumption)))).mono ?_)); (rintro e w3 ⟨rfl, hb3⟩))
        | (go_at_call 14; (with_reducible refine ((X2.out _ (step H4.out (And.left (by assumption)))).mono ?_)); (rintro e w3 ⟨rfl, hb3⟩))
        | (go_at_call 15; (with_reducible refine ((X3.out _ (step H4.out (And.left (by assumption)))).mono ?_)); (rintro e w3 ⟨rfl, hb3⟩))
        | (go_at_call 16; (with_reducible refine ((X4.out _ (step H4.out (And.left (by assumption)))).mono ?_)); (rintro e w3 ⟨rfl, hb3⟩)))
  all_goals
    obtain ⟨hS, _⟩ := (show Below _ _ _ ∧ _ from by assumption)
    have hW := step H4.out hS
    go_wp2_with fail
    go_ret
    exact ⟨rfl, hW⟩
end Go.Proofs.YtbhgpegcdiohlaaGreatDoor.Tr
