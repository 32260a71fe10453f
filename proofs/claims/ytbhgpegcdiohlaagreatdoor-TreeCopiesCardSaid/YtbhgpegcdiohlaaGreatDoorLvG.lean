import Derived.Test.YtbhgpegcdiohlaaGreatDoorLvF
import Derived.Deep.RegionHeld3
import Derived.BigRegion
import Derived.Deep.DeepCutAuto
namespace Go.Proofs.YtbhgpegcdiohlaaGreatDoor.Tr
open Go Go.RowKit Go.Proofs
set_option linter.unusedVariables false
set_option maxRecDepth 100000
set_option maxHeartbeats 2000000
theorem two_kids {op : Int} {x y : Ex} {w : World} {v : Value} (hv : (binE op x y).Is w v) : ∃ B o c, v = .agg #[.int .i64 7, .int .i64 op, .string ⟨#[]⟩, .string ⟨#[]⟩, .int .i64 0, .int .u64 0, .slice (some ⟨B, o, none⟩) 2 c] ∧ x.In w B o ∧ y.In w B (o + 7) := by
  unfold binE Ex.Is at hv
  obtain ⟨A, l, c, rfl, g1⟩ := hv
  obtain rfl : l = 2 := g1.1
  obtain ⟨B, o, rfl, g⟩ := g1.at (by omega)
  have i0 := g 0 x rfl
  have i1 := g 1 y rfl
  rw [show o + 0 * 7 = o by omega] at i0
  rw [show o + 1 * 7 = o + 7 by omega] at i1
  exact ⟨B, o, c, rfl, i0, i1⟩
theorem mark1 (w : World) : Calls Tryz.prog 110 #[.int .i64 1] w (SaysS ⟨#[43]⟩ w) := by
  have hi : ∀ w, (Instr.index 174 (.agg #[.string ⟨#[]⟩, .string ⟨#[43]⟩, .string ⟨#[45]⟩, .string ⟨#[42]⟩, .string ⟨#[47]⟩, .string ⟨#[37]⟩, .string ⟨#[61, 61]⟩, .string ⟨#[33, 61]⟩, .string ⟨#[60]⟩, .string ⟨#[60, 61]⟩, .string ⟨#[62]⟩, .string ⟨#[62, 61]⟩, .string ⟨#[38, 38]⟩, .string ⟨#[124, 124]⟩]) (.int .i64 1)).run Tryz.prog w = .ok (.string ⟨#[43]⟩) w := fun _ => by kernel_rfl
  go_enter Tryz.func110, Tryz.ntmps110
  go_wp2
  go_ret
  exact ⟨rfl, up0 _⟩
theorem mark3 (w : World) : Calls Tryz.prog 110 #[.int .i64 3] w (SaysS ⟨#[42]⟩ w) := by
  have hi : ∀ w, (Instr.index 174 (.agg #[.string ⟨#[]⟩, .string ⟨#[43]⟩, .string ⟨#[45]⟩, .string ⟨#[42]⟩, .string ⟨#[47]⟩, .string ⟨#[37]⟩, .string ⟨#[61, 61]⟩, .string ⟨#[33, 61]⟩, .string ⟨#[60]⟩, .string ⟨#[60, 61]⟩, .string ⟨#[62]⟩, .string ⟨#[62, 61]⟩, .string ⟨#[38, 38]⟩, .string ⟨#[124, 124]⟩]) (.int .i64 3)).run Tryz.prog w = .ok (.string ⟨#[42]⟩) w := fun _ => by kernel_rfl
  go_enter Tryz.func110, Tryz.ntmps110
  go_wp2
  go_ret
  exact ⟨rfl, up0 _⟩
theorem S21 {N : Nat} {w0 w w' : World} (hb : Below w.heap.size w w') (hN : w0.heap.size = N) {a0 a1 a2 a3 a4 a5 a6 a7 a8 a9 a10 a11 a12 a13 a14 a15 a16 a17 a18 a19 a20 : Addr} {v0 v1 v2 v3 v4 v5 v6 v7 v8 v9 v10 v11 v12 v13 v14 v15 v16 v17 v18 v19 v20 : Value} (h : Below N w0 w ∧ w.cell? a0 = some v0 ∧ w.cell? a1 = some v1 ∧ w.cell? a2 = some v2 ∧ w.cell? a3 = some v3 ∧ w.cell? a4 = some v4 ∧ w.cell? a5 = some v5 ∧ w.cell? a6 = some v6 ∧ w.cell? a7 = some v7 ∧ w.cell? a8 = some v8 ∧ w.cell? a9 = some v9 ∧ w.cell? a10 = some v10 ∧ w.cell? a11 = some v11 ∧ w.cell? a12 = some v12 ∧ w.cell? a13 = some v13 ∧ w.cell? a14 = some v14 ∧ w.cell? a15 = some v15 ∧ w.cell? a16 = some v16 ∧ w.cell? a17 = some v17 ∧ w.cell? a18 = some v18 ∧ w.cell? a19 = some v19 ∧ w.cell? a20 = some v20) : Below N w0 w' ∧ w'.cell? a0 = some v0 ∧ w'.cell? a1 = some v1 ∧ w'.cell? a2 = some v2 ∧ w'.cell? a3 = some v3 ∧ w'.cell? a4 = some v4 ∧ w'.cell? a5 = some v5 ∧ w'.cell? a6 = some v6 ∧ w'.cell? a7 = some v7 ∧ w'.cell? a8 = some v8 ∧ w'.cell? a9 = some v9 ∧ w'.cell? a10 = some v10 ∧ w'.cell? a11 = some v11 ∧ w'.cell? a12 = some v12 ∧ w'.cell? a13 = some v13 ∧ w'.cell? a14 = some v14 ∧ w'.cell? a15 = some v15 ∧ w'.cell? a16 = some v16 ∧ w'.cell? a17 = some v17 ∧ w'.cell? a18 = some v18 ∧ w'.cell? a19 = some v19 ∧ w'.cell? a20 = some v20 := by
  subst hN
  obtain ⟨h, c0, c1, c2, c3, c4, c5, c6, c7, c8, c9, c10, c11, c12, c13, c14, c15, c16, c17, c18, c19, c20⟩ := h
  exact ⟨step h hb, keep hb c0, keep hb c1, keep hb c2, keep hb c3, keep hb c4, keep hb c5, keep hb c6, keep hb c7, keep hb c8, keep hb c9, keep hb c10, keep hb c11, keep hb c12, keep hb c13, keep hb c14, keep hb c15, keep hb c16, keep hb c17, keep hb c18, keep hb c19, keep hb c20⟩

theorem text_bin (op lv p0 p1 at_ : Int) (mk sx sy : ByteArray) (x y : Ex) (hl : lvl 7 op = lv) (hat : ¬ lv < at_) (hp0 : plc 7 op 0 = p0) (hp1 : plc 7 op 1 = p1) (hm : ∀ w, Calls Tryz.prog 110 #[.int .i64 op] w (SaysS mk w)) (hx : TextIs x p0 sx) (hy : TextIs y p1 sy) (hlen : sx.size + sy.size + mk.size ≤ 1000) :
    TextIs (binE op x y) at_ (sx ++ ⟨#[32]⟩ ++ mk ++ ⟨#[32]⟩ ++ sy) := by
  have z1 : (9223372036854775807 < sx.size + 1) = False := eq_false (by omega)
  have z2 : (9223372036854775807 < sx.size + 1 + mk.size) = False := eq_false (by omega)
  have z3 : (9223372036854775807 < sx.size + 1 + mk.size + 1) = False := eq_false (by omega)
  have z4 : (9223372036854775807 < sx.size + 1 + mk.size + 1 + sy.size) = False := eq_false (by omega)
  have hd : decide (lv < at_) = false := decide_eq_false hat
  clear hat hlen
  intro w v hv
  obtain ⟨B, o, c, rfl, i0, i1⟩ := two_kids hv
  clear hv
  obtain ⟨x0, x1, x2, x3, x4, x5, x6, x7, x8, a0, a1, a2, a3, a4, a5, a6, ax⟩ := Ex.In_Is i0
  obtain ⟨y0, y1, y2, y3, y4, y5, y6, y7, y8, b0, b1, b2, b3, b4, b5, b6, bx⟩ := Ex.In_Is i1
  rw [show o + 7 + 1 = o + 8 by omega] at b1
  rw [show o + 7 + 2 = o + 9 by omega] at b2
  rw [show o + 7 + 3 = o + 10 by omega] at b3
  rw [show o + 7 + 4 = o + 11 by omega] at b4
  rw [show o + 7 + 5 = o + 12 by omega] at b5
  rw [show o + 7 + 6 = o + 13 by omega] at b6
  have AX := Hd.mk ax
  have BX := Hd.mk bx
  have lt1 : B < w.heap.size := World.block_lt_of_cell? w _ a0
  clear i0 i1 ax bx
  have L := Hd.mk hl
  have P0 := Hd.mk hp0
  have P1 := Hd.mk hp1
  have M := Hd.mk hm
  have X : Hd (∀ w', Below w.heap.size w w' → Calls Tryz.prog 53 #[.agg #[.int .i64 x0, .int .i64 x1, .string x2, .string x3, .int .i64 x4, .int .u64 x5, .slice x6 x7 x8], .int .i64 p0] w' (SaysS sx w')) := ⟨fun w' hb => hx w' _ (Ex.Is_below hb AX.out)⟩
  have Y : Hd (∀ w', Below w.heap.size w w' → Calls Tryz.prog 53 #[.agg #[.int .i64 y0, .int .i64 y1, .string y2, .string y3, .int .i64 y4, .int .u64 y5, .slice y6 y7 y8], .int .i64 p1] w' (SaysS sy w')) := ⟨fun w' hb => hy w' _ (Ex.Is_below hb BX.out)⟩
  clear hl hp0 hp1 hm hx hy
  go_enter Tryz.func53, Tryz.ntmps53
  go_wp2_with (first
    | (go_at_call 89; (with_reducible refine ((level_any 7 op _ _ _ _ _ _).mono ?_)); (rw [L.out]; rintro e w1 ⟨rfl, hb1⟩; have HB1 := Hd.mk hb1; have hc1 := bcell hb1; have hs1 := bsize1 rfl hb1; clear hb1)))
  have S0 : (fun w' => Below w1.heap.size w1 w' ∧ w'.cell? ⟨w.heap.size, 0, none⟩ = some (.int .i64 7) ∧ w'.cell? ⟨w.heap.size, 1, none⟩ = some (.int .i64 op) ∧ w'.cell? ⟨w.heap.size, 2, none⟩ = some (.string ⟨#[]⟩) ∧ w'.cell? ⟨w.heap.size, 3, none⟩ = some (.string ⟨#[]⟩) ∧ w'.cell? ⟨w.heap.size, 4, none⟩ = some (.int .i64 0) ∧ w'.cell? ⟨w.heap.size, 5, none⟩ = some (.int .u64 0) ∧ w'.cell? ⟨w.heap.size, 6, none⟩ = some (.slice (some ⟨B, o, none⟩) 2 c) ∧ w'.cell? ⟨B, o, none⟩ = some (.int .i64 x0) ∧ w'.cell? ⟨B, o + 1, none⟩ = some (.int .i64 x1) ∧ w'.cell? ⟨B, o + 2, none⟩ = some (.string x2) ∧ w'.cell? ⟨B, o + 3, none⟩ = some (.string x3) ∧ w'.cell? ⟨B, o + 4, none⟩ = some (.int .i64 x4) ∧ w'.cell? ⟨B, o + 5, none⟩ = some (.int .u64 x5) ∧ w'.cell? ⟨B, o + 6, none⟩ = some (.slice x6 x7 x8) ∧ w'.cell? ⟨B, o + 7, none⟩ = some (.int .i64 y0) ∧ w'.cell? ⟨B, o + 8, none⟩ = some (.int .i64 y1) ∧ w'.cell? ⟨B, o + 9, none⟩ = some (.string y2) ∧ w'.cell? ⟨B, o + 10, none⟩ = some (.string y3) ∧ w'.cell? ⟨B, o + 11, none⟩ = some (.int .i64 y4) ∧ w'.cell? ⟨B, o + 12, none⟩ = some (.int .u64 y5) ∧ w'.cell? ⟨B, o + 13, none⟩ = some (.slice y6 y7 y8)) w1 := by
    have hw := step (up (up0 w) _) HB1.out
    exact ⟨Below.refl _ _, keep HB1.out (new_cell w _ _ 0), keep HB1.out (new_cell w _ _ 1), keep HB1.out (new_cell w _ _ 2), keep HB1.out (new_cell w _ _ 3), keep HB1.out (new_cell w _ _ 4), keep HB1.out (new_cell w _ _ 5), keep HB1.out (new_cell w _ _ 6), keep hw a0, keep hw a1, keep hw a2, keep hw a3, keep hw a4, keep hw a5, keep hw a6, keep hw b0, keep hw b1, keep hw b2, keep hw b3, keep hw b4, keep hw b5, keep hw b6⟩
  have H0 := Hd.mk S0
  clear S0 a0 a1 a2 a3 a4 a5 a6 b0 b1 b2 b3 b4 b5 b6 hc1
  go_region_held3 (fun w' => Below w1.heap.size w1 w' ∧ w'.cell? ⟨w.heap.size, 0, none⟩ = some (.int .i64 7) ∧ w'.cell? ⟨w.heap.size, 1, none⟩ = some (.int .i64 op) ∧ w'.cell? ⟨w.heap.size, 2, none⟩ = some (.string ⟨#[]⟩) ∧ w'.cell? ⟨w.heap.size, 3, none⟩ = some (.string ⟨#[]⟩) ∧ w'.cell? ⟨w.heap.size, 4, none⟩ = some (.int .i64 0) ∧ w'.cell? ⟨w.heap.size, 5, none⟩ = some (.int .u64 0) ∧ w'.cell? ⟨w.heap.size, 6, none⟩ = some (.slice (some ⟨B, o, none⟩) 2 c) ∧ w'.cell? ⟨B, o, none⟩ = some (.int .i64 x0) ∧ w'.cell? ⟨B, o + 1, none⟩ = some (.int .i64 x1) ∧ w'.cell? ⟨B, o + 2, none⟩ = some (.string x2) ∧ w'.cell? ⟨B, o + 3, none⟩ = some (.string x3) ∧ w'.cell? ⟨B, o + 4, none⟩ = some (.int .i64 x4) ∧ w'.cell? ⟨B, o + 5, none⟩ = some (.int .u64 x5) ∧ w'.cell? ⟨B, o + 6, none⟩ = some (.slice x6 x7 x8) ∧ w'.cell? ⟨B, o + 7, none⟩ = some (.int .i64 y0) ∧ w'.cell? ⟨B, o + 8, none⟩ = some (.int .i64 y1) ∧ w'.cell? ⟨B, o + 9, none⟩ = some (.string y2) ∧ w'.cell? ⟨B, o + 10, none⟩ = some (.string y3) ∧ w'.cell? ⟨B, o + 11, none⟩ = some (.int .i64 y4) ∧ w'.cell? ⟨B, o + 12, none⟩ = some (.int .u64 y5) ∧ w'.cell? ⟨B, o + 13, none⟩ = some (.slice y6 y7 y8)) (first | exact ⟨H0.out.1.drew, H0.out.2⟩ | exact S21 (by assumption) rfl (by assumption) | (trace_state; fail))
    (first
      | (go_at_call 109; (with_reducible refine ((place_any 7 op _ _ _ _ _ 0 _).mono ?_)); (rw [P0.out]; rintro e w3 ⟨rfl, hb3⟩))
      | (go_at_call 109; (with_reducible refine ((place_any 7 op _ _ _ _ _ 1 _).mono ?_)); (rw [P1.out]; rintro e w3 ⟨rfl, hb3⟩))
      | (go_at_call 53; (with_reducible refine ((X.out _ (step (step (up (up0 _) _) HB1.out) (And.left (by assumption)))).mono ?_)); (rintro e w3 ⟨rfl, hb3⟩))
      | (go_at_call 53; (with_reducible refine ((Y.out _ (step (step (up (up0 _) _) HB1.out) (And.left (by assumption)))).mono ?_)); (rintro e w3 ⟨rfl, hb3⟩))
      | (go_at_call 110; (with_reducible refine ((M.out _).mono ?_)); (rintro e w3 ⟨rfl, hb3⟩)))
  go_wp2_with fail
  go_ret
  exact ⟨rfl, step (step (up (up0 _) _) HB1.out) (And.left (by assumption))⟩
theorem text_paren (op lv at_ : Int) (s : ByteArray) (x y : Ex) (hl : lvl 7 op = lv) (hat : lv < at_) (hx : TextIs (binE op x y) 1 s) (hs : s.size ≤ 1000) : TextIs (binE op x y) at_ (⟨#[40]⟩ ++ s ++ ⟨#[41]⟩) := by
  intro w v hv
  have hv' := hv
  obtain ⟨B, o, c, rfl, i0, i1⟩ := two_kids hv
  clear hv i0 i1
  have z1 : (9223372036854775807 < 1 + s.size) = False := eq_false (by omega)
  have z2 : (9223372036854775807 < 1 + s.size + 1) = False := eq_false (by omega)
  have hd : decide (lv < at_) = true := decide_eq_true hat
  have L := Hd.mk hl
  have X : Hd (∀ w', Below w.heap.size w w' → Calls Tryz.prog 53 #[.agg #[.int .i64 7, .int .i64 op, .string ⟨#[]⟩, .string ⟨#[]⟩, .int .i64 0, .int .u64 0, .slice (some ⟨B, o, none⟩) 2 c], .int .i64 1] w' (SaysS s w')) := ⟨fun w' hb => hx w' _ (Ex.Is_below hb hv')⟩
  clear hl hx hv' hs
  go_enter Tryz.func53, Tryz.ntmps53
  go_wp2_with (first
    | (go_at_call 89; (with_reducible refine ((level_any 7 op _ _ _ _ _ _).mono ?_)); (rw [L.out]; rintro e w1 ⟨rfl, hb1⟩; have HB1 := Hd.mk hb1; have hc1 := bcell hb1; have hs1 := bsize1 rfl hb1; clear hb1))
    | (go_at_call 53; (with_reducible refine ((X.out _ (step (up (up0 _) _) HB1.out)).mono ?_)); (rintro e w3 ⟨rfl, hb3⟩; have HB3 := Hd.mk hb3; clear hb3)))
  go_ret
  exact ⟨rfl, step (step (up (up0 _) _) HB1.out) HB3.out⟩
def T1 : Ex := binE 1 (litE 1) (litE 2)
def T2 : Ex := binE 3 T1 (litE 3)
theorem text_t1 : TextIs T1 1 ⟨#[49, 32, 43, 32, 50]⟩ := text_bin 1 4 4 5 1 ⟨#[43]⟩ ⟨#[49]⟩ ⟨#[50]⟩ _ _ (by decide) (by decide) (by decide) (by decide) mark1 (text_lit1 4 (by decide)) (text_lit2 5 (by decide)) (by decide)
theorem text_t1p : TextIs T1 5 ⟨#[40, 49, 32, 43, 32, 50, 41]⟩ := text_paren 1 4 5 _ _ _ (by decide) (by decide) text_t1 (by decide)
theorem text_t2 : TextIs T2 1 ⟨#[40, 49, 32, 43, 32, 50, 41, 32, 42, 32, 51]⟩ := text_bin 3 5 5 6 1 ⟨#[42]⟩ ⟨#[40, 49, 32, 43, 32, 50, 41]⟩ ⟨#[51]⟩ _ _ (by decide) (by decide) (by decide) (by decide) mark3 text_t1p (text_lit3 6 (by decide)) (by decide)
theorem t2_ok : ExprOk T2 := expr_bin 3 _ _ (by decide) (by decide) (expr_bin 1 _ _ (by decide) (by decide) (expr_lit 1 (by decide)) (expr_lit 2 (by decide))) (expr_lit 3 (by decide))
theorem t2_deep : deepE T2 1 0 ≤ 32 := by decide +kernel
theorem big_deep : deepE (litE 9223372036854775808) 1 0 ≤ 32 := by decide +kernel
theorem text_live1 (v : Value) (w : World) (hx : T2.Is w v) : Calls Tryz.prog 20 #[v] w fun e w' => e = .returned (.tuple #[.string ⟨#[40, 49, 32, 43, 32, 50, 41, 32, 42, 32, 51]⟩, .int .i64 0]) ∧ Below w.heap.size w w' := text_ok T2 _ v w hx t2_deep t2_ok text_t2
theorem text_live2 (v : Value) (w : World) (hx : (litE 9223372036854775808).Is w v) : Calls Tryz.prog 20 #[v] w fun e w' => e = .returned (.tuple #[.string ⟨#[]⟩, .int .i64 1]) ∧ Below w.heap.size w w' := text_no _ 1 (by decide) v w hx big_deep expr_big
end Go.Proofs.YtbhgpegcdiohlaaGreatDoor.Tr
