import Derived.Test.YtbhgpegcdiohlaaGreatDoorLvG
import Derived.Deep.RegionHeld3
namespace Go.Proofs.YtbhgpegcdiohlaaGreatDoor.Tr
open Go Go.RowKit Go.Proofs
set_option linter.unusedVariables false
set_option maxRecDepth 100000
set_option maxHeartbeats 4000000
/-- the text of an expression at a level, in a world that meets Lw -/
def TextL (Lw : World → Prop) (x : Ex) (at_ : Int) (s : ByteArray) : Prop := ∀ (w : World) (v : Value), Lw w → x.Is w v → Calls Tryz.prog 53 #[v, .int .i64 at_] w (SaysS s w)
/-- what memory that is only made keeps -/
def Stays (Lw : World → Prop) : Prop := ∀ w w', Below w.heap.size w w' → Lw w → Lw w'
theorem concat_ok {a b : ByteArray} (h : a.size + b.size ≤ 9223372036854775807) : (9223372036854775807 < a.size + b.size) = False := eq_false (by omega)
def markB (op : Int) : ByteArray := if op = 1 then ⟨#[43]⟩ else if op = 2 then ⟨#[45]⟩ else if op = 3 then ⟨#[42]⟩ else if op = 4 then ⟨#[47]⟩ else if op = 5 then ⟨#[37]⟩ else if op = 6 then ⟨#[61, 61]⟩ else if op = 7 then ⟨#[33, 61]⟩ else if op = 8 then ⟨#[60]⟩ else if op = 9 then ⟨#[60, 61]⟩ else if op = 10 then ⟨#[62]⟩ else if op = 11 then ⟨#[62, 61]⟩ else if op = 12 then ⟨#[38, 38]⟩ else if op = 13 then ⟨#[124, 124]⟩ else ⟨#[]⟩
theorem mark_any (op : Int) (h1 : 1 ≤ op) (h2 : op ≤ 13) (w : World) : Calls Tryz.prog 110 #[.int .i64 op] w (SaysS (markB op) w) := by
  have : op = 1 ∨ op = 2 ∨ op = 3 ∨ op = 4 ∨ op = 5 ∨ op = 6 ∨ op = 7 ∨ op = 8 ∨ op = 9 ∨ op = 10 ∨ op = 11 ∨ op = 12 ∨ op = 13 := by omega
  rcases this with rfl | rfl | rfl | rfl | rfl | rfl | rfl | rfl | rfl | rfl | rfl | rfl | rfl
  · have hi : ∀ w, (Instr.index 174 (.agg #[.string ⟨#[]⟩, .string ⟨#[43]⟩, .string ⟨#[45]⟩, .string ⟨#[42]⟩, .string ⟨#[47]⟩, .string ⟨#[37]⟩, .string ⟨#[61, 61]⟩, .string ⟨#[33, 61]⟩, .string ⟨#[60]⟩, .string ⟨#[60, 61]⟩, .string ⟨#[62]⟩, .string ⟨#[62, 61]⟩, .string ⟨#[38, 38]⟩, .string ⟨#[124, 124]⟩]) (.int .i64 1)).run Tryz.prog w = .ok (.string ⟨#[43]⟩) w := fun _ => by kernel_rfl
    go_enter Tryz.func110, Tryz.ntmps110
    go_wp2
    go_ret
    exact ⟨rfl, up0 _⟩
  · have hi : ∀ w, (Instr.index 174 (.agg #[.string ⟨#[]⟩, .string ⟨#[43]⟩, .string ⟨#[45]⟩, .string ⟨#[42]⟩, .string ⟨#[47]⟩, .string ⟨#[37]⟩, .string ⟨#[61, 61]⟩, .string ⟨#[33, 61]⟩, .string ⟨#[60]⟩, .string ⟨#[60, 61]⟩, .string ⟨#[62]⟩, .string ⟨#[62, 61]⟩, .string ⟨#[38, 38]⟩, .string ⟨#[124, 124]⟩]) (.int .i64 2)).run Tryz.prog w = .ok (.string ⟨#[45]⟩) w := fun _ => by kernel_rfl
    go_enter Tryz.func110, Tryz.ntmps110
    go_wp2
    go_ret
    exact ⟨rfl, up0 _⟩
  · have hi : ∀ w, (Instr.index 174 (.agg #[.string ⟨#[]⟩, .string ⟨#[43]⟩, .string ⟨#[45]⟩, .string ⟨#[42]⟩, .string ⟨#[47]⟩, .string ⟨#[37]⟩, .string ⟨#[61, 61]⟩, .string ⟨#[33, 61]⟩, .string ⟨#[60]⟩, .string ⟨#[60, 61]⟩, .string ⟨#[62]⟩, .string ⟨#[62, 61]⟩, .string ⟨#[38, 38]⟩, .string ⟨#[124, 124]⟩]) (.int .i64 3)).run Tryz.prog w = .ok (.string ⟨#[42]⟩) w := fun _ => by kernel_rfl
    go_enter Tryz.func110, Tryz.ntmps110
    go_wp2
    go_ret
    exact ⟨rfl, up0 _⟩
  · have hi : ∀ w, (Instr.index 174 (.agg #[.string ⟨#[]⟩, .string ⟨#[43]⟩, .string ⟨#[45]⟩, .string ⟨#[42]⟩, .string ⟨#[47]⟩, .string ⟨#[37]⟩, .string ⟨#[61, 61]⟩, .string ⟨#[33, 61]⟩, .string ⟨#[60]⟩, .string ⟨#[60, 61]⟩, .string ⟨#[62]⟩, .string ⟨#[62, 61]⟩, .string ⟨#[38, 38]⟩, .string ⟨#[124, 124]⟩]) (.int .i64 4)).run Tryz.prog w = .ok (.string ⟨#[47]⟩) w := fun _ => by kernel_rfl
    go_enter Tryz.func110, Tryz.ntmps110
    go_wp2
    go_ret
    exact ⟨rfl, up0 _⟩
  · have hi : ∀ w, (Instr.index 174 (.agg #[.string ⟨#[]⟩, .string ⟨#[43]⟩, .string ⟨#[45]⟩, .string ⟨#[42]⟩, .string ⟨#[47]⟩, .string ⟨#[37]⟩, .string ⟨#[61, 61]⟩, .string ⟨#[33, 61]⟩, .string ⟨#[60]⟩, .string ⟨#[60, 61]⟩, .string ⟨#[62]⟩, .string ⟨#[62, 61]⟩, .string ⟨#[38, 38]⟩, .string ⟨#[124, 124]⟩]) (.int .i64 5)).run Tryz.prog w = .ok (.string ⟨#[37]⟩) w := fun _ => by kernel_rfl
    go_enter Tryz.func110, Tryz.ntmps110
    go_wp2
    go_ret
    exact ⟨rfl, up0 _⟩
  · have hi : ∀ w, (Instr.index 174 (.agg #[.string ⟨#[]⟩, .string ⟨#[43]⟩, .string ⟨#[45]⟩, .string ⟨#[42]⟩, .string ⟨#[47]⟩, .string ⟨#[37]⟩, .string ⟨#[61, 61]⟩, .string ⟨#[33, 61]⟩, .string ⟨#[60]⟩, .string ⟨#[60, 61]⟩, .string ⟨#[62]⟩, .string ⟨#[62, 61]⟩, .string ⟨#[38, 38]⟩, .string ⟨#[124, 124]⟩]) (.int .i64 6)).run Tryz.prog w = .ok (.string ⟨#[61, 61]⟩) w := fun _ => by kernel_rfl
    go_enter Tryz.func110, Tryz.ntmps110
    go_wp2
    go_ret
    exact ⟨rfl, up0 _⟩
  · have hi : ∀ w, (Instr.index 174 (.agg #[.string ⟨#[]⟩, .string ⟨#[43]⟩, .string ⟨#[45]⟩, .string ⟨#[42]⟩, .string ⟨#[47]⟩, .string ⟨#[37]⟩, .string ⟨#[61, 61]⟩, .string ⟨#[33, 61]⟩, .string ⟨#[60]⟩, .string ⟨#[60, 61]⟩, .string ⟨#[62]⟩, .string ⟨#[62, 61]⟩, .string ⟨#[38, 38]⟩, .string ⟨#[124, 124]⟩]) (.int .i64 7)).run Tryz.prog w = .ok (.string ⟨#[33, 61]⟩) w := fun _ => by kernel_rfl
    go_enter Tryz.func110, Tryz.ntmps110
    go_wp2
    go_ret
    exact ⟨rfl, up0 _⟩
  · have hi : ∀ w, (Instr.index 174 (.agg #[.string ⟨#[]⟩, .string ⟨#[43]⟩, .string ⟨#[45]⟩, .string ⟨#[42]⟩, .string ⟨#[47]⟩, .string ⟨#[37]⟩, .string ⟨#[61, 61]⟩, .string ⟨#[33, 61]⟩, .string ⟨#[60]⟩, .string ⟨#[60, 61]⟩, .string ⟨#[62]⟩, .string ⟨#[62, 61]⟩, .string ⟨#[38, 38]⟩, .string ⟨#[124, 124]⟩]) (.int .i64 8)).run Tryz.prog w = .ok (.string ⟨#[60]⟩) w := fun _ => by kernel_rfl
    go_enter Tryz.func110, Tryz.ntmps110
    go_wp2
    go_ret
    exact ⟨rfl, up0 _⟩
  · have hi : ∀ w, (Instr.index 174 (.agg #[.string ⟨#[]⟩, .string ⟨#[43]⟩, .string ⟨#[45]⟩, .string ⟨#[42]⟩, .string ⟨#[47]⟩, .string ⟨#[37]⟩, .string ⟨#[61, 61]⟩, .string ⟨#[33, 61]⟩, .string ⟨#[60]⟩, .string ⟨#[60, 61]⟩, .string ⟨#[62]⟩, .string ⟨#[62, 61]⟩, .string ⟨#[38, 38]⟩, .string ⟨#[124, 124]⟩]) (.int .i64 9)).run Tryz.prog w = .ok (.string ⟨#[60, 61]⟩) w := fun _ => by kernel_rfl
    go_enter Tryz.func110, Tryz.ntmps110
    go_wp2
    go_ret
    exact ⟨rfl, up0 _⟩
  · have hi : ∀ w, (Instr.index 174 (.agg #[.string ⟨#[]⟩, .string ⟨#[43]⟩, .string ⟨#[45]⟩, .string ⟨#[42]⟩, .string ⟨#[47]⟩, .string ⟨#[37]⟩, .string ⟨#[61, 61]⟩, .string ⟨#[33, 61]⟩, .string ⟨#[60]⟩, .string ⟨#[60, 61]⟩, .string ⟨#[62]⟩, .string ⟨#[62, 61]⟩, .string ⟨#[38, 38]⟩, .string ⟨#[124, 124]⟩]) (.int .i64 10)).run Tryz.prog w = .ok (.string ⟨#[62]⟩) w := fun _ => by kernel_rfl
    go_enter Tryz.func110, Tryz.ntmps110
    go_wp2
    go_ret
    exact ⟨rfl, up0 _⟩
  · have hi : ∀ w, (Instr.index 174 (.agg #[.string ⟨#[]⟩, .string ⟨#[43]⟩, .string ⟨#[45]⟩, .string ⟨#[42]⟩, .string ⟨#[47]⟩, .string ⟨#[37]⟩, .string ⟨#[61, 61]⟩, .string ⟨#[33, 61]⟩, .string ⟨#[60]⟩, .string ⟨#[60, 61]⟩, .string ⟨#[62]⟩, .string ⟨#[62, 61]⟩, .string ⟨#[38, 38]⟩, .string ⟨#[124, 124]⟩]) (.int .i64 11)).run Tryz.prog w = .ok (.string ⟨#[62, 61]⟩) w := fun _ => by kernel_rfl
    go_enter Tryz.func110, Tryz.ntmps110
    go_wp2
    go_ret
    exact ⟨rfl, up0 _⟩
  · have hi : ∀ w, (Instr.index 174 (.agg #[.string ⟨#[]⟩, .string ⟨#[43]⟩, .string ⟨#[45]⟩, .string ⟨#[42]⟩, .string ⟨#[47]⟩, .string ⟨#[37]⟩, .string ⟨#[61, 61]⟩, .string ⟨#[33, 61]⟩, .string ⟨#[60]⟩, .string ⟨#[60, 61]⟩, .string ⟨#[62]⟩, .string ⟨#[62, 61]⟩, .string ⟨#[38, 38]⟩, .string ⟨#[124, 124]⟩]) (.int .i64 12)).run Tryz.prog w = .ok (.string ⟨#[38, 38]⟩) w := fun _ => by kernel_rfl
    go_enter Tryz.func110, Tryz.ntmps110
    go_wp2
    go_ret
    exact ⟨rfl, up0 _⟩
  · have hi : ∀ w, (Instr.index 174 (.agg #[.string ⟨#[]⟩, .string ⟨#[43]⟩, .string ⟨#[45]⟩, .string ⟨#[42]⟩, .string ⟨#[47]⟩, .string ⟨#[37]⟩, .string ⟨#[61, 61]⟩, .string ⟨#[33, 61]⟩, .string ⟨#[60]⟩, .string ⟨#[60, 61]⟩, .string ⟨#[62]⟩, .string ⟨#[62, 61]⟩, .string ⟨#[38, 38]⟩, .string ⟨#[124, 124]⟩]) (.int .i64 13)).run Tryz.prog w = .ok (.string ⟨#[124, 124]⟩) w := fun _ => by kernel_rfl
    go_enter Tryz.func110, Tryz.ntmps110
    go_wp2
    go_ret
    exact ⟨rfl, up0 _⟩
theorem textL_bin (Lw : World → Prop) (hLw : Stays Lw) (op lv p0 p1 at_ : Int) (mk sx sy : ByteArray) (x y : Ex) (hl : lvl 7 op = lv) (hat : ¬ lv < at_) (hp0 : plc 7 op 0 = p0) (hp1 : plc 7 op 1 = p1) (hm : ∀ w, Calls Tryz.prog 110 #[.int .i64 op] w (SaysS mk w)) (hx : TextL Lw x p0 sx) (hy : TextL Lw y p1 sy) (hlen : sx.size + sy.size + mk.size ≤ 9223372036854775000) :
    TextL Lw (binE op x y) at_ (sx ++ ⟨#[32]⟩ ++ mk ++ ⟨#[32]⟩ ++ sy) := by
  have z1 : (9223372036854775807 < sx.size + 1) = False := eq_false (by omega)
  have z2 : (9223372036854775807 < sx.size + 1 + mk.size) = False := eq_false (by omega)
  have z3 : (9223372036854775807 < sx.size + 1 + mk.size + 1) = False := eq_false (by omega)
  have z4 : (9223372036854775807 < sx.size + 1 + mk.size + 1 + sy.size) = False := eq_false (by omega)
  have hd : decide (lv < at_) = false := decide_eq_false hat
  clear hat hlen
  intro w v hL hv
  obtain ⟨B, o, c, rfl, i0, i1⟩ := two_kids hv
  clear hv
  obtain ⟨x0, x1, x2, x3, x4, x5, x6, x7, x8, a0, a1, a2, a3, a4, a5, a6, ax⟩ := Ex.In_Is i0
  obtain ⟨y0, y1, y2, y3, y4, y5, y6, y7, y8, b0, b1, b2, b3, b4, b5, b6, bx⟩ := Ex.In_Is i1
  rw [show o + 7 + 1 = o + 8 by omega] at b1
  rw [show o + 7 + 2 = o + 9 by omega] at b2
  rw [show o + 7 + 3 = o + 10 by omega] at b3
  rw [show o + 7 + 4 = o + 11 by omega] at b4
  rw [show o + 7 + 5 = o + 12 by omega] at b5
  rw [show o + 7 + 6 = o + 13 by omega] at b6
  have AX := Hd.mk ax
  have BX := Hd.mk bx
  have lt1 : B < w.heap.size := World.block_lt_of_cell? w _ a0
  clear i0 i1 ax bx
  have L := Hd.mk hl
  have P0 := Hd.mk hp0
  have P1 := Hd.mk hp1
  have M := Hd.mk hm
  have X : Hd (∀ w', Below w.heap.size w w' → Calls Tryz.prog 53 #[.agg #[.int .i64 x0, .int .i64 x1, .string x2, .string x3, .int .i64 x4, .int .u64 x5, .slice x6 x7 x8], .int .i64 p0] w' (SaysS sx w')) := ⟨fun w' hb => hx w' _ (hLw _ _ hb hL) (Ex.Is_below hb AX.out)⟩
  have Y : Hd (∀ w', Below w.heap.size w w' → Calls Tryz.prog 53 #[.agg #[.int .i64 y0, .int .i64 y1, .string y2, .string y3, .int .i64 y4, .int .u64 y5, .slice y6 y7 y8], .int .i64 p1] w' (SaysS sy w')) := ⟨fun w' hb => hy w' _ (hLw _ _ hb hL) (Ex.Is_below hb BX.out)⟩
  clear hl hp0 hp1 hm hx hy hL
  go_enter Tryz.func53, Tryz.ntmps53
  go_wp2_with (first
    | (go_at_call 89; (with_reducible refine ((level_any 7 op _ _ _ _ _ _).mono ?_)); (rw [L.out]; rintro e w1 ⟨rfl, hb1⟩; have HB1 := Hd.mk hb1; have hc1 := bcell hb1; have hs1 := bsize1 rfl hb1; clear hb1)))
  have S0 : (fun w' => Below w1.heap.size w1 w' ∧ w'.cell? ⟨w.heap.size, 0, none⟩ = some (.int .i64 7) ∧ w'.cell? ⟨w.heap.size, 1, none⟩ = some (.int .i64 op) ∧ w'.cell? ⟨w.heap.size, 2, none⟩ = some (.string ⟨#[]⟩) ∧ w'.cell? ⟨w.heap.size, 3, none⟩ = some (.string ⟨#[]⟩) ∧ w'.cell? ⟨w.heap.size, 4, none⟩ = some (.int .i64 0) ∧ w'.cell? ⟨w.heap.size, 5, none⟩ = some (.int .u64 0) ∧ w'.cell? ⟨w.heap.size, 6, none⟩ = some (.slice (some ⟨B, o, none⟩) 2 c) ∧ w'.cell? ⟨B, o, none⟩ = some (.int .i64 x0) ∧ w'.cell? ⟨B, o + 1, none⟩ = some (.int .i64 x1) ∧ w'.cell? ⟨B, o + 2, none⟩ = some (.string x2) ∧ w'.cell? ⟨B, o + 3, none⟩ = some (.string x3) ∧ w'.cell? ⟨B, o + 4, none⟩ = some (.int .i64 x4) ∧ w'.cell? ⟨B, o + 5, none⟩ = some (.int .u64 x5) ∧ w'.cell? ⟨B, o + 6, none⟩ = some (.slice x6 x7 x8) ∧ w'.cell? ⟨B, o + 7, none⟩ = some (.int .i64 y0) ∧ w'.cell? ⟨B, o + 8, none⟩ = some (.int .i64 y1) ∧ w'.cell? ⟨B, o + 9, none⟩ = some (.string y2) ∧ w'.cell? ⟨B, o + 10, none⟩ = some (.string y3) ∧ w'.cell? ⟨B, o + 11, none⟩ = some (.int .i64 y4) ∧ w'.cell? ⟨B, o + 12, none⟩ = some (.int .u64 y5) ∧ w'.cell? ⟨B, o + 13, none⟩ = some (.slice y6 y7 y8)) w1 := by
    have hw := step (up (up0 w) _) HB1.out
    exact ⟨Below.refl _ _, keep HB1.out (new_cell w _ _ 0), keep HB1.out (new_cell w _ _ 1), keep HB1.out (new_cell w _ _ 2), keep HB1.out (new_cell w _ _ 3), keep HB1.out (new_cell w _ _ 4), keep HB1.out (new_cell w _ _ 5), keep HB1.out (new_cell w _ _ 6), keep hw a0, keep hw a1, keep hw a2, keep hw a3, keep hw a4, keep hw a5, keep hw a6, keep hw b0, keep hw b1, keep hw b2, keep hw b3, keep hw b4, keep hw b5, keep hw b6⟩
  have H0 := Hd.mk S0
  clear S0 a0 a1 a2 a3 a4 a5 a6 b0 b1 b2 b3 b4 b5 b6 hc1
  go_region_held3 (fun w' => Below w1.heap.size w1 w' ∧ w'.cell? ⟨w.heap.size, 0, none⟩ = some (.int .i64 7) ∧ w'.cell? ⟨w.heap.size, 1, none⟩ = some (.int .i64 op) ∧ w'.cell? ⟨w.heap.size, 2, none⟩ = some (.string ⟨#[]⟩) ∧ w'.cell? ⟨w.heap.size, 3, none⟩ = some (.string ⟨#[]⟩) ∧ w'.cell? ⟨w.heap.size, 4, none⟩ = some (.int .i64 0) ∧ w'.cell? ⟨w.heap.size, 5, none⟩ = some (.int .u64 0) ∧ w'.cell? ⟨w.heap.size, 6, none⟩ = some (.slice (some ⟨B, o, none⟩) 2 c) ∧ w'.cell? ⟨B, o, none⟩ = some (.int .i64 x0) ∧ w'.cell? ⟨B, o + 1, none⟩ = some (.int .i64 x1) ∧ w'.cell? ⟨B, o + 2, none⟩ = some (.string x2) ∧ w'.cell? ⟨B, o + 3, none⟩ = some (.string x3) ∧ w'.cell? ⟨B, o + 4, none⟩ = some (.int .i64 x4) ∧ w'.cell? ⟨B, o + 5, none⟩ = some (.int .u64 x5) ∧ w'.cell? ⟨B, o + 6, none⟩ = some (.slice x6 x7 x8) ∧ w'.cell? ⟨B, o + 7, none⟩ = some (.int .i64 y0) ∧ w'.cell? ⟨B, o + 8, none⟩ = some (.int .i64 y1) ∧ w'.cell? ⟨B, o + 9, none⟩ = some (.string y2) ∧ w'.cell? ⟨B, o + 10, none⟩ = some (.string y3) ∧ w'.cell? ⟨B, o + 11, none⟩ = some (.int .i64 y4) ∧ w'.cell? ⟨B, o + 12, none⟩ = some (.int .u64 y5) ∧ w'.cell? ⟨B, o + 13, none⟩ = some (.slice y6 y7 y8)) (first | exact ⟨H0.out.1.drew, H0.out.2⟩ | exact S21 (by assumption) rfl (by assumption) | (trace_state; fail))
    (first
      | (go_at_call 109; (with_reducible refine ((place_any 7 op _ _ _ _ _ 0 _).mono ?_)); (rw [P0.out]; rintro e w3 ⟨rfl, hb3⟩))
      | (go_at_call 109; (with_reducible refine ((place_any 7 op _ _ _ _ _ 1 _).mono ?_)); (rw [P1.out]; rintro e w3 ⟨rfl, hb3⟩))
      | (go_at_call 53; (with_reducible refine ((X.out _ (step (step (up (up0 _) _) HB1.out) (And.left (by assumption)))).mono ?_)); (rintro e w3 ⟨rfl, hb3⟩))
      | (go_at_call 53; (with_reducible refine ((Y.out _ (step (step (up (up0 _) _) HB1.out) (And.left (by assumption)))).mono ?_)); (rintro e w3 ⟨rfl, hb3⟩))
      | (go_at_call 110; (with_reducible refine ((M.out _).mono ?_)); (rintro e w3 ⟨rfl, hb3⟩)))
  go_wp2_with fail
  go_ret
  exact ⟨rfl, step (step (up (up0 _) _) HB1.out) (And.left (by assumption))⟩
theorem textL_paren (Lw : World → Prop) (hLw : Stays Lw) (k op lv at_ : Int) (m n : ByteArray) (t b : Int) (ks : Exs) (s : ByteArray) (hl : lvl k op = lv) (hat : lv < at_) (hx : TextL Lw (.mk k op m n t b ks) 1 s) (hs : s.size ≤ 9223372036854775000) : TextL Lw (.mk k op m n t b ks) at_ (⟨#[40]⟩ ++ s ++ ⟨#[41]⟩) := by
  intro w v hL hv
  have hv' := hv
  unfold Ex.Is at hv
  obtain ⟨A, l, c, rfl, g⟩ := hv
  clear g
  have z1 : (9223372036854775807 < 1 + s.size) = False := eq_false (by omega)
  have z2 : (9223372036854775807 < 1 + s.size + 1) = False := eq_false (by omega)
  have hd : decide (lv < at_) = true := decide_eq_true hat
  have L := Hd.mk hl
  have X : Hd (∀ w', Below w.heap.size w w' → Calls Tryz.prog 53 #[.agg #[.int .i64 k, .int .i64 op, .string m, .string n, .int .i64 t, .int .u64 b, .slice A l c], .int .i64 1] w' (SaysS s w')) := ⟨fun w' hb => hx w' _ (hLw _ _ hb hL) (Ex.Is_below hb hv')⟩
  clear hl hx hv' hs hL
  go_enter Tryz.func53, Tryz.ntmps53
  go_wp2_with (first
    | (go_at_call 89; (with_reducible refine ((level_any k op _ _ _ _ _ _).mono ?_)); (rw [L.out]; rintro e w1 ⟨rfl, hb1⟩; have HB1 := Hd.mk hb1; have hc1 := bcell hb1; have hs1 := bsize1 rfl hb1; clear hb1))
    | (go_at_call 53; (with_reducible refine ((X.out _ (step (up (up0 _) _) HB1.out)).mono ?_)); (rintro e w3 ⟨rfl, hb3⟩; have HB3 := Hd.mk hb3; clear hb3)))
  go_ret
  exact ⟨rfl, step (step (up (up0 _) _) HB1.out) HB3.out⟩
theorem textL_lit (Lw : World → Prop) (hLw : Stays Lw) (op at_ : Int) (m n : ByteArray) (t b : Int) (ks : Exs) (hat : at_ ≤ 7) (hm : m = ⟨#[]⟩) (s : ByteArray) (hval : ∀ w, Lw w → Calls Tryz.prog 108 #[.agg #[.int .i64 t, .int .u64 b]] w (SaysS s w)) : TextL Lw (.mk 1 op m n t b ks) at_ s := by
  intro w v hL hv
  unfold Ex.Is at hv
  obtain ⟨A, l, c, rfl, g⟩ := hv
  have L : Hd (lvl 1 op = 7) := ⟨by simp [lvl]⟩
  have hd : decide ((7 : Int) < at_) = false := decide_eq_false (by omega)
  clear hat
  clear g
  subst hm
  have V := Hd.mk (fun w' (hb : Below w.heap.size w w') => hval w' (hLw _ _ hb hL))
  clear hval hL
  go_enter Tryz.func53, Tryz.ntmps53
  go_wp2_with (first
    | (go_at_call 89; (with_reducible refine ((level_any 1 op _ _ _ _ _ _).mono ?_)); (rw [L.out]; rintro e w1 ⟨rfl, hb1⟩; have HB1 := Hd.mk hb1; have hc1 := bcell hb1; have hs1 := bsize1 rfl hb1; clear hb1))
    | (go_at_call 108; (with_reducible refine ((V.out _ (step (up (up0 _) _) HB1.out)).mono ?_)); (rintro e w3 ⟨rfl, hb3⟩; have HB3 := Hd.mk hb3; clear hb3)))
  go_ret
  exact ⟨rfl, step (step (up (up0 _) _) HB1.out) HB3.out⟩
theorem textL_input (Lw : World → Prop) (hLw : Stays Lw) (op at_ : Int) (m n : ByteArray) (t b : Int) (ks : Exs) (hat : at_ ≤ 7) (hm : m = ⟨#[]⟩) : TextL Lw (.mk 8 op m n t b ks) at_ ⟨#[105, 110, 112, 117, 116]⟩ := by
  intro w v hL hv
  unfold Ex.Is at hv
  obtain ⟨A, l, c, rfl, g⟩ := hv
  have L : Hd (lvl 8 op = 7) := ⟨by simp [lvl]⟩
  have hd : decide ((7 : Int) < at_) = false := decide_eq_false (by omega)
  clear hat
  clear g hL
  subst hm
  go_enter Tryz.func53, Tryz.ntmps53
  go_wp2_with (first
    | (go_at_call 89; (with_reducible refine ((level_any 8 op _ _ _ _ _ _).mono ?_)); (rw [L.out]; rintro e w1 ⟨rfl, hb1⟩; have HB1 := Hd.mk hb1; have hc1 := bcell hb1; have hs1 := bsize1 rfl hb1; clear hb1)))
  go_ret
  exact ⟨rfl, step (up (up0 _) _) HB1.out⟩
theorem textL_name (Lw : World → Prop) (hLw : Stays Lw) (op at_ : Int) (m n : ByteArray) (t b : Int) (ks : Exs) (hat : at_ ≤ 7) (hm : m = ⟨#[]⟩) : TextL Lw (.mk 2 op m n t b ks) at_ n := by
  intro w v hL hv
  unfold Ex.Is at hv
  obtain ⟨A, l, c, rfl, g⟩ := hv
  have L : Hd (lvl 2 op = 7) := ⟨by simp [lvl]⟩
  have hd : decide ((7 : Int) < at_) = false := decide_eq_false (by omega)
  clear hat
  clear g hL
  subst hm
  go_enter Tryz.func53, Tryz.ntmps53
  go_wp2_with (first
    | (go_at_call 89; (with_reducible refine ((level_any 2 op _ _ _ _ _ _).mono ?_)); (rw [L.out]; rintro e w1 ⟨rfl, hb1⟩; have HB1 := Hd.mk hb1; have hc1 := bcell hb1; have hs1 := bsize1 rfl hb1; clear hb1)))
  go_ret
  exact ⟨rfl, step (up (up0 _) _) HB1.out⟩
theorem far_any (m n : ByteArray) (h : m.size + n.size ≤ 9223372036854775000) (w : World) : Calls Tryz.prog 107 #[.string m, .string n] w fun e w' => e = .returned (.string (m ++ ⟨#[46]⟩ ++ n)) ∧ w = w' := by
  have z1 : (9223372036854775807 < m.size + 1) = False := eq_false (by omega)
  have z2 : (9223372036854775807 < m.size + 1 + n.size) = False := eq_false (by omega)
  clear h
  go_enter Tryz.func107, Tryz.ntmps107
  go_wp2
  go_ret
  exact ⟨rfl, rfl⟩
theorem textL_far (Lw : World → Prop) (hLw : Stays Lw) (op at_ : Int) (m n : ByteArray) (t b : Int) (ks : Exs) (hat : at_ ≤ 7) (hm : m.toList.isEmpty = false) (hs : m.size + n.size ≤ 9223372036854775000) : TextL Lw (.mk 3 op m n t b ks) at_ (m ++ ⟨#[46]⟩ ++ n) := by
  intro w v hL hv
  unfold Ex.Is at hv
  obtain ⟨A, l, c, rfl, g⟩ := hv
  have L : Hd (lvl 3 op = 7) := ⟨by simp [lvl]⟩
  have hd : decide ((7 : Int) < at_) = false := decide_eq_false (by omega)
  clear hat
  clear g hL
  have F := Hd.mk (far_any m n hs)
  clear hs
  go_enter Tryz.func53, Tryz.ntmps53
  go_wp2_with (first
    | (go_at_call 89; (with_reducible refine ((level_any 3 op _ _ _ _ _ _).mono ?_)); (rw [L.out]; rintro e w1 ⟨rfl, hb1⟩; have HB1 := Hd.mk hb1; have hc1 := bcell hb1; have hs1 := bsize1 rfl hb1; clear hb1))
    | (go_at_call 107; (with_reducible refine ((F.out _).mono ?_)); (rintro e w3 ⟨rfl, rfl⟩)))
  go_ret
  exact ⟨rfl, step (up (up0 _) _) HB1.out⟩
theorem textL_un1 (Lw : World → Prop) (hLw : Stays Lw) (at_ : Int) (x : Ex) (s : ByteArray) (hat : at_ ≤ 6) (hx : TextL Lw x 6 s) (hs : s.size ≤ 9223372036854775000) : TextL Lw (.mk 6 1 ⟨#[]⟩ ⟨#[]⟩ 0 0 (.cons x .nil)) at_ (⟨#[45]⟩ ++ s) := by
  intro w v hL hv
  unfold Ex.Is at hv
  obtain ⟨A, l, c, rfl, g1⟩ := hv
  obtain rfl : l = 1 := g1.1
  obtain ⟨B, o, rfl, g⟩ := g1.at (by omega)
  have i0 := g 0 x rfl
  rw [show o + 0 * 7 = o by omega] at i0
  have L : Hd (lvl 6 1 = 6) := ⟨by simp [lvl]⟩
  have hd : decide ((6 : Int) < at_) = false := decide_eq_false (by omega)
  have z1 : (9223372036854775807 < 1 + s.size) = False := eq_false (by omega)
  have z2 : (9223372036854775807 < 1 + s.size + 1) = False := eq_false (by omega)
  obtain ⟨v0, v1, v2, v3, v4, v5, v6, v7, v8, a0, a1, a2, a3, a4, a5, a6, ax⟩ := Ex.In_Is i0
  have X := Hd.mk (fun w' (hb : Below w.heap.size w w') => hx w' _ (hLw _ _ hb hL) (Ex.Is_below hb ax))
  have lt1 : B < w.heap.size := World.block_lt_of_cell? w _ a0
  clear g1 g i0 ax hx hL hs hat
  go_enter Tryz.func53, Tryz.ntmps53
  go_wp2_with (first
    | (go_at_call 89; (with_reducible refine ((level_any 6 1 _ _ _ _ _ _).mono ?_)); (rw [L.out]; rintro e w1 ⟨rfl, hb1⟩; have HB1 := Hd.mk hb1; have hc1 := bcell hb1; have hs1 := bsize1 rfl hb1; have lt2 := Nat.lt_of_lt_of_le (Nat.lt_succ_of_lt lt1) hs1; clear hb1))
    | (go_at_call 53; (with_reducible refine ((X.out _ (step (up (up0 _) _) HB1.out)).mono ?_)); (rintro e w3 ⟨rfl, hb3⟩; have HB3 := Hd.mk hb3; clear hb3)))
  go_ret
  exact ⟨rfl, step (step (up (up0 _) _) HB1.out) HB3.out⟩
theorem textL_un2 (Lw : World → Prop) (hLw : Stays Lw) (at_ : Int) (x : Ex) (s : ByteArray) (hat : at_ ≤ 6) (hx : TextL Lw x 6 s) (hs : s.size ≤ 9223372036854775000) : TextL Lw (.mk 6 2 ⟨#[]⟩ ⟨#[]⟩ 0 0 (.cons x .nil)) at_ (⟨#[33]⟩ ++ s) := by
  intro w v hL hv
  unfold Ex.Is at hv
  obtain ⟨A, l, c, rfl, g1⟩ := hv
  obtain rfl : l = 1 := g1.1
  obtain ⟨B, o, rfl, g⟩ := g1.at (by omega)
  have i0 := g 0 x rfl
  rw [show o + 0 * 7 = o by omega] at i0
  have L : Hd (lvl 6 2 = 6) := ⟨by simp [lvl]⟩
  have hd : decide ((6 : Int) < at_) = false := decide_eq_false (by omega)
  have z1 : (9223372036854775807 < 1 + s.size) = False := eq_false (by omega)
  have z2 : (9223372036854775807 < 1 + s.size + 1) = False := eq_false (by omega)
  obtain ⟨v0, v1, v2, v3, v4, v5, v6, v7, v8, a0, a1, a2, a3, a4, a5, a6, ax⟩ := Ex.In_Is i0
  have X := Hd.mk (fun w' (hb : Below w.heap.size w w') => hx w' _ (hLw _ _ hb hL) (Ex.Is_below hb ax))
  have lt1 : B < w.heap.size := World.block_lt_of_cell? w _ a0
  clear g1 g i0 ax hx hL hs hat
  go_enter Tryz.func53, Tryz.ntmps53
  go_wp2_with (first
    | (go_at_call 89; (with_reducible refine ((level_any 6 2 _ _ _ _ _ _).mono ?_)); (rw [L.out]; rintro e w1 ⟨rfl, hb1⟩; have HB1 := Hd.mk hb1; have hc1 := bcell hb1; have hs1 := bsize1 rfl hb1; have lt2 := Nat.lt_of_lt_of_le (Nat.lt_succ_of_lt lt1) hs1; clear hb1))
    | (go_at_call 53; (with_reducible refine ((X.out _ (step (up (up0 _) _) HB1.out)).mono ?_)); (rintro e w3 ⟨rfl, hb3⟩; have HB3 := Hd.mk hb3; clear hb3)))
  go_ret
  exact ⟨rfl, step (step (up (up0 _) _) HB1.out) HB3.out⟩
theorem textL_un3 (Lw : World → Prop) (hLw : Stays Lw) (at_ : Int) (x : Ex) (s : ByteArray) (hat : at_ ≤ 7) (hx : TextL Lw x 1 s) (hs : s.size ≤ 9223372036854775000) : TextL Lw (.mk 6 3 ⟨#[]⟩ ⟨#[]⟩ 0 0 (.cons x .nil)) at_ (⟨#[105, 110, 116, 40]⟩ ++ s ++ ⟨#[41]⟩) := by
  intro w v hL hv
  unfold Ex.Is at hv
  obtain ⟨A, l, c, rfl, g1⟩ := hv
  obtain rfl : l = 1 := g1.1
  obtain ⟨B, o, rfl, g⟩ := g1.at (by omega)
  have i0 := g 0 x rfl
  rw [show o + 0 * 7 = o by omega] at i0
  have L : Hd (lvl 6 3 = 7) := ⟨by simp [lvl]⟩
  have hd : decide ((7 : Int) < at_) = false := decide_eq_false (by omega)
  have z1 : (9223372036854775807 < 4 + s.size) = False := eq_false (by omega)
  have z2 : (9223372036854775807 < 4 + s.size + 1) = False := eq_false (by omega)
  obtain ⟨v0, v1, v2, v3, v4, v5, v6, v7, v8, a0, a1, a2, a3, a4, a5, a6, ax⟩ := Ex.In_Is i0
  have X := Hd.mk (fun w' (hb : Below w.heap.size w w') => hx w' _ (hLw _ _ hb hL) (Ex.Is_below hb ax))
  have lt1 : B < w.heap.size := World.block_lt_of_cell? w _ a0
  clear g1 g i0 ax hx hL hs hat
  go_enter Tryz.func53, Tryz.ntmps53
  go_wp2_with (first
    | (go_at_call 89; (with_reducible refine ((level_any 6 3 _ _ _ _ _ _).mono ?_)); (rw [L.out]; rintro e w1 ⟨rfl, hb1⟩; have HB1 := Hd.mk hb1; have hc1 := bcell hb1; have hs1 := bsize1 rfl hb1; have lt2 := Nat.lt_of_lt_of_le (Nat.lt_succ_of_lt lt1) hs1; clear hb1))
    | (go_at_call 53; (with_reducible refine ((X.out _ (step (up (up0 _) _) HB1.out)).mono ?_)); (rintro e w3 ⟨rfl, hb3⟩; have HB3 := Hd.mk hb3; clear hb3)))
  go_ret
  exact ⟨rfl, step (step (up (up0 _) _) HB1.out) HB3.out⟩
theorem textL_un4 (Lw : World → Prop) (hLw : Stays Lw) (at_ : Int) (x : Ex) (s : ByteArray) (hat : at_ ≤ 7) (hx : TextL Lw x 1 s) (hs : s.size ≤ 9223372036854775000) : TextL Lw (.mk 6 4 ⟨#[]⟩ ⟨#[]⟩ 0 0 (.cons x .nil)) at_ (⟨#[102, 108, 111, 97, 116, 40]⟩ ++ s ++ ⟨#[41]⟩) := by
  intro w v hL hv
  unfold Ex.Is at hv
  obtain ⟨A, l, c, rfl, g1⟩ := hv
  obtain rfl : l = 1 := g1.1
  obtain ⟨B, o, rfl, g⟩ := g1.at (by omega)
  have i0 := g 0 x rfl
  rw [show o + 0 * 7 = o by omega] at i0
  have L : Hd (lvl 6 4 = 7) := ⟨by simp [lvl]⟩
  have hd : decide ((7 : Int) < at_) = false := decide_eq_false (by omega)
  have z1 : (9223372036854775807 < 6 + s.size) = False := eq_false (by omega)
  have z2 : (9223372036854775807 < 6 + s.size + 1) = False := eq_false (by omega)
  obtain ⟨v0, v1, v2, v3, v4, v5, v6, v7, v8, a0, a1, a2, a3, a4, a5, a6, ax⟩ := Ex.In_Is i0
  have X := Hd.mk (fun w' (hb : Below w.heap.size w w') => hx w' _ (hLw _ _ hb hL) (Ex.Is_below hb ax))
  have lt1 : B < w.heap.size := World.block_lt_of_cell? w _ a0
  clear g1 g i0 ax hx hL hs hat
  go_enter Tryz.func53, Tryz.ntmps53
  go_wp2_with (first
    | (go_at_call 89; (with_reducible refine ((level_any 6 4 _ _ _ _ _ _).mono ?_)); (rw [L.out]; rintro e w1 ⟨rfl, hb1⟩; have HB1 := Hd.mk hb1; have hc1 := bcell hb1; have hs1 := bsize1 rfl hb1; have lt2 := Nat.lt_of_lt_of_le (Nat.lt_succ_of_lt lt1) hs1; clear hb1))
    | (go_at_call 53; (with_reducible refine ((X.out _ (step (up (up0 _) _) HB1.out)).mono ?_)); (rintro e w3 ⟨rfl, hb3⟩; have HB3 := Hd.mk hb3; clear hb3)))
  go_ret
  exact ⟨rfl, step (step (up (up0 _) _) HB1.out) HB3.out⟩
end Go.Proofs.YtbhgpegcdiohlaaGreatDoor.Tr
