import Derived.Test.YtbhgpegcdiohlaaGreatDoorTrI
import Derived.WalkLawsBesides
import Derived.Defers
import Derived.Recover
namespace Go.Proofs.YtbhgpegcdiohlaaGreatDoor.Tr
open Go Go.RowKit Go.Proofs
set_option linter.unusedVariables false
def SaysU (w : World) (e : Ending) (w' : World) : Prop := e = .returned (.tuple #[]) ∧ Below w.heap.size w w'
def Fails (n : Int) (w : World) (e : Ending) (w' : World) : Prop := e = .panicked [{ v := .iface 108 (.int .i64 n), recovered := false }] ∧ Below w.heap.size w w'
def SaysS (s : ByteArray) (w : World) (e : Ending) (w' : World) : Prop := e = .returned (.string s) ∧ Below w.heap.size w w'

theorem must_ok (w : World) : Calls Tryz.prog 34 #[.int .i64 0] w fun e w' => e = .returned (.tuple #[]) ∧ w = w' := by
  go_enter Tryz.func34, Tryz.ntmps34
  go_wp2
  go_end0
  exact ⟨rfl, rfl⟩
theorem must_no (n : Int) (hn : n ≠ 0) (w : World) : Calls Tryz.prog 34 #[.int .i64 n] w fun e w' => e = .panicked [{ v := .iface 108 (.int .i64 n), recovered := false }] ∧ w = w' := by
  have h1 : (n != 0) = true := bne_iff_ne.mpr hn
  have h2 : (n == 0) = false := beq_eq_false_iff_ne.mpr hn
  go_enter Tryz.func34, Tryz.ntmps34
  go_wp2
  exact ⟨rfl, rfl, rfl⟩
theorem ask_ok (n : Int) (w : World) : Calls Tryz.prog 36 #[.bool true, .int .i64 n] w fun e w' => e = .returned (.tuple #[]) ∧ w = w' := by
  go_enter Tryz.func36, Tryz.ntmps36
  go_wp2
  go_end0
  exact ⟨rfl, rfl⟩
theorem ask_no (n : Int) (hn : n ≠ 0) (w : World) : Calls Tryz.prog 36 #[.bool false, .int .i64 n] w fun e w' => e = .panicked [{ v := .iface 108 (.int .i64 n), recovered := false }] ∧ w = w' := by
  go_enter Tryz.func36, Tryz.ntmps36
  go_wp2_with (go_at_call 34; refine (must_no n hn _).mono ?_; rintro e w' ⟨rfl, rfl⟩)
  exact ⟨rfl, rfl, rfl⟩
theorem fields1 (w : World) : Calls Tryz.prog 91 #[.int .i64 1] w fun e w' => e = .returned (.tuple #[.bool false, .bool false, .bool true, .int .i64 0, .int .i64 (0)]) ∧ w = w' := by
  go_enter Tryz.func91, Tryz.ntmps91
  go_wp2
  exact bodyPost_ret (v := .tuple #[.bool false, .bool false, .bool true, .int .i64 0, .int .i64 (0)]) (by simp [results, Tryz.results91, go_sem]) rfl ⟨rfl, rfl⟩
theorem fields2 (w : World) : Calls Tryz.prog 91 #[.int .i64 2] w fun e w' => e = .returned (.tuple #[.bool false, .bool true, .bool false, .int .i64 0, .int .i64 (0)]) ∧ w = w' := by
  go_enter Tryz.func91, Tryz.ntmps91
  go_wp2
  exact bodyPost_ret (v := .tuple #[.bool false, .bool true, .bool false, .int .i64 0, .int .i64 (0)]) (by simp [results, Tryz.results91, go_sem]) rfl ⟨rfl, rfl⟩
theorem fields3 (w : World) : Calls Tryz.prog 91 #[.int .i64 3] w fun e w' => e = .returned (.tuple #[.bool true, .bool true, .bool false, .int .i64 0, .int .i64 (0)]) ∧ w = w' := by
  go_enter Tryz.func91, Tryz.ntmps91
  go_wp2
  exact bodyPost_ret (v := .tuple #[.bool true, .bool true, .bool false, .int .i64 0, .int .i64 (0)]) (by simp [results, Tryz.results91, go_sem]) rfl ⟨rfl, rfl⟩
theorem fields4 (w : World) : Calls Tryz.prog 91 #[.int .i64 4] w fun e w' => e = .returned (.tuple #[.bool false, .bool true, .bool false, .int .i64 0, .int .i64 (-1)]) ∧ w = w' := by
  go_enter Tryz.func91, Tryz.ntmps91
  go_wp2
  exact bodyPost_ret (v := .tuple #[.bool false, .bool true, .bool false, .int .i64 0, .int .i64 (-1)]) (by simp [results, Tryz.results91, go_sem]) rfl ⟨rfl, rfl⟩
theorem fields5 (w : World) : Calls Tryz.prog 91 #[.int .i64 5] w fun e w' => e = .returned (.tuple #[.bool true, .bool true, .bool false, .int .i64 0, .int .i64 (-1)]) ∧ w = w' := by
  go_enter Tryz.func91, Tryz.ntmps91
  go_wp2
  exact bodyPost_ret (v := .tuple #[.bool true, .bool true, .bool false, .int .i64 0, .int .i64 (-1)]) (by simp [results, Tryz.results91, go_sem]) rfl ⟨rfl, rfl⟩
theorem fields6 (w : World) : Calls Tryz.prog 91 #[.int .i64 6] w fun e w' => e = .returned (.tuple #[.bool false, .bool false, .bool false, .int .i64 4, .int .i64 (1)]) ∧ w = w' := by
  go_enter Tryz.func91, Tryz.ntmps91
  go_wp2
  exact bodyPost_ret (v := .tuple #[.bool false, .bool false, .bool false, .int .i64 4, .int .i64 (1)]) (by simp [results, Tryz.results91, go_sem]) rfl ⟨rfl, rfl⟩
theorem fields7 (w : World) : Calls Tryz.prog 91 #[.int .i64 7] w fun e w' => e = .returned (.tuple #[.bool false, .bool false, .bool false, .int .i64 13, .int .i64 (2)]) ∧ w = w' := by
  go_enter Tryz.func91, Tryz.ntmps91
  go_wp2
  exact bodyPost_ret (v := .tuple #[.bool false, .bool false, .bool false, .int .i64 13, .int .i64 (2)]) (by simp [results, Tryz.results91, go_sem]) rfl ⟨rfl, rfl⟩
theorem fields8 (w : World) : Calls Tryz.prog 91 #[.int .i64 8] w fun e w' => e = .returned (.tuple #[.bool false, .bool false, .bool false, .int .i64 0, .int .i64 (0)]) ∧ w = w' := by
  go_enter Tryz.func91, Tryz.ntmps91
  go_wp2
  exact bodyPost_ret (v := .tuple #[.bool false, .bool false, .bool false, .int .i64 0, .int .i64 (0)]) (by simp [results, Tryz.results91, go_sem]) rfl ⟨rfl, rfl⟩

def litE (n : Int) : Ex := .mk 1 0 ⟨#[]⟩ ⟨#[]⟩ 1 n .nil
def binE (op : Int) (x y : Ex) : Ex := .mk 7 op ⟨#[]⟩ ⟨#[]⟩ 0 0 (.cons x (.cons y .nil))
def ExprOk (x : Ex) : Prop := ∀ (w : World) (v : Value), x.Is w v → Calls Tryz.prog 42 #[v] w (SaysU w)
theorem literal1 (n : Int) (w : World) : Calls Tryz.prog 92 #[.agg #[.int .i64 1, .int .u64 n]] w (Says (decide (n < 9223372036854775808)) w) := by
  go_enter Tryz.func92, Tryz.ntmps92
  go_wp2
  go_ret
  exact ⟨rfl, up (up0 _) _⟩
set_option maxHeartbeats 4000000 in
set_option maxRecDepth 100000 in
theorem expr_lit (n : Int) (h2 : n < 9223372036854775808) : ExprOk (litE n) := by
  intro w v hv
  unfold litE Ex.Is at hv
  obtain ⟨A, l, c, rfl, h1⟩ := hv
  obtain rfl : l = 0 := h1.1
  clear h1
  have hd : decide (n < 9223372036854775808) = true := decide_eq_true h2
  have HD := Hd.mk hd
  clear hd h2
  go_enter Tryz.func42, Tryz.ntmps42
  go_wp2_with (first
    | (go_at_call 36; (with_reducible refine ((ask_ok _ _).mono ?_)); (rintro e w1 ⟨rfl, rfl⟩))
    | (go_at_call 91; (with_reducible refine ((fields1 _).mono ?_)); (rintro e w1 ⟨rfl, rfl⟩))
    | (go_at_call 92; (with_reducible refine ((literal1 _ _).mono ?_)); (rw [HD.out]; rintro e w1 ⟨rfl, hb1⟩; have HB1 := Hd.mk hb1; have hc1 := bcell hb1; have hs1 := bsize1 rfl hb1; clear hb1)))
  refine wp_loop_rounds 1 ?_
  rw [rounds_succ]
  go_wp2_with fail
  go_end0
  exact ⟨rfl, step (up (up0 _) _) HB1.out⟩
set_option maxHeartbeats 4000000 in
set_option maxRecDepth 100000 in
theorem expr_bin (op : Int) (x y : Ex) (h1 : 1 ≤ op) (h2 : op ≤ 13) (hx : ExprOk x) (hy : ExprOk y) : ExprOk (binE op x y) := by
  intro w v hv
  unfold binE Ex.Is at hv
  obtain ⟨A, l, c, rfl, g1⟩ := hv
  obtain rfl : l = 2 := g1.1
  obtain ⟨B, o, rfl, g⟩ := g1.at (by omega)
  have i0 := g 0 x rfl
  have i1 := g 1 y rfl
  clear g1 g
  rw [show o + 0 * 7 = o by omega] at i0
  rw [show o + 1 * 7 = o + 7 by omega] at i1
  obtain ⟨v0, v1, v2, v3, v4, v5, v6, v7, v8, a0, a1, a2, a3, a4, a5, a6, ax⟩ := Ex.In_Is i0
  have I1 := Hd.mk i1
  have AX := Hd.mk ax
  have lt1 : B < w.heap.size := World.block_lt_of_cell? w _ a0
  clear i0 i1 ax
  have o0 : op ≠ 0 := by omega
  have f0 : (op == 0) = false := beq_eq_false_iff_ne.mpr o0
  have HX := Hd.mk hx
  have HY := Hd.mk hy
  clear hx hy o0
  go_enter Tryz.func42, Tryz.ntmps42
  go_wp2_with (first
    | (go_at_call 36; (with_reducible refine ((ask_ok _ _).mono ?_)); (rintro e w1 ⟨rfl, rfl⟩))
    | (go_at_call 91; (with_reducible refine ((fields7 _).mono ?_)); (rintro e w1 ⟨rfl, rfl⟩)))
  refine wp_loop_rounds 3 ?_
  rw [rounds_succ]
  go_wp2_with (go_at_call 42; (refine (HX.out _ _ (Ex.Is_below (up (up (up0 _) _) _) AX.out)).mono ?_); (rintro e w2 ⟨rfl, hb2⟩; have HB2 := Hd.mk hb2; have hc2 := bcell hb2; clear hb2))
  have i2 := Ex.In_below (step (up (up (up0 _) _) _) HB2.out) y I1.out
  obtain ⟨u0, u1, u2, u3, u4, u5, u6, u7, u8, b0, b1, b2, b3, b4, b5, b6, bx⟩ := Ex.In_Is i2
  have BX := Hd.mk bx
  have lt2 : B < w2.heap.size := World.block_lt_of_cell? w2 _ b0
  clear i2 bx a0 a1 a2 a3 a4 a5 a6 hc2
  rw [rounds_succ]
  go_wp2_with (go_at_call 42; (refine (HY.out _ _ (Ex.Is_below (up (up0 _) _) BX.out)).mono ?_); (rintro e w3 ⟨rfl, hb3⟩; have HB3 := Hd.mk hb3; have hc3 := bcell hb3; clear hb3))
  rw [rounds_succ]
  go_wp2_with fail
  go_end0
  exact ⟨rfl, step (up (step (up (up (up0 _) _) _) HB2.out) _) HB3.out⟩
end Go.Proofs.YtbhgpegcdiohlaaGreatDoor.Tr
