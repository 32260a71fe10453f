import Derived.Test.YtbhgpegcdiohlaaGreatDoorLvO
import Derived.Laws.Externs
import Derived.Lib.Bytealg
namespace Go.Proofs.YtbhgpegcdiohlaaGreatDoor.Tr
open Go Go.RowKit Go.Proofs
set_option linter.unusedVariables false
set_option maxRecDepth 100000
set_option maxHeartbeats 2000000
attribute [local go_sem] Instr.field asAgg
theorem ext182 (s : ByteArray) (c : Int) (w : World) : (callFunc 182 #[.string s, .int .u8 c]).run Tryz.prog w = .ok (.value (.int .i64 (Lib.indexByte s.data.toList c.toNat.toUInt8))) w := by
  rw [run_callFunc_extern Tryz.func182 (by kernel_rfl) (by kernel_rfl) (by kernel_rfl) (e := Extern.BytealgIndexByte.indexByte) (by kernel_rfl), Lib.run_indexByteString]
  rfl
theorem index_lite (a0 : ByteArray) (a1 : Int) (w : World) :
    Calls Tryz.prog 163 #[.string a0, .int .u8 a1] w fun e w' => e = .returned (.int .i64 (Lib.indexByte a0.data.toList a1.toNat.toUInt8)) ∧ w = w' := by
  go_enter Tryz.func163, Tryz.ntmps163
  go_wp2_with (rw [ext182, Oper.upon_value])
  go_ret
  exact ⟨rfl, rfl⟩
theorem index_mark (w : World) : Calls Tryz.prog 138 #[.string ⟨#[40, 41, 123, 125, 44, 59, 58, 46, 61, 43, 45, 42, 47, 37, 60, 62, 33]⟩, .int .u8 59] w fun e w' => e = .returned (.int .i64 5) ∧ w = w' := by
  go_enter Tryz.func138, Tryz.ntmps138
  go_wp2_with (go_at_call 163; refine Calls.mono (index_lite _ _ _) ?_; rintro e w' ⟨rfl, rfl⟩)
  go_ret
  exact ⟨rfl, rfl⟩
theorem tokrest1 {w w1 : World} (h1 : Below (w.alloc (.cells #[.int .i64 0, .string ⟨#[]⟩, .int .i64 0, .int .u64 0, .int .i64 0] 130 (0, 0))).heap.size (w.alloc (.cells #[.int .i64 0, .string ⟨#[]⟩, .int .i64 0, .int .u64 0, .int .i64 0] 130 (0, 0))) w1) :
    w.heap.size < w1.heap.size ∧ w1.cell? ⟨w.heap.size, 0, none⟩ = some (.int .i64 0) ∧ w1.cell? ⟨w.heap.size, 1, none⟩ = some (.string ⟨#[]⟩) ∧ w1.cell? ⟨w.heap.size, 2, none⟩ = some (.int .i64 0) ∧ w1.cell? ⟨w.heap.size, 3, none⟩ = some (.int .u64 0) ∧ w1.cell? ⟨w.heap.size, 4, none⟩ = some (.int .i64 0) ∧ ∀ i, w1.frozen? ⟨w.heap.size, i, none⟩ = false := by
  have hn := heap_alloc_new w (.cells #[.int .i64 0, .string ⟨#[]⟩, .int .i64 0, .int .u64 0, .int .i64 0] 130 (0, 0))
  have hl := (Array.getElem?_eq_some_iff.1 hn).1
  have h' := (h1.block _ hl).trans hn
  refine ⟨by have := h1.size; omega, by rw [cell_of_row w1 _ 0 _ _ _ h']; rfl, by rw [cell_of_row w1 _ 1 _ _ _ h']; rfl, by rw [cell_of_row w1 _ 2 _ _ _ h']; rfl, by rw [cell_of_row w1 _ 3 _ _ _ h']; rfl, by rw [cell_of_row w1 _ 4 _ _ _ h']; rfl, fun i => by simp [World.frozen?, h']⟩
theorem tokrest {w w1 w2 : World} {o : Obj} (h1 : Below (w.alloc (.cells #[.int .i64 0, .string ⟨#[]⟩, .int .i64 0, .int .u64 0, .int .i64 0] 130 (0, 0))).heap.size (w.alloc (.cells #[.int .i64 0, .string ⟨#[]⟩, .int .i64 0, .int .u64 0, .int .i64 0] 130 (0, 0))) w1) (h2 : Below (w1.alloc o).heap.size (w1.alloc o) w2) :
    w.heap.size < w2.heap.size ∧ w2.cell? ⟨w.heap.size, 0, none⟩ = some (.int .i64 0) ∧ w2.cell? ⟨w.heap.size, 1, none⟩ = some (.string ⟨#[]⟩) ∧ w2.cell? ⟨w.heap.size, 2, none⟩ = some (.int .i64 0) ∧ w2.cell? ⟨w.heap.size, 3, none⟩ = some (.int .u64 0) ∧ w2.cell? ⟨w.heap.size, 4, none⟩ = some (.int .i64 0) ∧ ∀ i, w2.frozen? ⟨w.heap.size, i, none⟩ = false := by
  have hb := step (step (Below.refl _ _) h1) (step (up (up0 w1) o) h2)
  have hn := heap_alloc_new w (.cells #[.int .i64 0, .string ⟨#[]⟩, .int .i64 0, .int .u64 0, .int .i64 0] 130 (0, 0))
  have hl := (Array.getElem?_eq_some_iff.1 hn).1
  have h' := (hb.block _ hl).trans hn
  refine ⟨by have := hb.size; omega, by rw [cell_of_row w2 _ 0 _ _ _ h']; rfl, by rw [cell_of_row w2 _ 1 _ _ _ h']; rfl, by rw [cell_of_row w2 _ 2 _ _ _ h']; rfl, by rw [cell_of_row w2 _ 3 _ _ _ h']; rfl, by rw [cell_of_row w2 _ 4 _ _ _ h']; rfl, fun i => by simp [World.frozen?, h']⟩
theorem bfroz {W w1 : World} (hb : Below W.heap.size W w1) : ∀ b o, b < W.heap.size → w1.frozen? ⟨b, o, none⟩ = W.frozen? ⟨b, o, none⟩ := fun b o h => hb.frozen (p := ⟨b, o, none⟩) h
/-- a text that does not begin with two bytes -/
theorem prefix_two (p q : UInt8) (s : ByteArray) (h : 2 ≤ s.size) (h2 : ((s.extract 0 2).toList == [p, q]) = false) (w : World) : Calls Tryz.prog 133 #[.string s, .string ⟨#[p, q]⟩] w fun e w' => e = .returned (.bool false) ∧ w = w' := by
  have h3 : (2 : Int) ≤ (s.size : Int) := by omega
  go_enter Tryz.func133, Tryz.ntmps133
  go_wp2_with go_in
  go_ret
  exact ⟨rfl, rfl⟩
theorem one0 (w : World) : Calls Tryz.prog 102 #[.string ⟨#[109, 111, 100, 117, 108, 101, 32, 109, 59, 10, 105, 109, 112, 111, 114, 116, 32, 107, 59, 10]⟩, .int .i64 0] w fun e w' => e = .returned (.tuple #[.agg #[.int .i64 2, .string ⟨#[109, 111, 100, 117, 108, 101]⟩, .int .i64 0, .int .u64 0, .int .i64 0], .int .i64 0]) ∧ Below w.heap.size w w' := by
  go_enter Tryz.func102, Tryz.ntmps102
  go_wp2_with (first
    | (go_at_call 137; refine ((kind109 _).mono ?_); (rintro e w1 ⟨rfl, hb1⟩; have HB1 := Hd.mk hb1; have hs1 := bsize1 rfl hb1; have hc1 := bcell hb1; have hf1 := bfroz hb1; clear hb1))
    | (go_at_call 139; (with_reducible refine ((run0 _).mono ?_)); (rintro e w2 ⟨rfl, hb2⟩; have HB2 := Hd.mk hb2; obtain ⟨hx, q0, q1, q2, q3, q4, hq⟩ := tokrest HB1.out hb2; clear hb2 hc1 hf1))
    | (go_at_call 79; (refine ((reserved_module _).mono ?_)); (rintro e w3 ⟨rfl, rfl⟩)))
  have b2 := step (step (up (up0 w) _) HB1.out) (step (up (up0 _) _) HB2.out)
  refine bodyPost_ret (v := .tuple #[.agg #[.int .i64 2, .string ((⟨#[109, 111, 100, 117, 108, 101, 32, 109, 59, 10, 105, 109, 112, 111, 114, 116, 32, 107, 59, 10]⟩ : ByteArray).extract 0 6), .int .i64 0, .int .u64 0, .int .i64 0], .int .i64 0]) (by simp [results, Tryz.results102, go_sem, q0, q1, q2, q3, q4, hx]) rfl ⟨by kernel_rfl, ?_⟩
  exact up (((((b2.setCell (Nat.le_refl _) _).setCell (Nat.le_refl _) _).setCell (Nat.le_refl _) _).setCell (Nat.le_refl _) _).setCell (Nat.le_refl _) _) _
theorem one7 (w : World) : Calls Tryz.prog 102 #[.string ⟨#[109, 111, 100, 117, 108, 101, 32, 109, 59, 10, 105, 109, 112, 111, 114, 116, 32, 107, 59, 10]⟩, .int .i64 7] w fun e w' => e = .returned (.tuple #[.agg #[.int .i64 1, .string ⟨#[109]⟩, .int .i64 0, .int .u64 0, .int .i64 7], .int .i64 0]) ∧ Below w.heap.size w w' := by
  go_enter Tryz.func102, Tryz.ntmps102
  go_wp2_with (first
    | (go_at_call 137; refine ((kind109 _).mono ?_); (rintro e w1 ⟨rfl, hb1⟩; have HB1 := Hd.mk hb1; have hs1 := bsize1 rfl hb1; have hc1 := bcell hb1; have hf1 := bfroz hb1; clear hb1))
    | (go_at_call 139; (with_reducible refine ((run7 _).mono ?_)); (rintro e w2 ⟨rfl, hb2⟩; have HB2 := Hd.mk hb2; obtain ⟨hx, q0, q1, q2, q3, q4, hq⟩ := tokrest HB1.out hb2; clear hb2 hc1 hf1))
    | (go_at_call 79; (refine ((reserved109 _).mono ?_)); (rintro e w3 ⟨rfl, rfl⟩)))
  have b2 := step (step (up (up0 w) _) HB1.out) (step (up (up0 _) _) HB2.out)
  refine bodyPost_ret (v := .tuple #[.agg #[.int .i64 1, .string ((⟨#[109, 111, 100, 117, 108, 101, 32, 109, 59, 10, 105, 109, 112, 111, 114, 116, 32, 107, 59, 10]⟩ : ByteArray).extract 7 8), .int .i64 0, .int .u64 0, .int .i64 7], .int .i64 0]) (by simp [results, Tryz.results102, go_sem, q0, q1, q2, q3, q4, hx]) rfl ⟨by kernel_rfl, ?_⟩
  exact up (((((b2.setCell (Nat.le_refl _) _).setCell (Nat.le_refl _) _).setCell (Nat.le_refl _) _).setCell (Nat.le_refl _) _).setCell (Nat.le_refl _) _) _
theorem one10 (w : World) : Calls Tryz.prog 102 #[.string ⟨#[109, 111, 100, 117, 108, 101, 32, 109, 59, 10, 105, 109, 112, 111, 114, 116, 32, 107, 59, 10]⟩, .int .i64 10] w fun e w' => e = .returned (.tuple #[.agg #[.int .i64 2, .string ⟨#[105, 109, 112, 111, 114, 116]⟩, .int .i64 0, .int .u64 0, .int .i64 10], .int .i64 0]) ∧ Below w.heap.size w w' := by
  go_enter Tryz.func102, Tryz.ntmps102
  go_wp2_with (first
    | (go_at_call 137; refine ((kind105 _).mono ?_); (rintro e w1 ⟨rfl, hb1⟩; have HB1 := Hd.mk hb1; have hs1 := bsize1 rfl hb1; have hc1 := bcell hb1; have hf1 := bfroz hb1; clear hb1))
    | (go_at_call 139; (with_reducible refine ((run10 _).mono ?_)); (rintro e w2 ⟨rfl, hb2⟩; have HB2 := Hd.mk hb2; obtain ⟨hx, q0, q1, q2, q3, q4, hq⟩ := tokrest HB1.out hb2; clear hb2 hc1 hf1))
    | (go_at_call 79; (refine ((reserved_import _).mono ?_)); (rintro e w3 ⟨rfl, rfl⟩)))
  have b2 := step (step (up (up0 w) _) HB1.out) (step (up (up0 _) _) HB2.out)
  refine bodyPost_ret (v := .tuple #[.agg #[.int .i64 2, .string ((⟨#[109, 111, 100, 117, 108, 101, 32, 109, 59, 10, 105, 109, 112, 111, 114, 116, 32, 107, 59, 10]⟩ : ByteArray).extract 10 16), .int .i64 0, .int .u64 0, .int .i64 10], .int .i64 0]) (by simp [results, Tryz.results102, go_sem, q0, q1, q2, q3, q4, hx]) rfl ⟨by kernel_rfl, ?_⟩
  exact up (((((b2.setCell (Nat.le_refl _) _).setCell (Nat.le_refl _) _).setCell (Nat.le_refl _) _).setCell (Nat.le_refl _) _).setCell (Nat.le_refl _) _) _
theorem one17 (w : World) : Calls Tryz.prog 102 #[.string ⟨#[109, 111, 100, 117, 108, 101, 32, 109, 59, 10, 105, 109, 112, 111, 114, 116, 32, 107, 59, 10]⟩, .int .i64 17] w fun e w' => e = .returned (.tuple #[.agg #[.int .i64 1, .string ⟨#[107]⟩, .int .i64 0, .int .u64 0, .int .i64 17], .int .i64 0]) ∧ Below w.heap.size w w' := by
  go_enter Tryz.func102, Tryz.ntmps102
  go_wp2_with (first
    | (go_at_call 137; refine ((kind107 _).mono ?_); (rintro e w1 ⟨rfl, hb1⟩; have HB1 := Hd.mk hb1; have hs1 := bsize1 rfl hb1; have hc1 := bcell hb1; have hf1 := bfroz hb1; clear hb1))
    | (go_at_call 139; (with_reducible refine ((run17 _).mono ?_)); (rintro e w2 ⟨rfl, hb2⟩; have HB2 := Hd.mk hb2; obtain ⟨hx, q0, q1, q2, q3, q4, hq⟩ := tokrest HB1.out hb2; clear hb2 hc1 hf1))
    | (go_at_call 79; (refine ((reserved107 _).mono ?_)); (rintro e w3 ⟨rfl, rfl⟩)))
  have b2 := step (step (up (up0 w) _) HB1.out) (step (up (up0 _) _) HB2.out)
  refine bodyPost_ret (v := .tuple #[.agg #[.int .i64 1, .string ((⟨#[109, 111, 100, 117, 108, 101, 32, 109, 59, 10, 105, 109, 112, 111, 114, 116, 32, 107, 59, 10]⟩ : ByteArray).extract 17 18), .int .i64 0, .int .u64 0, .int .i64 17], .int .i64 0]) (by simp [results, Tryz.results102, go_sem, q0, q1, q2, q3, q4, hx]) rfl ⟨by kernel_rfl, ?_⟩
  exact up (((((b2.setCell (Nat.le_refl _) _).setCell (Nat.le_refl _) _).setCell (Nat.le_refl _) _).setCell (Nat.le_refl _) _).setCell (Nat.le_refl _) _) _
theorem one8 (w : World) : Calls Tryz.prog 102 #[.string ⟨#[109, 111, 100, 117, 108, 101, 32, 109, 59, 10, 105, 109, 112, 111, 114, 116, 32, 107, 59, 10]⟩, .int .i64 8] w fun e w' => e = .returned (.tuple #[.agg #[.int .i64 5, .string ⟨#[59]⟩, .int .i64 0, .int .u64 0, .int .i64 8], .int .i64 0]) ∧ Below w.heap.size w w' := by
  go_enter Tryz.func102, Tryz.ntmps102
  go_wp2_with (first
    | (go_at_call 137; refine ((kind59 _).mono ?_); (rintro e w1 ⟨rfl, hb1⟩; have HB1 := Hd.mk hb1; have hs1 := bsize1 rfl hb1; have hc1 := bcell hb1; have hf1 := bfroz hb1; clear hb1))
    | (go_at_call 133; refine ((prefix_two 48 120 ((⟨#[109, 111, 100, 117, 108, 101, 32, 109, 59, 10, 105, 109, 112, 111, 114, 116, 32, 107, 59, 10]⟩ : ByteArray).extract 8 20) (of_decide_eq_true (by kernel_rfl)) (by kernel_rfl) _).mono ?_); (rintro e w3 ⟨rfl, rfl⟩)))
  refine wp_loop_rounds 7 ?_
  rw [rounds_succ]
  go_wp2_with (go_at_call 133; refine ((prefix_two 60 61 ((⟨#[109, 111, 100, 117, 108, 101, 32, 109, 59, 10, 105, 109, 112, 111, 114, 116, 32, 107, 59, 10]⟩ : ByteArray).extract 8 20) (of_decide_eq_true (by kernel_rfl)) (by kernel_rfl) _).mono ?_); (rintro e w3 ⟨rfl, rfl⟩))
  rw [rounds_succ]
  go_wp2_with (go_at_call 133; refine ((prefix_two 62 61 ((⟨#[109, 111, 100, 117, 108, 101, 32, 109, 59, 10, 105, 109, 112, 111, 114, 116, 32, 107, 59, 10]⟩ : ByteArray).extract 8 20) (of_decide_eq_true (by kernel_rfl)) (by kernel_rfl) _).mono ?_); (rintro e w3 ⟨rfl, rfl⟩))
  rw [rounds_succ]
  go_wp2_with (go_at_call 133; refine ((prefix_two 61 61 ((⟨#[109, 111, 100, 117, 108, 101, 32, 109, 59, 10, 105, 109, 112, 111, 114, 116, 32, 107, 59, 10]⟩ : ByteArray).extract 8 20) (of_decide_eq_true (by kernel_rfl)) (by kernel_rfl) _).mono ?_); (rintro e w3 ⟨rfl, rfl⟩))
  rw [rounds_succ]
  go_wp2_with (go_at_call 133; refine ((prefix_two 33 61 ((⟨#[109, 111, 100, 117, 108, 101, 32, 109, 59, 10, 105, 109, 112, 111, 114, 116, 32, 107, 59, 10]⟩ : ByteArray).extract 8 20) (of_decide_eq_true (by kernel_rfl)) (by kernel_rfl) _).mono ?_); (rintro e w3 ⟨rfl, rfl⟩))
  rw [rounds_succ]
  go_wp2_with (go_at_call 133; refine ((prefix_two 38 38 ((⟨#[109, 111, 100, 117, 108, 101, 32, 109, 59, 10, 105, 109, 112, 111, 114, 116, 32, 107, 59, 10]⟩ : ByteArray).extract 8 20) (of_decide_eq_true (by kernel_rfl)) (by kernel_rfl) _).mono ?_); (rintro e w3 ⟨rfl, rfl⟩))
  rw [rounds_succ]
  go_wp2_with (go_at_call 133; refine ((prefix_two 124 124 ((⟨#[109, 111, 100, 117, 108, 101, 32, 109, 59, 10, 105, 109, 112, 111, 114, 116, 32, 107, 59, 10]⟩ : ByteArray).extract 8 20) (of_decide_eq_true (by kernel_rfl)) (by kernel_rfl) _).mono ?_); (rintro e w3 ⟨rfl, rfl⟩))
  rw [rounds_succ]
  go_wp2_with (go_at_call 138; refine ((index_mark _).mono ?_); (rintro e w3 ⟨rfl, rfl⟩))
  have b2 := step (up (up0 w) _) HB1.out
  obtain ⟨hx, q0, q1, q2, q3, q4, hq⟩ := tokrest1 HB1.out
  refine bodyPost_ret (v := .tuple #[.agg #[.int .i64 5, .string ((⟨#[109, 111, 100, 117, 108, 101, 32, 109, 59, 10, 105, 109, 112, 111, 114, 116, 32, 107, 59, 10]⟩ : ByteArray).extract 8 9), .int .i64 0, .int .u64 0, .int .i64 8], .int .i64 0]) (by simp [results, Tryz.results102, go_sem, q0, q1, q2, q3, q4, hx]) rfl ⟨by kernel_rfl, ?_⟩
  exact up (up (((((b2.setCell (Nat.le_refl _) _).setCell (Nat.le_refl _) _).setCell (Nat.le_refl _) _).setCell (Nat.le_refl _) _).setCell (Nat.le_refl _) _) _) _
theorem one18 (w : World) : Calls Tryz.prog 102 #[.string ⟨#[109, 111, 100, 117, 108, 101, 32, 109, 59, 10, 105, 109, 112, 111, 114, 116, 32, 107, 59, 10]⟩, .int .i64 18] w fun e w' => e = .returned (.tuple #[.agg #[.int .i64 5, .string ⟨#[59]⟩, .int .i64 0, .int .u64 0, .int .i64 18], .int .i64 0]) ∧ Below w.heap.size w w' := by
  go_enter Tryz.func102, Tryz.ntmps102
  go_wp2_with (first
    | (go_at_call 137; refine ((kind59 _).mono ?_); (rintro e w1 ⟨rfl, hb1⟩; have HB1 := Hd.mk hb1; have hs1 := bsize1 rfl hb1; have hc1 := bcell hb1; have hf1 := bfroz hb1; clear hb1))
    | (go_at_call 133; refine ((prefix_two 48 120 ((⟨#[109, 111, 100, 117, 108, 101, 32, 109, 59, 10, 105, 109, 112, 111, 114, 116, 32, 107, 59, 10]⟩ : ByteArray).extract 18 20) (of_decide_eq_true (by kernel_rfl)) (by kernel_rfl) _).mono ?_); (rintro e w3 ⟨rfl, rfl⟩)))
  refine wp_loop_rounds 7 ?_
  rw [rounds_succ]
  go_wp2_with (go_at_call 133; refine ((prefix_two 60 61 ((⟨#[109, 111, 100, 117, 108, 101, 32, 109, 59, 10, 105, 109, 112, 111, 114, 116, 32, 107, 59, 10]⟩ : ByteArray).extract 18 20) (of_decide_eq_true (by kernel_rfl)) (by kernel_rfl) _).mono ?_); (rintro e w3 ⟨rfl, rfl⟩))
  rw [rounds_succ]
  go_wp2_with (go_at_call 133; refine ((prefix_two 62 61 ((⟨#[109, 111, 100, 117, 108, 101, 32, 109, 59, 10, 105, 109, 112, 111, 114, 116, 32, 107, 59, 10]⟩ : ByteArray).extract 18 20) (of_decide_eq_true (by kernel_rfl)) (by kernel_rfl) _).mono ?_); (rintro e w3 ⟨rfl, rfl⟩))
  rw [rounds_succ]
  go_wp2_with (go_at_call 133; refine ((prefix_two 61 61 ((⟨#[109, 111, 100, 117, 108, 101, 32, 109, 59, 10, 105, 109, 112, 111, 114, 116, 32, 107, 59, 10]⟩ : ByteArray).extract 18 20) (of_decide_eq_true (by kernel_rfl)) (by kernel_rfl) _).mono ?_); (rintro e w3 ⟨rfl, rfl⟩))
  rw [rounds_succ]
  go_wp2_with (go_at_call 133; refine ((prefix_two 33 61 ((⟨#[109, 111, 100, 117, 108, 101, 32, 109, 59, 10, 105, 109, 112, 111, 114, 116, 32, 107, 59, 10]⟩ : ByteArray).extract 18 20) (of_decide_eq_true (by kernel_rfl)) (by kernel_rfl) _).mono ?_); (rintro e w3 ⟨rfl, rfl⟩))
  rw [rounds_succ]
  go_wp2_with (go_at_call 133; refine ((prefix_two 38 38 ((⟨#[109, 111, 100, 117, 108, 101, 32, 109, 59, 10, 105, 109, 112, 111, 114, 116, 32, 107, 59, 10]⟩ : ByteArray).extract 18 20) (of_decide_eq_true (by kernel_rfl)) (by kernel_rfl) _).mono ?_); (rintro e w3 ⟨rfl, rfl⟩))
  rw [rounds_succ]
  go_wp2_with (go_at_call 133; refine ((prefix_two 124 124 ((⟨#[109, 111, 100, 117, 108, 101, 32, 109, 59, 10, 105, 109, 112, 111, 114, 116, 32, 107, 59, 10]⟩ : ByteArray).extract 18 20) (of_decide_eq_true (by kernel_rfl)) (by kernel_rfl) _).mono ?_); (rintro e w3 ⟨rfl, rfl⟩))
  rw [rounds_succ]
  go_wp2_with (go_at_call 138; refine ((index_mark _).mono ?_); (rintro e w3 ⟨rfl, rfl⟩))
  have b2 := step (up (up0 w) _) HB1.out
  obtain ⟨hx, q0, q1, q2, q3, q4, hq⟩ := tokrest1 HB1.out
  refine bodyPost_ret (v := .tuple #[.agg #[.int .i64 5, .string ((⟨#[109, 111, 100, 117, 108, 101, 32, 109, 59, 10, 105, 109, 112, 111, 114, 116, 32, 107, 59, 10]⟩ : ByteArray).extract 18 19), .int .i64 0, .int .u64 0, .int .i64 18], .int .i64 0]) (by simp [results, Tryz.results102, go_sem, q0, q1, q2, q3, q4, hx]) rfl ⟨by kernel_rfl, ?_⟩
  exact up (up (((((b2.setCell (Nat.le_refl _) _).setCell (Nat.le_refl _) _).setCell (Nat.le_refl _) _).setCell (Nat.le_refl _) _).setCell (Nat.le_refl _) _) _) _
end Go.Proofs.YtbhgpegcdiohlaaGreatDoor.Tr
