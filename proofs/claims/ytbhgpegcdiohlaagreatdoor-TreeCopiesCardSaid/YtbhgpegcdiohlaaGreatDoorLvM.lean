import Derived.Test.YtbhgpegcdiohlaaGreatDoorLvL
namespace Go.Proofs.YtbhgpegcdiohlaaGreatDoor.Tr
open Go Go.RowKit Go.Proofs
set_option linter.unusedVariables false
set_option maxRecDepth 100000
set_option maxHeartbeats 1000000
attribute [local go_sem] Instr.field asAgg
theorem kind10 (w : World) : Calls Tryz.prog 137 #[.int .u8 10] w fun e w' => e = .returned (.agg #[.bool true, .bool false, .bool false, .bool false]) ∧ Below w.heap.size w w' := by
  go_enter Tryz.func137, Tryz.ntmps137
  go_wp2
  refine bodyPost_ret (v := .agg #[.bool true, .bool false, .bool false, .bool false]) (by simp [results, Tryz.results137, go_sem]) rfl ⟨rfl, ?_⟩
  first | exact up (up0 _) _ | exact up (up (up0 _) _) _ | exact (up (up0 _) _).setCell (Nat.le_refl _) _ | exact ((up (up0 _) _).setCell (Nat.le_refl _) _).setCell (Nat.le_refl _) _ | exact (((up (up0 _) _).setCell (Nat.le_refl _) _).setCell (Nat.le_refl _) _).setCell (Nat.le_refl _) _
theorem kind32 (w : World) : Calls Tryz.prog 137 #[.int .u8 32] w fun e w' => e = .returned (.agg #[.bool true, .bool false, .bool false, .bool false]) ∧ Below w.heap.size w w' := by
  go_enter Tryz.func137, Tryz.ntmps137
  go_wp2
  refine bodyPost_ret (v := .agg #[.bool true, .bool false, .bool false, .bool false]) (by simp [results, Tryz.results137, go_sem]) rfl ⟨rfl, ?_⟩
  first | exact up (up0 _) _ | exact up (up (up0 _) _) _ | exact (up (up0 _) _).setCell (Nat.le_refl _) _ | exact ((up (up0 _) _).setCell (Nat.le_refl _) _).setCell (Nat.le_refl _) _ | exact (((up (up0 _) _).setCell (Nat.le_refl _) _).setCell (Nat.le_refl _) _).setCell (Nat.le_refl _) _
theorem kind59 (w : World) : Calls Tryz.prog 137 #[.int .u8 59] w fun e w' => e = .returned (.agg #[.bool false, .bool false, .bool false, .bool false]) ∧ Below w.heap.size w w' := by
  go_enter Tryz.func137, Tryz.ntmps137
  go_wp2
  refine bodyPost_ret (v := .agg #[.bool false, .bool false, .bool false, .bool false]) (by simp [results, Tryz.results137, go_sem]) rfl ⟨rfl, ?_⟩
  first | exact up (up0 _) _ | exact up (up (up0 _) _) _ | exact (up (up0 _) _).setCell (Nat.le_refl _) _ | exact ((up (up0 _) _).setCell (Nat.le_refl _) _).setCell (Nat.le_refl _) _ | exact (((up (up0 _) _).setCell (Nat.le_refl _) _).setCell (Nat.le_refl _) _).setCell (Nat.le_refl _) _
theorem kind100 (w : World) : Calls Tryz.prog 137 #[.int .u8 100] w fun e w' => e = .returned (.agg #[.bool false, .bool true, .bool false, .bool true]) ∧ Below w.heap.size w w' := by
  go_enter Tryz.func137, Tryz.ntmps137
  go_wp2
  refine bodyPost_ret (v := .agg #[.bool false, .bool true, .bool false, .bool true]) (by simp [results, Tryz.results137, go_sem]) rfl ⟨rfl, ?_⟩
  first | exact up (up0 _) _ | exact up (up (up0 _) _) _ | exact (up (up0 _) _).setCell (Nat.le_refl _) _ | exact ((up (up0 _) _).setCell (Nat.le_refl _) _).setCell (Nat.le_refl _) _ | exact (((up (up0 _) _).setCell (Nat.le_refl _) _).setCell (Nat.le_refl _) _).setCell (Nat.le_refl _) _
theorem kind101 (w : World) : Calls Tryz.prog 137 #[.int .u8 101] w fun e w' => e = .returned (.agg #[.bool false, .bool true, .bool false, .bool true]) ∧ Below w.heap.size w w' := by
  go_enter Tryz.func137, Tryz.ntmps137
  go_wp2
  refine bodyPost_ret (v := .agg #[.bool false, .bool true, .bool false, .bool true]) (by simp [results, Tryz.results137, go_sem]) rfl ⟨rfl, ?_⟩
  first | exact up (up0 _) _ | exact up (up (up0 _) _) _ | exact (up (up0 _) _).setCell (Nat.le_refl _) _ | exact ((up (up0 _) _).setCell (Nat.le_refl _) _).setCell (Nat.le_refl _) _ | exact (((up (up0 _) _).setCell (Nat.le_refl _) _).setCell (Nat.le_refl _) _).setCell (Nat.le_refl _) _
theorem kind105 (w : World) : Calls Tryz.prog 137 #[.int .u8 105] w fun e w' => e = .returned (.agg #[.bool false, .bool true, .bool false, .bool false]) ∧ Below w.heap.size w w' := by
  go_enter Tryz.func137, Tryz.ntmps137
  go_wp2
  refine bodyPost_ret (v := .agg #[.bool false, .bool true, .bool false, .bool false]) (by simp [results, Tryz.results137, go_sem]) rfl ⟨rfl, ?_⟩
  first | exact up (up0 _) _ | exact up (up (up0 _) _) _ | exact (up (up0 _) _).setCell (Nat.le_refl _) _ | exact ((up (up0 _) _).setCell (Nat.le_refl _) _).setCell (Nat.le_refl _) _ | exact (((up (up0 _) _).setCell (Nat.le_refl _) _).setCell (Nat.le_refl _) _).setCell (Nat.le_refl _) _
theorem kind107 (w : World) : Calls Tryz.prog 137 #[.int .u8 107] w fun e w' => e = .returned (.agg #[.bool false, .bool true, .bool false, .bool false]) ∧ Below w.heap.size w w' := by
  go_enter Tryz.func137, Tryz.ntmps137
  go_wp2
  refine bodyPost_ret (v := .agg #[.bool false, .bool true, .bool false, .bool false]) (by simp [results, Tryz.results137, go_sem]) rfl ⟨rfl, ?_⟩
  first | exact up (up0 _) _ | exact up (up (up0 _) _) _ | exact (up (up0 _) _).setCell (Nat.le_refl _) _ | exact ((up (up0 _) _).setCell (Nat.le_refl _) _).setCell (Nat.le_refl _) _ | exact (((up (up0 _) _).setCell (Nat.le_refl _) _).setCell (Nat.le_refl _) _).setCell (Nat.le_refl _) _
theorem kind108 (w : World) : Calls Tryz.prog 137 #[.int .u8 108] w fun e w' => e = .returned (.agg #[.bool false, .bool true, .bool false, .bool false]) ∧ Below w.heap.size w w' := by
  go_enter Tryz.func137, Tryz.ntmps137
  go_wp2
  refine bodyPost_ret (v := .agg #[.bool false, .bool true, .bool false, .bool false]) (by simp [results, Tryz.results137, go_sem]) rfl ⟨rfl, ?_⟩
  first | exact up (up0 _) _ | exact up (up (up0 _) _) _ | exact (up (up0 _) _).setCell (Nat.le_refl _) _ | exact ((up (up0 _) _).setCell (Nat.le_refl _) _).setCell (Nat.le_refl _) _ | exact (((up (up0 _) _).setCell (Nat.le_refl _) _).setCell (Nat.le_refl _) _).setCell (Nat.le_refl _) _
theorem kind109 (w : World) : Calls Tryz.prog 137 #[.int .u8 109] w fun e w' => e = .returned (.agg #[.bool false, .bool true, .bool false, .bool false]) ∧ Below w.heap.size w w' := by
  go_enter Tryz.func137, Tryz.ntmps137
  go_wp2
  refine bodyPost_ret (v := .agg #[.bool false, .bool true, .bool false, .bool false]) (by simp [results, Tryz.results137, go_sem]) rfl ⟨rfl, ?_⟩
  first | exact up (up0 _) _ | exact up (up (up0 _) _) _ | exact (up (up0 _) _).setCell (Nat.le_refl _) _ | exact ((up (up0 _) _).setCell (Nat.le_refl _) _).setCell (Nat.le_refl _) _ | exact (((up (up0 _) _).setCell (Nat.le_refl _) _).setCell (Nat.le_refl _) _).setCell (Nat.le_refl _) _
theorem kind111 (w : World) : Calls Tryz.prog 137 #[.int .u8 111] w fun e w' => e = .returned (.agg #[.bool false, .bool true, .bool false, .bool false]) ∧ Below w.heap.size w w' := by
  go_enter Tryz.func137, Tryz.ntmps137
  go_wp2
  refine bodyPost_ret (v := .agg #[.bool false, .bool true, .bool false, .bool false]) (by simp [results, Tryz.results137, go_sem]) rfl ⟨rfl, ?_⟩
  first | exact up (up0 _) _ | exact up (up (up0 _) _) _ | exact (up (up0 _) _).setCell (Nat.le_refl _) _ | exact ((up (up0 _) _).setCell (Nat.le_refl _) _).setCell (Nat.le_refl _) _ | exact (((up (up0 _) _).setCell (Nat.le_refl _) _).setCell (Nat.le_refl _) _).setCell (Nat.le_refl _) _
theorem kind112 (w : World) : Calls Tryz.prog 137 #[.int .u8 112] w fun e w' => e = .returned (.agg #[.bool false, .bool true, .bool false, .bool true]) ∧ Below w.heap.size w w' := by
  go_enter Tryz.func137, Tryz.ntmps137
  go_wp2
  refine bodyPost_ret (v := .agg #[.bool false, .bool true, .bool false, .bool true]) (by simp [results, Tryz.results137, go_sem]) rfl ⟨rfl, ?_⟩
  first | exact up (up0 _) _ | exact up (up (up0 _) _) _ | exact (up (up0 _) _).setCell (Nat.le_refl _) _ | exact ((up (up0 _) _).setCell (Nat.le_refl _) _).setCell (Nat.le_refl _) _ | exact (((up (up0 _) _).setCell (Nat.le_refl _) _).setCell (Nat.le_refl _) _).setCell (Nat.le_refl _) _
theorem kind114 (w : World) : Calls Tryz.prog 137 #[.int .u8 114] w fun e w' => e = .returned (.agg #[.bool false, .bool true, .bool false, .bool false]) ∧ Below w.heap.size w w' := by
  go_enter Tryz.func137, Tryz.ntmps137
  go_wp2
  refine bodyPost_ret (v := .agg #[.bool false, .bool true, .bool false, .bool false]) (by simp [results, Tryz.results137, go_sem]) rfl ⟨rfl, ?_⟩
  first | exact up (up0 _) _ | exact up (up (up0 _) _) _ | exact (up (up0 _) _).setCell (Nat.le_refl _) _ | exact ((up (up0 _) _).setCell (Nat.le_refl _) _).setCell (Nat.le_refl _) _ | exact (((up (up0 _) _).setCell (Nat.le_refl _) _).setCell (Nat.le_refl _) _).setCell (Nat.le_refl _) _
theorem kind116 (w : World) : Calls Tryz.prog 137 #[.int .u8 116] w fun e w' => e = .returned (.agg #[.bool false, .bool true, .bool false, .bool false]) ∧ Below w.heap.size w w' := by
  go_enter Tryz.func137, Tryz.ntmps137
  go_wp2
  refine bodyPost_ret (v := .agg #[.bool false, .bool true, .bool false, .bool false]) (by simp [results, Tryz.results137, go_sem]) rfl ⟨rfl, ?_⟩
  first | exact up (up0 _) _ | exact up (up (up0 _) _) _ | exact (up (up0 _) _).setCell (Nat.le_refl _) _ | exact ((up (up0 _) _).setCell (Nat.le_refl _) _).setCell (Nat.le_refl _) _ | exact (((up (up0 _) _).setCell (Nat.le_refl _) _).setCell (Nat.le_refl _) _).setCell (Nat.le_refl _) _
theorem kind117 (w : World) : Calls Tryz.prog 137 #[.int .u8 117] w fun e w' => e = .returned (.agg #[.bool false, .bool true, .bool false, .bool false]) ∧ Below w.heap.size w w' := by
  go_enter Tryz.func137, Tryz.ntmps137
  go_wp2
  refine bodyPost_ret (v := .agg #[.bool false, .bool true, .bool false, .bool false]) (by simp [results, Tryz.results137, go_sem]) rfl ⟨rfl, ?_⟩
  first | exact up (up0 _) _ | exact up (up (up0 _) _) _ | exact (up (up0 _) _).setCell (Nat.le_refl _) _ | exact ((up (up0 _) _).setCell (Nat.le_refl _) _).setCell (Nat.le_refl _) _ | exact (((up (up0 _) _).setCell (Nat.le_refl _) _).setCell (Nat.le_refl _) _).setCell (Nat.le_refl _) _
/-- no remark begins here -/
theorem prefix_no (s : ByteArray) (h : 2 ≤ s.size) (h2 : ((s.extract 0 2).toList == [47, 47]) = false) (w : World) : Calls Tryz.prog 133 #[.string s, .string ⟨#[47, 47]⟩] w fun e w' => e = .returned (.bool false) ∧ w = w' := by
  have h3 : (2 : Int) ≤ (s.size : Int) := by omega
  go_enter Tryz.func133, Tryz.ntmps133
  go_wp2_with go_in
  go_ret
  exact ⟨rfl, rfl⟩
end Go.Proofs.YtbhgpegcdiohlaaGreatDoor.Tr
