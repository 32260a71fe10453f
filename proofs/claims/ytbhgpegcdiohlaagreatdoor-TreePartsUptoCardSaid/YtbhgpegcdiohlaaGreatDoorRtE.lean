import Derived.Test.YtbhgpegcdiohlaaGreatDoorRtD
import Derived.Test.YtbhgpegcdiohlaaGreatDoorTrM
namespace Go.Proofs.YtbhgpegcdiohlaaGreatDoor.Tr
open Go Go.RowKit Go.Proofs
set_option linter.unusedVariables false
set_option maxRecDepth 100000
set_option maxHeartbeats 4000000
theorem isNo {x : Ex} {r : Int} (h : ExprNo r x) (hr : r ≠ 0) (he : errE x = r) : ExprIs x := fun w v hx => (h w v hx).mono fun e w' g => ends_no he.symm hr g
theorem isOk {x : Ex} (h : ExprOk x) (he : errE x = 0) : ExprIs x := fun w v hx => (h w v hx).mono fun e w' g => ends_ok he g
theorem ex0_kind (k op : Int) (m n : ByteArray) (t b : Int) (ks : Exs) (hk : k < 1 ∨ 8 < k) : ExprNo 1 (.mk k op m n t b ks) := by
  intro w v hv
  unfold Ex.Is at hv
  obtain ⟨A, l, c, rfl, g1⟩ := hv
  clear g1
  rcases hk with hk | hk
  · go_enter Tryz.func42, Tryz.ntmps42
    go_wp2_with (go_at_call 36; (with_reducible refine ((ask_no 1 (by decide) _).mono ?_)); (rintro e w1 ⟨rfl, rfl⟩))
    exact ⟨rfl, rfl, up (up0 _) _⟩
  · have h8 : decide (k ≤ 8) = false := decide_eq_false (by omega)
    go_enter Tryz.func42, Tryz.ntmps42
    go_wp2_with (go_at_call 36; (with_reducible refine ((ask_no 1 (by decide) _).mono ?_)); (rintro e w1 ⟨rfl, rfl⟩))
    exact ⟨rfl, rfl, up (up0 _) _⟩
theorem kind1 (op : Int) (m n : ByteArray) (t b : Int) (ks : Exs) (h0 : 0 ≤ b) (h1 : b < 18446744073709551616) (hmz : strOk m) (hnz : strOk n) (hK : ∀ x ∈ ks.toList, ExprIs x) : ExprIs (.mk 1 op m n t b ks) := by
  by_cases g_op0 : op = 0
  rotate_left
  · exact isNo (ex1_op0 op m n t b ks h0 h1 g_op0) (by decide) (by rw [errE, if_neg (by unfold shapedB; simp [g_op0]; try omega), seqI_n (by decide)])
  by_cases g_m : m.toList.isEmpty = true
  rotate_left
  · exact isNo (ex1_m op m n t b ks h0 h1 g_op0 (by simpa using g_m)) (by decide) (by rw [errE, if_neg (by unfold shapedB; simp [g_m, g_op0]; try omega), seqI_n (by decide)])
  by_cases g_n : n.toList.isEmpty = true
  rotate_left
  · exact isNo (ex1_n op m n t b ks h0 h1 g_op0 g_m (by simpa using g_n)) (by decide) (by rw [errE, if_neg (by unfold shapedB; simp [g_n, g_m]; try omega), seqI_n (by decide)])
  by_cases g_l : ks.toList.length = 0
  rotate_left
  · exact isNo (ex1_l op m n t b ks h0 h1 g_op0 g_m g_n g_l) (by decide) (by rw [errE, if_neg (by unfold shapedB; simp [g_l, g_n]; try omega), seqI_n (by decide)])
  by_cases g_lit : litB t b = true
  rotate_left
  · exact isNo (ex1_lit op m n t b ks h0 h1 g_op0 g_m g_n g_l (by simpa using g_lit)) (by decide) (by rw [errE, if_neg (by unfold shapedB; simp [g_lit, g_l]; try omega), seqI_n (by decide)])
  have hs : shapedB 1 op m n t b ks.toList.length = true := by unfold shapedB; simp [g_op0, g_m, g_n, g_l, g_lit]; try omega
  have hnil : ks = .nil := Exs.toList_inj (b := .nil) (List.eq_nil_of_length_eq_zero g_l)
  exact isOk (ex1_ok op m n t b ks h0 h1 g_op0 g_m g_n g_l g_lit) (by rw [errE, if_pos hs, seqI_0 rfl, if_neg (show ¬ ((1 : Int) = 3 ∨ (1 : Int) = 5) by decide), seqI_0 rfl, if_neg (show ¬ ((2 : Int) ≤ 1 ∧ (1 : Int) ≤ 5) by decide), seqI_0 rfl, if_neg (by omega), seqI_0 rfl, hnil, errL])
theorem kind2 (op : Int) (m n : ByteArray) (t b : Int) (ks : Exs) (h0 : 0 ≤ b) (h1 : b < 18446744073709551616) (hmz : strOk m) (hnz : strOk n) (hK : ∀ x ∈ ks.toList, ExprIs x) : ExprIs (.mk 2 op m n t b ks) := by
  by_cases g_op0 : op = 0
  rotate_left
  · exact isNo (ex2_op0 op m n t b ks h0 h1 g_op0) (by decide) (by rw [errE, if_neg (by unfold shapedB; simp [g_op0]; try omega), seqI_n (by decide)])
  by_cases g_m : m.toList.isEmpty = true
  rotate_left
  · exact isNo (ex2_m op m n t b ks h0 h1 g_op0 (by simpa using g_m)) (by decide) (by rw [errE, if_neg (by unfold shapedB; simp [g_m, g_op0]; try omega), seqI_n (by decide)])
  by_cases g_l : ks.toList.length = 0
  rotate_left
  · exact isNo (ex2_l op m n t b ks h0 h1 g_op0 g_m g_l) (by decide) (by rw [errE, if_neg (by unfold shapedB; simp [g_l, g_m]; try omega), seqI_n (by decide)])
  by_cases g_t : t = 0
  rotate_left
  · exact isNo (ex2_t op m n t b ks h0 h1 g_op0 g_m g_l g_t) (by decide) (by rw [errE, if_neg (by unfold shapedB; simp [g_t, g_l]; try omega), seqI_n (by decide)])
  by_cases g_b : b = 0
  rotate_left
  · exact isNo (ex2_b op m n t b ks h0 h1 g_op0 g_m g_l g_t g_b) (by decide) (by rw [errE, if_neg (by unfold shapedB; simp [g_b, g_t]; try omega), seqI_n (by decide)])
  have hs : shapedB 2 op m n t b ks.toList.length = true := by unfold shapedB; simp [g_op0, g_m, g_l, g_t, g_b]; try omega
  by_cases hn : nameErr n = 0
  rotate_left
  · exact isNo (ex2_name op m n t b ks h0 h1 g_op0 g_m g_l g_t g_b (nameErr n) hn hnz ⟨rfl⟩) hn (by rw [errE, if_pos hs, seqI_0 rfl, if_neg (show ¬ ((2 : Int) = 3 ∨ (2 : Int) = 5) by decide), seqI_0 rfl, if_pos (show (2 : Int) ≤ 2 ∧ (2 : Int) ≤ 5 by decide), seqI_n hn])
  have hnil : ks = .nil := Exs.toList_inj (b := .nil) (List.eq_nil_of_length_eq_zero g_l)
  exact isOk (ex2_ok op m n t b ks h0 h1 g_op0 g_m g_l g_t g_b hnz ⟨hn⟩) (by rw [errE, if_pos hs, seqI_0 rfl, if_neg (show ¬ ((2 : Int) = 3 ∨ (2 : Int) = 5) by decide), seqI_0 rfl, if_pos (show (2 : Int) ≤ 2 ∧ (2 : Int) ≤ 5 by decide), seqI_0 hn, if_neg (by omega), seqI_0 rfl, hnil, errL])
theorem kind3 (op : Int) (m n : ByteArray) (t b : Int) (ks : Exs) (h0 : 0 ≤ b) (h1 : b < 18446744073709551616) (hmz : strOk m) (hnz : strOk n) (hK : ∀ x ∈ ks.toList, ExprIs x) : ExprIs (.mk 3 op m n t b ks) := by
  by_cases g_op0 : op = 0
  rotate_left
  · exact isNo (ex3_op0 op m n t b ks h0 h1 g_op0) (by decide) (by rw [errE, if_neg (by unfold shapedB; simp [g_op0]; try omega), seqI_n (by decide)])
  by_cases g_l : ks.toList.length = 0
  rotate_left
  · exact isNo (ex3_l op m n t b ks h0 h1 g_op0 g_l) (by decide) (by rw [errE, if_neg (by unfold shapedB; simp [g_l, g_op0]; try omega), seqI_n (by decide)])
  by_cases g_t : t = 0
  rotate_left
  · exact isNo (ex3_t op m n t b ks h0 h1 g_op0 g_l g_t) (by decide) (by rw [errE, if_neg (by unfold shapedB; simp [g_t, g_l]; try omega), seqI_n (by decide)])
  by_cases g_b : b = 0
  rotate_left
  · exact isNo (ex3_b op m n t b ks h0 h1 g_op0 g_l g_t g_b) (by decide) (by rw [errE, if_neg (by unfold shapedB; simp [g_b, g_t]; try omega), seqI_n (by decide)])
  have hs : shapedB 3 op m n t b ks.toList.length = true := by unfold shapedB; simp [g_op0, g_l, g_t, g_b]; try omega
  by_cases hm : nameErr m = 0
  rotate_left
  · exact isNo (ex3_mod op m n t b ks h0 h1 g_op0 g_l g_t g_b (nameErr m) hm hmz ⟨rfl⟩) hm (by rw [errE, if_pos hs, seqI_0 rfl, if_pos (show (3 : Int) = 3 ∨ (3 : Int) = 5 by decide), seqI_n hm])
  by_cases hn : nameErr n = 0
  rotate_left
  · exact isNo (ex3_name op m n t b ks h0 h1 g_op0 g_l g_t g_b (nameErr n) hn hmz ⟨hm⟩ hnz ⟨rfl⟩) hn (by rw [errE, if_pos hs, seqI_0 rfl, if_pos (show (3 : Int) = 3 ∨ (3 : Int) = 5 by decide), seqI_0 hm, if_pos (show (2 : Int) ≤ 3 ∧ (3 : Int) ≤ 5 by decide), seqI_n hn])
  have hnil : ks = .nil := Exs.toList_inj (b := .nil) (List.eq_nil_of_length_eq_zero g_l)
  exact isOk (ex3_ok op m n t b ks h0 h1 g_op0 g_l g_t g_b hmz ⟨hm⟩ hnz ⟨hn⟩) (by rw [errE, if_pos hs, seqI_0 rfl, if_pos (show (3 : Int) = 3 ∨ (3 : Int) = 5 by decide), seqI_0 hm, if_pos (show (2 : Int) ≤ 3 ∧ (3 : Int) ≤ 5 by decide), seqI_0 hn, if_neg (by omega), seqI_0 rfl, hnil, errL])
theorem kind4 (op : Int) (m n : ByteArray) (t b : Int) (ks : Exs) (h0 : 0 ≤ b) (h1 : b < 18446744073709551616) (hmz : strOk m) (hnz : strOk n) (hK : ∀ x ∈ ks.toList, ExprIs x) : ExprIs (.mk 4 op m n t b ks) := by
  by_cases g_op0 : op = 0
  rotate_left
  · exact isNo (ex4_op0 op m n t b ks h0 h1 g_op0) (by decide) (by rw [errE, if_neg (by unfold shapedB; simp [g_op0]; try omega), seqI_n (by decide)])
  by_cases g_m : m.toList.isEmpty = true
  rotate_left
  · exact isNo (ex4_m op m n t b ks h0 h1 g_op0 (by simpa using g_m)) (by decide) (by rw [errE, if_neg (by unfold shapedB; simp [g_m, g_op0]; try omega), seqI_n (by decide)])
  by_cases g_t : t = 0
  rotate_left
  · exact isNo (ex4_t op m n t b ks h0 h1 g_op0 g_m g_t) (by decide) (by rw [errE, if_neg (by unfold shapedB; simp [g_t, g_m]; try omega), seqI_n (by decide)])
  by_cases g_b : b = 0
  rotate_left
  · exact isNo (ex4_b op m n t b ks h0 h1 g_op0 g_m g_t g_b) (by decide) (by rw [errE, if_neg (by unfold shapedB; simp [g_b, g_t]; try omega), seqI_n (by decide)])
  have hs : shapedB 4 op m n t b ks.toList.length = true := by unfold shapedB; simp [g_op0, g_m, g_t, g_b]; try omega
  by_cases hn : nameErr n = 0
  rotate_left
  · exact isNo (ex4_name op m n t b ks h0 h1 g_op0 g_m g_t g_b (nameErr n) hn hnz ⟨rfl⟩) hn (by rw [errE, if_pos hs, seqI_0 rfl, if_neg (show ¬ ((4 : Int) = 3 ∨ (4 : Int) = 5) by decide), seqI_0 rfl, if_pos (show (2 : Int) ≤ 4 ∧ (4 : Int) ≤ 5 by decide), seqI_n hn])
  by_cases h8 : 8 < ks.toList.length
  · exact isNo (ex4_big op m n t b ks h0 h1 g_op0 g_m g_t g_b hnz ⟨hn⟩ h8) (by decide) (by rw [errE, if_pos hs, seqI_0 rfl, if_neg (show ¬ ((4 : Int) = 3 ∨ (4 : Int) = 5) by decide), seqI_0 rfl, if_pos (show (2 : Int) ≤ 4 ∧ (4 : Int) ≤ 5 by decide), seqI_0 hn, if_pos h8, seqI_n (by decide)])
  have he : errE (.mk 4 op m n t b ks) = errL ks := by rw [errE, if_pos hs, seqI_0 rfl, if_neg (show ¬ ((4 : Int) = 3 ∨ (4 : Int) = 5) by decide), seqI_0 rfl, if_pos (show (2 : Int) ≤ 4 ∧ (4 : Int) ≤ 5 by decide), seqI_0 hn, if_neg h8, seqI_0 rfl]
  intro w v hx
  rw [he]
  exact ex4_loop op m n t b ks h0 h1 g_op0 g_m g_t g_b hnz ⟨hn⟩ (by omega) hK w v hx
theorem kind5 (op : Int) (m n : ByteArray) (t b : Int) (ks : Exs) (h0 : 0 ≤ b) (h1 : b < 18446744073709551616) (hmz : strOk m) (hnz : strOk n) (hK : ∀ x ∈ ks.toList, ExprIs x) : ExprIs (.mk 5 op m n t b ks) := by
  by_cases g_op0 : op = 0
  rotate_left
  · exact isNo (ex5_op0 op m n t b ks h0 h1 g_op0) (by decide) (by rw [errE, if_neg (by unfold shapedB; simp [g_op0]; try omega), seqI_n (by decide)])
  by_cases g_t : t = 0
  rotate_left
  · exact isNo (ex5_t op m n t b ks h0 h1 g_op0 g_t) (by decide) (by rw [errE, if_neg (by unfold shapedB; simp [g_t, g_op0]; try omega), seqI_n (by decide)])
  by_cases g_b : b = 0
  rotate_left
  · exact isNo (ex5_b op m n t b ks h0 h1 g_op0 g_t g_b) (by decide) (by rw [errE, if_neg (by unfold shapedB; simp [g_b, g_t]; try omega), seqI_n (by decide)])
  have hs : shapedB 5 op m n t b ks.toList.length = true := by unfold shapedB; simp [g_op0, g_t, g_b]; try omega
  by_cases hm : nameErr m = 0
  rotate_left
  · exact isNo (ex5_mod op m n t b ks h0 h1 g_op0 g_t g_b (nameErr m) hm hmz ⟨rfl⟩) hm (by rw [errE, if_pos hs, seqI_0 rfl, if_pos (show (5 : Int) = 3 ∨ (5 : Int) = 5 by decide), seqI_n hm])
  by_cases hn : nameErr n = 0
  rotate_left
  · exact isNo (ex5_name op m n t b ks h0 h1 g_op0 g_t g_b (nameErr n) hn hmz ⟨hm⟩ hnz ⟨rfl⟩) hn (by rw [errE, if_pos hs, seqI_0 rfl, if_pos (show (5 : Int) = 3 ∨ (5 : Int) = 5 by decide), seqI_0 hm, if_pos (show (2 : Int) ≤ 5 ∧ (5 : Int) ≤ 5 by decide), seqI_n hn])
  by_cases h8 : 8 < ks.toList.length
  · exact isNo (ex5_big op m n t b ks h0 h1 g_op0 g_t g_b hmz ⟨hm⟩ hnz ⟨hn⟩ h8) (by decide) (by rw [errE, if_pos hs, seqI_0 rfl, if_pos (show (5 : Int) = 3 ∨ (5 : Int) = 5 by decide), seqI_0 hm, if_pos (show (2 : Int) ≤ 5 ∧ (5 : Int) ≤ 5 by decide), seqI_0 hn, if_pos h8, seqI_n (by decide)])
  have he : errE (.mk 5 op m n t b ks) = errL ks := by rw [errE, if_pos hs, seqI_0 rfl, if_pos (show (5 : Int) = 3 ∨ (5 : Int) = 5 by decide), seqI_0 hm, if_pos (show (2 : Int) ≤ 5 ∧ (5 : Int) ≤ 5 by decide), seqI_0 hn, if_neg h8, seqI_0 rfl]
  intro w v hx
  rw [he]
  exact ex5_loop op m n t b ks h0 h1 g_op0 g_t g_b hmz ⟨hm⟩ hnz ⟨hn⟩ (by omega) hK w v hx
theorem kind6 (op : Int) (m n : ByteArray) (t b : Int) (ks : Exs) (h0 : 0 ≤ b) (h1 : b < 18446744073709551616) (hmz : strOk m) (hnz : strOk n) (hK : ∀ x ∈ ks.toList, ExprIs x) : ExprIs (.mk 6 op m n t b ks) := by
  by_cases g_op1 : 1 ≤ op
  rotate_left
  · exact isNo (ex6_op1 op m n t b ks h0 h1 (by omega)) (by decide) (by rw [errE, if_neg (by unfold shapedB; simp [g_op1]; try omega), seqI_n (by decide)])
  by_cases g_opn : op ≤ 4
  rotate_left
  · exact isNo (ex6_opn op m n t b ks h0 h1 g_op1 (by omega)) (by decide) (by rw [errE, if_neg (by unfold shapedB; simp [g_opn, g_op1]; try omega), seqI_n (by decide)])
  by_cases g_m : m.toList.isEmpty = true
  rotate_left
  · exact isNo (ex6_m op m n t b ks h0 h1 g_op1 g_opn (by simpa using g_m)) (by decide) (by rw [errE, if_neg (by unfold shapedB; simp [g_m, g_opn]; try omega), seqI_n (by decide)])
  by_cases g_n : n.toList.isEmpty = true
  rotate_left
  · exact isNo (ex6_n op m n t b ks h0 h1 g_op1 g_opn g_m (by simpa using g_n)) (by decide) (by rw [errE, if_neg (by unfold shapedB; simp [g_n, g_m]; try omega), seqI_n (by decide)])
  by_cases g_l : ks.toList.length = 1
  rotate_left
  · exact isNo (ex6_l op m n t b ks h0 h1 g_op1 g_opn g_m g_n g_l) (by decide) (by rw [errE, if_neg (by unfold shapedB; simp [g_l, g_n]; try omega), seqI_n (by decide)])
  by_cases g_t : t = 0
  rotate_left
  · exact isNo (ex6_t op m n t b ks h0 h1 g_op1 g_opn g_m g_n g_l g_t) (by decide) (by rw [errE, if_neg (by unfold shapedB; simp [g_t, g_l]; try omega), seqI_n (by decide)])
  by_cases g_b : b = 0
  rotate_left
  · exact isNo (ex6_b op m n t b ks h0 h1 g_op1 g_opn g_m g_n g_l g_t g_b) (by decide) (by rw [errE, if_neg (by unfold shapedB; simp [g_b, g_t]; try omega), seqI_n (by decide)])
  have hs : shapedB 6 op m n t b ks.toList.length = true := by unfold shapedB; simp [g_op1, g_opn, g_m, g_n, g_l, g_t, g_b]; try omega
  have he : errE (.mk 6 op m n t b ks) = errL ks := by rw [errE, if_pos hs, seqI_0 rfl, if_neg (show ¬ ((6 : Int) = 3 ∨ (6 : Int) = 5) by decide), seqI_0 rfl, if_neg (show ¬ ((2 : Int) ≤ 6 ∧ (6 : Int) ≤ 5) by decide), seqI_0 rfl, if_neg (by omega), seqI_0 rfl]
  intro w v hx
  rw [he]
  exact ex6_loop op m n t b ks h0 h1 g_op1 g_opn g_m g_n g_l g_t g_b hK w v hx
theorem kind7 (op : Int) (m n : ByteArray) (t b : Int) (ks : Exs) (h0 : 0 ≤ b) (h1 : b < 18446744073709551616) (hmz : strOk m) (hnz : strOk n) (hK : ∀ x ∈ ks.toList, ExprIs x) : ExprIs (.mk 7 op m n t b ks) := by
  by_cases g_op1 : 1 ≤ op
  rotate_left
  · exact isNo (ex7_op1 op m n t b ks h0 h1 (by omega)) (by decide) (by rw [errE, if_neg (by unfold shapedB; simp [g_op1]; try omega), seqI_n (by decide)])
  by_cases g_opn : op ≤ 13
  rotate_left
  · exact isNo (ex7_opn op m n t b ks h0 h1 g_op1 (by omega)) (by decide) (by rw [errE, if_neg (by unfold shapedB; simp [g_opn, g_op1]; try omega), seqI_n (by decide)])
  by_cases g_m : m.toList.isEmpty = true
  rotate_left
  · exact isNo (ex7_m op m n t b ks h0 h1 g_op1 g_opn (by simpa using g_m)) (by decide) (by rw [errE, if_neg (by unfold shapedB; simp [g_m, g_opn]; try omega), seqI_n (by decide)])
  by_cases g_n : n.toList.isEmpty = true
  rotate_left
  · exact isNo (ex7_n op m n t b ks h0 h1 g_op1 g_opn g_m (by simpa using g_n)) (by decide) (by rw [errE, if_neg (by unfold shapedB; simp [g_n, g_m]; try omega), seqI_n (by decide)])
  by_cases g_l : ks.toList.length = 2
  rotate_left
  · exact isNo (ex7_l op m n t b ks h0 h1 g_op1 g_opn g_m g_n g_l) (by decide) (by rw [errE, if_neg (by unfold shapedB; simp [g_l, g_n]; try omega), seqI_n (by decide)])
  by_cases g_t : t = 0
  rotate_left
  · exact isNo (ex7_t op m n t b ks h0 h1 g_op1 g_opn g_m g_n g_l g_t) (by decide) (by rw [errE, if_neg (by unfold shapedB; simp [g_t, g_l]; try omega), seqI_n (by decide)])
  by_cases g_b : b = 0
  rotate_left
  · exact isNo (ex7_b op m n t b ks h0 h1 g_op1 g_opn g_m g_n g_l g_t g_b) (by decide) (by rw [errE, if_neg (by unfold shapedB; simp [g_b, g_t]; try omega), seqI_n (by decide)])
  have hs : shapedB 7 op m n t b ks.toList.length = true := by unfold shapedB; simp [g_op1, g_opn, g_m, g_n, g_l, g_t, g_b]; try omega
  have he : errE (.mk 7 op m n t b ks) = errL ks := by rw [errE, if_pos hs, seqI_0 rfl, if_neg (show ¬ ((7 : Int) = 3 ∨ (7 : Int) = 5) by decide), seqI_0 rfl, if_neg (show ¬ ((2 : Int) ≤ 7 ∧ (7 : Int) ≤ 5) by decide), seqI_0 rfl, if_neg (by omega), seqI_0 rfl]
  intro w v hx
  rw [he]
  exact ex7_loop op m n t b ks h0 h1 g_op1 g_opn g_m g_n g_l g_t g_b hK w v hx
theorem kind8 (op : Int) (m n : ByteArray) (t b : Int) (ks : Exs) (h0 : 0 ≤ b) (h1 : b < 18446744073709551616) (hmz : strOk m) (hnz : strOk n) (hK : ∀ x ∈ ks.toList, ExprIs x) : ExprIs (.mk 8 op m n t b ks) := by
  by_cases g_op0 : op = 0
  rotate_left
  · exact isNo (ex8_op0 op m n t b ks h0 h1 g_op0) (by decide) (by rw [errE, if_neg (by unfold shapedB; simp [g_op0]; try omega), seqI_n (by decide)])
  by_cases g_m : m.toList.isEmpty = true
  rotate_left
  · exact isNo (ex8_m op m n t b ks h0 h1 g_op0 (by simpa using g_m)) (by decide) (by rw [errE, if_neg (by unfold shapedB; simp [g_m, g_op0]; try omega), seqI_n (by decide)])
  by_cases g_n : n.toList.isEmpty = true
  rotate_left
  · exact isNo (ex8_n op m n t b ks h0 h1 g_op0 g_m (by simpa using g_n)) (by decide) (by rw [errE, if_neg (by unfold shapedB; simp [g_n, g_m]; try omega), seqI_n (by decide)])
  by_cases g_l : ks.toList.length = 0
  rotate_left
  · exact isNo (ex8_l op m n t b ks h0 h1 g_op0 g_m g_n g_l) (by decide) (by rw [errE, if_neg (by unfold shapedB; simp [g_l, g_n]; try omega), seqI_n (by decide)])
  by_cases g_t : t = 0
  rotate_left
  · exact isNo (ex8_t op m n t b ks h0 h1 g_op0 g_m g_n g_l g_t) (by decide) (by rw [errE, if_neg (by unfold shapedB; simp [g_t, g_l]; try omega), seqI_n (by decide)])
  by_cases g_b : b = 0
  rotate_left
  · exact isNo (ex8_b op m n t b ks h0 h1 g_op0 g_m g_n g_l g_t g_b) (by decide) (by rw [errE, if_neg (by unfold shapedB; simp [g_b, g_t]; try omega), seqI_n (by decide)])
  have hs : shapedB 8 op m n t b ks.toList.length = true := by unfold shapedB; simp [g_op0, g_m, g_n, g_l, g_t, g_b]; try omega
  have hnil : ks = .nil := Exs.toList_inj (b := .nil) (List.eq_nil_of_length_eq_zero g_l)
  exact isOk (ex8_ok op m n t b ks h0 h1 g_op0 g_m g_n g_l g_t g_b) (by rw [errE, if_pos hs, seqI_0 rfl, if_neg (show ¬ ((8 : Int) = 3 ∨ (8 : Int) = 5) by decide), seqI_0 rfl, if_neg (show ¬ ((2 : Int) ≤ 8 ∧ (8 : Int) ≤ 5) by decide), seqI_0 rfl, if_neg (by omega), seqI_0 rfl, hnil, errL])
theorem expr_walk (k op : Int) (m n : ByteArray) (t b : Int) (ks : Exs) (h0 : 0 ≤ b) (h1 : b < 18446744073709551616) (hmz : strOk m) (hnz : strOk n) (hK : ∀ x ∈ ks.toList, ExprIs x) : ExprIs (.mk k op m n t b ks) := by
  by_cases hk : k < 1 ∨ 8 < k
  · refine isNo (ex0_kind k op m n t b ks hk) (by decide) ?_
    rw [errE, if_neg (by unfold shapedB; rw [if_neg (by omega), if_neg (by omega), if_neg (by omega), if_neg (by omega), if_neg (by omega), if_neg (by omega), if_neg (by omega), if_neg (by omega)]; decide), seqI_n (by decide)]
  · have : k = 1 ∨ k = 2 ∨ k = 3 ∨ k = 4 ∨ k = 5 ∨ k = 6 ∨ k = 7 ∨ k = 8 := by omega
    rcases this with rfl | rfl | rfl | rfl | rfl | rfl | rfl | rfl
    · exact kind1 op m n t b ks h0 h1 hmz hnz hK
    · exact kind2 op m n t b ks h0 h1 hmz hnz hK
    · exact kind3 op m n t b ks h0 h1 hmz hnz hK
    · exact kind4 op m n t b ks h0 h1 hmz hnz hK
    · exact kind5 op m n t b ks h0 h1 hmz hnz hK
    · exact kind6 op m n t b ks h0 h1 hmz hnz hK
    · exact kind7 op m n t b ks h0 h1 hmz hnz hK
    · exact kind8 op m n t b ks h0 h1 hmz hnz hK
mutual
theorem exprIs : ∀ x : Ex, x.Wf → ExprIs x
  | .mk k op m n t b ks, h => by
    unfold Ex.Wf at h
    exact expr_walk k op m n t b ks h.1 h.2.1 h.2.2.1 h.2.2.2.1 (exprIss ks h.2.2.2.2)
theorem exprIss : ∀ (ks : Exs), ks.Wf → ∀ x ∈ ks.toList, ExprIs x
  | .nil, _ => fun x hx => by simp [Exs.toList] at hx
  | .cons e l, h => fun x hx => by
    unfold Exs.Wf at h
    simp only [Exs.toList, List.mem_cons] at hx
    rcases hx with g | hx
    · rw [g]; exact exprIs e h.1
    · exact exprIss l h.2 x hx
end
end Go.Proofs.YtbhgpegcdiohlaaGreatDoor.Tr
