import Derived.Test.YtbhgpegcdiohlaaGreatDoorTrG
namespace Go.Proofs.YtbhgpegcdiohlaaGreatDoor.Tr
open Go Go.RowKit Go.Proofs
set_option linter.unusedVariables false

/-- the answer of a call that makes memory and turns nothing: a number, two -/
def SaysI (n : Int) (w : World) (e : Ending) (w' : World) : Prop := e = .returned (.int .i64 n) ∧ Below w.heap.size w w'
def SaysI2 (n m : Int) (w : World) (e : Ending) (w' : World) : Prop := e = .returned (.tuple #[.int .i64 n, .int .i64 m]) ∧ Below w.heap.size w w'
theorem saysI_of {b b' : Int} (h : b = b') {w : World} {e : Ending} {w' : World} (hs : SaysI b w e w') : SaysI b' w e w' := h ▸ hs
theorem saysI2_of {b b' c c' : Int} (h : b = b') (g : c = c') {w : World} {e : Ending} {w' : World} (hs : SaysI2 b c w e w') : SaysI2 b' c' w e w' := h ▸ g ▸ hs

def lvl (k op : Int) : Int :=
  if k = 7 then (if op = 13 then 1 else if op = 12 then 2 else if 6 ≤ op ∧ op ≤ 11 then 3 else if op = 1 ∨ op = 2 then 4 else if 3 ≤ op ∧ op ≤ 5 then 5 else 7)
  else if k = 6 then (if op = 1 ∨ op = 2 then 6 else 7) else 7
def plc (k op i : Int) : Int := if 0 < i ∨ lvl k op = 3 then lvl k op + 1 else lvl k op
def std (k op i : Int) : Int × Int :=
  if k = 4 ∨ k = 5 then (1, 1) else if k = 6 ∧ lvl k op = 6 then (6, 1) else if k = 6 ∧ (op = 3 ∨ op = 4) then (1, 1) else if k = 7 ∧ lvl k op < 7 then (plc k op i, 0) else (1, 0)
theorem lvl_le (k op : Int) : 1 ≤ lvl k op ∧ lvl k op ≤ 7 := by unfold lvl; repeat' split <;> omega

set_option maxHeartbeats 4000000 in
set_option maxRecDepth 100000 in
theorem level_any (k op : Int) (v2 v3 v4 v5 v6 : Value) (w : World) : Calls Tryz.prog 89 #[.agg #[.int .i64 k, .int .i64 op, v2, v3, v4, v5, v6]] w (SaysI (lvl k op) w) := by
  go_enter Tryz.func89, Tryz.ntmps89
  go_wp2_with fail
  all_goals go_ret
  all_goals refine saysI_of ?_ ⟨rfl, up (up0 _) _⟩
  all_goals (unfold lvl; simp_all; try omega)
set_option maxHeartbeats 4000000 in
set_option maxRecDepth 100000 in
theorem place_any (k op : Int) (v2 v3 v4 v5 v6 : Value) (i : Int) (w : World) : Calls Tryz.prog 109 #[.agg #[.int .i64 k, .int .i64 op, v2, v3, v4, v5, v6], .int .i64 i] w (SaysI (plc k op i) w) := by
  have hl := lvl_le k op
  generalize hx : lvl k op = x at hl
  have HX := Hd.mk hx
  clear hx
  obtain ⟨hl1, hl2⟩ := hl
  go_enter Tryz.func109, Tryz.ntmps109
  go_wp2_with (go_at_call 89; refine ((level_any k op _ _ _ _ _ _).mono ?_); (rw [HX.out]; rintro e w1 ⟨rfl, hb1⟩; have HB1 := Hd.mk hb1; clear hb1))
  all_goals go_ret
  all_goals refine saysI_of ?_ ⟨rfl, step (up (up0 _) _) HB1.out⟩
  all_goals (unfold plc; rw [HX.out]; simp_all; try omega)
theorem bsize1 {w a w1 : World} {o1 : Obj} (ha : a = w.alloc o1) (hb : Below a.heap.size a w1) : w.heap.size < w1.heap.size := by
  have := hb.size
  subst ha
  simp at this
  omega
set_option maxHeartbeats 1000000 in
set_option maxRecDepth 100000 in
theorem stands_4 (op : Int) (m n : ByteArray) (t b : Int) (A : Option Addr) (l c : Nat) (i : Int) (w : World) : Calls Tryz.prog 90 #[.agg #[.int .i64 4, .int .i64 op, .string m, .string n, .int .i64 t, .int .u64 b, .slice A l c], .int .i64 i] w (SaysI2 (std 4 op i).1 (std 4 op i).2 w) := by
  have HX : Hd (lvl 4 op = 7) := ⟨by simp [lvl]⟩
  have HY : Hd (1 = (std 4 op i).1 ∧ 1 = (std 4 op i).2) := ⟨by simp [std]⟩
  go_enter Tryz.func90, Tryz.ntmps90
  go_wp2_with (first
    | (go_at_call 89; (with_reducible refine ((level_any 4 op _ _ _ _ _ _).mono ?_)); (rw [HX.out]; rintro e w1 ⟨rfl, hb1⟩; have HB1 := Hd.mk hb1; have hc1 := bcell hb1; have hs1 := bsize1 rfl hb1; clear hb1))
    | (go_at_call 109; (with_reducible refine ((place_any 4 op _ _ _ _ _ i _).mono ?_)); (rintro e w2 ⟨rfl, hb2⟩; have HB2 := Hd.mk hb2; clear hb2)))
  go_ret2
  exact saysI2_of HY.out.1 HY.out.2 ⟨rfl, step (up (up0 _) _) HB1.out⟩
set_option maxHeartbeats 1000000 in
set_option maxRecDepth 100000 in
theorem stands_5 (op : Int) (m n : ByteArray) (t b : Int) (A : Option Addr) (l c : Nat) (i : Int) (w : World) : Calls Tryz.prog 90 #[.agg #[.int .i64 5, .int .i64 op, .string m, .string n, .int .i64 t, .int .u64 b, .slice A l c], .int .i64 i] w (SaysI2 (std 5 op i).1 (std 5 op i).2 w) := by
  have HX : Hd (lvl 5 op = 7) := ⟨by simp [lvl]⟩
  have HY : Hd (1 = (std 5 op i).1 ∧ 1 = (std 5 op i).2) := ⟨by simp [std]⟩
  go_enter Tryz.func90, Tryz.ntmps90
  go_wp2_with (first
    | (go_at_call 89; (with_reducible refine ((level_any 5 op _ _ _ _ _ _).mono ?_)); (rw [HX.out]; rintro e w1 ⟨rfl, hb1⟩; have HB1 := Hd.mk hb1; have hc1 := bcell hb1; have hs1 := bsize1 rfl hb1; clear hb1))
    | (go_at_call 109; (with_reducible refine ((place_any 5 op _ _ _ _ _ i _).mono ?_)); (rintro e w2 ⟨rfl, hb2⟩; have HB2 := Hd.mk hb2; clear hb2)))
  go_ret2
  exact saysI2_of HY.out.1 HY.out.2 ⟨rfl, step (up (up0 _) _) HB1.out⟩
set_option maxHeartbeats 1000000 in
set_option maxRecDepth 100000 in
theorem stands_61 (m n : ByteArray) (t b : Int) (A : Option Addr) (l c : Nat) (i : Int) (w : World) : Calls Tryz.prog 90 #[.agg #[.int .i64 6, .int .i64 1, .string m, .string n, .int .i64 t, .int .u64 b, .slice A l c], .int .i64 i] w (SaysI2 (std 6 1 i).1 (std 6 1 i).2 w) := by
  have HX : Hd (lvl 6 1 = 6) := ⟨by simp [lvl]⟩
  have HY : Hd (6 = (std 6 1 i).1 ∧ 1 = (std 6 1 i).2) := ⟨by simp [std, lvl]⟩
  go_enter Tryz.func90, Tryz.ntmps90
  go_wp2_with (first
    | (go_at_call 89; (with_reducible refine ((level_any 6 1 _ _ _ _ _ _).mono ?_)); (rw [HX.out]; rintro e w1 ⟨rfl, hb1⟩; have HB1 := Hd.mk hb1; have hc1 := bcell hb1; have hs1 := bsize1 rfl hb1; clear hb1))
    | (go_at_call 109; (with_reducible refine ((place_any 6 1 _ _ _ _ _ i _).mono ?_)); (rintro e w2 ⟨rfl, hb2⟩; have HB2 := Hd.mk hb2; clear hb2)))
  go_ret2
  exact saysI2_of HY.out.1 HY.out.2 ⟨rfl, step (up (up0 _) _) HB1.out⟩
set_option maxHeartbeats 1000000 in
set_option maxRecDepth 100000 in
theorem stands_62 (m n : ByteArray) (t b : Int) (A : Option Addr) (l c : Nat) (i : Int) (w : World) : Calls Tryz.prog 90 #[.agg #[.int .i64 6, .int .i64 2, .string m, .string n, .int .i64 t, .int .u64 b, .slice A l c], .int .i64 i] w (SaysI2 (std 6 2 i).1 (std 6 2 i).2 w) := by
  have HX : Hd (lvl 6 2 = 6) := ⟨by simp [lvl]⟩
  have HY : Hd (6 = (std 6 2 i).1 ∧ 1 = (std 6 2 i).2) := ⟨by simp [std, lvl]⟩
  go_enter Tryz.func90, Tryz.ntmps90
  go_wp2_with (first
    | (go_at_call 89; (with_reducible refine ((level_any 6 2 _ _ _ _ _ _).mono ?_)); (rw [HX.out]; rintro e w1 ⟨rfl, hb1⟩; have HB1 := Hd.mk hb1; have hc1 := bcell hb1; have hs1 := bsize1 rfl hb1; clear hb1))
    | (go_at_call 109; (with_reducible refine ((place_any 6 2 _ _ _ _ _ i _).mono ?_)); (rintro e w2 ⟨rfl, hb2⟩; have HB2 := Hd.mk hb2; clear hb2)))
  go_ret2
  exact saysI2_of HY.out.1 HY.out.2 ⟨rfl, step (up (up0 _) _) HB1.out⟩
set_option maxHeartbeats 1000000 in
set_option maxRecDepth 100000 in
theorem stands_63 (m n : ByteArray) (t b : Int) (A : Option Addr) (l c : Nat) (i : Int) (w : World) : Calls Tryz.prog 90 #[.agg #[.int .i64 6, .int .i64 3, .string m, .string n, .int .i64 t, .int .u64 b, .slice A l c], .int .i64 i] w (SaysI2 (std 6 3 i).1 (std 6 3 i).2 w) := by
  have HX : Hd (lvl 6 3 = 7) := ⟨by simp [lvl]⟩
  have HY : Hd (1 = (std 6 3 i).1 ∧ 1 = (std 6 3 i).2) := ⟨by simp [std, lvl]⟩
  go_enter Tryz.func90, Tryz.ntmps90
  go_wp2_with (first
    | (go_at_call 89; (with_reducible refine ((level_any 6 3 _ _ _ _ _ _).mono ?_)); (rw [HX.out]; rintro e w1 ⟨rfl, hb1⟩; have HB1 := Hd.mk hb1; have hc1 := bcell hb1; have hs1 := bsize1 rfl hb1; clear hb1))
    | (go_at_call 109; (with_reducible refine ((place_any 6 3 _ _ _ _ _ i _).mono ?_)); (rintro e w2 ⟨rfl, hb2⟩; have HB2 := Hd.mk hb2; clear hb2)))
  go_ret2
  exact saysI2_of HY.out.1 HY.out.2 ⟨rfl, step (up (up0 _) _) HB1.out⟩
set_option maxHeartbeats 1000000 in
set_option maxRecDepth 100000 in
theorem stands_64 (m n : ByteArray) (t b : Int) (A : Option Addr) (l c : Nat) (i : Int) (w : World) : Calls Tryz.prog 90 #[.agg #[.int .i64 6, .int .i64 4, .string m, .string n, .int .i64 t, .int .u64 b, .slice A l c], .int .i64 i] w (SaysI2 (std 6 4 i).1 (std 6 4 i).2 w) := by
  have HX : Hd (lvl 6 4 = 7) := ⟨by simp [lvl]⟩
  have HY : Hd (1 = (std 6 4 i).1 ∧ 1 = (std 6 4 i).2) := ⟨by simp [std, lvl]⟩
  go_enter Tryz.func90, Tryz.ntmps90
  go_wp2_with (first
    | (go_at_call 89; (with_reducible refine ((level_any 6 4 _ _ _ _ _ _).mono ?_)); (rw [HX.out]; rintro e w1 ⟨rfl, hb1⟩; have HB1 := Hd.mk hb1; have hc1 := bcell hb1; have hs1 := bsize1 rfl hb1; clear hb1))
    | (go_at_call 109; (with_reducible refine ((place_any 6 4 _ _ _ _ _ i _).mono ?_)); (rintro e w2 ⟨rfl, hb2⟩; have HB2 := Hd.mk hb2; clear hb2)))
  go_ret2
  exact saysI2_of HY.out.1 HY.out.2 ⟨rfl, step (up (up0 _) _) HB1.out⟩
set_option maxHeartbeats 1000000 in
set_option maxRecDepth 100000 in
theorem stands_6 (op : Int) (h1 : op ≠ 1) (h2 : op ≠ 2) (h3 : op ≠ 3) (h4 : op ≠ 4) (m n : ByteArray) (t b : Int) (A : Option Addr) (l c : Nat) (i : Int) (w : World) : Calls Tryz.prog 90 #[.agg #[.int .i64 6, .int .i64 op, .string m, .string n, .int .i64 t, .int .u64 b, .slice A l c], .int .i64 i] w (SaysI2 (std 6 op i).1 (std 6 op i).2 w) := by
  have HX : Hd (lvl 6 op = 7) := ⟨by simp [lvl, h1, h2]⟩
  have HY : Hd (1 = (std 6 op i).1 ∧ 0 = (std 6 op i).2) := ⟨by simp [std, lvl, h1, h2, h3, h4]⟩
  have f1 : (op == 1) = false := beq_eq_false_iff_ne.mpr h1
  have f2 : (op == 2) = false := beq_eq_false_iff_ne.mpr h2
  have f3 : (op == 3) = false := beq_eq_false_iff_ne.mpr h3
  have f4 : (op == 4) = false := beq_eq_false_iff_ne.mpr h4
  clear h1 h2 h3 h4
  go_enter Tryz.func90, Tryz.ntmps90
  go_wp2_with (first
    | (go_at_call 89; (with_reducible refine ((level_any 6 op _ _ _ _ _ _).mono ?_)); (rw [HX.out]; rintro e w1 ⟨rfl, hb1⟩; have HB1 := Hd.mk hb1; have hc1 := bcell hb1; have hs1 := bsize1 rfl hb1; clear hb1))
    | (go_at_call 109; (with_reducible refine ((place_any 6 op _ _ _ _ _ i _).mono ?_)); (rintro e w2 ⟨rfl, hb2⟩; have HB2 := Hd.mk hb2; clear hb2)))
  go_ret2
  exact saysI2_of HY.out.1 HY.out.2 ⟨rfl, step (up (up0 _) _) HB1.out⟩
set_option maxHeartbeats 1000000 in
set_option maxRecDepth 100000 in
theorem stands_7 (op : Int) (m n : ByteArray) (t b : Int) (A : Option Addr) (l c : Nat) (i : Int) (w : World) (x : Int) (hx : lvl 7 op = x) (h7 : x < 7) : Calls Tryz.prog 90 #[.agg #[.int .i64 7, .int .i64 op, .string m, .string n, .int .i64 t, .int .u64 b, .slice A l c], .int .i64 i] w (SaysI2 (std 7 op i).1 (std 7 op i).2 w) := by
  have HX := Hd.mk hx
  have HY : Hd (plc 7 op i = (std 7 op i).1 ∧ 0 = (std 7 op i).2) := ⟨by simp [std, hx, h7]⟩
  clear hx
  go_enter Tryz.func90, Tryz.ntmps90
  go_wp2_with (first
    | (go_at_call 89; (with_reducible refine ((level_any 7 op _ _ _ _ _ _).mono ?_)); (rw [HX.out]; rintro e w1 ⟨rfl, hb1⟩; have HB1 := Hd.mk hb1; have hc1 := bcell hb1; have hs1 := bsize1 rfl hb1; clear hb1))
    | (go_at_call 109; (with_reducible refine ((place_any 7 op _ _ _ _ _ i _).mono ?_)); (rintro e w2 ⟨rfl, hb2⟩; have HB2 := Hd.mk hb2; clear hb2)))
  go_ret2
  exact saysI2_of HY.out.1 HY.out.2 ⟨rfl, step (step (up (up0 _) _) HB1.out) HB2.out⟩
set_option maxHeartbeats 1000000 in
set_option maxRecDepth 100000 in
theorem stands_77 (op : Int) (m n : ByteArray) (t b : Int) (A : Option Addr) (l c : Nat) (i : Int) (w : World) (hx : lvl 7 op = 7) : Calls Tryz.prog 90 #[.agg #[.int .i64 7, .int .i64 op, .string m, .string n, .int .i64 t, .int .u64 b, .slice A l c], .int .i64 i] w (SaysI2 (std 7 op i).1 (std 7 op i).2 w) := by
  have HX := Hd.mk hx
  have HY : Hd (1 = (std 7 op i).1 ∧ 0 = (std 7 op i).2) := ⟨by simp [std, hx]⟩
  clear hx
  go_enter Tryz.func90, Tryz.ntmps90
  go_wp2_with (first
    | (go_at_call 89; (with_reducible refine ((level_any 7 op _ _ _ _ _ _).mono ?_)); (rw [HX.out]; rintro e w1 ⟨rfl, hb1⟩; have HB1 := Hd.mk hb1; have hc1 := bcell hb1; have hs1 := bsize1 rfl hb1; clear hb1))
    | (go_at_call 109; (with_reducible refine ((place_any 7 op _ _ _ _ _ i _).mono ?_)); (rintro e w2 ⟨rfl, hb2⟩; have HB2 := Hd.mk hb2; clear hb2)))
  go_ret2
  exact saysI2_of HY.out.1 HY.out.2 ⟨rfl, step (up (up0 _) _) HB1.out⟩
set_option maxHeartbeats 1000000 in
set_option maxRecDepth 100000 in
theorem stands_0 (k op : Int) (h4 : k ≠ 4) (h5 : k ≠ 5) (h6 : k ≠ 6) (h7 : k ≠ 7) (m n : ByteArray) (t b : Int) (A : Option Addr) (l c : Nat) (i : Int) (w : World) : Calls Tryz.prog 90 #[.agg #[.int .i64 k, .int .i64 op, .string m, .string n, .int .i64 t, .int .u64 b, .slice A l c], .int .i64 i] w (SaysI2 (std k op i).1 (std k op i).2 w) := by
  have HX : Hd (lvl k op = 7) := ⟨by simp [lvl, h6, h7]⟩
  have HY : Hd (1 = (std k op i).1 ∧ 0 = (std k op i).2) := ⟨by simp [std, h4, h5, h6, h7]⟩
  have f4 : (k == 4) = false := beq_eq_false_iff_ne.mpr h4
  have f5 : (k == 5) = false := beq_eq_false_iff_ne.mpr h5
  have f6 : (k == 6) = false := beq_eq_false_iff_ne.mpr h6
  have f7 : (k == 7) = false := beq_eq_false_iff_ne.mpr h7
  clear h4 h5 h6 h7
  go_enter Tryz.func90, Tryz.ntmps90
  go_wp2_with (first
    | (go_at_call 89; (with_reducible refine ((level_any k op _ _ _ _ _ _).mono ?_)); (rw [HX.out]; rintro e w1 ⟨rfl, hb1⟩; have HB1 := Hd.mk hb1; have hc1 := bcell hb1; have hs1 := bsize1 rfl hb1; clear hb1))
    | (go_at_call 109; (with_reducible refine ((place_any k op _ _ _ _ _ i _).mono ?_)); (rintro e w2 ⟨rfl, hb2⟩; have HB2 := Hd.mk hb2; clear hb2)))
  go_ret2
  exact saysI2_of HY.out.1 HY.out.2 ⟨rfl, step (up (up0 _) _) HB1.out⟩
theorem stands_any (k op : Int) (m n : ByteArray) (t b : Int) (A : Option Addr) (l c : Nat) (i : Int) (w : World) : Calls Tryz.prog 90 #[.agg #[.int .i64 k, .int .i64 op, .string m, .string n, .int .i64 t, .int .u64 b, .slice A l c], .int .i64 i] w (SaysI2 (std k op i).1 (std k op i).2 w) := by
  by_cases h4 : k = 4
  · subst h4; exact stands_4 op m n t b A l c i w
  by_cases h5 : k = 5
  · subst h5; exact stands_5 op m n t b A l c i w
  by_cases h6 : k = 6
  · subst h6
    by_cases g1 : op = 1
    · subst g1; exact stands_61 m n t b A l c i w
    by_cases g2 : op = 2
    · subst g2; exact stands_62 m n t b A l c i w
    by_cases g3 : op = 3
    · subst g3; exact stands_63 m n t b A l c i w
    by_cases g4 : op = 4
    · subst g4; exact stands_64 m n t b A l c i w
    exact stands_6 op g1 g2 g3 g4 m n t b A l c i w
  by_cases h7 : k = 7
  · subst h7
    by_cases g : lvl 7 op < 7
    · exact stands_7 op m n t b A l c i w _ rfl g
    · exact stands_77 op m n t b A l c i w (by have := lvl_le 7 op; omega)
  exact stands_0 k op h4 h5 h6 h7 m n t b A l c i w
end Go.Proofs.YtbhgpegcdiohlaaGreatDoor.Tr
