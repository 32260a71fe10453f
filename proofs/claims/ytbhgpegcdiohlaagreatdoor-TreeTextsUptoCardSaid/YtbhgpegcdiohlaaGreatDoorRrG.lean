import Derived.Test.YtbhgpegcdiohlaaGreatDoorRrE
namespace Go.Proofs.YtbhgpegcdiohlaaGreatDoor.Tr
open Go Go.RowKit Go.Proofs
set_option linter.unusedVariables false
set_option maxRecDepth 100000
set_option maxHeartbeats 4000000
theorem empty_of' {s : ByteArray} (h : s.toList.isEmpty = true) : s = ⟨#[]⟩ := bytes_eq (by simpa using h)
theorem zero_b (t b : Int) (z : Bool) (h : (decide (t = 0) && decide (b = 0)) = z) (w : World) : Calls Tryz.prog 129 #[.agg #[.int .i64 t, .int .u64 b]] w (Says z w) := h ▸ zero_any t b w
theorem sh1_n (op : Int) (m n : ByteArray) (t b : Int) (A : Option Addr) (l c : Nat) (h0 : 0 ≤ b) (h1 : b < 18446744073709551616) (h_n : n.toList.isEmpty = false) (w : World) : Calls Tryz.prog 95 #[.agg #[.int .i64 1, .int .i64 op, .string m, .string n, .int .i64 t, .int .u64 b, .slice A l c]] w (Says false w) := by
  go_enter Tryz.func95, Tryz.ntmps95
  go_wp2_with (first
    | (go_at_call 129; (with_reducible refine ((Z.out _).mono ?_)); (rintro e w1 ⟨rfl, hb1⟩; have HB1 := Hd.mk hb1; have hc1 := bcell hb1; have hs1 := bsize1 rfl hb1; clear hb1))
    | (go_at_call 130; (with_reducible refine ((ref_literal_any t b h0 h1 _).mono ?_)); (rw [L.out.out]; rintro e w2 ⟨rfl, hb2⟩; have HB2 := Hd.mk hb2; clear hb2)))
  go_ret
  refine ⟨rfl, ?_⟩
  first | exact up (up0 _) _ | exact step (step (up (up0 _) _) HB1.out) HB2.out | exact step (up (up0 _) _) HB1.out | exact step (up (up0 _) _) HB2.out
theorem sh1_m (op : Int) (m n : ByteArray) (t b : Int) (A : Option Addr) (l c : Nat) (h0 : 0 ≤ b) (h1 : b < 18446744073709551616) (h_n : n.toList.isEmpty = true) (h_m : m.toList.isEmpty = false) (w : World) : Calls Tryz.prog 95 #[.agg #[.int .i64 1, .int .i64 op, .string m, .string n, .int .i64 t, .int .u64 b, .slice A l c]] w (Says false w) := by
  obtain rfl := empty_of' h_n
  clear h_n
  go_enter Tryz.func95, Tryz.ntmps95
  go_wp2_with (first
    | (go_at_call 129; (with_reducible refine ((Z.out _).mono ?_)); (rintro e w1 ⟨rfl, hb1⟩; have HB1 := Hd.mk hb1; have hc1 := bcell hb1; have hs1 := bsize1 rfl hb1; clear hb1))
    | (go_at_call 130; (with_reducible refine ((ref_literal_any t b h0 h1 _).mono ?_)); (rw [L.out.out]; rintro e w2 ⟨rfl, hb2⟩; have HB2 := Hd.mk hb2; clear hb2)))
  go_ret
  refine ⟨rfl, ?_⟩
  first | exact up (up0 _) _ | exact step (step (up (up0 _) _) HB1.out) HB2.out | exact step (up (up0 _) _) HB1.out | exact step (up (up0 _) _) HB2.out
theorem sh1_op0 (op : Int) (m n : ByteArray) (t b : Int) (A : Option Addr) (l c : Nat) (h0 : 0 ≤ b) (h1 : b < 18446744073709551616) (h_n : n.toList.isEmpty = true) (h_m : m.toList.isEmpty = true) (h_op0 : op ≠ 0) (w : World) : Calls Tryz.prog 95 #[.agg #[.int .i64 1, .int .i64 op, .string m, .string n, .int .i64 t, .int .u64 b, .slice A l c]] w (Says false w) := by
  obtain rfl := empty_of' h_n
  clear h_n
  obtain rfl := empty_of' h_m
  clear h_m
  have fo : (op == 0) = false := beq_eq_false_iff_ne.mpr h_op0
  have fo2 : (op != 0) = true := bne_iff_ne.mpr h_op0
  clear h_op0
  go_enter Tryz.func95, Tryz.ntmps95
  go_wp2_with (first
    | (go_at_call 129; (with_reducible refine ((Z.out _).mono ?_)); (rintro e w1 ⟨rfl, hb1⟩; have HB1 := Hd.mk hb1; have hc1 := bcell hb1; have hs1 := bsize1 rfl hb1; clear hb1))
    | (go_at_call 130; (with_reducible refine ((ref_literal_any t b h0 h1 _).mono ?_)); (rw [L.out.out]; rintro e w2 ⟨rfl, hb2⟩; have HB2 := Hd.mk hb2; clear hb2)))
  go_ret
  refine ⟨rfl, ?_⟩
  first | exact up (up0 _) _ | exact step (step (up (up0 _) _) HB1.out) HB2.out | exact step (up (up0 _) _) HB1.out | exact step (up (up0 _) _) HB2.out
theorem sh1_l0 (op : Int) (m n : ByteArray) (t b : Int) (A : Option Addr) (l c : Nat) (h0 : 0 ≤ b) (h1 : b < 18446744073709551616) (h_n : n.toList.isEmpty = true) (h_m : m.toList.isEmpty = true) (h_op0 : op = 0) (h_l0 : l ≠ 0) (w : World) : Calls Tryz.prog 95 #[.agg #[.int .i64 1, .int .i64 op, .string m, .string n, .int .i64 t, .int .u64 b, .slice A l c]] w (Says false w) := by
  obtain rfl := empty_of' h_n
  clear h_n
  obtain rfl := empty_of' h_m
  clear h_m
  subst h_op0
  have fl : ((l : Int) == 0) = false := beq_eq_false_iff_ne.mpr (by omega)
  go_enter Tryz.func95, Tryz.ntmps95
  go_wp2_with (first
    | (go_at_call 129; (with_reducible refine ((Z.out _).mono ?_)); (rintro e w1 ⟨rfl, hb1⟩; have HB1 := Hd.mk hb1; have hc1 := bcell hb1; have hs1 := bsize1 rfl hb1; clear hb1))
    | (go_at_call 130; (with_reducible refine ((ref_literal_any t b h0 h1 _).mono ?_)); (rw [L.out.out]; rintro e w2 ⟨rfl, hb2⟩; have HB2 := Hd.mk hb2; clear hb2)))
  go_ret
  refine ⟨rfl, ?_⟩
  first | exact up (up0 _) _ | exact step (step (up (up0 _) _) HB1.out) HB2.out | exact step (up (up0 _) _) HB1.out | exact step (up (up0 _) _) HB2.out
theorem sh1_lit (op : Int) (m n : ByteArray) (t b : Int) (A : Option Addr) (l c : Nat) (h0 : 0 ≤ b) (h1 : b < 18446744073709551616) (h_n : n.toList.isEmpty = true) (h_m : m.toList.isEmpty = true) (h_op0 : op = 0) (h_l0 : l = 0) (h_lit : litB t b = false) (w : World) : Calls Tryz.prog 95 #[.agg #[.int .i64 1, .int .i64 op, .string m, .string n, .int .i64 t, .int .u64 b, .slice A l c]] w (Says false w) := by
  obtain rfl := empty_of' h_n
  clear h_n
  obtain rfl := empty_of' h_m
  clear h_m
  subst h_op0
  subst h_l0
  have L := Hd.mk (show Hd (litB t b = false) from ⟨h_lit⟩)
  clear h_lit
  go_enter Tryz.func95, Tryz.ntmps95
  go_wp2_with (first
    | (go_at_call 129; (with_reducible refine ((Z.out _).mono ?_)); (rintro e w1 ⟨rfl, hb1⟩; have HB1 := Hd.mk hb1; have hc1 := bcell hb1; have hs1 := bsize1 rfl hb1; clear hb1))
    | (go_at_call 130; (with_reducible refine ((ref_literal_any t b h0 h1 _).mono ?_)); (rw [L.out.out]; rintro e w2 ⟨rfl, hb2⟩; have HB2 := Hd.mk hb2; clear hb2)))
  go_ret
  refine ⟨rfl, ?_⟩
  first | exact up (up0 _) _ | exact step (step (up (up0 _) _) HB1.out) HB2.out | exact step (up (up0 _) _) HB1.out | exact step (up (up0 _) _) HB2.out
theorem sh1_ok (op : Int) (m n : ByteArray) (t b : Int) (A : Option Addr) (l c : Nat) (h0 : 0 ≤ b) (h1 : b < 18446744073709551616) (h_n : n.toList.isEmpty = true) (h_m : m.toList.isEmpty = true) (h_op0 : op = 0) (h_l0 : l = 0) (h_lit : litB t b = true) (w : World) : Calls Tryz.prog 95 #[.agg #[.int .i64 1, .int .i64 op, .string m, .string n, .int .i64 t, .int .u64 b, .slice A l c]] w (Says true w) := by
  obtain rfl := empty_of' h_n
  clear h_n
  obtain rfl := empty_of' h_m
  clear h_m
  subst h_op0
  subst h_l0
  have L := Hd.mk (show Hd (litB t b = true) from ⟨h_lit⟩)
  clear h_lit
  go_enter Tryz.func95, Tryz.ntmps95
  go_wp2_with (first
    | (go_at_call 129; (with_reducible refine ((Z.out _).mono ?_)); (rintro e w1 ⟨rfl, hb1⟩; have HB1 := Hd.mk hb1; have hc1 := bcell hb1; have hs1 := bsize1 rfl hb1; clear hb1))
    | (go_at_call 130; (with_reducible refine ((ref_literal_any t b h0 h1 _).mono ?_)); (rw [L.out.out]; rintro e w2 ⟨rfl, hb2⟩; have HB2 := Hd.mk hb2; clear hb2)))
  go_ret
  refine ⟨rfl, ?_⟩
  first | exact up (up0 _) _ | exact step (step (up (up0 _) _) HB1.out) HB2.out | exact step (up (up0 _) _) HB1.out | exact step (up (up0 _) _) HB2.out
theorem sh2_m (op : Int) (m n : ByteArray) (t b : Int) (A : Option Addr) (l c : Nat) (h0 : 0 ≤ b) (h1 : b < 18446744073709551616) (h_m : m.toList.isEmpty = false) (w : World) : Calls Tryz.prog 95 #[.agg #[.int .i64 2, .int .i64 op, .string m, .string n, .int .i64 t, .int .u64 b, .slice A l c]] w (Says false w) := by
  go_enter Tryz.func95, Tryz.ntmps95
  go_wp2_with (first
    | (go_at_call 129; (with_reducible refine ((Z.out _).mono ?_)); (rintro e w1 ⟨rfl, hb1⟩; have HB1 := Hd.mk hb1; have hc1 := bcell hb1; have hs1 := bsize1 rfl hb1; clear hb1))
    | (go_at_call 130; (with_reducible refine ((ref_literal_any t b h0 h1 _).mono ?_)); (rw [L.out.out]; rintro e w2 ⟨rfl, hb2⟩; have HB2 := Hd.mk hb2; clear hb2)))
  go_ret
  refine ⟨rfl, ?_⟩
  first | exact up (up0 _) _ | exact step (step (up (up0 _) _) HB1.out) HB2.out | exact step (up (up0 _) _) HB1.out | exact step (up (up0 _) _) HB2.out
theorem sh2_z (op : Int) (m n : ByteArray) (t b : Int) (A : Option Addr) (l c : Nat) (h0 : 0 ≤ b) (h1 : b < 18446744073709551616) (h_m : m.toList.isEmpty = true) (h_z : (decide (t = 0) && decide (b = 0)) = false) (w : World) : Calls Tryz.prog 95 #[.agg #[.int .i64 2, .int .i64 op, .string m, .string n, .int .i64 t, .int .u64 b, .slice A l c]] w (Says false w) := by
  obtain rfl := empty_of' h_m
  clear h_m
  have Z := Hd.mk (zero_b t b false h_z)
  clear h_z
  go_enter Tryz.func95, Tryz.ntmps95
  go_wp2_with (first
    | (go_at_call 129; (with_reducible refine ((Z.out _).mono ?_)); (rintro e w1 ⟨rfl, hb1⟩; have HB1 := Hd.mk hb1; have hc1 := bcell hb1; have hs1 := bsize1 rfl hb1; clear hb1))
    | (go_at_call 130; (with_reducible refine ((ref_literal_any t b h0 h1 _).mono ?_)); (rw [L.out.out]; rintro e w2 ⟨rfl, hb2⟩; have HB2 := Hd.mk hb2; clear hb2)))
  go_ret
  refine ⟨rfl, ?_⟩
  first | exact up (up0 _) _ | exact step (step (up (up0 _) _) HB1.out) HB2.out | exact step (up (up0 _) _) HB1.out | exact step (up (up0 _) _) HB2.out
theorem sh2_op0 (op : Int) (m n : ByteArray) (t b : Int) (A : Option Addr) (l c : Nat) (h0 : 0 ≤ b) (h1 : b < 18446744073709551616) (h_m : m.toList.isEmpty = true) (h_z : (decide (t = 0) && decide (b = 0)) = true) (h_op0 : op ≠ 0) (w : World) : Calls Tryz.prog 95 #[.agg #[.int .i64 2, .int .i64 op, .string m, .string n, .int .i64 t, .int .u64 b, .slice A l c]] w (Says false w) := by
  obtain rfl := empty_of' h_m
  clear h_m
  have Z := Hd.mk (zero_b t b true h_z)
  clear h_z
  have fo : (op == 0) = false := beq_eq_false_iff_ne.mpr h_op0
  have fo2 : (op != 0) = true := bne_iff_ne.mpr h_op0
  clear h_op0
  go_enter Tryz.func95, Tryz.ntmps95
  go_wp2_with (first
    | (go_at_call 129; (with_reducible refine ((Z.out _).mono ?_)); (rintro e w1 ⟨rfl, hb1⟩; have HB1 := Hd.mk hb1; have hc1 := bcell hb1; have hs1 := bsize1 rfl hb1; clear hb1))
    | (go_at_call 130; (with_reducible refine ((ref_literal_any t b h0 h1 _).mono ?_)); (rw [L.out.out]; rintro e w2 ⟨rfl, hb2⟩; have HB2 := Hd.mk hb2; clear hb2)))
  go_ret
  refine ⟨rfl, ?_⟩
  first | exact up (up0 _) _ | exact step (step (up (up0 _) _) HB1.out) HB2.out | exact step (up (up0 _) _) HB1.out | exact step (up (up0 _) _) HB2.out
theorem sh2_l0 (op : Int) (m n : ByteArray) (t b : Int) (A : Option Addr) (l c : Nat) (h0 : 0 ≤ b) (h1 : b < 18446744073709551616) (h_m : m.toList.isEmpty = true) (h_z : (decide (t = 0) && decide (b = 0)) = true) (h_op0 : op = 0) (h_l0 : l ≠ 0) (w : World) : Calls Tryz.prog 95 #[.agg #[.int .i64 2, .int .i64 op, .string m, .string n, .int .i64 t, .int .u64 b, .slice A l c]] w (Says false w) := by
  obtain rfl := empty_of' h_m
  clear h_m
  have Z := Hd.mk (zero_b t b true h_z)
  clear h_z
  subst h_op0
  have fl : ((l : Int) == 0) = false := beq_eq_false_iff_ne.mpr (by omega)
  go_enter Tryz.func95, Tryz.ntmps95
  go_wp2_with (first
    | (go_at_call 129; (with_reducible refine ((Z.out _).mono ?_)); (rintro e w1 ⟨rfl, hb1⟩; have HB1 := Hd.mk hb1; have hc1 := bcell hb1; have hs1 := bsize1 rfl hb1; clear hb1))
    | (go_at_call 130; (with_reducible refine ((ref_literal_any t b h0 h1 _).mono ?_)); (rw [L.out.out]; rintro e w2 ⟨rfl, hb2⟩; have HB2 := Hd.mk hb2; clear hb2)))
  go_ret
  refine ⟨rfl, ?_⟩
  first | exact up (up0 _) _ | exact step (step (up (up0 _) _) HB1.out) HB2.out | exact step (up (up0 _) _) HB1.out | exact step (up (up0 _) _) HB2.out
theorem sh2_ok (op : Int) (m n : ByteArray) (t b : Int) (A : Option Addr) (l c : Nat) (h0 : 0 ≤ b) (h1 : b < 18446744073709551616) (h_m : m.toList.isEmpty = true) (h_z : (decide (t = 0) && decide (b = 0)) = true) (h_op0 : op = 0) (h_l0 : l = 0) (w : World) : Calls Tryz.prog 95 #[.agg #[.int .i64 2, .int .i64 op, .string m, .string n, .int .i64 t, .int .u64 b, .slice A l c]] w (Says true w) := by
  obtain rfl := empty_of' h_m
  clear h_m
  have Z := Hd.mk (zero_b t b true h_z)
  clear h_z
  subst h_op0
  subst h_l0
  go_enter Tryz.func95, Tryz.ntmps95
  go_wp2_with (first
    | (go_at_call 129; (with_reducible refine ((Z.out _).mono ?_)); (rintro e w1 ⟨rfl, hb1⟩; have HB1 := Hd.mk hb1; have hc1 := bcell hb1; have hs1 := bsize1 rfl hb1; clear hb1))
    | (go_at_call 130; (with_reducible refine ((ref_literal_any t b h0 h1 _).mono ?_)); (rw [L.out.out]; rintro e w2 ⟨rfl, hb2⟩; have HB2 := Hd.mk hb2; clear hb2)))
  go_ret
  refine ⟨rfl, ?_⟩
  first | exact up (up0 _) _ | exact step (step (up (up0 _) _) HB1.out) HB2.out | exact step (up (up0 _) _) HB1.out | exact step (up (up0 _) _) HB2.out
theorem sh3_z (op : Int) (m n : ByteArray) (t b : Int) (A : Option Addr) (l c : Nat) (h0 : 0 ≤ b) (h1 : b < 18446744073709551616) (h_z : (decide (t = 0) && decide (b = 0)) = false) (w : World) : Calls Tryz.prog 95 #[.agg #[.int .i64 3, .int .i64 op, .string m, .string n, .int .i64 t, .int .u64 b, .slice A l c]] w (Says false w) := by
  have Z := Hd.mk (zero_b t b false h_z)
  clear h_z
  go_enter Tryz.func95, Tryz.ntmps95
  go_wp2_with (first
    | (go_at_call 129; (with_reducible refine ((Z.out _).mono ?_)); (rintro e w1 ⟨rfl, hb1⟩; have HB1 := Hd.mk hb1; have hc1 := bcell hb1; have hs1 := bsize1 rfl hb1; clear hb1))
    | (go_at_call 130; (with_reducible refine ((ref_literal_any t b h0 h1 _).mono ?_)); (rw [L.out.out]; rintro e w2 ⟨rfl, hb2⟩; have HB2 := Hd.mk hb2; clear hb2)))
  go_ret
  refine ⟨rfl, ?_⟩
  first | exact up (up0 _) _ | exact step (step (up (up0 _) _) HB1.out) HB2.out | exact step (up (up0 _) _) HB1.out | exact step (up (up0 _) _) HB2.out
theorem sh3_op0 (op : Int) (m n : ByteArray) (t b : Int) (A : Option Addr) (l c : Nat) (h0 : 0 ≤ b) (h1 : b < 18446744073709551616) (h_z : (decide (t = 0) && decide (b = 0)) = true) (h_op0 : op ≠ 0) (w : World) : Calls Tryz.prog 95 #[.agg #[.int .i64 3, .int .i64 op, .string m, .string n, .int .i64 t, .int .u64 b, .slice A l c]] w (Says false w) := by
  have Z := Hd.mk (zero_b t b true h_z)
  clear h_z
  have fo : (op == 0) = false := beq_eq_false_iff_ne.mpr h_op0
  have fo2 : (op != 0) = true := bne_iff_ne.mpr h_op0
  clear h_op0
  go_enter Tryz.func95, Tryz.ntmps95
  go_wp2_with (first
    | (go_at_call 129; (with_reducible refine ((Z.out _).mono ?_)); (rintro e w1 ⟨rfl, hb1⟩; have HB1 := Hd.mk hb1; have hc1 := bcell hb1; have hs1 := bsize1 rfl hb1; clear hb1))
    | (go_at_call 130; (with_reducible refine ((ref_literal_any t b h0 h1 _).mono ?_)); (rw [L.out.out]; rintro e w2 ⟨rfl, hb2⟩; have HB2 := Hd.mk hb2; clear hb2)))
  go_ret
  refine ⟨rfl, ?_⟩
  first | exact up (up0 _) _ | exact step (step (up (up0 _) _) HB1.out) HB2.out | exact step (up (up0 _) _) HB1.out | exact step (up (up0 _) _) HB2.out
theorem sh3_l0 (op : Int) (m n : ByteArray) (t b : Int) (A : Option Addr) (l c : Nat) (h0 : 0 ≤ b) (h1 : b < 18446744073709551616) (h_z : (decide (t = 0) && decide (b = 0)) = true) (h_op0 : op = 0) (h_l0 : l ≠ 0) (w : World) : Calls Tryz.prog 95 #[.agg #[.int .i64 3, .int .i64 op, .string m, .string n, .int .i64 t, .int .u64 b, .slice A l c]] w (Says false w) := by
  have Z := Hd.mk (zero_b t b true h_z)
  clear h_z
  subst h_op0
  have fl : ((l : Int) == 0) = false := beq_eq_false_iff_ne.mpr (by omega)
  go_enter Tryz.func95, Tryz.ntmps95
  go_wp2_with (first
    | (go_at_call 129; (with_reducible refine ((Z.out _).mono ?_)); (rintro e w1 ⟨rfl, hb1⟩; have HB1 := Hd.mk hb1; have hc1 := bcell hb1; have hs1 := bsize1 rfl hb1; clear hb1))
    | (go_at_call 130; (with_reducible refine ((ref_literal_any t b h0 h1 _).mono ?_)); (rw [L.out.out]; rintro e w2 ⟨rfl, hb2⟩; have HB2 := Hd.mk hb2; clear hb2)))
  go_ret
  refine ⟨rfl, ?_⟩
  first | exact up (up0 _) _ | exact step (step (up (up0 _) _) HB1.out) HB2.out | exact step (up (up0 _) _) HB1.out | exact step (up (up0 _) _) HB2.out
theorem sh3_ok (op : Int) (m n : ByteArray) (t b : Int) (A : Option Addr) (l c : Nat) (h0 : 0 ≤ b) (h1 : b < 18446744073709551616) (h_z : (decide (t = 0) && decide (b = 0)) = true) (h_op0 : op = 0) (h_l0 : l = 0) (w : World) : Calls Tryz.prog 95 #[.agg #[.int .i64 3, .int .i64 op, .string m, .string n, .int .i64 t, .int .u64 b, .slice A l c]] w (Says true w) := by
  have Z := Hd.mk (zero_b t b true h_z)
  clear h_z
  subst h_op0
  subst h_l0
  go_enter Tryz.func95, Tryz.ntmps95
  go_wp2_with (first
    | (go_at_call 129; (with_reducible refine ((Z.out _).mono ?_)); (rintro e w1 ⟨rfl, hb1⟩; have HB1 := Hd.mk hb1; have hc1 := bcell hb1; have hs1 := bsize1 rfl hb1; clear hb1))
    | (go_at_call 130; (with_reducible refine ((ref_literal_any t b h0 h1 _).mono ?_)); (rw [L.out.out]; rintro e w2 ⟨rfl, hb2⟩; have HB2 := Hd.mk hb2; clear hb2)))
  go_ret
  refine ⟨rfl, ?_⟩
  first | exact up (up0 _) _ | exact step (step (up (up0 _) _) HB1.out) HB2.out | exact step (up (up0 _) _) HB1.out | exact step (up (up0 _) _) HB2.out
theorem sh4_m (op : Int) (m n : ByteArray) (t b : Int) (A : Option Addr) (l c : Nat) (h0 : 0 ≤ b) (h1 : b < 18446744073709551616) (h_m : m.toList.isEmpty = false) (w : World) : Calls Tryz.prog 95 #[.agg #[.int .i64 4, .int .i64 op, .string m, .string n, .int .i64 t, .int .u64 b, .slice A l c]] w (Says false w) := by
  go_enter Tryz.func95, Tryz.ntmps95
  go_wp2_with (first
    | (go_at_call 129; (with_reducible refine ((Z.out _).mono ?_)); (rintro e w1 ⟨rfl, hb1⟩; have HB1 := Hd.mk hb1; have hc1 := bcell hb1; have hs1 := bsize1 rfl hb1; clear hb1))
    | (go_at_call 130; (with_reducible refine ((ref_literal_any t b h0 h1 _).mono ?_)); (rw [L.out.out]; rintro e w2 ⟨rfl, hb2⟩; have HB2 := Hd.mk hb2; clear hb2)))
  go_ret
  refine ⟨rfl, ?_⟩
  first | exact up (up0 _) _ | exact step (step (up (up0 _) _) HB1.out) HB2.out | exact step (up (up0 _) _) HB1.out | exact step (up (up0 _) _) HB2.out
theorem sh4_z (op : Int) (m n : ByteArray) (t b : Int) (A : Option Addr) (l c : Nat) (h0 : 0 ≤ b) (h1 : b < 18446744073709551616) (h_m : m.toList.isEmpty = true) (h_z : (decide (t = 0) && decide (b = 0)) = false) (w : World) : Calls Tryz.prog 95 #[.agg #[.int .i64 4, .int .i64 op, .string m, .string n, .int .i64 t, .int .u64 b, .slice A l c]] w (Says false w) := by
  obtain rfl := empty_of' h_m
  clear h_m
  have Z := Hd.mk (zero_b t b false h_z)
  clear h_z
  go_enter Tryz.func95, Tryz.ntmps95
  go_wp2_with (first
    | (go_at_call 129; (with_reducible refine ((Z.out _).mono ?_)); (rintro e w1 ⟨rfl, hb1⟩; have HB1 := Hd.mk hb1; have hc1 := bcell hb1; have hs1 := bsize1 rfl hb1; clear hb1))
    | (go_at_call 130; (with_reducible refine ((ref_literal_any t b h0 h1 _).mono ?_)); (rw [L.out.out]; rintro e w2 ⟨rfl, hb2⟩; have HB2 := Hd.mk hb2; clear hb2)))
  go_ret
  refine ⟨rfl, ?_⟩
  first | exact up (up0 _) _ | exact step (step (up (up0 _) _) HB1.out) HB2.out | exact step (up (up0 _) _) HB1.out | exact step (up (up0 _) _) HB2.out
theorem sh4_op0 (op : Int) (m n : ByteArray) (t b : Int) (A : Option Addr) (l c : Nat) (h0 : 0 ≤ b) (h1 : b < 18446744073709551616) (h_m : m.toList.isEmpty = true) (h_z : (decide (t = 0) && decide (b = 0)) = true) (h_op0 : op ≠ 0) (w : World) : Calls Tryz.prog 95 #[.agg #[.int .i64 4, .int .i64 op, .string m, .string n, .int .i64 t, .int .u64 b, .slice A l c]] w (Says false w) := by
  obtain rfl := empty_of' h_m
  clear h_m
  have Z := Hd.mk (zero_b t b true h_z)
  clear h_z
  have fo : (op == 0) = false := beq_eq_false_iff_ne.mpr h_op0
  have fo2 : (op != 0) = true := bne_iff_ne.mpr h_op0
  clear h_op0
  go_enter Tryz.func95, Tryz.ntmps95
  go_wp2_with (first
    | (go_at_call 129; (with_reducible refine ((Z.out _).mono ?_)); (rintro e w1 ⟨rfl, hb1⟩; have HB1 := Hd.mk hb1; have hc1 := bcell hb1; have hs1 := bsize1 rfl hb1; clear hb1))
    | (go_at_call 130; (with_reducible refine ((ref_literal_any t b h0 h1 _).mono ?_)); (rw [L.out.out]; rintro e w2 ⟨rfl, hb2⟩; have HB2 := Hd.mk hb2; clear hb2)))
  go_ret
  refine ⟨rfl, ?_⟩
  first | exact up (up0 _) _ | exact step (step (up (up0 _) _) HB1.out) HB2.out | exact step (up (up0 _) _) HB1.out | exact step (up (up0 _) _) HB2.out
theorem sh4_ok (op : Int) (m n : ByteArray) (t b : Int) (A : Option Addr) (l c : Nat) (h0 : 0 ≤ b) (h1 : b < 18446744073709551616) (h_m : m.toList.isEmpty = true) (h_z : (decide (t = 0) && decide (b = 0)) = true) (h_op0 : op = 0) (w : World) : Calls Tryz.prog 95 #[.agg #[.int .i64 4, .int .i64 op, .string m, .string n, .int .i64 t, .int .u64 b, .slice A l c]] w (Says true w) := by
  obtain rfl := empty_of' h_m
  clear h_m
  have Z := Hd.mk (zero_b t b true h_z)
  clear h_z
  subst h_op0
  go_enter Tryz.func95, Tryz.ntmps95
  go_wp2_with (first
    | (go_at_call 129; (with_reducible refine ((Z.out _).mono ?_)); (rintro e w1 ⟨rfl, hb1⟩; have HB1 := Hd.mk hb1; have hc1 := bcell hb1; have hs1 := bsize1 rfl hb1; clear hb1))
    | (go_at_call 130; (with_reducible refine ((ref_literal_any t b h0 h1 _).mono ?_)); (rw [L.out.out]; rintro e w2 ⟨rfl, hb2⟩; have HB2 := Hd.mk hb2; clear hb2)))
  go_ret
  refine ⟨rfl, ?_⟩
  first | exact up (up0 _) _ | exact step (step (up (up0 _) _) HB1.out) HB2.out | exact step (up (up0 _) _) HB1.out | exact step (up (up0 _) _) HB2.out
theorem sh5_z (op : Int) (m n : ByteArray) (t b : Int) (A : Option Addr) (l c : Nat) (h0 : 0 ≤ b) (h1 : b < 18446744073709551616) (h_z : (decide (t = 0) && decide (b = 0)) = false) (w : World) : Calls Tryz.prog 95 #[.agg #[.int .i64 5, .int .i64 op, .string m, .string n, .int .i64 t, .int .u64 b, .slice A l c]] w (Says false w) := by
  have Z := Hd.mk (zero_b t b false h_z)
  clear h_z
  go_enter Tryz.func95, Tryz.ntmps95
  go_wp2_with (first
    | (go_at_call 129; (with_reducible refine ((Z.out _).mono ?_)); (rintro e w1 ⟨rfl, hb1⟩; have HB1 := Hd.mk hb1; have hc1 := bcell hb1; have hs1 := bsize1 rfl hb1; clear hb1))
    | (go_at_call 130; (with_reducible refine ((ref_literal_any t b h0 h1 _).mono ?_)); (rw [L.out.out]; rintro e w2 ⟨rfl, hb2⟩; have HB2 := Hd.mk hb2; clear hb2)))
  go_ret
  refine ⟨rfl, ?_⟩
  first | exact up (up0 _) _ | exact step (step (up (up0 _) _) HB1.out) HB2.out | exact step (up (up0 _) _) HB1.out | exact step (up (up0 _) _) HB2.out
theorem sh5_op0 (op : Int) (m n : ByteArray) (t b : Int) (A : Option Addr) (l c : Nat) (h0 : 0 ≤ b) (h1 : b < 18446744073709551616) (h_z : (decide (t = 0) && decide (b = 0)) = true) (h_op0 : op ≠ 0) (w : World) : Calls Tryz.prog 95 #[.agg #[.int .i64 5, .int .i64 op, .string m, .string n, .int .i64 t, .int .u64 b, .slice A l c]] w (Says false w) := by
  have Z := Hd.mk (zero_b t b true h_z)
  clear h_z
  have fo : (op == 0) = false := beq_eq_false_iff_ne.mpr h_op0
  have fo2 : (op != 0) = true := bne_iff_ne.mpr h_op0
  clear h_op0
  go_enter Tryz.func95, Tryz.ntmps95
  go_wp2_with (first
    | (go_at_call 129; (with_reducible refine ((Z.out _).mono ?_)); (rintro e w1 ⟨rfl, hb1⟩; have HB1 := Hd.mk hb1; have hc1 := bcell hb1; have hs1 := bsize1 rfl hb1; clear hb1))
    | (go_at_call 130; (with_reducible refine ((ref_literal_any t b h0 h1 _).mono ?_)); (rw [L.out.out]; rintro e w2 ⟨rfl, hb2⟩; have HB2 := Hd.mk hb2; clear hb2)))
  go_ret
  refine ⟨rfl, ?_⟩
  first | exact up (up0 _) _ | exact step (step (up (up0 _) _) HB1.out) HB2.out | exact step (up (up0 _) _) HB1.out | exact step (up (up0 _) _) HB2.out
theorem sh5_ok (op : Int) (m n : ByteArray) (t b : Int) (A : Option Addr) (l c : Nat) (h0 : 0 ≤ b) (h1 : b < 18446744073709551616) (h_z : (decide (t = 0) && decide (b = 0)) = true) (h_op0 : op = 0) (w : World) : Calls Tryz.prog 95 #[.agg #[.int .i64 5, .int .i64 op, .string m, .string n, .int .i64 t, .int .u64 b, .slice A l c]] w (Says true w) := by
  have Z := Hd.mk (zero_b t b true h_z)
  clear h_z
  subst h_op0
  go_enter Tryz.func95, Tryz.ntmps95
  go_wp2_with (first
    | (go_at_call 129; (with_reducible refine ((Z.out _).mono ?_)); (rintro e w1 ⟨rfl, hb1⟩; have HB1 := Hd.mk hb1; have hc1 := bcell hb1; have hs1 := bsize1 rfl hb1; clear hb1))
    | (go_at_call 130; (with_reducible refine ((ref_literal_any t b h0 h1 _).mono ?_)); (rw [L.out.out]; rintro e w2 ⟨rfl, hb2⟩; have HB2 := Hd.mk hb2; clear hb2)))
  go_ret
  refine ⟨rfl, ?_⟩
  first | exact up (up0 _) _ | exact step (step (up (up0 _) _) HB1.out) HB2.out | exact step (up (up0 _) _) HB1.out | exact step (up (up0 _) _) HB2.out
theorem sh6_n (op : Int) (m n : ByteArray) (t b : Int) (A : Option Addr) (l c : Nat) (h0 : 0 ≤ b) (h1 : b < 18446744073709551616) (h_n : n.toList.isEmpty = false) (w : World) : Calls Tryz.prog 95 #[.agg #[.int .i64 6, .int .i64 op, .string m, .string n, .int .i64 t, .int .u64 b, .slice A l c]] w (Says false w) := by
  go_enter Tryz.func95, Tryz.ntmps95
  go_wp2_with (first
    | (go_at_call 129; (with_reducible refine ((Z.out _).mono ?_)); (rintro e w1 ⟨rfl, hb1⟩; have HB1 := Hd.mk hb1; have hc1 := bcell hb1; have hs1 := bsize1 rfl hb1; clear hb1))
    | (go_at_call 130; (with_reducible refine ((ref_literal_any t b h0 h1 _).mono ?_)); (rw [L.out.out]; rintro e w2 ⟨rfl, hb2⟩; have HB2 := Hd.mk hb2; clear hb2)))
  go_ret
  refine ⟨rfl, ?_⟩
  first | exact up (up0 _) _ | exact step (step (up (up0 _) _) HB1.out) HB2.out | exact step (up (up0 _) _) HB1.out | exact step (up (up0 _) _) HB2.out
theorem sh6_m (op : Int) (m n : ByteArray) (t b : Int) (A : Option Addr) (l c : Nat) (h0 : 0 ≤ b) (h1 : b < 18446744073709551616) (h_n : n.toList.isEmpty = true) (h_m : m.toList.isEmpty = false) (w : World) : Calls Tryz.prog 95 #[.agg #[.int .i64 6, .int .i64 op, .string m, .string n, .int .i64 t, .int .u64 b, .slice A l c]] w (Says false w) := by
  obtain rfl := empty_of' h_n
  clear h_n
  go_enter Tryz.func95, Tryz.ntmps95
  go_wp2_with (first
    | (go_at_call 129; (with_reducible refine ((Z.out _).mono ?_)); (rintro e w1 ⟨rfl, hb1⟩; have HB1 := Hd.mk hb1; have hc1 := bcell hb1; have hs1 := bsize1 rfl hb1; clear hb1))
    | (go_at_call 130; (with_reducible refine ((ref_literal_any t b h0 h1 _).mono ?_)); (rw [L.out.out]; rintro e w2 ⟨rfl, hb2⟩; have HB2 := Hd.mk hb2; clear hb2)))
  go_ret
  refine ⟨rfl, ?_⟩
  first | exact up (up0 _) _ | exact step (step (up (up0 _) _) HB1.out) HB2.out | exact step (up (up0 _) _) HB1.out | exact step (up (up0 _) _) HB2.out
theorem sh6_z (op : Int) (m n : ByteArray) (t b : Int) (A : Option Addr) (l c : Nat) (h0 : 0 ≤ b) (h1 : b < 18446744073709551616) (h_n : n.toList.isEmpty = true) (h_m : m.toList.isEmpty = true) (h_z : (decide (t = 0) && decide (b = 0)) = false) (w : World) : Calls Tryz.prog 95 #[.agg #[.int .i64 6, .int .i64 op, .string m, .string n, .int .i64 t, .int .u64 b, .slice A l c]] w (Says false w) := by
  obtain rfl := empty_of' h_n
  clear h_n
  obtain rfl := empty_of' h_m
  clear h_m
  have Z := Hd.mk (zero_b t b false h_z)
  clear h_z
  go_enter Tryz.func95, Tryz.ntmps95
  go_wp2_with (first
    | (go_at_call 129; (with_reducible refine ((Z.out _).mono ?_)); (rintro e w1 ⟨rfl, hb1⟩; have HB1 := Hd.mk hb1; have hc1 := bcell hb1; have hs1 := bsize1 rfl hb1; clear hb1))
    | (go_at_call 130; (with_reducible refine ((ref_literal_any t b h0 h1 _).mono ?_)); (rw [L.out.out]; rintro e w2 ⟨rfl, hb2⟩; have HB2 := Hd.mk hb2; clear hb2)))
  go_ret
  refine ⟨rfl, ?_⟩
  first | exact up (up0 _) _ | exact step (step (up (up0 _) _) HB1.out) HB2.out | exact step (up (up0 _) _) HB1.out | exact step (up (up0 _) _) HB2.out
theorem sh6_l1 (op : Int) (m n : ByteArray) (t b : Int) (A : Option Addr) (l c : Nat) (h0 : 0 ≤ b) (h1 : b < 18446744073709551616) (h_n : n.toList.isEmpty = true) (h_m : m.toList.isEmpty = true) (h_z : (decide (t = 0) && decide (b = 0)) = true) (h_l1 : l ≠ 1) (w : World) : Calls Tryz.prog 95 #[.agg #[.int .i64 6, .int .i64 op, .string m, .string n, .int .i64 t, .int .u64 b, .slice A l c]] w (Says false w) := by
  obtain rfl := empty_of' h_n
  clear h_n
  obtain rfl := empty_of' h_m
  clear h_m
  have Z := Hd.mk (zero_b t b true h_z)
  clear h_z
  have fl : ((l : Int) == 1) = false := beq_eq_false_iff_ne.mpr (by omega)
  go_enter Tryz.func95, Tryz.ntmps95
  go_wp2_with (first
    | (go_at_call 129; (with_reducible refine ((Z.out _).mono ?_)); (rintro e w1 ⟨rfl, hb1⟩; have HB1 := Hd.mk hb1; have hc1 := bcell hb1; have hs1 := bsize1 rfl hb1; clear hb1))
    | (go_at_call 130; (with_reducible refine ((ref_literal_any t b h0 h1 _).mono ?_)); (rw [L.out.out]; rintro e w2 ⟨rfl, hb2⟩; have HB2 := Hd.mk hb2; clear hb2)))
  go_ret
  refine ⟨rfl, ?_⟩
  first | exact up (up0 _) _ | exact step (step (up (up0 _) _) HB1.out) HB2.out | exact step (up (up0 _) _) HB1.out | exact step (up (up0 _) _) HB2.out
theorem sh6_op1 (op : Int) (m n : ByteArray) (t b : Int) (A : Option Addr) (l c : Nat) (h0 : 0 ≤ b) (h1 : b < 18446744073709551616) (h_n : n.toList.isEmpty = true) (h_m : m.toList.isEmpty = true) (h_z : (decide (t = 0) && decide (b = 0)) = true) (h_l1 : l = 1) (h_op1 : op < 1) (w : World) : Calls Tryz.prog 95 #[.agg #[.int .i64 6, .int .i64 op, .string m, .string n, .int .i64 t, .int .u64 b, .slice A l c]] w (Says false w) := by
  obtain rfl := empty_of' h_n
  clear h_n
  obtain rfl := empty_of' h_m
  clear h_m
  have Z := Hd.mk (zero_b t b true h_z)
  clear h_z
  subst h_l1
  have fo : decide (1 ≤ op) = false := decide_eq_false (by omega)
  go_enter Tryz.func95, Tryz.ntmps95
  go_wp2_with (first
    | (go_at_call 129; (with_reducible refine ((Z.out _).mono ?_)); (rintro e w1 ⟨rfl, hb1⟩; have HB1 := Hd.mk hb1; have hc1 := bcell hb1; have hs1 := bsize1 rfl hb1; clear hb1))
    | (go_at_call 130; (with_reducible refine ((ref_literal_any t b h0 h1 _).mono ?_)); (rw [L.out.out]; rintro e w2 ⟨rfl, hb2⟩; have HB2 := Hd.mk hb2; clear hb2)))
  go_ret
  refine ⟨rfl, ?_⟩
  first | exact up (up0 _) _ | exact step (step (up (up0 _) _) HB1.out) HB2.out | exact step (up (up0 _) _) HB1.out | exact step (up (up0 _) _) HB2.out
theorem sh6_op4 (op : Int) (m n : ByteArray) (t b : Int) (A : Option Addr) (l c : Nat) (h0 : 0 ≤ b) (h1 : b < 18446744073709551616) (h_n : n.toList.isEmpty = true) (h_m : m.toList.isEmpty = true) (h_z : (decide (t = 0) && decide (b = 0)) = true) (h_l1 : l = 1) (h_op1 : 1 ≤ op) (h_op4 : 4 < op) (w : World) : Calls Tryz.prog 95 #[.agg #[.int .i64 6, .int .i64 op, .string m, .string n, .int .i64 t, .int .u64 b, .slice A l c]] w (Says false w) := by
  obtain rfl := empty_of' h_n
  clear h_n
  obtain rfl := empty_of' h_m
  clear h_m
  have Z := Hd.mk (zero_b t b true h_z)
  clear h_z
  subst h_l1
  have fo : decide (1 ≤ op) = true := decide_eq_true h_op1
  have fp : decide (op ≤ 4) = false := decide_eq_false (by omega)
  go_enter Tryz.func95, Tryz.ntmps95
  go_wp2_with (first
    | (go_at_call 129; (with_reducible refine ((Z.out _).mono ?_)); (rintro e w1 ⟨rfl, hb1⟩; have HB1 := Hd.mk hb1; have hc1 := bcell hb1; have hs1 := bsize1 rfl hb1; clear hb1))
    | (go_at_call 130; (with_reducible refine ((ref_literal_any t b h0 h1 _).mono ?_)); (rw [L.out.out]; rintro e w2 ⟨rfl, hb2⟩; have HB2 := Hd.mk hb2; clear hb2)))
  go_ret
  refine ⟨rfl, ?_⟩
  first | exact up (up0 _) _ | exact step (step (up (up0 _) _) HB1.out) HB2.out | exact step (up (up0 _) _) HB1.out | exact step (up (up0 _) _) HB2.out
theorem sh6_ok (op : Int) (m n : ByteArray) (t b : Int) (A : Option Addr) (l c : Nat) (h0 : 0 ≤ b) (h1 : b < 18446744073709551616) (h_n : n.toList.isEmpty = true) (h_m : m.toList.isEmpty = true) (h_z : (decide (t = 0) && decide (b = 0)) = true) (h_l1 : l = 1) (h_op1 : 1 ≤ op) (h_op4 : op ≤ 4) (w : World) : Calls Tryz.prog 95 #[.agg #[.int .i64 6, .int .i64 op, .string m, .string n, .int .i64 t, .int .u64 b, .slice A l c]] w (Says true w) := by
  obtain rfl := empty_of' h_n
  clear h_n
  obtain rfl := empty_of' h_m
  clear h_m
  have Z := Hd.mk (zero_b t b true h_z)
  clear h_z
  subst h_l1
  have fo : decide (1 ≤ op) = true := decide_eq_true h_op1
  have fp : decide (op ≤ 4) = true := decide_eq_true h_op4
  go_enter Tryz.func95, Tryz.ntmps95
  go_wp2_with (first
    | (go_at_call 129; (with_reducible refine ((Z.out _).mono ?_)); (rintro e w1 ⟨rfl, hb1⟩; have HB1 := Hd.mk hb1; have hc1 := bcell hb1; have hs1 := bsize1 rfl hb1; clear hb1))
    | (go_at_call 130; (with_reducible refine ((ref_literal_any t b h0 h1 _).mono ?_)); (rw [L.out.out]; rintro e w2 ⟨rfl, hb2⟩; have HB2 := Hd.mk hb2; clear hb2)))
  go_ret
  refine ⟨rfl, ?_⟩
  first | exact up (up0 _) _ | exact step (step (up (up0 _) _) HB1.out) HB2.out | exact step (up (up0 _) _) HB1.out | exact step (up (up0 _) _) HB2.out
theorem sh7_n (op : Int) (m n : ByteArray) (t b : Int) (A : Option Addr) (l c : Nat) (h0 : 0 ≤ b) (h1 : b < 18446744073709551616) (h_n : n.toList.isEmpty = false) (w : World) : Calls Tryz.prog 95 #[.agg #[.int .i64 7, .int .i64 op, .string m, .string n, .int .i64 t, .int .u64 b, .slice A l c]] w (Says false w) := by
  go_enter Tryz.func95, Tryz.ntmps95
  go_wp2_with (first
    | (go_at_call 129; (with_reducible refine ((Z.out _).mono ?_)); (rintro e w1 ⟨rfl, hb1⟩; have HB1 := Hd.mk hb1; have hc1 := bcell hb1; have hs1 := bsize1 rfl hb1; clear hb1))
    | (go_at_call 130; (with_reducible refine ((ref_literal_any t b h0 h1 _).mono ?_)); (rw [L.out.out]; rintro e w2 ⟨rfl, hb2⟩; have HB2 := Hd.mk hb2; clear hb2)))
  go_ret
  refine ⟨rfl, ?_⟩
  first | exact up (up0 _) _ | exact step (step (up (up0 _) _) HB1.out) HB2.out | exact step (up (up0 _) _) HB1.out | exact step (up (up0 _) _) HB2.out
theorem sh7_m (op : Int) (m n : ByteArray) (t b : Int) (A : Option Addr) (l c : Nat) (h0 : 0 ≤ b) (h1 : b < 18446744073709551616) (h_n : n.toList.isEmpty = true) (h_m : m.toList.isEmpty = false) (w : World) : Calls Tryz.prog 95 #[.agg #[.int .i64 7, .int .i64 op, .string m, .string n, .int .i64 t, .int .u64 b, .slice A l c]] w (Says false w) := by
  obtain rfl := empty_of' h_n
  clear h_n
  go_enter Tryz.func95, Tryz.ntmps95
  go_wp2_with (first
    | (go_at_call 129; (with_reducible refine ((Z.out _).mono ?_)); (rintro e w1 ⟨rfl, hb1⟩; have HB1 := Hd.mk hb1; have hc1 := bcell hb1; have hs1 := bsize1 rfl hb1; clear hb1))
    | (go_at_call 130; (with_reducible refine ((ref_literal_any t b h0 h1 _).mono ?_)); (rw [L.out.out]; rintro e w2 ⟨rfl, hb2⟩; have HB2 := Hd.mk hb2; clear hb2)))
  go_ret
  refine ⟨rfl, ?_⟩
  first | exact up (up0 _) _ | exact step (step (up (up0 _) _) HB1.out) HB2.out | exact step (up (up0 _) _) HB1.out | exact step (up (up0 _) _) HB2.out
theorem sh7_z (op : Int) (m n : ByteArray) (t b : Int) (A : Option Addr) (l c : Nat) (h0 : 0 ≤ b) (h1 : b < 18446744073709551616) (h_n : n.toList.isEmpty = true) (h_m : m.toList.isEmpty = true) (h_z : (decide (t = 0) && decide (b = 0)) = false) (w : World) : Calls Tryz.prog 95 #[.agg #[.int .i64 7, .int .i64 op, .string m, .string n, .int .i64 t, .int .u64 b, .slice A l c]] w (Says false w) := by
  obtain rfl := empty_of' h_n
  clear h_n
  obtain rfl := empty_of' h_m
  clear h_m
  have Z := Hd.mk (zero_b t b false h_z)
  clear h_z
  go_enter Tryz.func95, Tryz.ntmps95
  go_wp2_with (first
    | (go_at_call 129; (with_reducible refine ((Z.out _).mono ?_)); (rintro e w1 ⟨rfl, hb1⟩; have HB1 := Hd.mk hb1; have hc1 := bcell hb1; have hs1 := bsize1 rfl hb1; clear hb1))
    | (go_at_call 130; (with_reducible refine ((ref_literal_any t b h0 h1 _).mono ?_)); (rw [L.out.out]; rintro e w2 ⟨rfl, hb2⟩; have HB2 := Hd.mk hb2; clear hb2)))
  go_ret
  refine ⟨rfl, ?_⟩
  first | exact up (up0 _) _ | exact step (step (up (up0 _) _) HB1.out) HB2.out | exact step (up (up0 _) _) HB1.out | exact step (up (up0 _) _) HB2.out
theorem sh7_l2 (op : Int) (m n : ByteArray) (t b : Int) (A : Option Addr) (l c : Nat) (h0 : 0 ≤ b) (h1 : b < 18446744073709551616) (h_n : n.toList.isEmpty = true) (h_m : m.toList.isEmpty = true) (h_z : (decide (t = 0) && decide (b = 0)) = true) (h_l2 : l ≠ 2) (w : World) : Calls Tryz.prog 95 #[.agg #[.int .i64 7, .int .i64 op, .string m, .string n, .int .i64 t, .int .u64 b, .slice A l c]] w (Says false w) := by
  obtain rfl := empty_of' h_n
  clear h_n
  obtain rfl := empty_of' h_m
  clear h_m
  have Z := Hd.mk (zero_b t b true h_z)
  clear h_z
  have fl : ((l : Int) == 2) = false := beq_eq_false_iff_ne.mpr (by omega)
  go_enter Tryz.func95, Tryz.ntmps95
  go_wp2_with (first
    | (go_at_call 129; (with_reducible refine ((Z.out _).mono ?_)); (rintro e w1 ⟨rfl, hb1⟩; have HB1 := Hd.mk hb1; have hc1 := bcell hb1; have hs1 := bsize1 rfl hb1; clear hb1))
    | (go_at_call 130; (with_reducible refine ((ref_literal_any t b h0 h1 _).mono ?_)); (rw [L.out.out]; rintro e w2 ⟨rfl, hb2⟩; have HB2 := Hd.mk hb2; clear hb2)))
  go_ret
  refine ⟨rfl, ?_⟩
  first | exact up (up0 _) _ | exact step (step (up (up0 _) _) HB1.out) HB2.out | exact step (up (up0 _) _) HB1.out | exact step (up (up0 _) _) HB2.out
theorem sh7_op1 (op : Int) (m n : ByteArray) (t b : Int) (A : Option Addr) (l c : Nat) (h0 : 0 ≤ b) (h1 : b < 18446744073709551616) (h_n : n.toList.isEmpty = true) (h_m : m.toList.isEmpty = true) (h_z : (decide (t = 0) && decide (b = 0)) = true) (h_l2 : l = 2) (h_op1 : op < 1) (w : World) : Calls Tryz.prog 95 #[.agg #[.int .i64 7, .int .i64 op, .string m, .string n, .int .i64 t, .int .u64 b, .slice A l c]] w (Says false w) := by
  obtain rfl := empty_of' h_n
  clear h_n
  obtain rfl := empty_of' h_m
  clear h_m
  have Z := Hd.mk (zero_b t b true h_z)
  clear h_z
  subst h_l2
  have fo : decide (1 ≤ op) = false := decide_eq_false (by omega)
  go_enter Tryz.func95, Tryz.ntmps95
  go_wp2_with (first
    | (go_at_call 129; (with_reducible refine ((Z.out _).mono ?_)); (rintro e w1 ⟨rfl, hb1⟩; have HB1 := Hd.mk hb1; have hc1 := bcell hb1; have hs1 := bsize1 rfl hb1; clear hb1))
    | (go_at_call 130; (with_reducible refine ((ref_literal_any t b h0 h1 _).mono ?_)); (rw [L.out.out]; rintro e w2 ⟨rfl, hb2⟩; have HB2 := Hd.mk hb2; clear hb2)))
  go_ret
  refine ⟨rfl, ?_⟩
  first | exact up (up0 _) _ | exact step (step (up (up0 _) _) HB1.out) HB2.out | exact step (up (up0 _) _) HB1.out | exact step (up (up0 _) _) HB2.out
theorem sh7_op13 (op : Int) (m n : ByteArray) (t b : Int) (A : Option Addr) (l c : Nat) (h0 : 0 ≤ b) (h1 : b < 18446744073709551616) (h_n : n.toList.isEmpty = true) (h_m : m.toList.isEmpty = true) (h_z : (decide (t = 0) && decide (b = 0)) = true) (h_l2 : l = 2) (h_op1 : 1 ≤ op) (h_op13 : 13 < op) (w : World) : Calls Tryz.prog 95 #[.agg #[.int .i64 7, .int .i64 op, .string m, .string n, .int .i64 t, .int .u64 b, .slice A l c]] w (Says false w) := by
  obtain rfl := empty_of' h_n
  clear h_n
  obtain rfl := empty_of' h_m
  clear h_m
  have Z := Hd.mk (zero_b t b true h_z)
  clear h_z
  subst h_l2
  have fo : decide (1 ≤ op) = true := decide_eq_true h_op1
  have fp : decide (op ≤ 13) = false := decide_eq_false (by omega)
  go_enter Tryz.func95, Tryz.ntmps95
  go_wp2_with (first
    | (go_at_call 129; (with_reducible refine ((Z.out _).mono ?_)); (rintro e w1 ⟨rfl, hb1⟩; have HB1 := Hd.mk hb1; have hc1 := bcell hb1; have hs1 := bsize1 rfl hb1; clear hb1))
    | (go_at_call 130; (with_reducible refine ((ref_literal_any t b h0 h1 _).mono ?_)); (rw [L.out.out]; rintro e w2 ⟨rfl, hb2⟩; have HB2 := Hd.mk hb2; clear hb2)))
  go_ret
  refine ⟨rfl, ?_⟩
  first | exact up (up0 _) _ | exact step (step (up (up0 _) _) HB1.out) HB2.out | exact step (up (up0 _) _) HB1.out | exact step (up (up0 _) _) HB2.out
theorem sh7_ok (op : Int) (m n : ByteArray) (t b : Int) (A : Option Addr) (l c : Nat) (h0 : 0 ≤ b) (h1 : b < 18446744073709551616) (h_n : n.toList.isEmpty = true) (h_m : m.toList.isEmpty = true) (h_z : (decide (t = 0) && decide (b = 0)) = true) (h_l2 : l = 2) (h_op1 : 1 ≤ op) (h_op13 : op ≤ 13) (w : World) : Calls Tryz.prog 95 #[.agg #[.int .i64 7, .int .i64 op, .string m, .string n, .int .i64 t, .int .u64 b, .slice A l c]] w (Says true w) := by
  obtain rfl := empty_of' h_n
  clear h_n
  obtain rfl := empty_of' h_m
  clear h_m
  have Z := Hd.mk (zero_b t b true h_z)
  clear h_z
  subst h_l2
  have fo : decide (1 ≤ op) = true := decide_eq_true h_op1
  have fp : decide (op ≤ 13) = true := decide_eq_true h_op13
  go_enter Tryz.func95, Tryz.ntmps95
  go_wp2_with (first
    | (go_at_call 129; (with_reducible refine ((Z.out _).mono ?_)); (rintro e w1 ⟨rfl, hb1⟩; have HB1 := Hd.mk hb1; have hc1 := bcell hb1; have hs1 := bsize1 rfl hb1; clear hb1))
    | (go_at_call 130; (with_reducible refine ((ref_literal_any t b h0 h1 _).mono ?_)); (rw [L.out.out]; rintro e w2 ⟨rfl, hb2⟩; have HB2 := Hd.mk hb2; clear hb2)))
  go_ret
  refine ⟨rfl, ?_⟩
  first | exact up (up0 _) _ | exact step (step (up (up0 _) _) HB1.out) HB2.out | exact step (up (up0 _) _) HB1.out | exact step (up (up0 _) _) HB2.out
theorem sh8_n (op : Int) (m n : ByteArray) (t b : Int) (A : Option Addr) (l c : Nat) (h0 : 0 ≤ b) (h1 : b < 18446744073709551616) (h_n : n.toList.isEmpty = false) (w : World) : Calls Tryz.prog 95 #[.agg #[.int .i64 8, .int .i64 op, .string m, .string n, .int .i64 t, .int .u64 b, .slice A l c]] w (Says false w) := by
  go_enter Tryz.func95, Tryz.ntmps95
  go_wp2_with (first
    | (go_at_call 129; (with_reducible refine ((Z.out _).mono ?_)); (rintro e w1 ⟨rfl, hb1⟩; have HB1 := Hd.mk hb1; have hc1 := bcell hb1; have hs1 := bsize1 rfl hb1; clear hb1))
    | (go_at_call 130; (with_reducible refine ((ref_literal_any t b h0 h1 _).mono ?_)); (rw [L.out.out]; rintro e w2 ⟨rfl, hb2⟩; have HB2 := Hd.mk hb2; clear hb2)))
  go_ret
  refine ⟨rfl, ?_⟩
  first | exact up (up0 _) _ | exact step (step (up (up0 _) _) HB1.out) HB2.out | exact step (up (up0 _) _) HB1.out | exact step (up (up0 _) _) HB2.out
theorem sh8_m (op : Int) (m n : ByteArray) (t b : Int) (A : Option Addr) (l c : Nat) (h0 : 0 ≤ b) (h1 : b < 18446744073709551616) (h_n : n.toList.isEmpty = true) (h_m : m.toList.isEmpty = false) (w : World) : Calls Tryz.prog 95 #[.agg #[.int .i64 8, .int .i64 op, .string m, .string n, .int .i64 t, .int .u64 b, .slice A l c]] w (Says false w) := by
  obtain rfl := empty_of' h_n
  clear h_n
  go_enter Tryz.func95, Tryz.ntmps95
  go_wp2_with (first
    | (go_at_call 129; (with_reducible refine ((Z.out _).mono ?_)); (rintro e w1 ⟨rfl, hb1⟩; have HB1 := Hd.mk hb1; have hc1 := bcell hb1; have hs1 := bsize1 rfl hb1; clear hb1))
    | (go_at_call 130; (with_reducible refine ((ref_literal_any t b h0 h1 _).mono ?_)); (rw [L.out.out]; rintro e w2 ⟨rfl, hb2⟩; have HB2 := Hd.mk hb2; clear hb2)))
  go_ret
  refine ⟨rfl, ?_⟩
  first | exact up (up0 _) _ | exact step (step (up (up0 _) _) HB1.out) HB2.out | exact step (up (up0 _) _) HB1.out | exact step (up (up0 _) _) HB2.out
theorem sh8_z (op : Int) (m n : ByteArray) (t b : Int) (A : Option Addr) (l c : Nat) (h0 : 0 ≤ b) (h1 : b < 18446744073709551616) (h_n : n.toList.isEmpty = true) (h_m : m.toList.isEmpty = true) (h_z : (decide (t = 0) && decide (b = 0)) = false) (w : World) : Calls Tryz.prog 95 #[.agg #[.int .i64 8, .int .i64 op, .string m, .string n, .int .i64 t, .int .u64 b, .slice A l c]] w (Says false w) := by
  obtain rfl := empty_of' h_n
  clear h_n
  obtain rfl := empty_of' h_m
  clear h_m
  have Z := Hd.mk (zero_b t b false h_z)
  clear h_z
  go_enter Tryz.func95, Tryz.ntmps95
  go_wp2_with (first
    | (go_at_call 129; (with_reducible refine ((Z.out _).mono ?_)); (rintro e w1 ⟨rfl, hb1⟩; have HB1 := Hd.mk hb1; have hc1 := bcell hb1; have hs1 := bsize1 rfl hb1; clear hb1))
    | (go_at_call 130; (with_reducible refine ((ref_literal_any t b h0 h1 _).mono ?_)); (rw [L.out.out]; rintro e w2 ⟨rfl, hb2⟩; have HB2 := Hd.mk hb2; clear hb2)))
  go_ret
  refine ⟨rfl, ?_⟩
  first | exact up (up0 _) _ | exact step (step (up (up0 _) _) HB1.out) HB2.out | exact step (up (up0 _) _) HB1.out | exact step (up (up0 _) _) HB2.out
theorem sh8_op0 (op : Int) (m n : ByteArray) (t b : Int) (A : Option Addr) (l c : Nat) (h0 : 0 ≤ b) (h1 : b < 18446744073709551616) (h_n : n.toList.isEmpty = true) (h_m : m.toList.isEmpty = true) (h_z : (decide (t = 0) && decide (b = 0)) = true) (h_op0 : op ≠ 0) (w : World) : Calls Tryz.prog 95 #[.agg #[.int .i64 8, .int .i64 op, .string m, .string n, .int .i64 t, .int .u64 b, .slice A l c]] w (Says false w) := by
  obtain rfl := empty_of' h_n
  clear h_n
  obtain rfl := empty_of' h_m
  clear h_m
  have Z := Hd.mk (zero_b t b true h_z)
  clear h_z
  have fo : (op == 0) = false := beq_eq_false_iff_ne.mpr h_op0
  have fo2 : (op != 0) = true := bne_iff_ne.mpr h_op0
  clear h_op0
  go_enter Tryz.func95, Tryz.ntmps95
  go_wp2_with (first
    | (go_at_call 129; (with_reducible refine ((Z.out _).mono ?_)); (rintro e w1 ⟨rfl, hb1⟩; have HB1 := Hd.mk hb1; have hc1 := bcell hb1; have hs1 := bsize1 rfl hb1; clear hb1))
    | (go_at_call 130; (with_reducible refine ((ref_literal_any t b h0 h1 _).mono ?_)); (rw [L.out.out]; rintro e w2 ⟨rfl, hb2⟩; have HB2 := Hd.mk hb2; clear hb2)))
  go_ret
  refine ⟨rfl, ?_⟩
  first | exact up (up0 _) _ | exact step (step (up (up0 _) _) HB1.out) HB2.out | exact step (up (up0 _) _) HB1.out | exact step (up (up0 _) _) HB2.out
theorem sh8_l0 (op : Int) (m n : ByteArray) (t b : Int) (A : Option Addr) (l c : Nat) (h0 : 0 ≤ b) (h1 : b < 18446744073709551616) (h_n : n.toList.isEmpty = true) (h_m : m.toList.isEmpty = true) (h_z : (decide (t = 0) && decide (b = 0)) = true) (h_op0 : op = 0) (h_l0 : l ≠ 0) (w : World) : Calls Tryz.prog 95 #[.agg #[.int .i64 8, .int .i64 op, .string m, .string n, .int .i64 t, .int .u64 b, .slice A l c]] w (Says false w) := by
  obtain rfl := empty_of' h_n
  clear h_n
  obtain rfl := empty_of' h_m
  clear h_m
  have Z := Hd.mk (zero_b t b true h_z)
  clear h_z
  subst h_op0
  have fl : ((l : Int) == 0) = false := beq_eq_false_iff_ne.mpr (by omega)
  go_enter Tryz.func95, Tryz.ntmps95
  go_wp2_with (first
    | (go_at_call 129; (with_reducible refine ((Z.out _).mono ?_)); (rintro e w1 ⟨rfl, hb1⟩; have HB1 := Hd.mk hb1; have hc1 := bcell hb1; have hs1 := bsize1 rfl hb1; clear hb1))
    | (go_at_call 130; (with_reducible refine ((ref_literal_any t b h0 h1 _).mono ?_)); (rw [L.out.out]; rintro e w2 ⟨rfl, hb2⟩; have HB2 := Hd.mk hb2; clear hb2)))
  go_ret
  refine ⟨rfl, ?_⟩
  first | exact up (up0 _) _ | exact step (step (up (up0 _) _) HB1.out) HB2.out | exact step (up (up0 _) _) HB1.out | exact step (up (up0 _) _) HB2.out
theorem sh8_ok (op : Int) (m n : ByteArray) (t b : Int) (A : Option Addr) (l c : Nat) (h0 : 0 ≤ b) (h1 : b < 18446744073709551616) (h_n : n.toList.isEmpty = true) (h_m : m.toList.isEmpty = true) (h_z : (decide (t = 0) && decide (b = 0)) = true) (h_op0 : op = 0) (h_l0 : l = 0) (w : World) : Calls Tryz.prog 95 #[.agg #[.int .i64 8, .int .i64 op, .string m, .string n, .int .i64 t, .int .u64 b, .slice A l c]] w (Says true w) := by
  obtain rfl := empty_of' h_n
  clear h_n
  obtain rfl := empty_of' h_m
  clear h_m
  have Z := Hd.mk (zero_b t b true h_z)
  clear h_z
  subst h_op0
  subst h_l0
  go_enter Tryz.func95, Tryz.ntmps95
  go_wp2_with (first
    | (go_at_call 129; (with_reducible refine ((Z.out _).mono ?_)); (rintro e w1 ⟨rfl, hb1⟩; have HB1 := Hd.mk hb1; have hc1 := bcell hb1; have hs1 := bsize1 rfl hb1; clear hb1))
    | (go_at_call 130; (with_reducible refine ((ref_literal_any t b h0 h1 _).mono ?_)); (rw [L.out.out]; rintro e w2 ⟨rfl, hb2⟩; have HB2 := Hd.mk hb2; clear hb2)))
  go_ret
  refine ⟨rfl, ?_⟩
  first | exact up (up0 _) _ | exact step (step (up (up0 _) _) HB1.out) HB2.out | exact step (up (up0 _) _) HB1.out | exact step (up (up0 _) _) HB2.out
theorem sh0_n (k : Int) (hk : k < 1 ∨ 8 < k) (op : Int) (m n : ByteArray) (t b : Int) (A : Option Addr) (l c : Nat) (h0 : 0 ≤ b) (h1 : b < 18446744073709551616) (h_n : n.toList.isEmpty = false) (w : World) : Calls Tryz.prog 95 #[.agg #[.int .i64 k, .int .i64 op, .string m, .string n, .int .i64 t, .int .u64 b, .slice A l c]] w (Says false w) := by
  have f1 : (k == 1) = false := beq_eq_false_iff_ne.mpr (by omega)
  have g1 : (k != 1) = true := bne_iff_ne.mpr (by omega)
  have f2 : (k == 2) = false := beq_eq_false_iff_ne.mpr (by omega)
  have g2 : (k != 2) = true := bne_iff_ne.mpr (by omega)
  have f3 : (k == 3) = false := beq_eq_false_iff_ne.mpr (by omega)
  have g3 : (k != 3) = true := bne_iff_ne.mpr (by omega)
  have f4 : (k == 4) = false := beq_eq_false_iff_ne.mpr (by omega)
  have g4 : (k != 4) = true := bne_iff_ne.mpr (by omega)
  have f5 : (k == 5) = false := beq_eq_false_iff_ne.mpr (by omega)
  have g5 : (k != 5) = true := bne_iff_ne.mpr (by omega)
  have f6 : (k == 6) = false := beq_eq_false_iff_ne.mpr (by omega)
  have g6 : (k != 6) = true := bne_iff_ne.mpr (by omega)
  have f7 : (k == 7) = false := beq_eq_false_iff_ne.mpr (by omega)
  have g7 : (k != 7) = true := bne_iff_ne.mpr (by omega)
  have f8 : (k == 8) = false := beq_eq_false_iff_ne.mpr (by omega)
  have g8 : (k != 8) = true := bne_iff_ne.mpr (by omega)
  clear hk
  go_enter Tryz.func95, Tryz.ntmps95
  go_wp2_with (first
    | (go_at_call 129; (with_reducible refine ((Z.out _).mono ?_)); (rintro e w1 ⟨rfl, hb1⟩; have HB1 := Hd.mk hb1; have hc1 := bcell hb1; have hs1 := bsize1 rfl hb1; clear hb1))
    | (go_at_call 130; (with_reducible refine ((ref_literal_any t b h0 h1 _).mono ?_)); (rw [L.out.out]; rintro e w2 ⟨rfl, hb2⟩; have HB2 := Hd.mk hb2; clear hb2)))
  go_ret
  refine ⟨rfl, ?_⟩
  first | exact up (up0 _) _ | exact step (step (up (up0 _) _) HB1.out) HB2.out | exact step (up (up0 _) _) HB1.out | exact step (up (up0 _) _) HB2.out
theorem sh0_m (k : Int) (hk : k < 1 ∨ 8 < k) (op : Int) (m n : ByteArray) (t b : Int) (A : Option Addr) (l c : Nat) (h0 : 0 ≤ b) (h1 : b < 18446744073709551616) (h_n : n.toList.isEmpty = true) (h_m : m.toList.isEmpty = false) (w : World) : Calls Tryz.prog 95 #[.agg #[.int .i64 k, .int .i64 op, .string m, .string n, .int .i64 t, .int .u64 b, .slice A l c]] w (Says false w) := by
  have f1 : (k == 1) = false := beq_eq_false_iff_ne.mpr (by omega)
  have g1 : (k != 1) = true := bne_iff_ne.mpr (by omega)
  have f2 : (k == 2) = false := beq_eq_false_iff_ne.mpr (by omega)
  have g2 : (k != 2) = true := bne_iff_ne.mpr (by omega)
  have f3 : (k == 3) = false := beq_eq_false_iff_ne.mpr (by omega)
  have g3 : (k != 3) = true := bne_iff_ne.mpr (by omega)
  have f4 : (k == 4) = false := beq_eq_false_iff_ne.mpr (by omega)
  have g4 : (k != 4) = true := bne_iff_ne.mpr (by omega)
  have f5 : (k == 5) = false := beq_eq_false_iff_ne.mpr (by omega)
  have g5 : (k != 5) = true := bne_iff_ne.mpr (by omega)
  have f6 : (k == 6) = false := beq_eq_false_iff_ne.mpr (by omega)
  have g6 : (k != 6) = true := bne_iff_ne.mpr (by omega)
  have f7 : (k == 7) = false := beq_eq_false_iff_ne.mpr (by omega)
  have g7 : (k != 7) = true := bne_iff_ne.mpr (by omega)
  have f8 : (k == 8) = false := beq_eq_false_iff_ne.mpr (by omega)
  have g8 : (k != 8) = true := bne_iff_ne.mpr (by omega)
  clear hk
  obtain rfl := empty_of' h_n
  clear h_n
  go_enter Tryz.func95, Tryz.ntmps95
  go_wp2_with (first
    | (go_at_call 129; (with_reducible refine ((Z.out _).mono ?_)); (rintro e w1 ⟨rfl, hb1⟩; have HB1 := Hd.mk hb1; have hc1 := bcell hb1; have hs1 := bsize1 rfl hb1; clear hb1))
    | (go_at_call 130; (with_reducible refine ((ref_literal_any t b h0 h1 _).mono ?_)); (rw [L.out.out]; rintro e w2 ⟨rfl, hb2⟩; have HB2 := Hd.mk hb2; clear hb2)))
  go_ret
  refine ⟨rfl, ?_⟩
  first | exact up (up0 _) _ | exact step (step (up (up0 _) _) HB1.out) HB2.out | exact step (up (up0 _) _) HB1.out | exact step (up (up0 _) _) HB2.out
theorem sh0_z (k : Int) (hk : k < 1 ∨ 8 < k) (op : Int) (m n : ByteArray) (t b : Int) (A : Option Addr) (l c : Nat) (h0 : 0 ≤ b) (h1 : b < 18446744073709551616) (h_n : n.toList.isEmpty = true) (h_m : m.toList.isEmpty = true) (h_z : (decide (t = 0) && decide (b = 0)) = false) (w : World) : Calls Tryz.prog 95 #[.agg #[.int .i64 k, .int .i64 op, .string m, .string n, .int .i64 t, .int .u64 b, .slice A l c]] w (Says false w) := by
  have f1 : (k == 1) = false := beq_eq_false_iff_ne.mpr (by omega)
  have g1 : (k != 1) = true := bne_iff_ne.mpr (by omega)
  have f2 : (k == 2) = false := beq_eq_false_iff_ne.mpr (by omega)
  have g2 : (k != 2) = true := bne_iff_ne.mpr (by omega)
  have f3 : (k == 3) = false := beq_eq_false_iff_ne.mpr (by omega)
  have g3 : (k != 3) = true := bne_iff_ne.mpr (by omega)
  have f4 : (k == 4) = false := beq_eq_false_iff_ne.mpr (by omega)
  have g4 : (k != 4) = true := bne_iff_ne.mpr (by omega)
  have f5 : (k == 5) = false := beq_eq_false_iff_ne.mpr (by omega)
  have g5 : (k != 5) = true := bne_iff_ne.mpr (by omega)
  have f6 : (k == 6) = false := beq_eq_false_iff_ne.mpr (by omega)
  have g6 : (k != 6) = true := bne_iff_ne.mpr (by omega)
  have f7 : (k == 7) = false := beq_eq_false_iff_ne.mpr (by omega)
  have g7 : (k != 7) = true := bne_iff_ne.mpr (by omega)
  have f8 : (k == 8) = false := beq_eq_false_iff_ne.mpr (by omega)
  have g8 : (k != 8) = true := bne_iff_ne.mpr (by omega)
  clear hk
  obtain rfl := empty_of' h_n
  clear h_n
  obtain rfl := empty_of' h_m
  clear h_m
  have Z := Hd.mk (zero_b t b false h_z)
  clear h_z
  go_enter Tryz.func95, Tryz.ntmps95
  go_wp2_with (first
    | (go_at_call 129; (with_reducible refine ((Z.out _).mono ?_)); (rintro e w1 ⟨rfl, hb1⟩; have HB1 := Hd.mk hb1; have hc1 := bcell hb1; have hs1 := bsize1 rfl hb1; clear hb1))
    | (go_at_call 130; (with_reducible refine ((ref_literal_any t b h0 h1 _).mono ?_)); (rw [L.out.out]; rintro e w2 ⟨rfl, hb2⟩; have HB2 := Hd.mk hb2; clear hb2)))
  go_ret
  refine ⟨rfl, ?_⟩
  first | exact up (up0 _) _ | exact step (step (up (up0 _) _) HB1.out) HB2.out | exact step (up (up0 _) _) HB1.out | exact step (up (up0 _) _) HB2.out
theorem sh0_op0 (k : Int) (hk : k < 1 ∨ 8 < k) (op : Int) (m n : ByteArray) (t b : Int) (A : Option Addr) (l c : Nat) (h0 : 0 ≤ b) (h1 : b < 18446744073709551616) (h_n : n.toList.isEmpty = true) (h_m : m.toList.isEmpty = true) (h_z : (decide (t = 0) && decide (b = 0)) = true) (h_op0 : op ≠ 0) (w : World) : Calls Tryz.prog 95 #[.agg #[.int .i64 k, .int .i64 op, .string m, .string n, .int .i64 t, .int .u64 b, .slice A l c]] w (Says false w) := by
  have f1 : (k == 1) = false := beq_eq_false_iff_ne.mpr (by omega)
  have g1 : (k != 1) = true := bne_iff_ne.mpr (by omega)
  have f2 : (k == 2) = false := beq_eq_false_iff_ne.mpr (by omega)
  have g2 : (k != 2) = true := bne_iff_ne.mpr (by omega)
  have f3 : (k == 3) = false := beq_eq_false_iff_ne.mpr (by omega)
  have g3 : (k != 3) = true := bne_iff_ne.mpr (by omega)
  have f4 : (k == 4) = false := beq_eq_false_iff_ne.mpr (by omega)
  have g4 : (k != 4) = true := bne_iff_ne.mpr (by omega)
  have f5 : (k == 5) = false := beq_eq_false_iff_ne.mpr (by omega)
  have g5 : (k != 5) = true := bne_iff_ne.mpr (by omega)
  have f6 : (k == 6) = false := beq_eq_false_iff_ne.mpr (by omega)
  have g6 : (k != 6) = true := bne_iff_ne.mpr (by omega)
  have f7 : (k == 7) = false := beq_eq_false_iff_ne.mpr (by omega)
  have g7 : (k != 7) = true := bne_iff_ne.mpr (by omega)
  have f8 : (k == 8) = false := beq_eq_false_iff_ne.mpr (by omega)
  have g8 : (k != 8) = true := bne_iff_ne.mpr (by omega)
  clear hk
  obtain rfl := empty_of' h_n
  clear h_n
  obtain rfl := empty_of' h_m
  clear h_m
  have Z := Hd.mk (zero_b t b true h_z)
  clear h_z
  have fo : (op == 0) = false := beq_eq_false_iff_ne.mpr h_op0
  have fo2 : (op != 0) = true := bne_iff_ne.mpr h_op0
  clear h_op0
  go_enter Tryz.func95, Tryz.ntmps95
  go_wp2_with (first
    | (go_at_call 129; (with_reducible refine ((Z.out _).mono ?_)); (rintro e w1 ⟨rfl, hb1⟩; have HB1 := Hd.mk hb1; have hc1 := bcell hb1; have hs1 := bsize1 rfl hb1; clear hb1))
    | (go_at_call 130; (with_reducible refine ((ref_literal_any t b h0 h1 _).mono ?_)); (rw [L.out.out]; rintro e w2 ⟨rfl, hb2⟩; have HB2 := Hd.mk hb2; clear hb2)))
  go_ret
  refine ⟨rfl, ?_⟩
  first | exact up (up0 _) _ | exact step (step (up (up0 _) _) HB1.out) HB2.out | exact step (up (up0 _) _) HB1.out | exact step (up (up0 _) _) HB2.out
theorem sh0_ok (k : Int) (hk : k < 1 ∨ 8 < k) (op : Int) (m n : ByteArray) (t b : Int) (A : Option Addr) (l c : Nat) (h0 : 0 ≤ b) (h1 : b < 18446744073709551616) (h_n : n.toList.isEmpty = true) (h_m : m.toList.isEmpty = true) (h_z : (decide (t = 0) && decide (b = 0)) = true) (h_op0 : op = 0) (w : World) : Calls Tryz.prog 95 #[.agg #[.int .i64 k, .int .i64 op, .string m, .string n, .int .i64 t, .int .u64 b, .slice A l c]] w (Says false w) := by
  have f1 : (k == 1) = false := beq_eq_false_iff_ne.mpr (by omega)
  have g1 : (k != 1) = true := bne_iff_ne.mpr (by omega)
  have f2 : (k == 2) = false := beq_eq_false_iff_ne.mpr (by omega)
  have g2 : (k != 2) = true := bne_iff_ne.mpr (by omega)
  have f3 : (k == 3) = false := beq_eq_false_iff_ne.mpr (by omega)
  have g3 : (k != 3) = true := bne_iff_ne.mpr (by omega)
  have f4 : (k == 4) = false := beq_eq_false_iff_ne.mpr (by omega)
  have g4 : (k != 4) = true := bne_iff_ne.mpr (by omega)
  have f5 : (k == 5) = false := beq_eq_false_iff_ne.mpr (by omega)
  have g5 : (k != 5) = true := bne_iff_ne.mpr (by omega)
  have f6 : (k == 6) = false := beq_eq_false_iff_ne.mpr (by omega)
  have g6 : (k != 6) = true := bne_iff_ne.mpr (by omega)
  have f7 : (k == 7) = false := beq_eq_false_iff_ne.mpr (by omega)
  have g7 : (k != 7) = true := bne_iff_ne.mpr (by omega)
  have f8 : (k == 8) = false := beq_eq_false_iff_ne.mpr (by omega)
  have g8 : (k != 8) = true := bne_iff_ne.mpr (by omega)
  clear hk
  obtain rfl := empty_of' h_n
  clear h_n
  obtain rfl := empty_of' h_m
  clear h_m
  have Z := Hd.mk (zero_b t b true h_z)
  clear h_z
  subst h_op0
  go_enter Tryz.func95, Tryz.ntmps95
  go_wp2_with (first
    | (go_at_call 129; (with_reducible refine ((Z.out _).mono ?_)); (rintro e w1 ⟨rfl, hb1⟩; have HB1 := Hd.mk hb1; have hc1 := bcell hb1; have hs1 := bsize1 rfl hb1; clear hb1))
    | (go_at_call 130; (with_reducible refine ((ref_literal_any t b h0 h1 _).mono ?_)); (rw [L.out.out]; rintro e w2 ⟨rfl, hb2⟩; have HB2 := Hd.mk hb2; clear hb2)))
  go_ret
  refine ⟨rfl, ?_⟩
  first | exact up (up0 _) _ | exact step (step (up (up0 _) _) HB1.out) HB2.out | exact step (up (up0 _) _) HB1.out | exact step (up (up0 _) _) HB2.out
end Go.Proofs.YtbhgpegcdiohlaaGreatDoor.Tr

namespace Go.Proofs.YtbhgpegcdiohlaaGreatDoor.Tr
open Go Go.RowKit Go.Proofs
set_option linter.unusedVariables false
set_option maxRecDepth 100000
set_option maxHeartbeats 4000000
theorem says_eq {b b' : Bool} (h : b' = b) {f : FuncId} {args : Array Value} {w : World} (g : Calls Tryz.prog f args w (Says b w)) : Calls Tryz.prog f args w (Says b' w) := h ▸ g
theorem shape1_any (op : Int) (m n : ByteArray) (t b : Int) (A : Option Addr) (l c : Nat) (h0 : 0 ≤ b) (h1 : b < 18446744073709551616) (w : World) : Calls Tryz.prog 95 #[.agg #[.int .i64 1, .int .i64 op, .string m, .string n, .int .i64 t, .int .u64 b, .slice A l c]] w (Says (shapedB 1 op m n t b l) w) := by
  by_cases h_n : n.toList.isEmpty = true
  rotate_left
  · exact says_eq (by unfold shapedB; rw [if_pos rfl]; simp [h_n]; try omega) (sh1_n op m n t b A l c h0 h1 (by simpa using h_n) w)
  by_cases h_m : m.toList.isEmpty = true
  rotate_left
  · exact says_eq (by unfold shapedB; rw [if_pos rfl]; simp [h_m]; try omega) (sh1_m op m n t b A l c h0 h1 h_n (by simpa using h_m) w)
  by_cases h_op0 : op = 0
  rotate_left
  · exact says_eq (by unfold shapedB; rw [if_pos rfl]; simp [h_op0]; try omega) (sh1_op0 op m n t b A l c h0 h1 h_n h_m h_op0 w)
  by_cases h_l0 : l = 0
  rotate_left
  · exact says_eq (by unfold shapedB; rw [if_pos rfl]; simp [h_l0]; try omega) (sh1_l0 op m n t b A l c h0 h1 h_n h_m h_op0 h_l0 w)
  by_cases h_lit : litB t b = true
  rotate_left
  · exact says_eq (by unfold shapedB; rw [if_pos rfl]; simp [h_lit]; try omega) (sh1_lit op m n t b A l c h0 h1 h_n h_m h_op0 h_l0 (by simpa using h_lit) w)
  exact says_eq (by unfold shapedB; rw [if_pos rfl]; simp [h_n, h_m, h_op0, h_l0, h_lit]; try omega) (sh1_ok op m n t b A l c h0 h1 h_n h_m h_op0 h_l0 h_lit w)
theorem shape2_any (op : Int) (m n : ByteArray) (t b : Int) (A : Option Addr) (l c : Nat) (h0 : 0 ≤ b) (h1 : b < 18446744073709551616) (w : World) : Calls Tryz.prog 95 #[.agg #[.int .i64 2, .int .i64 op, .string m, .string n, .int .i64 t, .int .u64 b, .slice A l c]] w (Says (shapedB 2 op m n t b l) w) := by
  by_cases h_m : m.toList.isEmpty = true
  rotate_left
  · exact says_eq (by unfold shapedB; rw [if_neg (by decide), if_pos rfl]; simp [h_m]; try omega) (sh2_m op m n t b A l c h0 h1 (by simpa using h_m) w)
  by_cases h_z : (decide (t = 0) && decide (b = 0)) = true
  rotate_left
  · exact says_eq (by unfold shapedB; rw [if_neg (by decide), if_pos rfl]; simp [h_z]; try omega) (sh2_z op m n t b A l c h0 h1 h_m (by simpa using h_z) w)
  by_cases h_op0 : op = 0
  rotate_left
  · exact says_eq (by unfold shapedB; rw [if_neg (by decide), if_pos rfl]; simp [h_op0]; try omega) (sh2_op0 op m n t b A l c h0 h1 h_m h_z h_op0 w)
  by_cases h_l0 : l = 0
  rotate_left
  · exact says_eq (by unfold shapedB; rw [if_neg (by decide), if_pos rfl]; simp [h_l0]; try omega) (sh2_l0 op m n t b A l c h0 h1 h_m h_z h_op0 h_l0 w)
  exact says_eq (by unfold shapedB; rw [if_neg (by decide), if_pos rfl]; simp [h_m, h_z, h_op0, h_l0]; try omega) (sh2_ok op m n t b A l c h0 h1 h_m h_z h_op0 h_l0 w)
theorem shape3_any (op : Int) (m n : ByteArray) (t b : Int) (A : Option Addr) (l c : Nat) (h0 : 0 ≤ b) (h1 : b < 18446744073709551616) (w : World) : Calls Tryz.prog 95 #[.agg #[.int .i64 3, .int .i64 op, .string m, .string n, .int .i64 t, .int .u64 b, .slice A l c]] w (Says (shapedB 3 op m n t b l) w) := by
  by_cases h_z : (decide (t = 0) && decide (b = 0)) = true
  rotate_left
  · exact says_eq (by unfold shapedB; rw [if_neg (by decide), if_neg (by decide), if_pos rfl]; simp [h_z]; try omega) (sh3_z op m n t b A l c h0 h1 (by simpa using h_z) w)
  by_cases h_op0 : op = 0
  rotate_left
  · exact says_eq (by unfold shapedB; rw [if_neg (by decide), if_neg (by decide), if_pos rfl]; simp [h_op0]; try omega) (sh3_op0 op m n t b A l c h0 h1 h_z h_op0 w)
  by_cases h_l0 : l = 0
  rotate_left
  · exact says_eq (by unfold shapedB; rw [if_neg (by decide), if_neg (by decide), if_pos rfl]; simp [h_l0]; try omega) (sh3_l0 op m n t b A l c h0 h1 h_z h_op0 h_l0 w)
  exact says_eq (by unfold shapedB; rw [if_neg (by decide), if_neg (by decide), if_pos rfl]; simp [h_z, h_op0, h_l0]; try omega) (sh3_ok op m n t b A l c h0 h1 h_z h_op0 h_l0 w)
theorem shape4_any (op : Int) (m n : ByteArray) (t b : Int) (A : Option Addr) (l c : Nat) (h0 : 0 ≤ b) (h1 : b < 18446744073709551616) (w : World) : Calls Tryz.prog 95 #[.agg #[.int .i64 4, .int .i64 op, .string m, .string n, .int .i64 t, .int .u64 b, .slice A l c]] w (Says (shapedB 4 op m n t b l) w) := by
  by_cases h_m : m.toList.isEmpty = true
  rotate_left
  · exact says_eq (by unfold shapedB; rw [if_neg (by decide), if_neg (by decide), if_neg (by decide), if_pos rfl]; simp [h_m]; try omega) (sh4_m op m n t b A l c h0 h1 (by simpa using h_m) w)
  by_cases h_z : (decide (t = 0) && decide (b = 0)) = true
  rotate_left
  · exact says_eq (by unfold shapedB; rw [if_neg (by decide), if_neg (by decide), if_neg (by decide), if_pos rfl]; simp [h_z]; try omega) (sh4_z op m n t b A l c h0 h1 h_m (by simpa using h_z) w)
  by_cases h_op0 : op = 0
  rotate_left
  · exact says_eq (by unfold shapedB; rw [if_neg (by decide), if_neg (by decide), if_neg (by decide), if_pos rfl]; simp [h_op0]; try omega) (sh4_op0 op m n t b A l c h0 h1 h_m h_z h_op0 w)
  exact says_eq (by unfold shapedB; rw [if_neg (by decide), if_neg (by decide), if_neg (by decide), if_pos rfl]; simp [h_m, h_z, h_op0]; try omega) (sh4_ok op m n t b A l c h0 h1 h_m h_z h_op0 w)
theorem shape5_any (op : Int) (m n : ByteArray) (t b : Int) (A : Option Addr) (l c : Nat) (h0 : 0 ≤ b) (h1 : b < 18446744073709551616) (w : World) : Calls Tryz.prog 95 #[.agg #[.int .i64 5, .int .i64 op, .string m, .string n, .int .i64 t, .int .u64 b, .slice A l c]] w (Says (shapedB 5 op m n t b l) w) := by
  by_cases h_z : (decide (t = 0) && decide (b = 0)) = true
  rotate_left
  · exact says_eq (by unfold shapedB; rw [if_neg (by decide), if_neg (by decide), if_neg (by decide), if_neg (by decide), if_pos rfl]; simp [h_z]; try omega) (sh5_z op m n t b A l c h0 h1 (by simpa using h_z) w)
  by_cases h_op0 : op = 0
  rotate_left
  · exact says_eq (by unfold shapedB; rw [if_neg (by decide), if_neg (by decide), if_neg (by decide), if_neg (by decide), if_pos rfl]; simp [h_op0]; try omega) (sh5_op0 op m n t b A l c h0 h1 h_z h_op0 w)
  exact says_eq (by unfold shapedB; rw [if_neg (by decide), if_neg (by decide), if_neg (by decide), if_neg (by decide), if_pos rfl]; simp [h_z, h_op0]; try omega) (sh5_ok op m n t b A l c h0 h1 h_z h_op0 w)
theorem shape6_any (op : Int) (m n : ByteArray) (t b : Int) (A : Option Addr) (l c : Nat) (h0 : 0 ≤ b) (h1 : b < 18446744073709551616) (w : World) : Calls Tryz.prog 95 #[.agg #[.int .i64 6, .int .i64 op, .string m, .string n, .int .i64 t, .int .u64 b, .slice A l c]] w (Says (shapedB 6 op m n t b l) w) := by
  by_cases h_n : n.toList.isEmpty = true
  rotate_left
  · exact says_eq (by unfold shapedB; rw [if_neg (by decide), if_neg (by decide), if_neg (by decide), if_neg (by decide), if_neg (by decide), if_pos rfl]; simp [h_n]; try omega) (sh6_n op m n t b A l c h0 h1 (by simpa using h_n) w)
  by_cases h_m : m.toList.isEmpty = true
  rotate_left
  · exact says_eq (by unfold shapedB; rw [if_neg (by decide), if_neg (by decide), if_neg (by decide), if_neg (by decide), if_neg (by decide), if_pos rfl]; simp [h_m]; try omega) (sh6_m op m n t b A l c h0 h1 h_n (by simpa using h_m) w)
  by_cases h_z : (decide (t = 0) && decide (b = 0)) = true
  rotate_left
  · exact says_eq (by unfold shapedB; rw [if_neg (by decide), if_neg (by decide), if_neg (by decide), if_neg (by decide), if_neg (by decide), if_pos rfl]; simp [h_z]; try omega) (sh6_z op m n t b A l c h0 h1 h_n h_m (by simpa using h_z) w)
  by_cases h_l1 : l = 1
  rotate_left
  · exact says_eq (by unfold shapedB; rw [if_neg (by decide), if_neg (by decide), if_neg (by decide), if_neg (by decide), if_neg (by decide), if_pos rfl]; simp [h_l1]; try omega) (sh6_l1 op m n t b A l c h0 h1 h_n h_m h_z h_l1 w)
  by_cases h_op1 : 1 ≤ op
  rotate_left
  · exact says_eq (by unfold shapedB; rw [if_neg (by decide), if_neg (by decide), if_neg (by decide), if_neg (by decide), if_neg (by decide), if_pos rfl]; simp [h_op1]; try omega) (sh6_op1 op m n t b A l c h0 h1 h_n h_m h_z h_l1 (by omega) w)
  by_cases h_op4 : op ≤ 4
  rotate_left
  · exact says_eq (by unfold shapedB; rw [if_neg (by decide), if_neg (by decide), if_neg (by decide), if_neg (by decide), if_neg (by decide), if_pos rfl]; simp [h_op4]; try omega) (sh6_op4 op m n t b A l c h0 h1 h_n h_m h_z h_l1 h_op1 (by omega) w)
  exact says_eq (by unfold shapedB; rw [if_neg (by decide), if_neg (by decide), if_neg (by decide), if_neg (by decide), if_neg (by decide), if_pos rfl]; simp [h_n, h_m, h_z, h_l1, h_op1, h_op4]; try omega) (sh6_ok op m n t b A l c h0 h1 h_n h_m h_z h_l1 h_op1 h_op4 w)
theorem shape7_any (op : Int) (m n : ByteArray) (t b : Int) (A : Option Addr) (l c : Nat) (h0 : 0 ≤ b) (h1 : b < 18446744073709551616) (w : World) : Calls Tryz.prog 95 #[.agg #[.int .i64 7, .int .i64 op, .string m, .string n, .int .i64 t, .int .u64 b, .slice A l c]] w (Says (shapedB 7 op m n t b l) w) := by
  by_cases h_n : n.toList.isEmpty = true
  rotate_left
  · exact says_eq (by unfold shapedB; rw [if_neg (by decide), if_neg (by decide), if_neg (by decide), if_neg (by decide), if_neg (by decide), if_neg (by decide), if_pos rfl]; simp [h_n]; try omega) (sh7_n op m n t b A l c h0 h1 (by simpa using h_n) w)
  by_cases h_m : m.toList.isEmpty = true
  rotate_left
  · exact says_eq (by unfold shapedB; rw [if_neg (by decide), if_neg (by decide), if_neg (by decide), if_neg (by decide), if_neg (by decide), if_neg (by decide), if_pos rfl]; simp [h_m]; try omega) (sh7_m op m n t b A l c h0 h1 h_n (by simpa using h_m) w)
  by_cases h_z : (decide (t = 0) && decide (b = 0)) = true
  rotate_left
  · exact says_eq (by unfold shapedB; rw [if_neg (by decide), if_neg (by decide), if_neg (by decide), if_neg (by decide), if_neg (by decide), if_neg (by decide), if_pos rfl]; simp [h_z]; try omega) (sh7_z op m n t b A l c h0 h1 h_n h_m (by simpa using h_z) w)
  by_cases h_l2 : l = 2
  rotate_left
  · exact says_eq (by unfold shapedB; rw [if_neg (by decide), if_neg (by decide), if_neg (by decide), if_neg (by decide), if_neg (by decide), if_neg (by decide), if_pos rfl]; simp [h_l2]; try omega) (sh7_l2 op m n t b A l c h0 h1 h_n h_m h_z h_l2 w)
  by_cases h_op1 : 1 ≤ op
  rotate_left
  · exact says_eq (by unfold shapedB; rw [if_neg (by decide), if_neg (by decide), if_neg (by decide), if_neg (by decide), if_neg (by decide), if_neg (by decide), if_pos rfl]; simp [h_op1]; try omega) (sh7_op1 op m n t b A l c h0 h1 h_n h_m h_z h_l2 (by omega) w)
  by_cases h_op13 : op ≤ 13
  rotate_left
  · exact says_eq (by unfold shapedB; rw [if_neg (by decide), if_neg (by decide), if_neg (by decide), if_neg (by decide), if_neg (by decide), if_neg (by decide), if_pos rfl]; simp [h_op13]; try omega) (sh7_op13 op m n t b A l c h0 h1 h_n h_m h_z h_l2 h_op1 (by omega) w)
  exact says_eq (by unfold shapedB; rw [if_neg (by decide), if_neg (by decide), if_neg (by decide), if_neg (by decide), if_neg (by decide), if_neg (by decide), if_pos rfl]; simp [h_n, h_m, h_z, h_l2, h_op1, h_op13]; try omega) (sh7_ok op m n t b A l c h0 h1 h_n h_m h_z h_l2 h_op1 h_op13 w)
theorem shape8_any (op : Int) (m n : ByteArray) (t b : Int) (A : Option Addr) (l c : Nat) (h0 : 0 ≤ b) (h1 : b < 18446744073709551616) (w : World) : Calls Tryz.prog 95 #[.agg #[.int .i64 8, .int .i64 op, .string m, .string n, .int .i64 t, .int .u64 b, .slice A l c]] w (Says (shapedB 8 op m n t b l) w) := by
  by_cases h_n : n.toList.isEmpty = true
  rotate_left
  · exact says_eq (by unfold shapedB; rw [if_neg (by decide), if_neg (by decide), if_neg (by decide), if_neg (by decide), if_neg (by decide), if_neg (by decide), if_neg (by decide), if_pos rfl]; simp [h_n]; try omega) (sh8_n op m n t b A l c h0 h1 (by simpa using h_n) w)
  by_cases h_m : m.toList.isEmpty = true
  rotate_left
  · exact says_eq (by unfold shapedB; rw [if_neg (by decide), if_neg (by decide), if_neg (by decide), if_neg (by decide), if_neg (by decide), if_neg (by decide), if_neg (by decide), if_pos rfl]; simp [h_m]; try omega) (sh8_m op m n t b A l c h0 h1 h_n (by simpa using h_m) w)
  by_cases h_z : (decide (t = 0) && decide (b = 0)) = true
  rotate_left
  · exact says_eq (by unfold shapedB; rw [if_neg (by decide), if_neg (by decide), if_neg (by decide), if_neg (by decide), if_neg (by decide), if_neg (by decide), if_neg (by decide), if_pos rfl]; simp [h_z]; try omega) (sh8_z op m n t b A l c h0 h1 h_n h_m (by simpa using h_z) w)
  by_cases h_op0 : op = 0
  rotate_left
  · exact says_eq (by unfold shapedB; rw [if_neg (by decide), if_neg (by decide), if_neg (by decide), if_neg (by decide), if_neg (by decide), if_neg (by decide), if_neg (by decide), if_pos rfl]; simp [h_op0]; try omega) (sh8_op0 op m n t b A l c h0 h1 h_n h_m h_z h_op0 w)
  by_cases h_l0 : l = 0
  rotate_left
  · exact says_eq (by unfold shapedB; rw [if_neg (by decide), if_neg (by decide), if_neg (by decide), if_neg (by decide), if_neg (by decide), if_neg (by decide), if_neg (by decide), if_pos rfl]; simp [h_l0]; try omega) (sh8_l0 op m n t b A l c h0 h1 h_n h_m h_z h_op0 h_l0 w)
  exact says_eq (by unfold shapedB; rw [if_neg (by decide), if_neg (by decide), if_neg (by decide), if_neg (by decide), if_neg (by decide), if_neg (by decide), if_neg (by decide), if_pos rfl]; simp [h_n, h_m, h_z, h_op0, h_l0]; try omega) (sh8_ok op m n t b A l c h0 h1 h_n h_m h_z h_op0 h_l0 w)
theorem shapex_any (k : Int) (hk : k < 1 ∨ 8 < k) (op : Int) (m n : ByteArray) (t b : Int) (A : Option Addr) (l c : Nat) (h0 : 0 ≤ b) (h1 : b < 18446744073709551616) (w : World) : Calls Tryz.prog 95 #[.agg #[.int .i64 k, .int .i64 op, .string m, .string n, .int .i64 t, .int .u64 b, .slice A l c]] w (Says (shapedB k op m n t b l) w) := by
  have hf : shapedB k op m n t b l = false := by unfold shapedB; rw [if_neg (by omega), if_neg (by omega), if_neg (by omega), if_neg (by omega), if_neg (by omega), if_neg (by omega), if_neg (by omega), if_neg (by omega)]
  by_cases h_n : n.toList.isEmpty = true
  rotate_left
  · exact says_eq (hf) (sh0_n k hk op m n t b A l c h0 h1 (by simpa using h_n) w)
  by_cases h_m : m.toList.isEmpty = true
  rotate_left
  · exact says_eq (hf) (sh0_m k hk op m n t b A l c h0 h1 h_n (by simpa using h_m) w)
  by_cases h_z : (decide (t = 0) && decide (b = 0)) = true
  rotate_left
  · exact says_eq (hf) (sh0_z k hk op m n t b A l c h0 h1 h_n h_m (by simpa using h_z) w)
  by_cases h_op0 : op = 0
  rotate_left
  · exact says_eq (hf) (sh0_op0 k hk op m n t b A l c h0 h1 h_n h_m h_z h_op0 w)
  exact says_eq (hf) (sh0_ok k hk op m n t b A l c h0 h1 h_n h_m h_z h_op0 w)
theorem rshaped_any (k op : Int) (m n : ByteArray) (t b : Int) (A : Option Addr) (l c : Nat) (h0 : 0 ≤ b) (h1 : b < 18446744073709551616) (w : World) : Calls Tryz.prog 95 #[.agg #[.int .i64 k, .int .i64 op, .string m, .string n, .int .i64 t, .int .u64 b, .slice A l c]] w (Says (shapedB k op m n t b l) w) := by
  by_cases hk : k < 1 ∨ 8 < k
  · exact shapex_any k hk op m n t b A l c h0 h1 w
  · have : k = 1 ∨ k = 2 ∨ k = 3 ∨ k = 4 ∨ k = 5 ∨ k = 6 ∨ k = 7 ∨ k = 8 := by omega
    rcases this with rfl | rfl | rfl | rfl | rfl | rfl | rfl | rfl
    · exact shape1_any op m n t b A l c h0 h1 w
    · exact shape2_any op m n t b A l c h0 h1 w
    · exact shape3_any op m n t b A l c h0 h1 w
    · exact shape4_any op m n t b A l c h0 h1 w
    · exact shape5_any op m n t b A l c h0 h1 w
    · exact shape6_any op m n t b A l c h0 h1 w
    · exact shape7_any op m n t b A l c h0 h1 w
    · exact shape8_any op m n t b A l c h0 h1 w
end Go.Proofs.YtbhgpegcdiohlaaGreatDoor.Tr
