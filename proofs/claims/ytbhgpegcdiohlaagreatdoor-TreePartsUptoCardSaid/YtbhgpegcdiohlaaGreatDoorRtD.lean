import Derived.Test.YtbhgpegcdiohlaaGreatDoorRtC
import Derived.Test.YtbhgpegcdiohlaaGreatDoorTrL
namespace Go.Proofs.YtbhgpegcdiohlaaGreatDoor.Tr
open Go Go.RowKit Go.Proofs
set_option linter.unusedVariables false
set_option maxRecDepth 100000
set_option maxHeartbeats 4000000
/-- what ends well or with an error -/
def Ends (r : Int) (w : World) (e : Ending) (w' : World) : Prop := (r = 0 → SaysU w e w') ∧ (r ≠ 0 → Fails r w e w')
theorem ends_ok {r : Int} (h : r = 0) {w w' : World} {e : Ending} (g : SaysU w e w') : Ends r w e w' := ⟨fun _ => g, fun k => absurd h k⟩
theorem ends_no {r q : Int} (h : q = r) (hr : q ≠ 0) {w w' : World} {e : Ending} (g : Fails q w e w') : Ends r w e w' := ⟨fun k => absurd (h.trans k) hr, fun _ => h ▸ g⟩
def ExprIs (x : Ex) : Prop := ∀ (w : World) (v : Value), x.Is w v → Calls Tryz.prog 42 #[v] w (Ends (errE x) w)
theorem ExprIs.ok {x : Ex} (h : ExprIs x) (h0 : errE x = 0) : ExprOk x := fun w v hx => (h w v hx).mono fun e w' g => g.1 h0
theorem ExprIs.no {x : Ex} (h : ExprIs x) {r : Int} (hr : errE x = r) (h0 : r ≠ 0) : ExprNo r x := fun w v hx => (h w v hx).mono fun e w' g => hr ▸ g.2 (hr ▸ h0)
theorem empty_of {s : ByteArray} (h : s.toList.isEmpty = true) : s = ⟨#[]⟩ := bytes_eq (by simpa using h)
theorem must_b (n : Int) (hn : n ≠ 0) (w : World) : Calls Tryz.prog 34 #[.int .i64 n] w fun e w' => e = .panicked [{ v := .iface 108 (.int .i64 n), recovered := false }] ∧ w = w' := must_no n hn w

theorem ex1_op0 (op : Int) (m n : ByteArray) (t b : Int) (ks : Exs) (h0 : 0 ≤ b) (h1 : b < 18446744073709551616) (ho : op ≠ 0) : ExprNo 1 (.mk 1 op m n t b ks) := by
  intro w v hv
  unfold Ex.Is at hv
  obtain ⟨A, l, c, rfl, g1⟩ := hv
  have hlen : l = ks.toList.length := g1.1
  clear g1
  have fo : (op == 0) = false := beq_eq_false_iff_ne.mpr ho
  clear ho
  clear hlen
  go_enter Tryz.func42, Tryz.ntmps42
  go_wp2_with (first
    | (go_at_call 36; (with_reducible refine ((ask_ok _ _).mono ?_)); (rintro e w1 ⟨rfl, rfl⟩))
    | (go_at_call 36; (with_reducible refine ((ask_no 1 (by decide) _).mono ?_)); (rintro e w1 ⟨rfl, rfl⟩))
    | (go_at_call 91; (with_reducible refine ((fields1 _).mono ?_)); (rintro e w1 ⟨rfl, rfl⟩)))
  exact ⟨rfl, rfl, up (up0 _) _⟩
theorem ex1_m (op : Int) (m n : ByteArray) (t b : Int) (ks : Exs) (h0 : 0 ≤ b) (h1 : b < 18446744073709551616) (ho : op = 0) (hm : m.toList.isEmpty = false) : ExprNo 1 (.mk 1 op m n t b ks) := by
  intro w v hv
  unfold Ex.Is at hv
  obtain ⟨A, l, c, rfl, g1⟩ := hv
  have hlen : l = ks.toList.length := g1.1
  clear g1
  subst ho
  clear hlen
  go_enter Tryz.func42, Tryz.ntmps42
  go_wp2_with (first
    | (go_at_call 36; (with_reducible refine ((ask_ok _ _).mono ?_)); (rintro e w1 ⟨rfl, rfl⟩))
    | (go_at_call 36; (with_reducible refine ((ask_no 1 (by decide) _).mono ?_)); (rintro e w1 ⟨rfl, rfl⟩))
    | (go_at_call 91; (with_reducible refine ((fields1 _).mono ?_)); (rintro e w1 ⟨rfl, rfl⟩)))
  exact ⟨rfl, rfl, up (up0 _) _⟩
theorem ex1_n (op : Int) (m n : ByteArray) (t b : Int) (ks : Exs) (h0 : 0 ≤ b) (h1 : b < 18446744073709551616) (ho : op = 0) (hm : m.toList.isEmpty = true) (hn : n.toList.isEmpty = false) : ExprNo 1 (.mk 1 op m n t b ks) := by
  intro w v hv
  unfold Ex.Is at hv
  obtain ⟨A, l, c, rfl, g1⟩ := hv
  have hlen : l = ks.toList.length := g1.1
  clear g1
  subst ho
  obtain rfl := empty_of hm
  clear hm
  clear hlen
  go_enter Tryz.func42, Tryz.ntmps42
  go_wp2_with (first
    | (go_at_call 36; (with_reducible refine ((ask_ok _ _).mono ?_)); (rintro e w1 ⟨rfl, rfl⟩))
    | (go_at_call 36; (with_reducible refine ((ask_no 1 (by decide) _).mono ?_)); (rintro e w1 ⟨rfl, rfl⟩))
    | (go_at_call 91; (with_reducible refine ((fields1 _).mono ?_)); (rintro e w1 ⟨rfl, rfl⟩)))
  exact ⟨rfl, rfl, up (up0 _) _⟩
theorem ex1_l (op : Int) (m n : ByteArray) (t b : Int) (ks : Exs) (h0 : 0 ≤ b) (h1 : b < 18446744073709551616) (ho : op = 0) (hm : m.toList.isEmpty = true) (hn : n.toList.isEmpty = true) (hl : ks.toList.length ≠ 0) : ExprNo 1 (.mk 1 op m n t b ks) := by
  intro w v hv
  unfold Ex.Is at hv
  obtain ⟨A, l, c, rfl, g1⟩ := hv
  have hlen : l = ks.toList.length := g1.1
  clear g1
  subst ho
  obtain rfl := empty_of hm
  clear hm
  obtain rfl := empty_of hn
  clear hn
  have fl : ((l : Int) == 0) = false := beq_eq_false_iff_ne.mpr (by omega)
  clear hlen
  go_enter Tryz.func42, Tryz.ntmps42
  go_wp2_with (first
    | (go_at_call 36; (with_reducible refine ((ask_ok _ _).mono ?_)); (rintro e w1 ⟨rfl, rfl⟩))
    | (go_at_call 36; (with_reducible refine ((ask_no 1 (by decide) _).mono ?_)); (rintro e w1 ⟨rfl, rfl⟩))
    | (go_at_call 91; (with_reducible refine ((fields1 _).mono ?_)); (rintro e w1 ⟨rfl, rfl⟩)))
  exact ⟨rfl, rfl, up (up0 _) _⟩
theorem ex1_lit (op : Int) (m n : ByteArray) (t b : Int) (ks : Exs) (h0 : 0 ≤ b) (h1 : b < 18446744073709551616) (ho : op = 0) (hm : m.toList.isEmpty = true) (hn : n.toList.isEmpty = true) (hl : ks.toList.length = 0) (hb : litB t b = false) : ExprNo 1 (.mk 1 op m n t b ks) := by
  intro w v hv
  unfold Ex.Is at hv
  obtain ⟨A, l, c, rfl, g1⟩ := hv
  have hlen : l = ks.toList.length := g1.1
  clear g1
  subst ho
  obtain rfl := empty_of hm
  clear hm
  obtain rfl := empty_of hn
  clear hn
  obtain rfl : l = 0 := hlen.trans hl
  have LB := Hd.mk hb
  clear hb
  clear hlen
  go_enter Tryz.func42, Tryz.ntmps42
  go_wp2_with (first
    | (go_at_call 36; (with_reducible refine ((ask_ok _ _).mono ?_)); (rintro e w1 ⟨rfl, rfl⟩))
    | (go_at_call 36; (with_reducible refine ((ask_no 1 (by decide) _).mono ?_)); (rintro e w1 ⟨rfl, rfl⟩))
    | (go_at_call 91; (with_reducible refine ((fields1 _).mono ?_)); (rintro e w1 ⟨rfl, rfl⟩))
    | (go_at_call 92; (with_reducible refine ((literal_any t b h0 h1 _).mono ?_)); (rw [LB.out]; rintro e w1 ⟨rfl, hb1⟩; have HB1 := Hd.mk hb1; have hc1 := bcell hb1; have hs1 := bsize1 rfl hb1; clear hb1)))
  exact ⟨rfl, rfl, step (up (up0 _) _) HB1.out⟩
theorem ex2_op0 (op : Int) (m n : ByteArray) (t b : Int) (ks : Exs) (h0 : 0 ≤ b) (h1 : b < 18446744073709551616) (ho : op ≠ 0) : ExprNo 1 (.mk 2 op m n t b ks) := by
  intro w v hv
  unfold Ex.Is at hv
  obtain ⟨A, l, c, rfl, g1⟩ := hv
  have hlen : l = ks.toList.length := g1.1
  clear g1
  have fo : (op == 0) = false := beq_eq_false_iff_ne.mpr ho
  clear ho
  clear hlen
  go_enter Tryz.func42, Tryz.ntmps42
  go_wp2_with (first
    | (go_at_call 36; (with_reducible refine ((ask_ok _ _).mono ?_)); (rintro e w1 ⟨rfl, rfl⟩))
    | (go_at_call 36; (with_reducible refine ((ask_no 1 (by decide) _).mono ?_)); (rintro e w1 ⟨rfl, rfl⟩))
    | (go_at_call 91; (with_reducible refine ((fields2 _).mono ?_)); (rintro e w1 ⟨rfl, rfl⟩)))
  exact ⟨rfl, rfl, up (up0 _) _⟩
theorem ex2_m (op : Int) (m n : ByteArray) (t b : Int) (ks : Exs) (h0 : 0 ≤ b) (h1 : b < 18446744073709551616) (ho : op = 0) (hm : m.toList.isEmpty = false) : ExprNo 1 (.mk 2 op m n t b ks) := by
  intro w v hv
  unfold Ex.Is at hv
  obtain ⟨A, l, c, rfl, g1⟩ := hv
  have hlen : l = ks.toList.length := g1.1
  clear g1
  subst ho
  clear hlen
  go_enter Tryz.func42, Tryz.ntmps42
  go_wp2_with (first
    | (go_at_call 36; (with_reducible refine ((ask_ok _ _).mono ?_)); (rintro e w1 ⟨rfl, rfl⟩))
    | (go_at_call 36; (with_reducible refine ((ask_no 1 (by decide) _).mono ?_)); (rintro e w1 ⟨rfl, rfl⟩))
    | (go_at_call 91; (with_reducible refine ((fields2 _).mono ?_)); (rintro e w1 ⟨rfl, rfl⟩)))
  exact ⟨rfl, rfl, up (up0 _) _⟩
theorem ex2_l (op : Int) (m n : ByteArray) (t b : Int) (ks : Exs) (h0 : 0 ≤ b) (h1 : b < 18446744073709551616) (ho : op = 0) (hm : m.toList.isEmpty = true) (hl : ks.toList.length ≠ 0) : ExprNo 1 (.mk 2 op m n t b ks) := by
  intro w v hv
  unfold Ex.Is at hv
  obtain ⟨A, l, c, rfl, g1⟩ := hv
  have hlen : l = ks.toList.length := g1.1
  clear g1
  subst ho
  obtain rfl := empty_of hm
  clear hm
  have fl : ((l : Int) == 0) = false := beq_eq_false_iff_ne.mpr (by omega)
  clear hlen
  go_enter Tryz.func42, Tryz.ntmps42
  go_wp2_with (first
    | (go_at_call 36; (with_reducible refine ((ask_ok _ _).mono ?_)); (rintro e w1 ⟨rfl, rfl⟩))
    | (go_at_call 36; (with_reducible refine ((ask_no 1 (by decide) _).mono ?_)); (rintro e w1 ⟨rfl, rfl⟩))
    | (go_at_call 91; (with_reducible refine ((fields2 _).mono ?_)); (rintro e w1 ⟨rfl, rfl⟩)))
  exact ⟨rfl, rfl, up (up0 _) _⟩
theorem ex2_t (op : Int) (m n : ByteArray) (t b : Int) (ks : Exs) (h0 : 0 ≤ b) (h1 : b < 18446744073709551616) (ho : op = 0) (hm : m.toList.isEmpty = true) (hl : ks.toList.length = 0) (ht : t ≠ 0) : ExprNo 1 (.mk 2 op m n t b ks) := by
  intro w v hv
  unfold Ex.Is at hv
  obtain ⟨A, l, c, rfl, g1⟩ := hv
  have hlen : l = ks.toList.length := g1.1
  clear g1
  subst ho
  obtain rfl := empty_of hm
  clear hm
  obtain rfl : l = 0 := hlen.trans hl
  have ft : (t == 0) = false := beq_eq_false_iff_ne.mpr ht
  clear ht
  clear hlen
  go_enter Tryz.func42, Tryz.ntmps42
  go_wp2_with (first
    | (go_at_call 36; (with_reducible refine ((ask_ok _ _).mono ?_)); (rintro e w1 ⟨rfl, rfl⟩))
    | (go_at_call 36; (with_reducible refine ((ask_no 1 (by decide) _).mono ?_)); (rintro e w1 ⟨rfl, rfl⟩))
    | (go_at_call 91; (with_reducible refine ((fields2 _).mono ?_)); (rintro e w1 ⟨rfl, rfl⟩)))
  exact ⟨rfl, rfl, up (up0 _) _⟩
theorem ex2_b (op : Int) (m n : ByteArray) (t b : Int) (ks : Exs) (h0 : 0 ≤ b) (h1 : b < 18446744073709551616) (ho : op = 0) (hm : m.toList.isEmpty = true) (hl : ks.toList.length = 0) (ht : t = 0) (hb : b ≠ 0) : ExprNo 1 (.mk 2 op m n t b ks) := by
  intro w v hv
  unfold Ex.Is at hv
  obtain ⟨A, l, c, rfl, g1⟩ := hv
  have hlen : l = ks.toList.length := g1.1
  clear g1
  subst ho
  obtain rfl := empty_of hm
  clear hm
  obtain rfl : l = 0 := hlen.trans hl
  subst ht
  have fb : (b == 0) = false := beq_eq_false_iff_ne.mpr hb
  clear hb
  clear hlen
  go_enter Tryz.func42, Tryz.ntmps42
  go_wp2_with (first
    | (go_at_call 36; (with_reducible refine ((ask_ok _ _).mono ?_)); (rintro e w1 ⟨rfl, rfl⟩))
    | (go_at_call 36; (with_reducible refine ((ask_no 1 (by decide) _).mono ?_)); (rintro e w1 ⟨rfl, rfl⟩))
    | (go_at_call 91; (with_reducible refine ((fields2 _).mono ?_)); (rintro e w1 ⟨rfl, rfl⟩)))
  exact ⟨rfl, rfl, up (up0 _) _⟩
theorem ex3_op0 (op : Int) (m n : ByteArray) (t b : Int) (ks : Exs) (h0 : 0 ≤ b) (h1 : b < 18446744073709551616) (ho : op ≠ 0) : ExprNo 1 (.mk 3 op m n t b ks) := by
  intro w v hv
  unfold Ex.Is at hv
  obtain ⟨A, l, c, rfl, g1⟩ := hv
  have hlen : l = ks.toList.length := g1.1
  clear g1
  have fo : (op == 0) = false := beq_eq_false_iff_ne.mpr ho
  clear ho
  clear hlen
  go_enter Tryz.func42, Tryz.ntmps42
  go_wp2_with (first
    | (go_at_call 36; (with_reducible refine ((ask_ok _ _).mono ?_)); (rintro e w1 ⟨rfl, rfl⟩))
    | (go_at_call 36; (with_reducible refine ((ask_no 1 (by decide) _).mono ?_)); (rintro e w1 ⟨rfl, rfl⟩))
    | (go_at_call 91; (with_reducible refine ((fields3 _).mono ?_)); (rintro e w1 ⟨rfl, rfl⟩)))
  exact ⟨rfl, rfl, up (up0 _) _⟩
theorem ex3_l (op : Int) (m n : ByteArray) (t b : Int) (ks : Exs) (h0 : 0 ≤ b) (h1 : b < 18446744073709551616) (ho : op = 0) (hl : ks.toList.length ≠ 0) : ExprNo 1 (.mk 3 op m n t b ks) := by
  intro w v hv
  unfold Ex.Is at hv
  obtain ⟨A, l, c, rfl, g1⟩ := hv
  have hlen : l = ks.toList.length := g1.1
  clear g1
  subst ho
  have fl : ((l : Int) == 0) = false := beq_eq_false_iff_ne.mpr (by omega)
  clear hlen
  go_enter Tryz.func42, Tryz.ntmps42
  go_wp2_with (first
    | (go_at_call 36; (with_reducible refine ((ask_ok _ _).mono ?_)); (rintro e w1 ⟨rfl, rfl⟩))
    | (go_at_call 36; (with_reducible refine ((ask_no 1 (by decide) _).mono ?_)); (rintro e w1 ⟨rfl, rfl⟩))
    | (go_at_call 91; (with_reducible refine ((fields3 _).mono ?_)); (rintro e w1 ⟨rfl, rfl⟩)))
  exact ⟨rfl, rfl, up (up0 _) _⟩
theorem ex3_t (op : Int) (m n : ByteArray) (t b : Int) (ks : Exs) (h0 : 0 ≤ b) (h1 : b < 18446744073709551616) (ho : op = 0) (hl : ks.toList.length = 0) (ht : t ≠ 0) : ExprNo 1 (.mk 3 op m n t b ks) := by
  intro w v hv
  unfold Ex.Is at hv
  obtain ⟨A, l, c, rfl, g1⟩ := hv
  have hlen : l = ks.toList.length := g1.1
  clear g1
  subst ho
  obtain rfl : l = 0 := hlen.trans hl
  have ft : (t == 0) = false := beq_eq_false_iff_ne.mpr ht
  clear ht
  clear hlen
  go_enter Tryz.func42, Tryz.ntmps42
  go_wp2_with (first
    | (go_at_call 36; (with_reducible refine ((ask_ok _ _).mono ?_)); (rintro e w1 ⟨rfl, rfl⟩))
    | (go_at_call 36; (with_reducible refine ((ask_no 1 (by decide) _).mono ?_)); (rintro e w1 ⟨rfl, rfl⟩))
    | (go_at_call 91; (with_reducible refine ((fields3 _).mono ?_)); (rintro e w1 ⟨rfl, rfl⟩)))
  exact ⟨rfl, rfl, up (up0 _) _⟩
theorem ex3_b (op : Int) (m n : ByteArray) (t b : Int) (ks : Exs) (h0 : 0 ≤ b) (h1 : b < 18446744073709551616) (ho : op = 0) (hl : ks.toList.length = 0) (ht : t = 0) (hb : b ≠ 0) : ExprNo 1 (.mk 3 op m n t b ks) := by
  intro w v hv
  unfold Ex.Is at hv
  obtain ⟨A, l, c, rfl, g1⟩ := hv
  have hlen : l = ks.toList.length := g1.1
  clear g1
  subst ho
  obtain rfl : l = 0 := hlen.trans hl
  subst ht
  have fb : (b == 0) = false := beq_eq_false_iff_ne.mpr hb
  clear hb
  clear hlen
  go_enter Tryz.func42, Tryz.ntmps42
  go_wp2_with (first
    | (go_at_call 36; (with_reducible refine ((ask_ok _ _).mono ?_)); (rintro e w1 ⟨rfl, rfl⟩))
    | (go_at_call 36; (with_reducible refine ((ask_no 1 (by decide) _).mono ?_)); (rintro e w1 ⟨rfl, rfl⟩))
    | (go_at_call 91; (with_reducible refine ((fields3 _).mono ?_)); (rintro e w1 ⟨rfl, rfl⟩)))
  exact ⟨rfl, rfl, up (up0 _) _⟩
theorem ex4_op0 (op : Int) (m n : ByteArray) (t b : Int) (ks : Exs) (h0 : 0 ≤ b) (h1 : b < 18446744073709551616) (ho : op ≠ 0) : ExprNo 1 (.mk 4 op m n t b ks) := by
  intro w v hv
  unfold Ex.Is at hv
  obtain ⟨A, l, c, rfl, g1⟩ := hv
  have hlen : l = ks.toList.length := g1.1
  clear g1
  have fo : (op == 0) = false := beq_eq_false_iff_ne.mpr ho
  clear ho
  clear hlen
  go_enter Tryz.func42, Tryz.ntmps42
  go_wp2_with (first
    | (go_at_call 36; (with_reducible refine ((ask_ok _ _).mono ?_)); (rintro e w1 ⟨rfl, rfl⟩))
    | (go_at_call 36; (with_reducible refine ((ask_no 1 (by decide) _).mono ?_)); (rintro e w1 ⟨rfl, rfl⟩))
    | (go_at_call 91; (with_reducible refine ((fields4 _).mono ?_)); (rintro e w1 ⟨rfl, rfl⟩)))
  exact ⟨rfl, rfl, up (up0 _) _⟩
theorem ex4_m (op : Int) (m n : ByteArray) (t b : Int) (ks : Exs) (h0 : 0 ≤ b) (h1 : b < 18446744073709551616) (ho : op = 0) (hm : m.toList.isEmpty = false) : ExprNo 1 (.mk 4 op m n t b ks) := by
  intro w v hv
  unfold Ex.Is at hv
  obtain ⟨A, l, c, rfl, g1⟩ := hv
  have hlen : l = ks.toList.length := g1.1
  clear g1
  subst ho
  clear hlen
  go_enter Tryz.func42, Tryz.ntmps42
  go_wp2_with (first
    | (go_at_call 36; (with_reducible refine ((ask_ok _ _).mono ?_)); (rintro e w1 ⟨rfl, rfl⟩))
    | (go_at_call 36; (with_reducible refine ((ask_no 1 (by decide) _).mono ?_)); (rintro e w1 ⟨rfl, rfl⟩))
    | (go_at_call 91; (with_reducible refine ((fields4 _).mono ?_)); (rintro e w1 ⟨rfl, rfl⟩)))
  exact ⟨rfl, rfl, up (up0 _) _⟩
theorem ex4_t (op : Int) (m n : ByteArray) (t b : Int) (ks : Exs) (h0 : 0 ≤ b) (h1 : b < 18446744073709551616) (ho : op = 0) (hm : m.toList.isEmpty = true) (ht : t ≠ 0) : ExprNo 1 (.mk 4 op m n t b ks) := by
  intro w v hv
  unfold Ex.Is at hv
  obtain ⟨A, l, c, rfl, g1⟩ := hv
  have hlen : l = ks.toList.length := g1.1
  clear g1
  subst ho
  obtain rfl := empty_of hm
  clear hm
  have ft : (t == 0) = false := beq_eq_false_iff_ne.mpr ht
  clear ht
  clear hlen
  go_enter Tryz.func42, Tryz.ntmps42
  go_wp2_with (first
    | (go_at_call 36; (with_reducible refine ((ask_ok _ _).mono ?_)); (rintro e w1 ⟨rfl, rfl⟩))
    | (go_at_call 36; (with_reducible refine ((ask_no 1 (by decide) _).mono ?_)); (rintro e w1 ⟨rfl, rfl⟩))
    | (go_at_call 91; (with_reducible refine ((fields4 _).mono ?_)); (rintro e w1 ⟨rfl, rfl⟩)))
  exact ⟨rfl, rfl, up (up0 _) _⟩
theorem ex4_b (op : Int) (m n : ByteArray) (t b : Int) (ks : Exs) (h0 : 0 ≤ b) (h1 : b < 18446744073709551616) (ho : op = 0) (hm : m.toList.isEmpty = true) (ht : t = 0) (hb : b ≠ 0) : ExprNo 1 (.mk 4 op m n t b ks) := by
  intro w v hv
  unfold Ex.Is at hv
  obtain ⟨A, l, c, rfl, g1⟩ := hv
  have hlen : l = ks.toList.length := g1.1
  clear g1
  subst ho
  obtain rfl := empty_of hm
  clear hm
  subst ht
  have fb : (b == 0) = false := beq_eq_false_iff_ne.mpr hb
  clear hb
  clear hlen
  go_enter Tryz.func42, Tryz.ntmps42
  go_wp2_with (first
    | (go_at_call 36; (with_reducible refine ((ask_ok _ _).mono ?_)); (rintro e w1 ⟨rfl, rfl⟩))
    | (go_at_call 36; (with_reducible refine ((ask_no 1 (by decide) _).mono ?_)); (rintro e w1 ⟨rfl, rfl⟩))
    | (go_at_call 91; (with_reducible refine ((fields4 _).mono ?_)); (rintro e w1 ⟨rfl, rfl⟩)))
  exact ⟨rfl, rfl, up (up0 _) _⟩
theorem ex5_op0 (op : Int) (m n : ByteArray) (t b : Int) (ks : Exs) (h0 : 0 ≤ b) (h1 : b < 18446744073709551616) (ho : op ≠ 0) : ExprNo 1 (.mk 5 op m n t b ks) := by
  intro w v hv
  unfold Ex.Is at hv
  obtain ⟨A, l, c, rfl, g1⟩ := hv
  have hlen : l = ks.toList.length := g1.1
  clear g1
  have fo : (op == 0) = false := beq_eq_false_iff_ne.mpr ho
  clear ho
  clear hlen
  go_enter Tryz.func42, Tryz.ntmps42
  go_wp2_with (first
    | (go_at_call 36; (with_reducible refine ((ask_ok _ _).mono ?_)); (rintro e w1 ⟨rfl, rfl⟩))
    | (go_at_call 36; (with_reducible refine ((ask_no 1 (by decide) _).mono ?_)); (rintro e w1 ⟨rfl, rfl⟩))
    | (go_at_call 91; (with_reducible refine ((fields5 _).mono ?_)); (rintro e w1 ⟨rfl, rfl⟩)))
  exact ⟨rfl, rfl, up (up0 _) _⟩
theorem ex5_t (op : Int) (m n : ByteArray) (t b : Int) (ks : Exs) (h0 : 0 ≤ b) (h1 : b < 18446744073709551616) (ho : op = 0) (ht : t ≠ 0) : ExprNo 1 (.mk 5 op m n t b ks) := by
  intro w v hv
  unfold Ex.Is at hv
  obtain ⟨A, l, c, rfl, g1⟩ := hv
  have hlen : l = ks.toList.length := g1.1
  clear g1
  subst ho
  have ft : (t == 0) = false := beq_eq_false_iff_ne.mpr ht
  clear ht
  clear hlen
  go_enter Tryz.func42, Tryz.ntmps42
  go_wp2_with (first
    | (go_at_call 36; (with_reducible refine ((ask_ok _ _).mono ?_)); (rintro e w1 ⟨rfl, rfl⟩))
    | (go_at_call 36; (with_reducible refine ((ask_no 1 (by decide) _).mono ?_)); (rintro e w1 ⟨rfl, rfl⟩))
    | (go_at_call 91; (with_reducible refine ((fields5 _).mono ?_)); (rintro e w1 ⟨rfl, rfl⟩)))
  exact ⟨rfl, rfl, up (up0 _) _⟩
theorem ex5_b (op : Int) (m n : ByteArray) (t b : Int) (ks : Exs) (h0 : 0 ≤ b) (h1 : b < 18446744073709551616) (ho : op = 0) (ht : t = 0) (hb : b ≠ 0) : ExprNo 1 (.mk 5 op m n t b ks) := by
  intro w v hv
  unfold Ex.Is at hv
  obtain ⟨A, l, c, rfl, g1⟩ := hv
  have hlen : l = ks.toList.length := g1.1
  clear g1
  subst ho
  subst ht
  have fb : (b == 0) = false := beq_eq_false_iff_ne.mpr hb
  clear hb
  clear hlen
  go_enter Tryz.func42, Tryz.ntmps42
  go_wp2_with (first
    | (go_at_call 36; (with_reducible refine ((ask_ok _ _).mono ?_)); (rintro e w1 ⟨rfl, rfl⟩))
    | (go_at_call 36; (with_reducible refine ((ask_no 1 (by decide) _).mono ?_)); (rintro e w1 ⟨rfl, rfl⟩))
    | (go_at_call 91; (with_reducible refine ((fields5 _).mono ?_)); (rintro e w1 ⟨rfl, rfl⟩)))
  exact ⟨rfl, rfl, up (up0 _) _⟩
theorem ex6_op1 (op : Int) (m n : ByteArray) (t b : Int) (ks : Exs) (h0 : 0 ≤ b) (h1 : b < 18446744073709551616) (ho1 : op < 1) : ExprNo 1 (.mk 6 op m n t b ks) := by
  intro w v hv
  unfold Ex.Is at hv
  obtain ⟨A, l, c, rfl, g1⟩ := hv
  have hlen : l = ks.toList.length := g1.1
  clear g1
  clear hlen
  go_enter Tryz.func42, Tryz.ntmps42
  go_wp2_with (first
    | (go_at_call 36; (with_reducible refine ((ask_ok _ _).mono ?_)); (rintro e w1 ⟨rfl, rfl⟩))
    | (go_at_call 36; (with_reducible refine ((ask_no 1 (by decide) _).mono ?_)); (rintro e w1 ⟨rfl, rfl⟩))
    | (go_at_call 91; (with_reducible refine ((fields6 _).mono ?_)); (rintro e w1 ⟨rfl, rfl⟩)))
  exact ⟨rfl, rfl, up (up0 _) _⟩
theorem ex6_opn (op : Int) (m n : ByteArray) (t b : Int) (ks : Exs) (h0 : 0 ≤ b) (h1 : b < 18446744073709551616) (ho1 : 1 ≤ op) (ho2 : 4 < op) : ExprNo 1 (.mk 6 op m n t b ks) := by
  intro w v hv
  unfold Ex.Is at hv
  obtain ⟨A, l, c, rfl, g1⟩ := hv
  have hlen : l = ks.toList.length := g1.1
  clear g1
  have fo : (op == 0) = false := beq_eq_false_iff_ne.mpr (by omega)
  have fo2 : decide (op ≤ 4) = false := decide_eq_false (by omega)
  clear hlen
  go_enter Tryz.func42, Tryz.ntmps42
  go_wp2_with (first
    | (go_at_call 36; (with_reducible refine ((ask_ok _ _).mono ?_)); (rintro e w1 ⟨rfl, rfl⟩))
    | (go_at_call 36; (with_reducible refine ((ask_no 1 (by decide) _).mono ?_)); (rintro e w1 ⟨rfl, rfl⟩))
    | (go_at_call 91; (with_reducible refine ((fields6 _).mono ?_)); (rintro e w1 ⟨rfl, rfl⟩)))
  exact ⟨rfl, rfl, up (up0 _) _⟩
theorem ex6_m (op : Int) (m n : ByteArray) (t b : Int) (ks : Exs) (h0 : 0 ≤ b) (h1 : b < 18446744073709551616) (ho1 : 1 ≤ op) (ho2 : op ≤ 4) (hm : m.toList.isEmpty = false) : ExprNo 1 (.mk 6 op m n t b ks) := by
  intro w v hv
  unfold Ex.Is at hv
  obtain ⟨A, l, c, rfl, g1⟩ := hv
  have hlen : l = ks.toList.length := g1.1
  clear g1
  have fo : (op == 0) = false := beq_eq_false_iff_ne.mpr (by omega)
  have fo2 : decide (op ≤ 4) = true := decide_eq_true ho2
  clear hlen
  go_enter Tryz.func42, Tryz.ntmps42
  go_wp2_with (first
    | (go_at_call 36; (with_reducible refine ((ask_ok _ _).mono ?_)); (rintro e w1 ⟨rfl, rfl⟩))
    | (go_at_call 36; (with_reducible refine ((ask_no 1 (by decide) _).mono ?_)); (rintro e w1 ⟨rfl, rfl⟩))
    | (go_at_call 91; (with_reducible refine ((fields6 _).mono ?_)); (rintro e w1 ⟨rfl, rfl⟩)))
  exact ⟨rfl, rfl, up (up0 _) _⟩
theorem ex6_n (op : Int) (m n : ByteArray) (t b : Int) (ks : Exs) (h0 : 0 ≤ b) (h1 : b < 18446744073709551616) (ho1 : 1 ≤ op) (ho2 : op ≤ 4) (hm : m.toList.isEmpty = true) (hn : n.toList.isEmpty = false) : ExprNo 1 (.mk 6 op m n t b ks) := by
  intro w v hv
  unfold Ex.Is at hv
  obtain ⟨A, l, c, rfl, g1⟩ := hv
  have hlen : l = ks.toList.length := g1.1
  clear g1
  have fo : (op == 0) = false := beq_eq_false_iff_ne.mpr (by omega)
  have fo2 : decide (op ≤ 4) = true := decide_eq_true ho2
  obtain rfl := empty_of hm
  clear hm
  clear hlen
  go_enter Tryz.func42, Tryz.ntmps42
  go_wp2_with (first
    | (go_at_call 36; (with_reducible refine ((ask_ok _ _).mono ?_)); (rintro e w1 ⟨rfl, rfl⟩))
    | (go_at_call 36; (with_reducible refine ((ask_no 1 (by decide) _).mono ?_)); (rintro e w1 ⟨rfl, rfl⟩))
    | (go_at_call 91; (with_reducible refine ((fields6 _).mono ?_)); (rintro e w1 ⟨rfl, rfl⟩)))
  exact ⟨rfl, rfl, up (up0 _) _⟩
theorem ex6_l (op : Int) (m n : ByteArray) (t b : Int) (ks : Exs) (h0 : 0 ≤ b) (h1 : b < 18446744073709551616) (ho1 : 1 ≤ op) (ho2 : op ≤ 4) (hm : m.toList.isEmpty = true) (hn : n.toList.isEmpty = true) (hl : ks.toList.length ≠ 1) : ExprNo 1 (.mk 6 op m n t b ks) := by
  intro w v hv
  unfold Ex.Is at hv
  obtain ⟨A, l, c, rfl, g1⟩ := hv
  have hlen : l = ks.toList.length := g1.1
  clear g1
  have fo : (op == 0) = false := beq_eq_false_iff_ne.mpr (by omega)
  have fo2 : decide (op ≤ 4) = true := decide_eq_true ho2
  obtain rfl := empty_of hm
  clear hm
  obtain rfl := empty_of hn
  clear hn
  have fl : ((l : Int) == 1) = false := beq_eq_false_iff_ne.mpr (by omega)
  clear hlen
  go_enter Tryz.func42, Tryz.ntmps42
  go_wp2_with (first
    | (go_at_call 36; (with_reducible refine ((ask_ok _ _).mono ?_)); (rintro e w1 ⟨rfl, rfl⟩))
    | (go_at_call 36; (with_reducible refine ((ask_no 1 (by decide) _).mono ?_)); (rintro e w1 ⟨rfl, rfl⟩))
    | (go_at_call 91; (with_reducible refine ((fields6 _).mono ?_)); (rintro e w1 ⟨rfl, rfl⟩)))
  exact ⟨rfl, rfl, up (up0 _) _⟩
theorem ex6_t (op : Int) (m n : ByteArray) (t b : Int) (ks : Exs) (h0 : 0 ≤ b) (h1 : b < 18446744073709551616) (ho1 : 1 ≤ op) (ho2 : op ≤ 4) (hm : m.toList.isEmpty = true) (hn : n.toList.isEmpty = true) (hl : ks.toList.length = 1) (ht : t ≠ 0) : ExprNo 1 (.mk 6 op m n t b ks) := by
  intro w v hv
  unfold Ex.Is at hv
  obtain ⟨A, l, c, rfl, g1⟩ := hv
  have hlen : l = ks.toList.length := g1.1
  clear g1
  have fo : (op == 0) = false := beq_eq_false_iff_ne.mpr (by omega)
  have fo2 : decide (op ≤ 4) = true := decide_eq_true ho2
  obtain rfl := empty_of hm
  clear hm
  obtain rfl := empty_of hn
  clear hn
  obtain rfl : l = 1 := hlen.trans hl
  have ft : (t == 0) = false := beq_eq_false_iff_ne.mpr ht
  clear ht
  clear hlen
  go_enter Tryz.func42, Tryz.ntmps42
  go_wp2_with (first
    | (go_at_call 36; (with_reducible refine ((ask_ok _ _).mono ?_)); (rintro e w1 ⟨rfl, rfl⟩))
    | (go_at_call 36; (with_reducible refine ((ask_no 1 (by decide) _).mono ?_)); (rintro e w1 ⟨rfl, rfl⟩))
    | (go_at_call 91; (with_reducible refine ((fields6 _).mono ?_)); (rintro e w1 ⟨rfl, rfl⟩)))
  exact ⟨rfl, rfl, up (up0 _) _⟩
theorem ex6_b (op : Int) (m n : ByteArray) (t b : Int) (ks : Exs) (h0 : 0 ≤ b) (h1 : b < 18446744073709551616) (ho1 : 1 ≤ op) (ho2 : op ≤ 4) (hm : m.toList.isEmpty = true) (hn : n.toList.isEmpty = true) (hl : ks.toList.length = 1) (ht : t = 0) (hb : b ≠ 0) : ExprNo 1 (.mk 6 op m n t b ks) := by
  intro w v hv
  unfold Ex.Is at hv
  obtain ⟨A, l, c, rfl, g1⟩ := hv
  have hlen : l = ks.toList.length := g1.1
  clear g1
  have fo : (op == 0) = false := beq_eq_false_iff_ne.mpr (by omega)
  have fo2 : decide (op ≤ 4) = true := decide_eq_true ho2
  obtain rfl := empty_of hm
  clear hm
  obtain rfl := empty_of hn
  clear hn
  obtain rfl : l = 1 := hlen.trans hl
  subst ht
  have fb : (b == 0) = false := beq_eq_false_iff_ne.mpr hb
  clear hb
  clear hlen
  go_enter Tryz.func42, Tryz.ntmps42
  go_wp2_with (first
    | (go_at_call 36; (with_reducible refine ((ask_ok _ _).mono ?_)); (rintro e w1 ⟨rfl, rfl⟩))
    | (go_at_call 36; (with_reducible refine ((ask_no 1 (by decide) _).mono ?_)); (rintro e w1 ⟨rfl, rfl⟩))
    | (go_at_call 91; (with_reducible refine ((fields6 _).mono ?_)); (rintro e w1 ⟨rfl, rfl⟩)))
  exact ⟨rfl, rfl, up (up0 _) _⟩
theorem ex7_op1 (op : Int) (m n : ByteArray) (t b : Int) (ks : Exs) (h0 : 0 ≤ b) (h1 : b < 18446744073709551616) (ho1 : op < 1) : ExprNo 1 (.mk 7 op m n t b ks) := by
  intro w v hv
  unfold Ex.Is at hv
  obtain ⟨A, l, c, rfl, g1⟩ := hv
  have hlen : l = ks.toList.length := g1.1
  clear g1
  clear hlen
  go_enter Tryz.func42, Tryz.ntmps42
  go_wp2_with (first
    | (go_at_call 36; (with_reducible refine ((ask_ok _ _).mono ?_)); (rintro e w1 ⟨rfl, rfl⟩))
    | (go_at_call 36; (with_reducible refine ((ask_no 1 (by decide) _).mono ?_)); (rintro e w1 ⟨rfl, rfl⟩))
    | (go_at_call 91; (with_reducible refine ((fields7 _).mono ?_)); (rintro e w1 ⟨rfl, rfl⟩)))
  exact ⟨rfl, rfl, up (up0 _) _⟩
theorem ex7_opn (op : Int) (m n : ByteArray) (t b : Int) (ks : Exs) (h0 : 0 ≤ b) (h1 : b < 18446744073709551616) (ho1 : 1 ≤ op) (ho2 : 13 < op) : ExprNo 1 (.mk 7 op m n t b ks) := by
  intro w v hv
  unfold Ex.Is at hv
  obtain ⟨A, l, c, rfl, g1⟩ := hv
  have hlen : l = ks.toList.length := g1.1
  clear g1
  have fo : (op == 0) = false := beq_eq_false_iff_ne.mpr (by omega)
  have fo2 : decide (op ≤ 13) = false := decide_eq_false (by omega)
  clear hlen
  go_enter Tryz.func42, Tryz.ntmps42
  go_wp2_with (first
    | (go_at_call 36; (with_reducible refine ((ask_ok _ _).mono ?_)); (rintro e w1 ⟨rfl, rfl⟩))
    | (go_at_call 36; (with_reducible refine ((ask_no 1 (by decide) _).mono ?_)); (rintro e w1 ⟨rfl, rfl⟩))
    | (go_at_call 91; (with_reducible refine ((fields7 _).mono ?_)); (rintro e w1 ⟨rfl, rfl⟩)))
  exact ⟨rfl, rfl, up (up0 _) _⟩
theorem ex7_m (op : Int) (m n : ByteArray) (t b : Int) (ks : Exs) (h0 : 0 ≤ b) (h1 : b < 18446744073709551616) (ho1 : 1 ≤ op) (ho2 : op ≤ 13) (hm : m.toList.isEmpty = false) : ExprNo 1 (.mk 7 op m n t b ks) := by
  intro w v hv
  unfold Ex.Is at hv
  obtain ⟨A, l, c, rfl, g1⟩ := hv
  have hlen : l = ks.toList.length := g1.1
  clear g1
  have fo : (op == 0) = false := beq_eq_false_iff_ne.mpr (by omega)
  have fo2 : decide (op ≤ 13) = true := decide_eq_true ho2
  clear hlen
  go_enter Tryz.func42, Tryz.ntmps42
  go_wp2_with (first
    | (go_at_call 36; (with_reducible refine ((ask_ok _ _).mono ?_)); (rintro e w1 ⟨rfl, rfl⟩))
    | (go_at_call 36; (with_reducible refine ((ask_no 1 (by decide) _).mono ?_)); (rintro e w1 ⟨rfl, rfl⟩))
    | (go_at_call 91; (with_reducible refine ((fields7 _).mono ?_)); (rintro e w1 ⟨rfl, rfl⟩)))
  exact ⟨rfl, rfl, up (up0 _) _⟩
theorem ex7_n (op : Int) (m n : ByteArray) (t b : Int) (ks : Exs) (h0 : 0 ≤ b) (h1 : b < 18446744073709551616) (ho1 : 1 ≤ op) (ho2 : op ≤ 13) (hm : m.toList.isEmpty = true) (hn : n.toList.isEmpty = false) : ExprNo 1 (.mk 7 op m n t b ks) := by
  intro w v hv
  unfold Ex.Is at hv
  obtain ⟨A, l, c, rfl, g1⟩ := hv
  have hlen : l = ks.toList.length := g1.1
  clear g1
  have fo : (op == 0) = false := beq_eq_false_iff_ne.mpr (by omega)
  have fo2 : decide (op ≤ 13) = true := decide_eq_true ho2
  obtain rfl := empty_of hm
  clear hm
  clear hlen
  go_enter Tryz.func42, Tryz.ntmps42
  go_wp2_with (first
    | (go_at_call 36; (with_reducible refine ((ask_ok _ _).mono ?_)); (rintro e w1 ⟨rfl, rfl⟩))
    | (go_at_call 36; (with_reducible refine ((ask_no 1 (by decide) _).mono ?_)); (rintro e w1 ⟨rfl, rfl⟩))
    | (go_at_call 91; (with_reducible refine ((fields7 _).mono ?_)); (rintro e w1 ⟨rfl, rfl⟩)))
  exact ⟨rfl, rfl, up (up0 _) _⟩
theorem ex7_l (op : Int) (m n : ByteArray) (t b : Int) (ks : Exs) (h0 : 0 ≤ b) (h1 : b < 18446744073709551616) (ho1 : 1 ≤ op) (ho2 : op ≤ 13) (hm : m.toList.isEmpty = true) (hn : n.toList.isEmpty = true) (hl : ks.toList.length ≠ 2) : ExprNo 1 (.mk 7 op m n t b ks) := by
  intro w v hv
  unfold Ex.Is at hv
  obtain ⟨A, l, c, rfl, g1⟩ := hv
  have hlen : l = ks.toList.length := g1.1
  clear g1
  have fo : (op == 0) = false := beq_eq_false_iff_ne.mpr (by omega)
  have fo2 : decide (op ≤ 13) = true := decide_eq_true ho2
  obtain rfl := empty_of hm
  clear hm
  obtain rfl := empty_of hn
  clear hn
  have fl : ((l : Int) == 2) = false := beq_eq_false_iff_ne.mpr (by omega)
  clear hlen
  go_enter Tryz.func42, Tryz.ntmps42
  go_wp2_with (first
    | (go_at_call 36; (with_reducible refine ((ask_ok _ _).mono ?_)); (rintro e w1 ⟨rfl, rfl⟩))
    | (go_at_call 36; (with_reducible refine ((ask_no 1 (by decide) _).mono ?_)); (rintro e w1 ⟨rfl, rfl⟩))
    | (go_at_call 91; (with_reducible refine ((fields7 _).mono ?_)); (rintro e w1 ⟨rfl, rfl⟩)))
  exact ⟨rfl, rfl, up (up0 _) _⟩
theorem ex7_t (op : Int) (m n : ByteArray) (t b : Int) (ks : Exs) (h0 : 0 ≤ b) (h1 : b < 18446744073709551616) (ho1 : 1 ≤ op) (ho2 : op ≤ 13) (hm : m.toList.isEmpty = true) (hn : n.toList.isEmpty = true) (hl : ks.toList.length = 2) (ht : t ≠ 0) : ExprNo 1 (.mk 7 op m n t b ks) := by
  intro w v hv
  unfold Ex.Is at hv
  obtain ⟨A, l, c, rfl, g1⟩ := hv
  have hlen : l = ks.toList.length := g1.1
  clear g1
  have fo : (op == 0) = false := beq_eq_false_iff_ne.mpr (by omega)
  have fo2 : decide (op ≤ 13) = true := decide_eq_true ho2
  obtain rfl := empty_of hm
  clear hm
  obtain rfl := empty_of hn
  clear hn
  obtain rfl : l = 2 := hlen.trans hl
  have ft : (t == 0) = false := beq_eq_false_iff_ne.mpr ht
  clear ht
  clear hlen
  go_enter Tryz.func42, Tryz.ntmps42
  go_wp2_with (first
    | (go_at_call 36; (with_reducible refine ((ask_ok _ _).mono ?_)); (rintro e w1 ⟨rfl, rfl⟩))
    | (go_at_call 36; (with_reducible refine ((ask_no 1 (by decide) _).mono ?_)); (rintro e w1 ⟨rfl, rfl⟩))
    | (go_at_call 91; (with_reducible refine ((fields7 _).mono ?_)); (rintro e w1 ⟨rfl, rfl⟩)))
  exact ⟨rfl, rfl, up (up0 _) _⟩
theorem ex7_b (op : Int) (m n : ByteArray) (t b : Int) (ks : Exs) (h0 : 0 ≤ b) (h1 : b < 18446744073709551616) (ho1 : 1 ≤ op) (ho2 : op ≤ 13) (hm : m.toList.isEmpty = true) (hn : n.toList.isEmpty = true) (hl : ks.toList.length = 2) (ht : t = 0) (hb : b ≠ 0) : ExprNo 1 (.mk 7 op m n t b ks) := by
  intro w v hv
  unfold Ex.Is at hv
  obtain ⟨A, l, c, rfl, g1⟩ := hv
  have hlen : l = ks.toList.length := g1.1
  clear g1
  have fo : (op == 0) = false := beq_eq_false_iff_ne.mpr (by omega)
  have fo2 : decide (op ≤ 13) = true := decide_eq_true ho2
  obtain rfl := empty_of hm
  clear hm
  obtain rfl := empty_of hn
  clear hn
  obtain rfl : l = 2 := hlen.trans hl
  subst ht
  have fb : (b == 0) = false := beq_eq_false_iff_ne.mpr hb
  clear hb
  clear hlen
  go_enter Tryz.func42, Tryz.ntmps42
  go_wp2_with (first
    | (go_at_call 36; (with_reducible refine ((ask_ok _ _).mono ?_)); (rintro e w1 ⟨rfl, rfl⟩))
    | (go_at_call 36; (with_reducible refine ((ask_no 1 (by decide) _).mono ?_)); (rintro e w1 ⟨rfl, rfl⟩))
    | (go_at_call 91; (with_reducible refine ((fields7 _).mono ?_)); (rintro e w1 ⟨rfl, rfl⟩)))
  exact ⟨rfl, rfl, up (up0 _) _⟩
theorem ex8_op0 (op : Int) (m n : ByteArray) (t b : Int) (ks : Exs) (h0 : 0 ≤ b) (h1 : b < 18446744073709551616) (ho : op ≠ 0) : ExprNo 1 (.mk 8 op m n t b ks) := by
  intro w v hv
  unfold Ex.Is at hv
  obtain ⟨A, l, c, rfl, g1⟩ := hv
  have hlen : l = ks.toList.length := g1.1
  clear g1
  have fo : (op == 0) = false := beq_eq_false_iff_ne.mpr ho
  clear ho
  clear hlen
  go_enter Tryz.func42, Tryz.ntmps42
  go_wp2_with (first
    | (go_at_call 36; (with_reducible refine ((ask_ok _ _).mono ?_)); (rintro e w1 ⟨rfl, rfl⟩))
    | (go_at_call 36; (with_reducible refine ((ask_no 1 (by decide) _).mono ?_)); (rintro e w1 ⟨rfl, rfl⟩))
    | (go_at_call 91; (with_reducible refine ((fields8 _).mono ?_)); (rintro e w1 ⟨rfl, rfl⟩)))
  exact ⟨rfl, rfl, up (up0 _) _⟩
theorem ex8_m (op : Int) (m n : ByteArray) (t b : Int) (ks : Exs) (h0 : 0 ≤ b) (h1 : b < 18446744073709551616) (ho : op = 0) (hm : m.toList.isEmpty = false) : ExprNo 1 (.mk 8 op m n t b ks) := by
  intro w v hv
  unfold Ex.Is at hv
  obtain ⟨A, l, c, rfl, g1⟩ := hv
  have hlen : l = ks.toList.length := g1.1
  clear g1
  subst ho
  clear hlen
  go_enter Tryz.func42, Tryz.ntmps42
  go_wp2_with (first
    | (go_at_call 36; (with_reducible refine ((ask_ok _ _).mono ?_)); (rintro e w1 ⟨rfl, rfl⟩))
    | (go_at_call 36; (with_reducible refine ((ask_no 1 (by decide) _).mono ?_)); (rintro e w1 ⟨rfl, rfl⟩))
    | (go_at_call 91; (with_reducible refine ((fields8 _).mono ?_)); (rintro e w1 ⟨rfl, rfl⟩)))
  exact ⟨rfl, rfl, up (up0 _) _⟩
theorem ex8_n (op : Int) (m n : ByteArray) (t b : Int) (ks : Exs) (h0 : 0 ≤ b) (h1 : b < 18446744073709551616) (ho : op = 0) (hm : m.toList.isEmpty = true) (hn : n.toList.isEmpty = false) : ExprNo 1 (.mk 8 op m n t b ks) := by
  intro w v hv
  unfold Ex.Is at hv
  obtain ⟨A, l, c, rfl, g1⟩ := hv
  have hlen : l = ks.toList.length := g1.1
  clear g1
  subst ho
  obtain rfl := empty_of hm
  clear hm
  clear hlen
  go_enter Tryz.func42, Tryz.ntmps42
  go_wp2_with (first
    | (go_at_call 36; (with_reducible refine ((ask_ok _ _).mono ?_)); (rintro e w1 ⟨rfl, rfl⟩))
    | (go_at_call 36; (with_reducible refine ((ask_no 1 (by decide) _).mono ?_)); (rintro e w1 ⟨rfl, rfl⟩))
    | (go_at_call 91; (with_reducible refine ((fields8 _).mono ?_)); (rintro e w1 ⟨rfl, rfl⟩)))
  exact ⟨rfl, rfl, up (up0 _) _⟩
theorem ex8_l (op : Int) (m n : ByteArray) (t b : Int) (ks : Exs) (h0 : 0 ≤ b) (h1 : b < 18446744073709551616) (ho : op = 0) (hm : m.toList.isEmpty = true) (hn : n.toList.isEmpty = true) (hl : ks.toList.length ≠ 0) : ExprNo 1 (.mk 8 op m n t b ks) := by
  intro w v hv
  unfold Ex.Is at hv
  obtain ⟨A, l, c, rfl, g1⟩ := hv
  have hlen : l = ks.toList.length := g1.1
  clear g1
  subst ho
  obtain rfl := empty_of hm
  clear hm
  obtain rfl := empty_of hn
  clear hn
  have fl : ((l : Int) == 0) = false := beq_eq_false_iff_ne.mpr (by omega)
  clear hlen
  go_enter Tryz.func42, Tryz.ntmps42
  go_wp2_with (first
    | (go_at_call 36; (with_reducible refine ((ask_ok _ _).mono ?_)); (rintro e w1 ⟨rfl, rfl⟩))
    | (go_at_call 36; (with_reducible refine ((ask_no 1 (by decide) _).mono ?_)); (rintro e w1 ⟨rfl, rfl⟩))
    | (go_at_call 91; (with_reducible refine ((fields8 _).mono ?_)); (rintro e w1 ⟨rfl, rfl⟩)))
  exact ⟨rfl, rfl, up (up0 _) _⟩
theorem ex8_t (op : Int) (m n : ByteArray) (t b : Int) (ks : Exs) (h0 : 0 ≤ b) (h1 : b < 18446744073709551616) (ho : op = 0) (hm : m.toList.isEmpty = true) (hn : n.toList.isEmpty = true) (hl : ks.toList.length = 0) (ht : t ≠ 0) : ExprNo 1 (.mk 8 op m n t b ks) := by
  intro w v hv
  unfold Ex.Is at hv
  obtain ⟨A, l, c, rfl, g1⟩ := hv
  have hlen : l = ks.toList.length := g1.1
  clear g1
  subst ho
  obtain rfl := empty_of hm
  clear hm
  obtain rfl := empty_of hn
  clear hn
  obtain rfl : l = 0 := hlen.trans hl
  have ft : (t == 0) = false := beq_eq_false_iff_ne.mpr ht
  clear ht
  clear hlen
  go_enter Tryz.func42, Tryz.ntmps42
  go_wp2_with (first
    | (go_at_call 36; (with_reducible refine ((ask_ok _ _).mono ?_)); (rintro e w1 ⟨rfl, rfl⟩))
    | (go_at_call 36; (with_reducible refine ((ask_no 1 (by decide) _).mono ?_)); (rintro e w1 ⟨rfl, rfl⟩))
    | (go_at_call 91; (with_reducible refine ((fields8 _).mono ?_)); (rintro e w1 ⟨rfl, rfl⟩)))
  exact ⟨rfl, rfl, up (up0 _) _⟩
theorem ex8_b (op : Int) (m n : ByteArray) (t b : Int) (ks : Exs) (h0 : 0 ≤ b) (h1 : b < 18446744073709551616) (ho : op = 0) (hm : m.toList.isEmpty = true) (hn : n.toList.isEmpty = true) (hl : ks.toList.length = 0) (ht : t = 0) (hb : b ≠ 0) : ExprNo 1 (.mk 8 op m n t b ks) := by
  intro w v hv
  unfold Ex.Is at hv
  obtain ⟨A, l, c, rfl, g1⟩ := hv
  have hlen : l = ks.toList.length := g1.1
  clear g1
  subst ho
  obtain rfl := empty_of hm
  clear hm
  obtain rfl := empty_of hn
  clear hn
  obtain rfl : l = 0 := hlen.trans hl
  subst ht
  have fb : (b == 0) = false := beq_eq_false_iff_ne.mpr hb
  clear hb
  clear hlen
  go_enter Tryz.func42, Tryz.ntmps42
  go_wp2_with (first
    | (go_at_call 36; (with_reducible refine ((ask_ok _ _).mono ?_)); (rintro e w1 ⟨rfl, rfl⟩))
    | (go_at_call 36; (with_reducible refine ((ask_no 1 (by decide) _).mono ?_)); (rintro e w1 ⟨rfl, rfl⟩))
    | (go_at_call 91; (with_reducible refine ((fields8 _).mono ?_)); (rintro e w1 ⟨rfl, rfl⟩)))
  exact ⟨rfl, rfl, up (up0 _) _⟩
theorem ex1_ok (op : Int) (m n : ByteArray) (t b : Int) (ks : Exs) (h0 : 0 ≤ b) (h1 : b < 18446744073709551616) (ho : op = 0) (hm : m.toList.isEmpty = true) (hn : n.toList.isEmpty = true) (hl : ks.toList.length = 0) (hb : litB t b = true) : ExprOk (.mk 1 op m n t b ks) := by
  intro w v hv
  unfold Ex.Is at hv
  obtain ⟨A, l, c, rfl, g1⟩ := hv
  have hlen : l = ks.toList.length := g1.1
  clear g1
  subst ho
  obtain rfl := empty_of hm
  clear hm
  obtain rfl := empty_of hn
  clear hn
  obtain rfl : l = 0 := hlen.trans hl
  have LB := Hd.mk hb
  clear hb
  clear hlen
  go_enter Tryz.func42, Tryz.ntmps42
  go_wp2_with (first
    | (go_at_call 36; (with_reducible refine ((ask_ok _ _).mono ?_)); (rintro e w1 ⟨rfl, rfl⟩))
    | (go_at_call 36; (with_reducible refine ((ask_no 3 (by decide) _).mono ?_)); (rintro e w1 ⟨rfl, rfl⟩))
    | (go_at_call 91; (with_reducible refine ((fields1 _).mono ?_)); (rintro e w1 ⟨rfl, rfl⟩))
    | (go_at_call 92; (with_reducible refine ((literal_any t b h0 h1 _).mono ?_)); (rw [LB.out]; rintro e w1 ⟨rfl, hb1⟩; have HB1 := Hd.mk hb1; have hc1 := bcell hb1; have hs1 := bsize1 rfl hb1; clear hb1))
    | (go_at_call 34; (with_reducible refine ((must_ok _).mono ?_)); (rintro e w1 ⟨rfl, rfl⟩)))
  refine wp_loop_rounds 1 ?_
  rw [rounds_succ]
  go_wp2_with fail
  go_end0
  exact ⟨rfl, step (up (up0 _) _) HB1.out⟩
theorem ex2_name (op : Int) (m n : ByteArray) (t b : Int) (ks : Exs) (h0 : 0 ≤ b) (h1 : b < 18446744073709551616) (ho : op = 0) (hm : m.toList.isEmpty = true) (hl : ks.toList.length = 0) (ht : t = 0) (hb : b = 0) (r : Int) (hr : r ≠ 0) (hnz : strOk n) (HN : Hd (nameErr n = r)) : ExprNo r (.mk 2 op m n t b ks) := by
  intro w v hv
  unfold Ex.Is at hv
  obtain ⟨A, l, c, rfl, g1⟩ := hv
  have hlen : l = ks.toList.length := g1.1
  clear g1
  subst ho
  obtain rfl := empty_of hm
  clear hm
  obtain rfl : l = 0 := hlen.trans hl
  subst ht
  subst hb
  clear hlen
  have R := Hd.mk hr
  clear hr
  go_enter Tryz.func42, Tryz.ntmps42
  go_wp2_with (first
    | (go_at_call 36; (with_reducible refine ((ask_ok _ _).mono ?_)); (rintro e w1 ⟨rfl, rfl⟩))
    | (go_at_call 36; (with_reducible refine ((ask_no 3 (by decide) _).mono ?_)); (rintro e w1 ⟨rfl, rfl⟩))
    | (go_at_call 91; (with_reducible refine ((fields2 _).mono ?_)); (rintro e w1 ⟨rfl, rfl⟩))
    | (go_at_call 35; (with_reducible refine ((nameRight n hnz _).mono ?_)); (rw [HN.out]; rintro e w3 ⟨rfl, hb3⟩; have HB3 := Hd.mk hb3; have hc3 := bcell hb3; have hs3 := bsize1 rfl hb3; clear hb3))
    | (go_at_call 34; (with_reducible refine ((must_ok _).mono ?_)); (rintro e w1 ⟨rfl, rfl⟩))
    | (go_at_call 34; (with_reducible refine ((must_b r R.out _).mono ?_)); (rintro e w1 ⟨rfl, rfl⟩)))
  exact ⟨rfl, rfl, step (up (up0 _) _) HB3.out⟩
theorem ex2_ok (op : Int) (m n : ByteArray) (t b : Int) (ks : Exs) (h0 : 0 ≤ b) (h1 : b < 18446744073709551616) (ho : op = 0) (hm : m.toList.isEmpty = true) (hl : ks.toList.length = 0) (ht : t = 0) (hb : b = 0) (hnz : strOk n) (HN : Hd (nameErr n = 0)) : ExprOk (.mk 2 op m n t b ks) := by
  intro w v hv
  unfold Ex.Is at hv
  obtain ⟨A, l, c, rfl, g1⟩ := hv
  have hlen : l = ks.toList.length := g1.1
  clear g1
  subst ho
  obtain rfl := empty_of hm
  clear hm
  obtain rfl : l = 0 := hlen.trans hl
  subst ht
  subst hb
  clear hlen
  go_enter Tryz.func42, Tryz.ntmps42
  go_wp2_with (first
    | (go_at_call 36; (with_reducible refine ((ask_ok _ _).mono ?_)); (rintro e w1 ⟨rfl, rfl⟩))
    | (go_at_call 36; (with_reducible refine ((ask_no 3 (by decide) _).mono ?_)); (rintro e w1 ⟨rfl, rfl⟩))
    | (go_at_call 91; (with_reducible refine ((fields2 _).mono ?_)); (rintro e w1 ⟨rfl, rfl⟩))
    | (go_at_call 35; (with_reducible refine ((nameRight n hnz _).mono ?_)); (rw [HN.out]; rintro e w3 ⟨rfl, hb3⟩; have HB3 := Hd.mk hb3; have hc3 := bcell hb3; have hs3 := bsize1 rfl hb3; clear hb3))
    | (go_at_call 34; (with_reducible refine ((must_ok _).mono ?_)); (rintro e w1 ⟨rfl, rfl⟩)))
  refine wp_loop_rounds 1 ?_
  rw [rounds_succ]
  go_wp2_with fail
  go_end0
  exact ⟨rfl, step (up (up0 _) _) HB3.out⟩
theorem ex3_mod (op : Int) (m n : ByteArray) (t b : Int) (ks : Exs) (h0 : 0 ≤ b) (h1 : b < 18446744073709551616) (ho : op = 0) (hl : ks.toList.length = 0) (ht : t = 0) (hb : b = 0) (r : Int) (hr : r ≠ 0) (hmz : strOk m) (HM : Hd (nameErr m = r)) : ExprNo r (.mk 3 op m n t b ks) := by
  intro w v hv
  unfold Ex.Is at hv
  obtain ⟨A, l, c, rfl, g1⟩ := hv
  have hlen : l = ks.toList.length := g1.1
  clear g1
  subst ho
  obtain rfl : l = 0 := hlen.trans hl
  subst ht
  subst hb
  clear hlen
  have R := Hd.mk hr
  clear hr
  go_enter Tryz.func42, Tryz.ntmps42
  go_wp2_with (first
    | (go_at_call 36; (with_reducible refine ((ask_ok _ _).mono ?_)); (rintro e w1 ⟨rfl, rfl⟩))
    | (go_at_call 36; (with_reducible refine ((ask_no 3 (by decide) _).mono ?_)); (rintro e w1 ⟨rfl, rfl⟩))
    | (go_at_call 91; (with_reducible refine ((fields3 _).mono ?_)); (rintro e w1 ⟨rfl, rfl⟩))
    | (go_at_call 35; (with_reducible refine ((nameRight m hmz _).mono ?_)); (rw [HM.out]; rintro e w2 ⟨rfl, hb2⟩; have HB2 := Hd.mk hb2; have hc2 := bcell hb2; have hs2 := bsize1 rfl hb2; clear hb2))
    | (go_at_call 34; (with_reducible refine ((must_ok _).mono ?_)); (rintro e w1 ⟨rfl, rfl⟩))
    | (go_at_call 34; (with_reducible refine ((must_b r R.out _).mono ?_)); (rintro e w1 ⟨rfl, rfl⟩)))
  exact ⟨rfl, rfl, step (up (up0 _) _) HB2.out⟩
theorem ex3_name (op : Int) (m n : ByteArray) (t b : Int) (ks : Exs) (h0 : 0 ≤ b) (h1 : b < 18446744073709551616) (ho : op = 0) (hl : ks.toList.length = 0) (ht : t = 0) (hb : b = 0) (r : Int) (hr : r ≠ 0) (hmz : strOk m) (HM : Hd (nameErr m = 0)) (hnz : strOk n) (HN : Hd (nameErr n = r)) : ExprNo r (.mk 3 op m n t b ks) := by
  intro w v hv
  unfold Ex.Is at hv
  obtain ⟨A, l, c, rfl, g1⟩ := hv
  have hlen : l = ks.toList.length := g1.1
  clear g1
  subst ho
  obtain rfl : l = 0 := hlen.trans hl
  subst ht
  subst hb
  clear hlen
  have R := Hd.mk hr
  clear hr
  go_enter Tryz.func42, Tryz.ntmps42
  go_wp2_with (first
    | (go_at_call 36; (with_reducible refine ((ask_ok _ _).mono ?_)); (rintro e w1 ⟨rfl, rfl⟩))
    | (go_at_call 36; (with_reducible refine ((ask_no 3 (by decide) _).mono ?_)); (rintro e w1 ⟨rfl, rfl⟩))
    | (go_at_call 91; (with_reducible refine ((fields3 _).mono ?_)); (rintro e w1 ⟨rfl, rfl⟩))
    | (go_at_call 35; (with_reducible refine ((nameRight m hmz _).mono ?_)); (rw [HM.out]; rintro e w2 ⟨rfl, hb2⟩; have HB2 := Hd.mk hb2; have hc2 := bcell hb2; have hs2 := bsize1 rfl hb2; clear hb2))
    | (go_at_call 35; (with_reducible refine ((nameRight n hnz _).mono ?_)); (rw [HN.out]; rintro e w3 ⟨rfl, hb3⟩; have HB3 := Hd.mk hb3; have hc3 := bcell hb3; have hs3 := (Nat.lt_of_lt_of_le hs2 hb3.size); clear hb3))
    | (go_at_call 34; (with_reducible refine ((must_ok _).mono ?_)); (rintro e w1 ⟨rfl, rfl⟩))
    | (go_at_call 34; (with_reducible refine ((must_b r R.out _).mono ?_)); (rintro e w1 ⟨rfl, rfl⟩)))
  exact ⟨rfl, rfl, step (step (up (up0 _) _) HB2.out) HB3.out⟩
theorem ex3_ok (op : Int) (m n : ByteArray) (t b : Int) (ks : Exs) (h0 : 0 ≤ b) (h1 : b < 18446744073709551616) (ho : op = 0) (hl : ks.toList.length = 0) (ht : t = 0) (hb : b = 0) (hmz : strOk m) (HM : Hd (nameErr m = 0)) (hnz : strOk n) (HN : Hd (nameErr n = 0)) : ExprOk (.mk 3 op m n t b ks) := by
  intro w v hv
  unfold Ex.Is at hv
  obtain ⟨A, l, c, rfl, g1⟩ := hv
  have hlen : l = ks.toList.length := g1.1
  clear g1
  subst ho
  obtain rfl : l = 0 := hlen.trans hl
  subst ht
  subst hb
  clear hlen
  go_enter Tryz.func42, Tryz.ntmps42
  go_wp2_with (first
    | (go_at_call 36; (with_reducible refine ((ask_ok _ _).mono ?_)); (rintro e w1 ⟨rfl, rfl⟩))
    | (go_at_call 36; (with_reducible refine ((ask_no 3 (by decide) _).mono ?_)); (rintro e w1 ⟨rfl, rfl⟩))
    | (go_at_call 91; (with_reducible refine ((fields3 _).mono ?_)); (rintro e w1 ⟨rfl, rfl⟩))
    | (go_at_call 35; (with_reducible refine ((nameRight m hmz _).mono ?_)); (rw [HM.out]; rintro e w2 ⟨rfl, hb2⟩; have HB2 := Hd.mk hb2; have hc2 := bcell hb2; have hs2 := bsize1 rfl hb2; clear hb2))
    | (go_at_call 35; (with_reducible refine ((nameRight n hnz _).mono ?_)); (rw [HN.out]; rintro e w3 ⟨rfl, hb3⟩; have HB3 := Hd.mk hb3; have hc3 := bcell hb3; have hs3 := (Nat.lt_of_lt_of_le hs2 hb3.size); clear hb3))
    | (go_at_call 34; (with_reducible refine ((must_ok _).mono ?_)); (rintro e w1 ⟨rfl, rfl⟩)))
  refine wp_loop_rounds 1 ?_
  rw [rounds_succ]
  go_wp2_with fail
  go_end0
  exact ⟨rfl, step (step (up (up0 _) _) HB2.out) HB3.out⟩
theorem ex4_name (op : Int) (m n : ByteArray) (t b : Int) (ks : Exs) (h0 : 0 ≤ b) (h1 : b < 18446744073709551616) (ho : op = 0) (hm : m.toList.isEmpty = true) (ht : t = 0) (hb : b = 0) (r : Int) (hr : r ≠ 0) (hnz : strOk n) (HN : Hd (nameErr n = r)) : ExprNo r (.mk 4 op m n t b ks) := by
  intro w v hv
  unfold Ex.Is at hv
  obtain ⟨A, l, c, rfl, g1⟩ := hv
  have hlen : l = ks.toList.length := g1.1
  clear g1
  subst ho
  obtain rfl := empty_of hm
  clear hm
  subst ht
  subst hb
  clear hlen
  have R := Hd.mk hr
  clear hr
  go_enter Tryz.func42, Tryz.ntmps42
  go_wp2_with (first
    | (go_at_call 36; (with_reducible refine ((ask_ok _ _).mono ?_)); (rintro e w1 ⟨rfl, rfl⟩))
    | (go_at_call 36; (with_reducible refine ((ask_no 3 (by decide) _).mono ?_)); (rintro e w1 ⟨rfl, rfl⟩))
    | (go_at_call 91; (with_reducible refine ((fields4 _).mono ?_)); (rintro e w1 ⟨rfl, rfl⟩))
    | (go_at_call 35; (with_reducible refine ((nameRight n hnz _).mono ?_)); (rw [HN.out]; rintro e w3 ⟨rfl, hb3⟩; have HB3 := Hd.mk hb3; have hc3 := bcell hb3; have hs3 := bsize1 rfl hb3; clear hb3))
    | (go_at_call 34; (with_reducible refine ((must_ok _).mono ?_)); (rintro e w1 ⟨rfl, rfl⟩))
    | (go_at_call 34; (with_reducible refine ((must_b r R.out _).mono ?_)); (rintro e w1 ⟨rfl, rfl⟩)))
  exact ⟨rfl, rfl, step (up (up0 _) _) HB3.out⟩
theorem ex4_big (op : Int) (m n : ByteArray) (t b : Int) (ks : Exs) (h0 : 0 ≤ b) (h1 : b < 18446744073709551616) (ho : op = 0) (hm : m.toList.isEmpty = true) (ht : t = 0) (hb : b = 0) (hnz : strOk n) (HN : Hd (nameErr n = 0)) (hbig : 8 < ks.toList.length) : ExprNo 3 (.mk 4 op m n t b ks) := by
  intro w v hv
  unfold Ex.Is at hv
  obtain ⟨A, l, c, rfl, g1⟩ := hv
  have hlen : l = ks.toList.length := g1.1
  clear g1
  subst ho
  obtain rfl := empty_of hm
  clear hm
  subst ht
  subst hb
  have h8 : decide ((l : Int) ≤ 8) = false := decide_eq_false (by omega)
  clear hlen
  go_enter Tryz.func42, Tryz.ntmps42
  go_wp2_with (first
    | (go_at_call 36; (with_reducible refine ((ask_ok _ _).mono ?_)); (rintro e w1 ⟨rfl, rfl⟩))
    | (go_at_call 36; (with_reducible refine ((ask_no 3 (by decide) _).mono ?_)); (rintro e w1 ⟨rfl, rfl⟩))
    | (go_at_call 91; (with_reducible refine ((fields4 _).mono ?_)); (rintro e w1 ⟨rfl, rfl⟩))
    | (go_at_call 35; (with_reducible refine ((nameRight n hnz _).mono ?_)); (rw [HN.out]; rintro e w3 ⟨rfl, hb3⟩; have HB3 := Hd.mk hb3; have hc3 := bcell hb3; have hs3 := bsize1 rfl hb3; clear hb3))
    | (go_at_call 34; (with_reducible refine ((must_ok _).mono ?_)); (rintro e w1 ⟨rfl, rfl⟩)))
  exact ⟨rfl, rfl, step (up (up0 _) _) HB3.out⟩
theorem ex5_mod (op : Int) (m n : ByteArray) (t b : Int) (ks : Exs) (h0 : 0 ≤ b) (h1 : b < 18446744073709551616) (ho : op = 0) (ht : t = 0) (hb : b = 0) (r : Int) (hr : r ≠ 0) (hmz : strOk m) (HM : Hd (nameErr m = r)) : ExprNo r (.mk 5 op m n t b ks) := by
  intro w v hv
  unfold Ex.Is at hv
  obtain ⟨A, l, c, rfl, g1⟩ := hv
  have hlen : l = ks.toList.length := g1.1
  clear g1
  subst ho
  subst ht
  subst hb
  clear hlen
  have R := Hd.mk hr
  clear hr
  go_enter Tryz.func42, Tryz.ntmps42
  go_wp2_with (first
    | (go_at_call 36; (with_reducible refine ((ask_ok _ _).mono ?_)); (rintro e w1 ⟨rfl, rfl⟩))
    | (go_at_call 36; (with_reducible refine ((ask_no 3 (by decide) _).mono ?_)); (rintro e w1 ⟨rfl, rfl⟩))
    | (go_at_call 91; (with_reducible refine ((fields5 _).mono ?_)); (rintro e w1 ⟨rfl, rfl⟩))
    | (go_at_call 35; (with_reducible refine ((nameRight m hmz _).mono ?_)); (rw [HM.out]; rintro e w2 ⟨rfl, hb2⟩; have HB2 := Hd.mk hb2; have hc2 := bcell hb2; have hs2 := bsize1 rfl hb2; clear hb2))
    | (go_at_call 34; (with_reducible refine ((must_ok _).mono ?_)); (rintro e w1 ⟨rfl, rfl⟩))
    | (go_at_call 34; (with_reducible refine ((must_b r R.out _).mono ?_)); (rintro e w1 ⟨rfl, rfl⟩)))
  exact ⟨rfl, rfl, step (up (up0 _) _) HB2.out⟩
theorem ex5_name (op : Int) (m n : ByteArray) (t b : Int) (ks : Exs) (h0 : 0 ≤ b) (h1 : b < 18446744073709551616) (ho : op = 0) (ht : t = 0) (hb : b = 0) (r : Int) (hr : r ≠ 0) (hmz : strOk m) (HM : Hd (nameErr m = 0)) (hnz : strOk n) (HN : Hd (nameErr n = r)) : ExprNo r (.mk 5 op m n t b ks) := by
  intro w v hv
  unfold Ex.Is at hv
  obtain ⟨A, l, c, rfl, g1⟩ := hv
  have hlen : l = ks.toList.length := g1.1
  clear g1
  subst ho
  subst ht
  subst hb
  clear hlen
  have R := Hd.mk hr
  clear hr
  go_enter Tryz.func42, Tryz.ntmps42
  go_wp2_with (first
    | (go_at_call 36; (with_reducible refine ((ask_ok _ _).mono ?_)); (rintro e w1 ⟨rfl, rfl⟩))
    | (go_at_call 36; (with_reducible refine ((ask_no 3 (by decide) _).mono ?_)); (rintro e w1 ⟨rfl, rfl⟩))
    | (go_at_call 91; (with_reducible refine ((fields5 _).mono ?_)); (rintro e w1 ⟨rfl, rfl⟩))
    | (go_at_call 35; (with_reducible refine ((nameRight m hmz _).mono ?_)); (rw [HM.out]; rintro e w2 ⟨rfl, hb2⟩; have HB2 := Hd.mk hb2; have hc2 := bcell hb2; have hs2 := bsize1 rfl hb2; clear hb2))
    | (go_at_call 35; (with_reducible refine ((nameRight n hnz _).mono ?_)); (rw [HN.out]; rintro e w3 ⟨rfl, hb3⟩; have HB3 := Hd.mk hb3; have hc3 := bcell hb3; have hs3 := (Nat.lt_of_lt_of_le hs2 hb3.size); clear hb3))
    | (go_at_call 34; (with_reducible refine ((must_ok _).mono ?_)); (rintro e w1 ⟨rfl, rfl⟩))
    | (go_at_call 34; (with_reducible refine ((must_b r R.out _).mono ?_)); (rintro e w1 ⟨rfl, rfl⟩)))
  exact ⟨rfl, rfl, step (step (up (up0 _) _) HB2.out) HB3.out⟩
theorem ex5_big (op : Int) (m n : ByteArray) (t b : Int) (ks : Exs) (h0 : 0 ≤ b) (h1 : b < 18446744073709551616) (ho : op = 0) (ht : t = 0) (hb : b = 0) (hmz : strOk m) (HM : Hd (nameErr m = 0)) (hnz : strOk n) (HN : Hd (nameErr n = 0)) (hbig : 8 < ks.toList.length) : ExprNo 3 (.mk 5 op m n t b ks) := by
  intro w v hv
  unfold Ex.Is at hv
  obtain ⟨A, l, c, rfl, g1⟩ := hv
  have hlen : l = ks.toList.length := g1.1
  clear g1
  subst ho
  subst ht
  subst hb
  have h8 : decide ((l : Int) ≤ 8) = false := decide_eq_false (by omega)
  clear hlen
  go_enter Tryz.func42, Tryz.ntmps42
  go_wp2_with (first
    | (go_at_call 36; (with_reducible refine ((ask_ok _ _).mono ?_)); (rintro e w1 ⟨rfl, rfl⟩))
    | (go_at_call 36; (with_reducible refine ((ask_no 3 (by decide) _).mono ?_)); (rintro e w1 ⟨rfl, rfl⟩))
    | (go_at_call 91; (with_reducible refine ((fields5 _).mono ?_)); (rintro e w1 ⟨rfl, rfl⟩))
    | (go_at_call 35; (with_reducible refine ((nameRight m hmz _).mono ?_)); (rw [HM.out]; rintro e w2 ⟨rfl, hb2⟩; have HB2 := Hd.mk hb2; have hc2 := bcell hb2; have hs2 := bsize1 rfl hb2; clear hb2))
    | (go_at_call 35; (with_reducible refine ((nameRight n hnz _).mono ?_)); (rw [HN.out]; rintro e w3 ⟨rfl, hb3⟩; have HB3 := Hd.mk hb3; have hc3 := bcell hb3; have hs3 := (Nat.lt_of_lt_of_le hs2 hb3.size); clear hb3))
    | (go_at_call 34; (with_reducible refine ((must_ok _).mono ?_)); (rintro e w1 ⟨rfl, rfl⟩)))
  exact ⟨rfl, rfl, step (step (up (up0 _) _) HB2.out) HB3.out⟩
theorem ex8_ok (op : Int) (m n : ByteArray) (t b : Int) (ks : Exs) (h0 : 0 ≤ b) (h1 : b < 18446744073709551616) (ho : op = 0) (hm : m.toList.isEmpty = true) (hn : n.toList.isEmpty = true) (hl : ks.toList.length = 0) (ht : t = 0) (hb : b = 0) : ExprOk (.mk 8 op m n t b ks) := by
  intro w v hv
  unfold Ex.Is at hv
  obtain ⟨A, l, c, rfl, g1⟩ := hv
  have hlen : l = ks.toList.length := g1.1
  clear g1
  subst ho
  obtain rfl := empty_of hm
  clear hm
  obtain rfl := empty_of hn
  clear hn
  obtain rfl : l = 0 := hlen.trans hl
  subst ht
  subst hb
  clear hlen
  go_enter Tryz.func42, Tryz.ntmps42
  go_wp2_with (first
    | (go_at_call 36; (with_reducible refine ((ask_ok _ _).mono ?_)); (rintro e w1 ⟨rfl, rfl⟩))
    | (go_at_call 36; (with_reducible refine ((ask_no 3 (by decide) _).mono ?_)); (rintro e w1 ⟨rfl, rfl⟩))
    | (go_at_call 91; (with_reducible refine ((fields8 _).mono ?_)); (rintro e w1 ⟨rfl, rfl⟩))
    | (go_at_call 34; (with_reducible refine ((must_ok _).mono ?_)); (rintro e w1 ⟨rfl, rfl⟩)))
  refine wp_loop_rounds 1 ?_
  rw [rounds_succ]
  go_wp2_with fail
  go_end0
  exact ⟨rfl, up (up0 _) _⟩
theorem ex4_loop (op : Int) (m n : ByteArray) (t b : Int) (ks : Exs) (h0 : 0 ≤ b) (h1 : b < 18446744073709551616) (ho : op = 0) (hm : m.toList.isEmpty = true) (ht : t = 0) (hb : b = 0) (hnz : strOk n) (HN : Hd (nameErr n = 0)) (hbig : ks.toList.length ≤ 8) (hK : ∀ x ∈ ks.toList, ExprIs x) : ∀ (w : World) (v : Value), (Ex.mk 4 op m n t b ks).Is w v → Calls Tryz.prog 42 #[v] w (Ends (errL ks) w) := by
  intro w v hv
  unfold Ex.Is at hv
  obtain ⟨A, l, c, rfl, g1⟩ := hv
  have hlen : l = ks.toList.length := g1.1
  subst ho
  obtain rfl := empty_of hm
  clear hm
  subst ht
  subst hb
  have hn8 : l ≤ 8 := by omega
  have h8 : decide ((l : Int) ≤ 8) = true := decide_eq_true (by omega)
  have HLEN := Hd.mk hlen
  have HK := Hd.mk hK
  have G := Hd.mk g1
  clear hlen hK g1 hbig
  rcases Nat.eq_zero_or_pos l with hz | hp
  · have hnil : ks = .nil := Exs.toList_inj (b := .nil) (by have := HLEN.out; rw [hz] at this; exact List.eq_nil_of_length_eq_zero this.symm)
    subst hz hnil
    clear hn8 h8
    go_enter Tryz.func42, Tryz.ntmps42
    go_wp2_with (first
    | (go_at_call 36; (with_reducible refine ((ask_ok _ _).mono ?_)); (rintro e w1 ⟨rfl, rfl⟩))
    | (go_at_call 36; (with_reducible refine ((ask_no 3 (by decide) _).mono ?_)); (rintro e w1 ⟨rfl, rfl⟩))
    | (go_at_call 91; (with_reducible refine ((fields4 _).mono ?_)); (rintro e w1 ⟨rfl, rfl⟩))
    | (go_at_call 35; (with_reducible refine ((nameRight n hnz _).mono ?_)); (rw [HN.out]; rintro e w3 ⟨rfl, hb3⟩; have HB3 := Hd.mk hb3; have hc3 := bcell hb3; have hs3 := bsize1 rfl hb3; clear hb3))
    | (go_at_call 34; (with_reducible refine ((must_ok _).mono ?_)); (rintro e w1 ⟨rfl, rfl⟩)))
    refine wp_loop_rounds 1 ?_
    rw [rounds_succ]
    go_wp2_with fail
    go_end0
    exact ends_ok rfl ⟨rfl, step (up (up0 _) _) HB3.out⟩
  obtain ⟨B, o, rfl, g2⟩ := G.out.at hp
  have G1 := Hd.mk g2
  clear g2
  go_enter Tryz.func42, Tryz.ntmps42
  go_wp2_with (first
    | (go_at_call 36; (with_reducible refine ((ask_ok _ _).mono ?_)); (rintro e w1 ⟨rfl, rfl⟩))
    | (go_at_call 36; (with_reducible refine ((ask_no 3 (by decide) _).mono ?_)); (rintro e w1 ⟨rfl, rfl⟩))
    | (go_at_call 91; (with_reducible refine ((fields4 _).mono ?_)); (rintro e w1 ⟨rfl, rfl⟩))
    | (go_at_call 35; (with_reducible refine ((nameRight n hnz _).mono ?_)); (rw [HN.out]; rintro e w3 ⟨rfl, hb3⟩; have HB3 := Hd.mk hb3; have hc3 := bcell hb3; have hs3 := bsize1 rfl hb3; clear hb3))
    | (go_at_call 34; (with_reducible refine ((must_ok _).mono ?_)); (rintro e w1 ⟨rfl, rfl⟩)))
  go_loopw [113] (fun i w' => ∃ (j : Nat) (r : Exs), j ≤ l ∧ i = .int .i64 j ∧ r.toList = ks.toList.drop j ∧ errL r = errL ks ∧ Below w.heap.size w w') (fun i _ => l - (intOf i).toNat)
  case atStart => exact ⟨0, ks, by omega, rfl, rfl, rfl, step (up (up0 _) _) HB3.out⟩
  case round =>
    obtain ⟨j, r, hj, rfl, hr, hd, hb⟩ := hrel
    have HR := Hd.mk hr
    have HD := Hd.mk hd
    have HB := Hd.mk hb
    clear hr hd hb
    by_cases hlt : j < l
    · cases r with
      | nil => exfalso; have := congrArg List.length HR.out; simp [Exs.toList] at this; have := HLEN.out; omega
      | cons e1 r =>
      have m1 : ks.toList[j]? = some e1 := by
        have := congrArg List.head? HR.out
        rw [List.head?_drop] at this
        exact this.symm
      have i1 := Ex.In_below HB.out e1 (G1.out j e1 m1)
      obtain ⟨v0, v1, v2, v3, v4, v5, v6, v7, v8, a0, a1, a2, a3, a4, a5, a6, ax⟩ := Ex.In_Is i1
      have M1 := Hd.mk m1
      have AX := Hd.mk ax
      clear m1 ax i1
      have lt1 : B < wr.heap.size := World.block_lt_of_cell? wr _ a0
      by_cases he : errE e1 = 0
      · have E := Hd.mk ((HK.out e1 (List.mem_of_getElem? M1.out)).ok he)
        go_wp2_with (go_at_call 42; (refine ((E.out _ _ (Ex.Is_below (up (up0 _) _) AX.out)).mono ?_)); (rintro e w5 ⟨rfl, hb5⟩; have HB5 := Hd.mk hb5; clear hb5))
        go_roundw
        case rel =>
          refine ⟨j + 1, r, by omega, by go_num, ?_, ?_, step (up HB.out _) HB5.out⟩
          · have := congrArg List.tail HR.out
            rw [List.tail_drop] at this
            exact this
          · rw [← HD.out, errL, seqI_0 he]
        case measure => simp [intOf]; omega
      · have E := Hd.mk ((HK.out e1 (List.mem_of_getElem? M1.out)).no rfl he)
        have hq : errE e1 = errL ks := by rw [← HD.out, errL, seqI_n he]
        have Q := Hd.mk hq
        clear hq
        go_wp2_with (go_at_call 42; (refine ((E.out _ _ (Ex.Is_below (up (up0 _) _) AX.out)).mono ?_)); (rintro e w5 ⟨rfl, hb5⟩; have HB5 := Hd.mk hb5; clear hb5))
        exact ⟨rfl, ends_no Q.out he ⟨rfl, step (up HB.out _) HB5.out⟩⟩
    · have hj2 : j = l := by omega
      subst hj2
      have hnil : r = .nil := Exs.toList_inj (b := .nil) (by have := HR.out; rw [List.drop_of_length_le (by rw [← HLEN.out]; omega)] at this; exact this)
      subst hnil
      go_wp2_with fail
      go_end0
      exact ends_ok (by rw [← HD.out, errL]) ⟨rfl, HB.out⟩
theorem ex5_loop (op : Int) (m n : ByteArray) (t b : Int) (ks : Exs) (h0 : 0 ≤ b) (h1 : b < 18446744073709551616) (ho : op = 0) (ht : t = 0) (hb : b = 0) (hmz : strOk m) (HM : Hd (nameErr m = 0)) (hnz : strOk n) (HN : Hd (nameErr n = 0)) (hbig : ks.toList.length ≤ 8) (hK : ∀ x ∈ ks.toList, ExprIs x) : ∀ (w : World) (v : Value), (Ex.mk 5 op m n t b ks).Is w v → Calls Tryz.prog 42 #[v] w (Ends (errL ks) w) := by
  intro w v hv
  unfold Ex.Is at hv
  obtain ⟨A, l, c, rfl, g1⟩ := hv
  have hlen : l = ks.toList.length := g1.1
  subst ho
  subst ht
  subst hb
  have hn8 : l ≤ 8 := by omega
  have h8 : decide ((l : Int) ≤ 8) = true := decide_eq_true (by omega)
  have HLEN := Hd.mk hlen
  have HK := Hd.mk hK
  have G := Hd.mk g1
  clear hlen hK g1 hbig
  rcases Nat.eq_zero_or_pos l with hz | hp
  · have hnil : ks = .nil := Exs.toList_inj (b := .nil) (by have := HLEN.out; rw [hz] at this; exact List.eq_nil_of_length_eq_zero this.symm)
    subst hz hnil
    clear hn8 h8
    go_enter Tryz.func42, Tryz.ntmps42
    go_wp2_with (first
    | (go_at_call 36; (with_reducible refine ((ask_ok _ _).mono ?_)); (rintro e w1 ⟨rfl, rfl⟩))
    | (go_at_call 36; (with_reducible refine ((ask_no 3 (by decide) _).mono ?_)); (rintro e w1 ⟨rfl, rfl⟩))
    | (go_at_call 91; (with_reducible refine ((fields5 _).mono ?_)); (rintro e w1 ⟨rfl, rfl⟩))
    | (go_at_call 35; (with_reducible refine ((nameRight m hmz _).mono ?_)); (rw [HM.out]; rintro e w2 ⟨rfl, hb2⟩; have HB2 := Hd.mk hb2; have hc2 := bcell hb2; have hs2 := bsize1 rfl hb2; clear hb2))
    | (go_at_call 35; (with_reducible refine ((nameRight n hnz _).mono ?_)); (rw [HN.out]; rintro e w3 ⟨rfl, hb3⟩; have HB3 := Hd.mk hb3; have hc3 := bcell hb3; have hs3 := (Nat.lt_of_lt_of_le hs2 hb3.size); clear hb3))
    | (go_at_call 34; (with_reducible refine ((must_ok _).mono ?_)); (rintro e w1 ⟨rfl, rfl⟩)))
    refine wp_loop_rounds 1 ?_
    rw [rounds_succ]
    go_wp2_with fail
    go_end0
    exact ends_ok rfl ⟨rfl, step (step (up (up0 _) _) HB2.out) HB3.out⟩
  obtain ⟨B, o, rfl, g2⟩ := G.out.at hp
  have G1 := Hd.mk g2
  clear g2
  go_enter Tryz.func42, Tryz.ntmps42
  go_wp2_with (first
    | (go_at_call 36; (with_reducible refine ((ask_ok _ _).mono ?_)); (rintro e w1 ⟨rfl, rfl⟩))
    | (go_at_call 36; (with_reducible refine ((ask_no 3 (by decide) _).mono ?_)); (rintro e w1 ⟨rfl, rfl⟩))
    | (go_at_call 91; (with_reducible refine ((fields5 _).mono ?_)); (rintro e w1 ⟨rfl, rfl⟩))
    | (go_at_call 35; (with_reducible refine ((nameRight m hmz _).mono ?_)); (rw [HM.out]; rintro e w2 ⟨rfl, hb2⟩; have HB2 := Hd.mk hb2; have hc2 := bcell hb2; have hs2 := bsize1 rfl hb2; clear hb2))
    | (go_at_call 35; (with_reducible refine ((nameRight n hnz _).mono ?_)); (rw [HN.out]; rintro e w3 ⟨rfl, hb3⟩; have HB3 := Hd.mk hb3; have hc3 := bcell hb3; have hs3 := (Nat.lt_of_lt_of_le hs2 hb3.size); clear hb3))
    | (go_at_call 34; (with_reducible refine ((must_ok _).mono ?_)); (rintro e w1 ⟨rfl, rfl⟩)))
  go_loopw [113] (fun i w' => ∃ (j : Nat) (r : Exs), j ≤ l ∧ i = .int .i64 j ∧ r.toList = ks.toList.drop j ∧ errL r = errL ks ∧ Below w.heap.size w w') (fun i _ => l - (intOf i).toNat)
  case atStart => exact ⟨0, ks, by omega, rfl, rfl, rfl, step (step (up (up0 _) _) HB2.out) HB3.out⟩
  case round =>
    obtain ⟨j, r, hj, rfl, hr, hd, hb⟩ := hrel
    have HR := Hd.mk hr
    have HD := Hd.mk hd
    have HB := Hd.mk hb
    clear hr hd hb
    by_cases hlt : j < l
    · cases r with
      | nil => exfalso; have := congrArg List.length HR.out; simp [Exs.toList] at this; have := HLEN.out; omega
      | cons e1 r =>
      have m1 : ks.toList[j]? = some e1 := by
        have := congrArg List.head? HR.out
        rw [List.head?_drop] at this
        exact this.symm
      have i1 := Ex.In_below HB.out e1 (G1.out j e1 m1)
      obtain ⟨v0, v1, v2, v3, v4, v5, v6, v7, v8, a0, a1, a2, a3, a4, a5, a6, ax⟩ := Ex.In_Is i1
      have M1 := Hd.mk m1
      have AX := Hd.mk ax
      clear m1 ax i1
      have lt1 : B < wr.heap.size := World.block_lt_of_cell? wr _ a0
      by_cases he : errE e1 = 0
      · have E := Hd.mk ((HK.out e1 (List.mem_of_getElem? M1.out)).ok he)
        go_wp2_with (go_at_call 42; (refine ((E.out _ _ (Ex.Is_below (up (up0 _) _) AX.out)).mono ?_)); (rintro e w5 ⟨rfl, hb5⟩; have HB5 := Hd.mk hb5; clear hb5))
        go_roundw
        case rel =>
          refine ⟨j + 1, r, by omega, by go_num, ?_, ?_, step (up HB.out _) HB5.out⟩
          · have := congrArg List.tail HR.out
            rw [List.tail_drop] at this
            exact this
          · rw [← HD.out, errL, seqI_0 he]
        case measure => simp [intOf]; omega
      · have E := Hd.mk ((HK.out e1 (List.mem_of_getElem? M1.out)).no rfl he)
        have hq : errE e1 = errL ks := by rw [← HD.out, errL, seqI_n he]
        have Q := Hd.mk hq
        clear hq
        go_wp2_with (go_at_call 42; (refine ((E.out _ _ (Ex.Is_below (up (up0 _) _) AX.out)).mono ?_)); (rintro e w5 ⟨rfl, hb5⟩; have HB5 := Hd.mk hb5; clear hb5))
        exact ⟨rfl, ends_no Q.out he ⟨rfl, step (up HB.out _) HB5.out⟩⟩
    · have hj2 : j = l := by omega
      subst hj2
      have hnil : r = .nil := Exs.toList_inj (b := .nil) (by have := HR.out; rw [List.drop_of_length_le (by rw [← HLEN.out]; omega)] at this; exact this)
      subst hnil
      go_wp2_with fail
      go_end0
      exact ends_ok (by rw [← HD.out, errL]) ⟨rfl, HB.out⟩
theorem ex6_loop (op : Int) (m n : ByteArray) (t b : Int) (ks : Exs) (h0 : 0 ≤ b) (h1 : b < 18446744073709551616) (ho1 : 1 ≤ op) (ho2 : op ≤ 4) (hm : m.toList.isEmpty = true) (hn : n.toList.isEmpty = true) (hl : ks.toList.length = 1) (ht : t = 0) (hb : b = 0) (hK : ∀ x ∈ ks.toList, ExprIs x) : ∀ (w : World) (v : Value), (Ex.mk 6 op m n t b ks).Is w v → Calls Tryz.prog 42 #[v] w (Ends (errL ks) w) := by
  intro w v hv
  unfold Ex.Is at hv
  obtain ⟨A, l, c, rfl, g1⟩ := hv
  have hlen : l = ks.toList.length := g1.1
  have fo : (op == 0) = false := beq_eq_false_iff_ne.mpr (by omega)
  have fo2 : decide (op ≤ 4) = true := decide_eq_true ho2
  obtain rfl := empty_of hm
  clear hm
  obtain rfl := empty_of hn
  clear hn
  obtain rfl : l = 1 := hlen.trans hl
  subst ht
  subst hb
  have HLEN := Hd.mk hlen
  have HK := Hd.mk hK
  obtain ⟨B, o, rfl, g2⟩ := g1.at (by decide)
  clear hlen hK g1
  have G1 := Hd.mk g2
  clear g2
  go_enter Tryz.func42, Tryz.ntmps42
  go_wp2_with (first
    | (go_at_call 36; (with_reducible refine ((ask_ok _ _).mono ?_)); (rintro e w1 ⟨rfl, rfl⟩))
    | (go_at_call 36; (with_reducible refine ((ask_no 3 (by decide) _).mono ?_)); (rintro e w1 ⟨rfl, rfl⟩))
    | (go_at_call 91; (with_reducible refine ((fields6 _).mono ?_)); (rintro e w1 ⟨rfl, rfl⟩))
    | (go_at_call 34; (with_reducible refine ((must_ok _).mono ?_)); (rintro e w1 ⟨rfl, rfl⟩)))
  go_loopw [113] (fun i w' => ∃ (j : Nat) (r : Exs), j ≤ 1 ∧ i = .int .i64 j ∧ r.toList = ks.toList.drop j ∧ errL r = errL ks ∧ Below w.heap.size w w') (fun i _ => 1 - (intOf i).toNat)
  case atStart => exact ⟨0, ks, by omega, rfl, rfl, rfl, up (up0 _) _⟩
  case round =>
    obtain ⟨j, r, hj, rfl, hr, hd, hb⟩ := hrel
    have HR := Hd.mk hr
    have HD := Hd.mk hd
    have HB := Hd.mk hb
    clear hr hd hb
    by_cases hlt : j < 1
    · cases r with
      | nil => exfalso; have := congrArg List.length HR.out; simp [Exs.toList] at this; have := HLEN.out; omega
      | cons e1 r =>
      have m1 : ks.toList[j]? = some e1 := by
        have := congrArg List.head? HR.out
        rw [List.head?_drop] at this
        exact this.symm
      have i1 := Ex.In_below HB.out e1 (G1.out j e1 m1)
      obtain ⟨v0, v1, v2, v3, v4, v5, v6, v7, v8, a0, a1, a2, a3, a4, a5, a6, ax⟩ := Ex.In_Is i1
      have M1 := Hd.mk m1
      have AX := Hd.mk ax
      clear m1 ax i1
      have lt1 : B < wr.heap.size := World.block_lt_of_cell? wr _ a0
      by_cases he : errE e1 = 0
      · have E := Hd.mk ((HK.out e1 (List.mem_of_getElem? M1.out)).ok he)
        go_wp2_with (go_at_call 42; (refine ((E.out _ _ (Ex.Is_below (up (up0 _) _) AX.out)).mono ?_)); (rintro e w5 ⟨rfl, hb5⟩; have HB5 := Hd.mk hb5; clear hb5))
        go_roundw
        case rel =>
          refine ⟨j + 1, r, by omega, by go_num, ?_, ?_, step (up HB.out _) HB5.out⟩
          · have := congrArg List.tail HR.out
            rw [List.tail_drop] at this
            exact this
          · rw [← HD.out, errL, seqI_0 he]
        case measure => simp [intOf]; omega
      · have E := Hd.mk ((HK.out e1 (List.mem_of_getElem? M1.out)).no rfl he)
        have hq : errE e1 = errL ks := by rw [← HD.out, errL, seqI_n he]
        have Q := Hd.mk hq
        clear hq
        go_wp2_with (go_at_call 42; (refine ((E.out _ _ (Ex.Is_below (up (up0 _) _) AX.out)).mono ?_)); (rintro e w5 ⟨rfl, hb5⟩; have HB5 := Hd.mk hb5; clear hb5))
        exact ⟨rfl, ends_no Q.out he ⟨rfl, step (up HB.out _) HB5.out⟩⟩
    · have hj2 : j = 1 := by omega
      subst hj2
      have hnil : r = .nil := Exs.toList_inj (b := .nil) (by have := HR.out; rw [List.drop_of_length_le (by rw [← HLEN.out]; omega)] at this; exact this)
      subst hnil
      go_wp2_with fail
      go_end0
      exact ends_ok (by rw [← HD.out, errL]) ⟨rfl, HB.out⟩
theorem ex7_loop (op : Int) (m n : ByteArray) (t b : Int) (ks : Exs) (h0 : 0 ≤ b) (h1 : b < 18446744073709551616) (ho1 : 1 ≤ op) (ho2 : op ≤ 13) (hm : m.toList.isEmpty = true) (hn : n.toList.isEmpty = true) (hl : ks.toList.length = 2) (ht : t = 0) (hb : b = 0) (hK : ∀ x ∈ ks.toList, ExprIs x) : ∀ (w : World) (v : Value), (Ex.mk 7 op m n t b ks).Is w v → Calls Tryz.prog 42 #[v] w (Ends (errL ks) w) := by
  intro w v hv
  unfold Ex.Is at hv
  obtain ⟨A, l, c, rfl, g1⟩ := hv
  have hlen : l = ks.toList.length := g1.1
  have fo : (op == 0) = false := beq_eq_false_iff_ne.mpr (by omega)
  have fo2 : decide (op ≤ 13) = true := decide_eq_true ho2
  obtain rfl := empty_of hm
  clear hm
  obtain rfl := empty_of hn
  clear hn
  obtain rfl : l = 2 := hlen.trans hl
  subst ht
  subst hb
  have HLEN := Hd.mk hlen
  have HK := Hd.mk hK
  obtain ⟨B, o, rfl, g2⟩ := g1.at (by decide)
  clear hlen hK g1
  have G1 := Hd.mk g2
  clear g2
  go_enter Tryz.func42, Tryz.ntmps42
  go_wp2_with (first
    | (go_at_call 36; (with_reducible refine ((ask_ok _ _).mono ?_)); (rintro e w1 ⟨rfl, rfl⟩))
    | (go_at_call 36; (with_reducible refine ((ask_no 3 (by decide) _).mono ?_)); (rintro e w1 ⟨rfl, rfl⟩))
    | (go_at_call 91; (with_reducible refine ((fields7 _).mono ?_)); (rintro e w1 ⟨rfl, rfl⟩))
    | (go_at_call 34; (with_reducible refine ((must_ok _).mono ?_)); (rintro e w1 ⟨rfl, rfl⟩)))
  go_loopw [113] (fun i w' => ∃ (j : Nat) (r : Exs), j ≤ 2 ∧ i = .int .i64 j ∧ r.toList = ks.toList.drop j ∧ errL r = errL ks ∧ Below w.heap.size w w') (fun i _ => 2 - (intOf i).toNat)
  case atStart => exact ⟨0, ks, by omega, rfl, rfl, rfl, up (up0 _) _⟩
  case round =>
    obtain ⟨j, r, hj, rfl, hr, hd, hb⟩ := hrel
    have HR := Hd.mk hr
    have HD := Hd.mk hd
    have HB := Hd.mk hb
    clear hr hd hb
    by_cases hlt : j < 2
    · cases r with
      | nil => exfalso; have := congrArg List.length HR.out; simp [Exs.toList] at this; have := HLEN.out; omega
      | cons e1 r =>
      have m1 : ks.toList[j]? = some e1 := by
        have := congrArg List.head? HR.out
        rw [List.head?_drop] at this
        exact this.symm
      have i1 := Ex.In_below HB.out e1 (G1.out j e1 m1)
      obtain ⟨v0, v1, v2, v3, v4, v5, v6, v7, v8, a0, a1, a2, a3, a4, a5, a6, ax⟩ := Ex.In_Is i1
      have M1 := Hd.mk m1
      have AX := Hd.mk ax
      clear m1 ax i1
      have lt1 : B < wr.heap.size := World.block_lt_of_cell? wr _ a0
      by_cases he : errE e1 = 0
      · have E := Hd.mk ((HK.out e1 (List.mem_of_getElem? M1.out)).ok he)
        go_wp2_with (go_at_call 42; (refine ((E.out _ _ (Ex.Is_below (up (up0 _) _) AX.out)).mono ?_)); (rintro e w5 ⟨rfl, hb5⟩; have HB5 := Hd.mk hb5; clear hb5))
        go_roundw
        case rel =>
          refine ⟨j + 1, r, by omega, by go_num, ?_, ?_, step (up HB.out _) HB5.out⟩
          · have := congrArg List.tail HR.out
            rw [List.tail_drop] at this
            exact this
          · rw [← HD.out, errL, seqI_0 he]
        case measure => simp [intOf]; omega
      · have E := Hd.mk ((HK.out e1 (List.mem_of_getElem? M1.out)).no rfl he)
        have hq : errE e1 = errL ks := by rw [← HD.out, errL, seqI_n he]
        have Q := Hd.mk hq
        clear hq
        go_wp2_with (go_at_call 42; (refine ((E.out _ _ (Ex.Is_below (up (up0 _) _) AX.out)).mono ?_)); (rintro e w5 ⟨rfl, hb5⟩; have HB5 := Hd.mk hb5; clear hb5))
        exact ⟨rfl, ends_no Q.out he ⟨rfl, step (up HB.out _) HB5.out⟩⟩
    · have hj2 : j = 2 := by omega
      subst hj2
      have hnil : r = .nil := Exs.toList_inj (b := .nil) (by have := HR.out; rw [List.drop_of_length_le (by rw [← HLEN.out]; omega)] at this; exact this)
      subst hnil
      go_wp2_with fail
      go_end0
      exact ends_ok (by rw [← HD.out, errL]) ⟨rfl, HB.out⟩
end Go.Proofs.YtbhgpegcdiohlaaGreatDoor.Tr
