import Derived.Test.YtbhgpegcdiohlaaGreatDoorRrH
namespace Go.Proofs.YtbhgpegcdiohlaaGreatDoor.Tr
open Go Go.RowKit Go.Proofs
set_option linter.unusedVariables false
set_option maxRecDepth 100000
set_option maxHeartbeats 4000000
theorem st1_b (n : ByteArray) (A1 : Option Addr) (A2 A3 : Option Addr) (l1 l2 l3 c1 c2 c3 : Nat) (w : World) (h_b : l2 ≠ 0) : Calls Tryz.prog 125 #[.agg #[.int .i64 1, .string n, .slice A1 l1 c1, .slice A2 l2 c2, .slice A3 l3 c3]] w (Says false w) := by
  have gb : 0 < l2 := by omega
  clear h_b
  all_goals
    go_enter Tryz.func125, Tryz.ntmps125
    go_wp2_with fail
    go_ret
    exact ⟨rfl, up (up0 _) _⟩
theorem st1_e (n : ByteArray) (A1 : Option Addr) (A2 A3 : Option Addr) (l1 l2 l3 c1 c2 c3 : Nat) (w : World) (h_b : l2 = 0) (h_e : l3 ≠ 0) : Calls Tryz.prog 125 #[.agg #[.int .i64 1, .string n, .slice A1 l1 c1, .slice A2 l2 c2, .slice A3 l3 c3]] w (Says false w) := by
  subst h_b
  have ge : 0 < l3 := by omega
  clear h_e
  all_goals
    go_enter Tryz.func125, Tryz.ntmps125
    go_wp2_with fail
    go_ret
    exact ⟨rfl, up (up0 _) _⟩
theorem st1_l1 (n : ByteArray) (A1 : Option Addr) (A2 A3 : Option Addr) (l1 l2 l3 c1 c2 c3 : Nat) (w : World) (h_b : l2 = 0) (h_e : l3 = 0) (h_l1 : l1 ≠ 1) : Calls Tryz.prog 125 #[.agg #[.int .i64 1, .string n, .slice A1 l1 c1, .slice A2 l2 c2, .slice A3 l3 c3]] w (Says false w) := by
  subst h_b
  subst h_e
  have fl : ((l1 : Int) == 1) = false := beq_eq_false_iff_ne.mpr (by omega)
  clear h_l1
  all_goals
    go_enter Tryz.func125, Tryz.ntmps125
    go_wp2_with fail
    go_ret
    exact ⟨rfl, up (up0 _) _⟩
theorem st1_ok (n : ByteArray) (A1 : Option Addr) (A2 A3 : Option Addr) (l1 l2 l3 c1 c2 c3 : Nat) (w : World) (h_b : l2 = 0) (h_e : l3 = 0) (h_l1 : l1 = 1) : Calls Tryz.prog 125 #[.agg #[.int .i64 1, .string n, .slice A1 l1 c1, .slice A2 l2 c2, .slice A3 l3 c3]] w (Says true w) := by
  subst h_b
  subst h_e
  subst h_l1
  all_goals
    go_enter Tryz.func125, Tryz.ntmps125
    go_wp2_with fail
    go_ret
    exact ⟨rfl, up (up0 _) _⟩
theorem st2_b (n : ByteArray) (A1 : Option Addr) (A2 A3 : Option Addr) (l1 l2 l3 c1 c2 c3 : Nat) (w : World) (h_b : l2 ≠ 0) : Calls Tryz.prog 125 #[.agg #[.int .i64 2, .string n, .slice A1 l1 c1, .slice A2 l2 c2, .slice A3 l3 c3]] w (Says false w) := by
  have gb : 0 < l2 := by omega
  clear h_b
  all_goals
    go_enter Tryz.func125, Tryz.ntmps125
    go_wp2_with fail
    go_ret
    exact ⟨rfl, up (up0 _) _⟩
theorem st2_e (n : ByteArray) (A1 : Option Addr) (A2 A3 : Option Addr) (l1 l2 l3 c1 c2 c3 : Nat) (w : World) (h_b : l2 = 0) (h_e : l3 ≠ 0) : Calls Tryz.prog 125 #[.agg #[.int .i64 2, .string n, .slice A1 l1 c1, .slice A2 l2 c2, .slice A3 l3 c3]] w (Says false w) := by
  subst h_b
  have ge : 0 < l3 := by omega
  clear h_e
  all_goals
    go_enter Tryz.func125, Tryz.ntmps125
    go_wp2_with fail
    go_ret
    exact ⟨rfl, up (up0 _) _⟩
theorem st2_l1 (n : ByteArray) (A1 : Option Addr) (A2 A3 : Option Addr) (l1 l2 l3 c1 c2 c3 : Nat) (w : World) (h_b : l2 = 0) (h_e : l3 = 0) (h_l1 : l1 ≠ 1) : Calls Tryz.prog 125 #[.agg #[.int .i64 2, .string n, .slice A1 l1 c1, .slice A2 l2 c2, .slice A3 l3 c3]] w (Says false w) := by
  subst h_b
  subst h_e
  have fl : ((l1 : Int) == 1) = false := beq_eq_false_iff_ne.mpr (by omega)
  clear h_l1
  all_goals
    go_enter Tryz.func125, Tryz.ntmps125
    go_wp2_with fail
    go_ret
    exact ⟨rfl, up (up0 _) _⟩
theorem st2_ok (n : ByteArray) (A1 : Option Addr) (A2 A3 : Option Addr) (l1 l2 l3 c1 c2 c3 : Nat) (w : World) (h_b : l2 = 0) (h_e : l3 = 0) (h_l1 : l1 = 1) : Calls Tryz.prog 125 #[.agg #[.int .i64 2, .string n, .slice A1 l1 c1, .slice A2 l2 c2, .slice A3 l3 c3]] w (Says true w) := by
  subst h_b
  subst h_e
  subst h_l1
  all_goals
    go_enter Tryz.func125, Tryz.ntmps125
    go_wp2_with fail
    go_ret
    exact ⟨rfl, up (up0 _) _⟩
theorem st3_n (n : ByteArray) (A1 : Option Addr) (A2 A3 : Option Addr) (l1 l2 l3 c1 c2 c3 : Nat) (w : World) (h_n : n.toList.isEmpty = false) : Calls Tryz.prog 125 #[.agg #[.int .i64 3, .string n, .slice A1 l1 c1, .slice A2 l2 c2, .slice A3 l3 c3]] w (Says false w) := by
  all_goals
    go_enter Tryz.func125, Tryz.ntmps125
    go_wp2_with fail
    go_ret
    exact ⟨rfl, up (up0 _) _⟩
theorem st3_l1 (n : ByteArray) (A1 : Option Addr) (A2 A3 : Option Addr) (l1 l2 l3 c1 c2 c3 : Nat) (w : World) (h_n : n.toList.isEmpty = true) (h_l1 : l1 ≠ 1) : Calls Tryz.prog 125 #[.agg #[.int .i64 3, .string n, .slice A1 l1 c1, .slice A2 l2 c2, .slice A3 l3 c3]] w (Says false w) := by
  obtain rfl := empty_of' h_n
  clear h_n
  have fl : ((l1 : Int) == 1) = false := beq_eq_false_iff_ne.mpr (by omega)
  clear h_l1
  all_goals
    go_enter Tryz.func125, Tryz.ntmps125
    go_wp2_with fail
    go_ret
    exact ⟨rfl, up (up0 _) _⟩
theorem st3_ok (n : ByteArray) (A1 : Option Addr) (A2 A3 : Option Addr) (l1 l2 l3 c1 c2 c3 : Nat) (w : World) (h_n : n.toList.isEmpty = true) (h_l1 : l1 = 1) : Calls Tryz.prog 125 #[.agg #[.int .i64 3, .string n, .slice A1 l1 c1, .slice A2 l2 c2, .slice A3 l3 c3]] w (Says true w) := by
  obtain rfl := empty_of' h_n
  clear h_n
  subst h_l1
  all_goals
    go_enter Tryz.func125, Tryz.ntmps125
    go_wp2_with fail
    go_ret
    exact ⟨rfl, up (up0 _) _⟩
theorem st4_n (n : ByteArray) (A1 : Option Addr) (A2 A3 : Option Addr) (l1 l2 l3 c1 c2 c3 : Nat) (w : World) (h_n : n.toList.isEmpty = false) : Calls Tryz.prog 125 #[.agg #[.int .i64 4, .string n, .slice A1 l1 c1, .slice A2 l2 c2, .slice A3 l3 c3]] w (Says false w) := by
  all_goals
    go_enter Tryz.func125, Tryz.ntmps125
    go_wp2_with fail
    go_ret
    exact ⟨rfl, up (up0 _) _⟩
theorem st4_e (n : ByteArray) (A1 : Option Addr) (A2 A3 : Option Addr) (l1 l2 l3 c1 c2 c3 : Nat) (w : World) (h_n : n.toList.isEmpty = true) (h_e : l3 ≠ 0) : Calls Tryz.prog 125 #[.agg #[.int .i64 4, .string n, .slice A1 l1 c1, .slice A2 l2 c2, .slice A3 l3 c3]] w (Says false w) := by
  obtain rfl := empty_of' h_n
  clear h_n
  have ge : 0 < l3 := by omega
  clear h_e
  all_goals
    go_enter Tryz.func125, Tryz.ntmps125
    go_wp2_with fail
    go_ret
    exact ⟨rfl, up (up0 _) _⟩
theorem st4_l1 (n : ByteArray) (A1 : Option Addr) (A2 A3 : Option Addr) (l1 l2 l3 c1 c2 c3 : Nat) (w : World) (h_n : n.toList.isEmpty = true) (h_e : l3 = 0) (h_l1 : l1 ≠ 1) : Calls Tryz.prog 125 #[.agg #[.int .i64 4, .string n, .slice A1 l1 c1, .slice A2 l2 c2, .slice A3 l3 c3]] w (Says false w) := by
  obtain rfl := empty_of' h_n
  clear h_n
  subst h_e
  have fl : ((l1 : Int) == 1) = false := beq_eq_false_iff_ne.mpr (by omega)
  clear h_l1
  all_goals
    go_enter Tryz.func125, Tryz.ntmps125
    go_wp2_with fail
    go_ret
    exact ⟨rfl, up (up0 _) _⟩
theorem st4_ok (n : ByteArray) (A1 : Option Addr) (A2 A3 : Option Addr) (l1 l2 l3 c1 c2 c3 : Nat) (w : World) (h_n : n.toList.isEmpty = true) (h_e : l3 = 0) (h_l1 : l1 = 1) : Calls Tryz.prog 125 #[.agg #[.int .i64 4, .string n, .slice A1 l1 c1, .slice A2 l2 c2, .slice A3 l3 c3]] w (Says true w) := by
  obtain rfl := empty_of' h_n
  clear h_n
  subst h_e
  subst h_l1
  all_goals
    go_enter Tryz.func125, Tryz.ntmps125
    go_wp2_with fail
    go_ret
    exact ⟨rfl, up (up0 _) _⟩
theorem st5_n (n : ByteArray) (A1 : Option Addr) (A2 A3 : Option Addr) (l1 l2 l3 c1 c2 c3 : Nat) (w : World) (h_n : n.toList.isEmpty = false) : Calls Tryz.prog 125 #[.agg #[.int .i64 5, .string n, .slice A1 l1 c1, .slice A2 l2 c2, .slice A3 l3 c3]] w (Says false w) := by
  all_goals
    go_enter Tryz.func125, Tryz.ntmps125
    go_wp2_with fail
    go_ret
    exact ⟨rfl, up (up0 _) _⟩
theorem st5_b (n : ByteArray) (A1 : Option Addr) (A2 A3 : Option Addr) (l1 l2 l3 c1 c2 c3 : Nat) (w : World) (h_n : n.toList.isEmpty = true) (h_b : l2 ≠ 0) : Calls Tryz.prog 125 #[.agg #[.int .i64 5, .string n, .slice A1 l1 c1, .slice A2 l2 c2, .slice A3 l3 c3]] w (Says false w) := by
  obtain rfl := empty_of' h_n
  clear h_n
  have gb : 0 < l2 := by omega
  clear h_b
  all_goals
    go_enter Tryz.func125, Tryz.ntmps125
    go_wp2_with fail
    go_ret
    exact ⟨rfl, up (up0 _) _⟩
theorem st5_e (n : ByteArray) (A1 : Option Addr) (A2 A3 : Option Addr) (l1 l2 l3 c1 c2 c3 : Nat) (w : World) (h_n : n.toList.isEmpty = true) (h_b : l2 = 0) (h_e : l3 ≠ 0) : Calls Tryz.prog 125 #[.agg #[.int .i64 5, .string n, .slice A1 l1 c1, .slice A2 l2 c2, .slice A3 l3 c3]] w (Says false w) := by
  obtain rfl := empty_of' h_n
  clear h_n
  subst h_b
  have ge : 0 < l3 := by omega
  clear h_e
  all_goals
    go_enter Tryz.func125, Tryz.ntmps125
    go_wp2_with fail
    go_ret
    exact ⟨rfl, up (up0 _) _⟩
theorem st5_l5 (n : ByteArray) (A1 : Option Addr) (A2 A3 : Option Addr) (l1 l2 l3 c1 c2 c3 : Nat) (w : World) (h_n : n.toList.isEmpty = true) (h_b : l2 = 0) (h_e : l3 = 0) (h_l5 : 1 < l1) : Calls Tryz.prog 125 #[.agg #[.int .i64 5, .string n, .slice A1 l1 c1, .slice A2 l2 c2, .slice A3 l3 c3]] w (Says false w) := by
  obtain rfl := empty_of' h_n
  clear h_n
  subst h_b
  subst h_e
  have fl : decide ((l1 : Int) ≤ 1) = false := decide_eq_false (by omega)
  all_goals
    go_enter Tryz.func125, Tryz.ntmps125
    go_wp2_with fail
    go_ret
    exact ⟨rfl, up (up0 _) _⟩
theorem st5_ok (n : ByteArray) (A1 : Option Addr) (A2 A3 : Option Addr) (l1 l2 l3 c1 c2 c3 : Nat) (w : World) (h_n : n.toList.isEmpty = true) (h_b : l2 = 0) (h_e : l3 = 0) (h_l5 : l1 ≤ 1) : Calls Tryz.prog 125 #[.agg #[.int .i64 5, .string n, .slice A1 l1 c1, .slice A2 l2 c2, .slice A3 l3 c3]] w (Says true w) := by
  obtain rfl := empty_of' h_n
  clear h_n
  subst h_b
  subst h_e
  have fl : decide ((l1 : Int) ≤ 1) = true := decide_eq_true (by omega)
  all_goals
    go_enter Tryz.func125, Tryz.ntmps125
    go_wp2_with fail
    go_ret
    exact ⟨rfl, up (up0 _) _⟩
theorem st6_n (n : ByteArray) (A1 : Option Addr) (A2 A3 : Option Addr) (l1 l2 l3 c1 c2 c3 : Nat) (w : World) (h_n : n.toList.isEmpty = false) : Calls Tryz.prog 125 #[.agg #[.int .i64 6, .string n, .slice A1 l1 c1, .slice A2 l2 c2, .slice A3 l3 c3]] w (Says false w) := by
  all_goals
    go_enter Tryz.func125, Tryz.ntmps125
    go_wp2_with fail
    go_ret
    exact ⟨rfl, up (up0 _) _⟩
theorem st6_b (n : ByteArray) (A1 : Option Addr) (A2 A3 : Option Addr) (l1 l2 l3 c1 c2 c3 : Nat) (w : World) (h_n : n.toList.isEmpty = true) (h_b : l2 ≠ 0) : Calls Tryz.prog 125 #[.agg #[.int .i64 6, .string n, .slice A1 l1 c1, .slice A2 l2 c2, .slice A3 l3 c3]] w (Says false w) := by
  obtain rfl := empty_of' h_n
  clear h_n
  have gb : 0 < l2 := by omega
  clear h_b
  all_goals
    go_enter Tryz.func125, Tryz.ntmps125
    go_wp2_with fail
    go_ret
    exact ⟨rfl, up (up0 _) _⟩
theorem st6_e (n : ByteArray) (A1 : Option Addr) (A2 A3 : Option Addr) (l1 l2 l3 c1 c2 c3 : Nat) (w : World) (h_n : n.toList.isEmpty = true) (h_b : l2 = 0) (h_e : l3 ≠ 0) : Calls Tryz.prog 125 #[.agg #[.int .i64 6, .string n, .slice A1 l1 c1, .slice A2 l2 c2, .slice A3 l3 c3]] w (Says false w) := by
  obtain rfl := empty_of' h_n
  clear h_n
  subst h_b
  have ge : 0 < l3 := by omega
  clear h_e
  all_goals
    go_enter Tryz.func125, Tryz.ntmps125
    go_wp2_with fail
    go_ret
    exact ⟨rfl, up (up0 _) _⟩
theorem st6_l1 (n : ByteArray) (A1 : Option Addr) (A2 A3 : Option Addr) (l1 l2 l3 c1 c2 c3 : Nat) (w : World) (h_n : n.toList.isEmpty = true) (h_b : l2 = 0) (h_e : l3 = 0) (h_l1 : l1 ≠ 1) : Calls Tryz.prog 125 #[.agg #[.int .i64 6, .string n, .slice A1 l1 c1, .slice A2 l2 c2, .slice A3 l3 c3]] w (Says false w) := by
  obtain rfl := empty_of' h_n
  clear h_n
  subst h_b
  subst h_e
  have fl : ((l1 : Int) == 1) = false := beq_eq_false_iff_ne.mpr (by omega)
  clear h_l1
  all_goals
    go_enter Tryz.func125, Tryz.ntmps125
    go_wp2_with fail
    go_ret
    exact ⟨rfl, up (up0 _) _⟩
theorem st6_ok (n : ByteArray) (A1 : Option Addr) (A2 A3 : Option Addr) (l1 l2 l3 c1 c2 c3 : Nat) (w : World) (h_n : n.toList.isEmpty = true) (h_b : l2 = 0) (h_e : l3 = 0) (h_l1 : l1 = 1) : Calls Tryz.prog 125 #[.agg #[.int .i64 6, .string n, .slice A1 l1 c1, .slice A2 l2 c2, .slice A3 l3 c3]] w (Says true w) := by
  obtain rfl := empty_of' h_n
  clear h_n
  subst h_b
  subst h_e
  subst h_l1
  all_goals
    go_enter Tryz.func125, Tryz.ntmps125
    go_wp2_with fail
    go_ret
    exact ⟨rfl, up (up0 _) _⟩
theorem st7_n (n : ByteArray) (A1 : Option Addr) (A2 A3 : Option Addr) (l1 l2 l3 c1 c2 c3 : Nat) (w : World) (h_n : n.toList.isEmpty = false) : Calls Tryz.prog 125 #[.agg #[.int .i64 7, .string n, .slice A1 l1 c1, .slice A2 l2 c2, .slice A3 l3 c3]] w (Says false w) := by
  all_goals
    go_enter Tryz.func125, Tryz.ntmps125
    go_wp2_with fail
    go_ret
    exact ⟨rfl, up (up0 _) _⟩
theorem st7_b (n : ByteArray) (A1 : Option Addr) (A2 A3 : Option Addr) (l1 l2 l3 c1 c2 c3 : Nat) (w : World) (h_n : n.toList.isEmpty = true) (h_b : l2 ≠ 0) : Calls Tryz.prog 125 #[.agg #[.int .i64 7, .string n, .slice A1 l1 c1, .slice A2 l2 c2, .slice A3 l3 c3]] w (Says false w) := by
  obtain rfl := empty_of' h_n
  clear h_n
  have gb : 0 < l2 := by omega
  clear h_b
  all_goals
    go_enter Tryz.func125, Tryz.ntmps125
    go_wp2_with fail
    go_ret
    exact ⟨rfl, up (up0 _) _⟩
theorem st7_e (n : ByteArray) (A1 : Option Addr) (A2 A3 : Option Addr) (l1 l2 l3 c1 c2 c3 : Nat) (w : World) (h_n : n.toList.isEmpty = true) (h_b : l2 = 0) (h_e : l3 ≠ 0) : Calls Tryz.prog 125 #[.agg #[.int .i64 7, .string n, .slice A1 l1 c1, .slice A2 l2 c2, .slice A3 l3 c3]] w (Says false w) := by
  obtain rfl := empty_of' h_n
  clear h_n
  subst h_b
  have ge : 0 < l3 := by omega
  clear h_e
  all_goals
    go_enter Tryz.func125, Tryz.ntmps125
    go_wp2_with fail
    go_ret
    exact ⟨rfl, up (up0 _) _⟩
theorem st7_l1 (n : ByteArray) (A1 : Option Addr) (A2 A3 : Option Addr) (l1 l2 l3 c1 c2 c3 : Nat) (w : World) (h_n : n.toList.isEmpty = true) (h_b : l2 = 0) (h_e : l3 = 0) (h_l1 : l1 ≠ 1) : Calls Tryz.prog 125 #[.agg #[.int .i64 7, .string n, .slice A1 l1 c1, .slice A2 l2 c2, .slice A3 l3 c3]] w (Says false w) := by
  obtain rfl := empty_of' h_n
  clear h_n
  subst h_b
  subst h_e
  have fl : ((l1 : Int) == 1) = false := beq_eq_false_iff_ne.mpr (by omega)
  clear h_l1
  all_goals
    go_enter Tryz.func125, Tryz.ntmps125
    go_wp2_with fail
    go_ret
    exact ⟨rfl, up (up0 _) _⟩
theorem st7_ok (n : ByteArray) (A1 : Option Addr) (A2 A3 : Option Addr) (l1 l2 l3 c1 c2 c3 : Nat) (w : World) (h_n : n.toList.isEmpty = true) (h_b : l2 = 0) (h_e : l3 = 0) (h_l1 : l1 = 1) : Calls Tryz.prog 125 #[.agg #[.int .i64 7, .string n, .slice A1 l1 c1, .slice A2 l2 c2, .slice A3 l3 c3]] w (Says true w) := by
  obtain rfl := empty_of' h_n
  clear h_n
  subst h_b
  subst h_e
  subst h_l1
  all_goals
    go_enter Tryz.func125, Tryz.ntmps125
    go_wp2_with fail
    go_ret
    exact ⟨rfl, up (up0 _) _⟩
theorem st8_l0 (n : ByteArray) (A1 : Option Addr) (A2 A3 : Option Addr) (l1 l2 l3 c1 c2 c3 : Nat) (w : World) (h_l0 : l1 ≠ 0) : Calls Tryz.prog 125 #[.agg #[.int .i64 8, .string n, .slice A1 l1 c1, .slice A2 l2 c2, .slice A3 l3 c3]] w (Says false w) := by
  have fl : ((l1 : Int) == 0) = false := beq_eq_false_iff_ne.mpr (by omega)
  clear h_l0
  all_goals
    go_enter Tryz.func125, Tryz.ntmps125
    go_wp2_with fail
    go_ret
    exact ⟨rfl, up (up0 _) _⟩
theorem st8_ok (n : ByteArray) (A1 : Option Addr) (A2 A3 : Option Addr) (l1 l2 l3 c1 c2 c3 : Nat) (w : World) (h_l0 : l1 = 0) : Calls Tryz.prog 125 #[.agg #[.int .i64 8, .string n, .slice A1 l1 c1, .slice A2 l2 c2, .slice A3 l3 c3]] w (Says true w) := by
  subst h_l0
  all_goals
    go_enter Tryz.func125, Tryz.ntmps125
    go_wp2_with fail
    go_ret
    exact ⟨rfl, up (up0 _) _⟩
theorem st9_n (n : ByteArray) (A1 : Option Addr) (A2 A3 : Option Addr) (l1 l2 l3 c1 c2 c3 : Nat) (w : World) (h_n : n.toList.isEmpty = false) : Calls Tryz.prog 125 #[.agg #[.int .i64 9, .string n, .slice A1 l1 c1, .slice A2 l2 c2, .slice A3 l3 c3]] w (Says false w) := by
  all_goals
    go_enter Tryz.func125, Tryz.ntmps125
    go_wp2_with fail
    go_ret
    exact ⟨rfl, up (up0 _) _⟩
theorem st9_b (n : ByteArray) (A1 : Option Addr) (A2 A3 : Option Addr) (l1 l2 l3 c1 c2 c3 : Nat) (w : World) (h_n : n.toList.isEmpty = true) (h_b : l2 ≠ 0) : Calls Tryz.prog 125 #[.agg #[.int .i64 9, .string n, .slice A1 l1 c1, .slice A2 l2 c2, .slice A3 l3 c3]] w (Says false w) := by
  obtain rfl := empty_of' h_n
  clear h_n
  have gb : 0 < l2 := by omega
  clear h_b
  all_goals
    go_enter Tryz.func125, Tryz.ntmps125
    go_wp2_with fail
    go_ret
    exact ⟨rfl, up (up0 _) _⟩
theorem st9_e (n : ByteArray) (A1 : Option Addr) (A2 A3 : Option Addr) (l1 l2 l3 c1 c2 c3 : Nat) (w : World) (h_n : n.toList.isEmpty = true) (h_b : l2 = 0) (h_e : l3 ≠ 0) : Calls Tryz.prog 125 #[.agg #[.int .i64 9, .string n, .slice A1 l1 c1, .slice A2 l2 c2, .slice A3 l3 c3]] w (Says false w) := by
  obtain rfl := empty_of' h_n
  clear h_n
  subst h_b
  have ge : 0 < l3 := by omega
  clear h_e
  all_goals
    go_enter Tryz.func125, Tryz.ntmps125
    go_wp2_with fail
    go_ret
    exact ⟨rfl, up (up0 _) _⟩
theorem st9_l1 (n : ByteArray) (A1 : Option Addr) (A2 A3 : Option Addr) (l1 l2 l3 c1 c2 c3 : Nat) (w : World) (h_n : n.toList.isEmpty = true) (h_b : l2 = 0) (h_e : l3 = 0) (h_l1 : l1 ≠ 1) : Calls Tryz.prog 125 #[.agg #[.int .i64 9, .string n, .slice A1 l1 c1, .slice A2 l2 c2, .slice A3 l3 c3]] w (Says false w) := by
  obtain rfl := empty_of' h_n
  clear h_n
  subst h_b
  subst h_e
  have fl : ((l1 : Int) == 1) = false := beq_eq_false_iff_ne.mpr (by omega)
  clear h_l1
  all_goals
    go_enter Tryz.func125, Tryz.ntmps125
    go_wp2_with fail
    go_ret
    exact ⟨rfl, up (up0 _) _⟩
theorem st9_x (n : ByteArray) (B o : Nat) (A2 A3 : Option Addr) (l1 l2 l3 c1 c2 c3 : Nat) (w : World) (xk : Int) (a0 : w.cell? ⟨B, o, none⟩ = some (.int .i64 xk)) (h_n : n.toList.isEmpty = true) (h_b : l2 = 0) (h_e : l3 = 0) (h_l1 : l1 = 1) (h_x : (xk ≠ 4 ∧ xk ≠ 5)) : Calls Tryz.prog 125 #[.agg #[.int .i64 9, .string n, .slice (some ⟨B, o, none⟩) l1 c1, .slice A2 l2 c2, .slice A3 l3 c3]] w (Says false w) := by
  have lt1 : B < w.heap.size := World.block_lt_of_cell? w _ a0
  obtain rfl := empty_of' h_n
  clear h_n
  subst h_b
  subst h_e
  subst h_l1
  have x4 : (xk == 4) = false := beq_eq_false_iff_ne.mpr h_x.1
  have x5 : (xk == 5) = false := beq_eq_false_iff_ne.mpr h_x.2
  clear h_x
  all_goals
    go_enter Tryz.func125, Tryz.ntmps125
    go_wp2_with fail
    go_ret
    exact ⟨rfl, up (up0 _) _⟩
theorem st9_ok (n : ByteArray) (B o : Nat) (A2 A3 : Option Addr) (l1 l2 l3 c1 c2 c3 : Nat) (w : World) (xk : Int) (a0 : w.cell? ⟨B, o, none⟩ = some (.int .i64 xk)) (h_n : n.toList.isEmpty = true) (h_b : l2 = 0) (h_e : l3 = 0) (h_l1 : l1 = 1) (h_x : (xk = 4 ∨ xk = 5)) : Calls Tryz.prog 125 #[.agg #[.int .i64 9, .string n, .slice (some ⟨B, o, none⟩) l1 c1, .slice A2 l2 c2, .slice A3 l3 c3]] w (Says true w) := by
  have lt1 : B < w.heap.size := World.block_lt_of_cell? w _ a0
  obtain rfl := empty_of' h_n
  clear h_n
  subst h_b
  subst h_e
  subst h_l1
  rcases h_x with rfl | rfl
  all_goals
    go_enter Tryz.func125, Tryz.ntmps125
    go_wp2_with fail
    go_ret
    exact ⟨rfl, up (up0 _) _⟩
theorem st0_n (k : Int) (hk : k < 1 ∨ 9 < k) (n : ByteArray) (A1 : Option Addr) (A2 A3 : Option Addr) (l1 l2 l3 c1 c2 c3 : Nat) (w : World) (h_n : n.toList.isEmpty = false) : Calls Tryz.prog 125 #[.agg #[.int .i64 k, .string n, .slice A1 l1 c1, .slice A2 l2 c2, .slice A3 l3 c3]] w (Says false w) := by
  have f1 : (k == 1) = false := beq_eq_false_iff_ne.mpr (by omega)
  have f2 : (k == 2) = false := beq_eq_false_iff_ne.mpr (by omega)
  have f3 : (k == 3) = false := beq_eq_false_iff_ne.mpr (by omega)
  have f4 : (k == 4) = false := beq_eq_false_iff_ne.mpr (by omega)
  have f5 : (k == 5) = false := beq_eq_false_iff_ne.mpr (by omega)
  have f6 : (k == 6) = false := beq_eq_false_iff_ne.mpr (by omega)
  have f7 : (k == 7) = false := beq_eq_false_iff_ne.mpr (by omega)
  have f8 : (k == 8) = false := beq_eq_false_iff_ne.mpr (by omega)
  have f9 : (k == 9) = false := beq_eq_false_iff_ne.mpr (by omega)
  clear hk
  all_goals
    go_enter Tryz.func125, Tryz.ntmps125
    go_wp2_with fail
    go_ret
    exact ⟨rfl, up (up0 _) _⟩
theorem st0_b (k : Int) (hk : k < 1 ∨ 9 < k) (n : ByteArray) (A1 : Option Addr) (A2 A3 : Option Addr) (l1 l2 l3 c1 c2 c3 : Nat) (w : World) (h_n : n.toList.isEmpty = true) (h_b : l2 ≠ 0) : Calls Tryz.prog 125 #[.agg #[.int .i64 k, .string n, .slice A1 l1 c1, .slice A2 l2 c2, .slice A3 l3 c3]] w (Says false w) := by
  have f1 : (k == 1) = false := beq_eq_false_iff_ne.mpr (by omega)
  have f2 : (k == 2) = false := beq_eq_false_iff_ne.mpr (by omega)
  have f3 : (k == 3) = false := beq_eq_false_iff_ne.mpr (by omega)
  have f4 : (k == 4) = false := beq_eq_false_iff_ne.mpr (by omega)
  have f5 : (k == 5) = false := beq_eq_false_iff_ne.mpr (by omega)
  have f6 : (k == 6) = false := beq_eq_false_iff_ne.mpr (by omega)
  have f7 : (k == 7) = false := beq_eq_false_iff_ne.mpr (by omega)
  have f8 : (k == 8) = false := beq_eq_false_iff_ne.mpr (by omega)
  have f9 : (k == 9) = false := beq_eq_false_iff_ne.mpr (by omega)
  clear hk
  obtain rfl := empty_of' h_n
  clear h_n
  have gb : 0 < l2 := by omega
  clear h_b
  all_goals
    go_enter Tryz.func125, Tryz.ntmps125
    go_wp2_with fail
    go_ret
    exact ⟨rfl, up (up0 _) _⟩
theorem st0_e (k : Int) (hk : k < 1 ∨ 9 < k) (n : ByteArray) (A1 : Option Addr) (A2 A3 : Option Addr) (l1 l2 l3 c1 c2 c3 : Nat) (w : World) (h_n : n.toList.isEmpty = true) (h_b : l2 = 0) (h_e : l3 ≠ 0) : Calls Tryz.prog 125 #[.agg #[.int .i64 k, .string n, .slice A1 l1 c1, .slice A2 l2 c2, .slice A3 l3 c3]] w (Says false w) := by
  have f1 : (k == 1) = false := beq_eq_false_iff_ne.mpr (by omega)
  have f2 : (k == 2) = false := beq_eq_false_iff_ne.mpr (by omega)
  have f3 : (k == 3) = false := beq_eq_false_iff_ne.mpr (by omega)
  have f4 : (k == 4) = false := beq_eq_false_iff_ne.mpr (by omega)
  have f5 : (k == 5) = false := beq_eq_false_iff_ne.mpr (by omega)
  have f6 : (k == 6) = false := beq_eq_false_iff_ne.mpr (by omega)
  have f7 : (k == 7) = false := beq_eq_false_iff_ne.mpr (by omega)
  have f8 : (k == 8) = false := beq_eq_false_iff_ne.mpr (by omega)
  have f9 : (k == 9) = false := beq_eq_false_iff_ne.mpr (by omega)
  clear hk
  obtain rfl := empty_of' h_n
  clear h_n
  subst h_b
  have ge : 0 < l3 := by omega
  clear h_e
  all_goals
    go_enter Tryz.func125, Tryz.ntmps125
    go_wp2_with fail
    go_ret
    exact ⟨rfl, up (up0 _) _⟩
theorem st0_ok (k : Int) (hk : k < 1 ∨ 9 < k) (n : ByteArray) (A1 : Option Addr) (A2 A3 : Option Addr) (l1 l2 l3 c1 c2 c3 : Nat) (w : World) (h_n : n.toList.isEmpty = true) (h_b : l2 = 0) (h_e : l3 = 0) : Calls Tryz.prog 125 #[.agg #[.int .i64 k, .string n, .slice A1 l1 c1, .slice A2 l2 c2, .slice A3 l3 c3]] w (Says false w) := by
  have f1 : (k == 1) = false := beq_eq_false_iff_ne.mpr (by omega)
  have f2 : (k == 2) = false := beq_eq_false_iff_ne.mpr (by omega)
  have f3 : (k == 3) = false := beq_eq_false_iff_ne.mpr (by omega)
  have f4 : (k == 4) = false := beq_eq_false_iff_ne.mpr (by omega)
  have f5 : (k == 5) = false := beq_eq_false_iff_ne.mpr (by omega)
  have f6 : (k == 6) = false := beq_eq_false_iff_ne.mpr (by omega)
  have f7 : (k == 7) = false := beq_eq_false_iff_ne.mpr (by omega)
  have f8 : (k == 8) = false := beq_eq_false_iff_ne.mpr (by omega)
  have f9 : (k == 9) = false := beq_eq_false_iff_ne.mpr (by omega)
  clear hk
  obtain rfl := empty_of' h_n
  clear h_n
  subst h_b
  subst h_e
  all_goals
    go_enter Tryz.func125, Tryz.ntmps125
    go_wp2_with fail
    go_ret
    exact ⟨rfl, up (up0 _) _⟩
theorem stated_any (k : Int) (n : ByteArray) (e : Exs) (bd el : Sts) (w : World) (v : Value) (hv : (St.mk k n e bd el).Is w v) : Calls Tryz.prog 125 #[v] w (Says (statedB k n e.toList bd.toList.length el.toList.length) w) := by
  unfold St.Is at hv
  obtain ⟨A1, l1, c1, A2, l2, c2, A3, l3, c3, rfl, s1, s2, s3⟩ := hv
  have hl1 := s1.1
  rw [← s2.1, ← s3.1]
  clear s2 s3
  by_cases hk : k < 1 ∨ 9 < k
  · have hf : statedB k n e.toList l2 l3 = false := by unfold statedB; rw [if_neg (by omega), if_neg (by omega), if_neg (by omega), if_neg (by omega), if_neg (by omega), if_neg (by omega), if_neg (by omega)]
    by_cases h_n : n.toList.isEmpty = true
    rotate_left
    · exact says_eq hf (st0_n k hk n A1 A2 A3 l1 l2 l3 c1 c2 c3 w (by simpa using h_n))
    by_cases h_b : l2 = 0
    rotate_left
    · exact says_eq hf (st0_b k hk n A1 A2 A3 l1 l2 l3 c1 c2 c3 w h_n h_b)
    by_cases h_e : l3 = 0
    rotate_left
    · exact says_eq hf (st0_e k hk n A1 A2 A3 l1 l2 l3 c1 c2 c3 w h_n h_b h_e)
    exact says_eq hf (st0_ok k hk n A1 A2 A3 l1 l2 l3 c1 c2 c3 w h_n h_b h_e)
  have hk' : k = 1 ∨ k = 2 ∨ k = 3 ∨ k = 4 ∨ k = 5 ∨ k = 6 ∨ k = 7 ∨ k = 8 ∨ k = 9 := by omega
  clear hk
  rcases hk' with rfl | rfl | rfl | rfl | rfl | rfl | rfl | rfl | rfl
  · skip
    by_cases h_b : l2 = 0
    rotate_left
    · exact says_eq (by unfold statedB; rw [if_pos (by decide)]; simp [h_b]; try omega) (st1_b n A1 A2 A3 l1 l2 l3 c1 c2 c3 w h_b)
    by_cases h_e : l3 = 0
    rotate_left
    · exact says_eq (by unfold statedB; rw [if_pos (by decide)]; simp [h_e]; try omega) (st1_e n A1 A2 A3 l1 l2 l3 c1 c2 c3 w h_b h_e)
    by_cases h_l1 : l1 = 1
    rotate_left
    · exact says_eq (by unfold statedB; rw [if_pos (by decide)]; simp [h_l1, ← hl1]; try omega) (st1_l1 n A1 A2 A3 l1 l2 l3 c1 c2 c3 w h_b h_e h_l1)
    exact says_eq (by unfold statedB; rw [if_pos (by decide)]; simp [h_b, h_e, h_l1, ← hl1]; try omega) (st1_ok n A1 A2 A3 l1 l2 l3 c1 c2 c3 w h_b h_e h_l1)
  · skip
    by_cases h_b : l2 = 0
    rotate_left
    · exact says_eq (by unfold statedB; rw [if_pos (by decide)]; simp [h_b]; try omega) (st2_b n A1 A2 A3 l1 l2 l3 c1 c2 c3 w h_b)
    by_cases h_e : l3 = 0
    rotate_left
    · exact says_eq (by unfold statedB; rw [if_pos (by decide)]; simp [h_e]; try omega) (st2_e n A1 A2 A3 l1 l2 l3 c1 c2 c3 w h_b h_e)
    by_cases h_l1 : l1 = 1
    rotate_left
    · exact says_eq (by unfold statedB; rw [if_pos (by decide)]; simp [h_l1, ← hl1]; try omega) (st2_l1 n A1 A2 A3 l1 l2 l3 c1 c2 c3 w h_b h_e h_l1)
    exact says_eq (by unfold statedB; rw [if_pos (by decide)]; simp [h_b, h_e, h_l1, ← hl1]; try omega) (st2_ok n A1 A2 A3 l1 l2 l3 c1 c2 c3 w h_b h_e h_l1)
  · skip
    by_cases h_n : n.toList.isEmpty = true
    rotate_left
    · exact says_eq (by unfold statedB; rw [if_neg (by decide), if_pos (by decide)]; simp [h_n]; try omega) (st3_n n A1 A2 A3 l1 l2 l3 c1 c2 c3 w (by simpa using h_n))
    by_cases h_l1 : l1 = 1
    rotate_left
    · exact says_eq (by unfold statedB; rw [if_neg (by decide), if_pos (by decide)]; simp [h_l1, ← hl1]; try omega) (st3_l1 n A1 A2 A3 l1 l2 l3 c1 c2 c3 w h_n h_l1)
    exact says_eq (by unfold statedB; rw [if_neg (by decide), if_pos (by decide)]; simp [h_n, h_l1, ← hl1]; try omega) (st3_ok n A1 A2 A3 l1 l2 l3 c1 c2 c3 w h_n h_l1)
  · skip
    by_cases h_n : n.toList.isEmpty = true
    rotate_left
    · exact says_eq (by unfold statedB; rw [if_neg (by decide), if_neg (by decide), if_pos (by decide)]; simp [h_n]; try omega) (st4_n n A1 A2 A3 l1 l2 l3 c1 c2 c3 w (by simpa using h_n))
    by_cases h_e : l3 = 0
    rotate_left
    · exact says_eq (by unfold statedB; rw [if_neg (by decide), if_neg (by decide), if_pos (by decide)]; simp [h_e]; try omega) (st4_e n A1 A2 A3 l1 l2 l3 c1 c2 c3 w h_n h_e)
    by_cases h_l1 : l1 = 1
    rotate_left
    · exact says_eq (by unfold statedB; rw [if_neg (by decide), if_neg (by decide), if_pos (by decide)]; simp [h_l1, ← hl1]; try omega) (st4_l1 n A1 A2 A3 l1 l2 l3 c1 c2 c3 w h_n h_e h_l1)
    exact says_eq (by unfold statedB; rw [if_neg (by decide), if_neg (by decide), if_pos (by decide)]; simp [h_n, h_e, h_l1, ← hl1]; try omega) (st4_ok n A1 A2 A3 l1 l2 l3 c1 c2 c3 w h_n h_e h_l1)
  · skip
    by_cases h_n : n.toList.isEmpty = true
    rotate_left
    · exact says_eq (by unfold statedB; rw [if_neg (by decide), if_neg (by decide), if_neg (by decide), if_pos (by decide)]; simp [h_n]; try omega) (st5_n n A1 A2 A3 l1 l2 l3 c1 c2 c3 w (by simpa using h_n))
    by_cases h_b : l2 = 0
    rotate_left
    · exact says_eq (by unfold statedB; rw [if_neg (by decide), if_neg (by decide), if_neg (by decide), if_pos (by decide)]; simp [h_b]; try omega) (st5_b n A1 A2 A3 l1 l2 l3 c1 c2 c3 w h_n h_b)
    by_cases h_e : l3 = 0
    rotate_left
    · exact says_eq (by unfold statedB; rw [if_neg (by decide), if_neg (by decide), if_neg (by decide), if_pos (by decide)]; simp [h_e]; try omega) (st5_e n A1 A2 A3 l1 l2 l3 c1 c2 c3 w h_n h_b h_e)
    by_cases h_l5 : l1 ≤ 1
    rotate_left
    · exact says_eq (by unfold statedB; rw [if_neg (by decide), if_neg (by decide), if_neg (by decide), if_pos (by decide)]; simp [h_l5, ← hl1]; try omega) (st5_l5 n A1 A2 A3 l1 l2 l3 c1 c2 c3 w h_n h_b h_e (by omega))
    exact says_eq (by unfold statedB; rw [if_neg (by decide), if_neg (by decide), if_neg (by decide), if_pos (by decide)]; simp [h_n, h_b, h_e, h_l5, ← hl1]; try omega) (st5_ok n A1 A2 A3 l1 l2 l3 c1 c2 c3 w h_n h_b h_e h_l5)
  · skip
    by_cases h_n : n.toList.isEmpty = true
    rotate_left
    · exact says_eq (by unfold statedB; rw [if_neg (by decide), if_neg (by decide), if_neg (by decide), if_neg (by decide), if_pos (by decide)]; simp [h_n]; try omega) (st6_n n A1 A2 A3 l1 l2 l3 c1 c2 c3 w (by simpa using h_n))
    by_cases h_b : l2 = 0
    rotate_left
    · exact says_eq (by unfold statedB; rw [if_neg (by decide), if_neg (by decide), if_neg (by decide), if_neg (by decide), if_pos (by decide)]; simp [h_b]; try omega) (st6_b n A1 A2 A3 l1 l2 l3 c1 c2 c3 w h_n h_b)
    by_cases h_e : l3 = 0
    rotate_left
    · exact says_eq (by unfold statedB; rw [if_neg (by decide), if_neg (by decide), if_neg (by decide), if_neg (by decide), if_pos (by decide)]; simp [h_e]; try omega) (st6_e n A1 A2 A3 l1 l2 l3 c1 c2 c3 w h_n h_b h_e)
    by_cases h_l1 : l1 = 1
    rotate_left
    · exact says_eq (by unfold statedB; rw [if_neg (by decide), if_neg (by decide), if_neg (by decide), if_neg (by decide), if_pos (by decide)]; simp [h_l1, ← hl1]; try omega) (st6_l1 n A1 A2 A3 l1 l2 l3 c1 c2 c3 w h_n h_b h_e h_l1)
    exact says_eq (by unfold statedB; rw [if_neg (by decide), if_neg (by decide), if_neg (by decide), if_neg (by decide), if_pos (by decide)]; simp [h_n, h_b, h_e, h_l1, ← hl1]; try omega) (st6_ok n A1 A2 A3 l1 l2 l3 c1 c2 c3 w h_n h_b h_e h_l1)
  · skip
    by_cases h_n : n.toList.isEmpty = true
    rotate_left
    · exact says_eq (by unfold statedB; rw [if_neg (by decide), if_neg (by decide), if_neg (by decide), if_neg (by decide), if_pos (by decide)]; simp [h_n]; try omega) (st7_n n A1 A2 A3 l1 l2 l3 c1 c2 c3 w (by simpa using h_n))
    by_cases h_b : l2 = 0
    rotate_left
    · exact says_eq (by unfold statedB; rw [if_neg (by decide), if_neg (by decide), if_neg (by decide), if_neg (by decide), if_pos (by decide)]; simp [h_b]; try omega) (st7_b n A1 A2 A3 l1 l2 l3 c1 c2 c3 w h_n h_b)
    by_cases h_e : l3 = 0
    rotate_left
    · exact says_eq (by unfold statedB; rw [if_neg (by decide), if_neg (by decide), if_neg (by decide), if_neg (by decide), if_pos (by decide)]; simp [h_e]; try omega) (st7_e n A1 A2 A3 l1 l2 l3 c1 c2 c3 w h_n h_b h_e)
    by_cases h_l1 : l1 = 1
    rotate_left
    · exact says_eq (by unfold statedB; rw [if_neg (by decide), if_neg (by decide), if_neg (by decide), if_neg (by decide), if_pos (by decide)]; simp [h_l1, ← hl1]; try omega) (st7_l1 n A1 A2 A3 l1 l2 l3 c1 c2 c3 w h_n h_b h_e h_l1)
    exact says_eq (by unfold statedB; rw [if_neg (by decide), if_neg (by decide), if_neg (by decide), if_neg (by decide), if_pos (by decide)]; simp [h_n, h_b, h_e, h_l1, ← hl1]; try omega) (st7_ok n A1 A2 A3 l1 l2 l3 c1 c2 c3 w h_n h_b h_e h_l1)
  · skip
    by_cases h_l0 : l1 = 0
    rotate_left
    · exact says_eq (by unfold statedB; rw [if_neg (by decide), if_neg (by decide), if_neg (by decide), if_neg (by decide), if_neg (by decide), if_pos (by decide)]; simp [h_l0, ← hl1]; try omega) (st8_l0 n A1 A2 A3 l1 l2 l3 c1 c2 c3 w h_l0)
    exact says_eq (by unfold statedB; rw [if_neg (by decide), if_neg (by decide), if_neg (by decide), if_neg (by decide), if_neg (by decide), if_pos (by decide)]; simp [h_l0, ← hl1]; try omega) (st8_ok n A1 A2 A3 l1 l2 l3 c1 c2 c3 w h_l0)
  · skip
    by_cases h_n : n.toList.isEmpty = true
    rotate_left
    · exact says_eq (by unfold statedB; rw [if_neg (by decide), if_neg (by decide), if_neg (by decide), if_neg (by decide), if_neg (by decide), if_neg (by decide), if_pos (by decide)]; simp [h_n]; try omega) (st9_n n A1 A2 A3 l1 l2 l3 c1 c2 c3 w (by simpa using h_n))
    by_cases h_b : l2 = 0
    rotate_left
    · exact says_eq (by unfold statedB; rw [if_neg (by decide), if_neg (by decide), if_neg (by decide), if_neg (by decide), if_neg (by decide), if_neg (by decide), if_pos (by decide)]; simp [h_b]; try omega) (st9_b n A1 A2 A3 l1 l2 l3 c1 c2 c3 w h_n h_b)
    by_cases h_e : l3 = 0
    rotate_left
    · exact says_eq (by unfold statedB; rw [if_neg (by decide), if_neg (by decide), if_neg (by decide), if_neg (by decide), if_neg (by decide), if_neg (by decide), if_pos (by decide)]; simp [h_e]; try omega) (st9_e n A1 A2 A3 l1 l2 l3 c1 c2 c3 w h_n h_b h_e)
    by_cases h_l1 : l1 = 1
    rotate_left
    · exact says_eq (by unfold statedB; rw [if_neg (by decide), if_neg (by decide), if_neg (by decide), if_neg (by decide), if_neg (by decide), if_neg (by decide), if_pos (by decide)]; simp [h_l1, ← hl1]; try omega) (st9_l1 n A1 A2 A3 l1 l2 l3 c1 c2 c3 w h_n h_b h_e h_l1)
    subst h_l1
    obtain ⟨B, o, rfl, g1⟩ := s1.at (by decide)
    obtain ⟨x, hx⟩ : ∃ x, e.toList = [x] := List.length_eq_one_iff.1 hl1.symm
    have i1 := g1 0 x (by rw [hx]; rfl)
    obtain ⟨v0, v1, v2, v3, v4, v5, v6, v7, v8, b0, b1, b2, b3, b4, b5, b6, ax⟩ := Ex.In_Is i1
    rw [Nat.zero_mul, Nat.add_zero] at b0
    have hv0 : v0 = x.k := by cases x; unfold Ex.Is at ax; obtain ⟨_, _, _, he, _⟩ := ax; injection he with he; simp only [Array.mk.injEq, List.cons.injEq, Value.int.injEq, true_and] at he; exact he.1
    by_cases h_x : v0 = 4 ∨ v0 = 5
    · exact says_eq (by unfold statedB; rw [if_neg (by decide), if_neg (by decide), if_neg (by decide), if_neg (by decide), if_neg (by decide), if_neg (by decide), if_pos (by decide)]; rw [hx]; rw [hv0] at h_x; simp [h_n, h_b, h_e, h_x]) (st9_ok n B o A2 A3 1 l2 l3 c1 c2 c3 w v0 b0 h_n h_b h_e rfl h_x)
    · exact says_eq (by unfold statedB; rw [if_neg (by decide), if_neg (by decide), if_neg (by decide), if_neg (by decide), if_neg (by decide), if_neg (by decide), if_pos (by decide)]; rw [hx]; rw [hv0] at h_x; simp [(not_or.1 h_x).1, (not_or.1 h_x).2]) (st9_x n B o A2 A3 1 l2 l3 c1 c2 c3 w v0 b0 h_n h_b h_e rfl ⟨fun h => h_x (.inl h), fun h => h_x (.inr h)⟩)
end Go.Proofs.YtbhgpegcdiohlaaGreatDoor.Tr
