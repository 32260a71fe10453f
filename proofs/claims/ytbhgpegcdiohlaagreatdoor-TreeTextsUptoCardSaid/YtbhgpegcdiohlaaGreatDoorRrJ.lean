import Derived.Test.YtbhgpegcdiohlaaGreatDoorRrH
namespace Go.Proofs.YtbhgpegcdiohlaaGreatDoor.Tr
open Go Go.RowKit Go.Proofs
set_option linter.unusedVariables false
set_option maxRecDepth 100000
set_option maxHeartbeats 4000000
theorem st1_b (n : ByteArray) (A1 : Option Addr) (A2 A3 : Option Addr) (l1 l2 l3 c1 c2 c3 : Nat) (w : World) (h_b : l2 ≠ 0) : Calls Tryz.prog 125 #[.agg #[.int .i64 1, .string n, .slice A1 l1 c1, .slice A2 l2 c2, .slice A3 l3 c3]] w (Says false w) := by
  have gb : 0 < l2 := by omega
  clear h_b
  all_goals
    go_enter Tryz.func125, Tryz.ntmps125
    go_wp2_with fail
    go_ret
    exact ⟨rfl, up (up0 _) _⟩
theorem st1_e (n : ByteArray) (A1 : Option Addr) (A2 A3 : Option Addr) (l1 l2 l3 c1 c2 c3 : Nat) (w : World) (h_b : l2 = 0) (h_e : l3 ≠ 0) : Calls Tryz.prog 125 #[.agg #[.int .i64 1, .string n, .slice A1 l1 c1, .slice A2 l2 c2, .slice A3 l3 c3]] w (Says false w) := by
  subst h_b
  have ge : 0 < l3 := by omega
  clear h_e
  all_goals
    go_enter Tryz.func125, Tryz.ntmps125
    go_wp2_with fail
    go_ret
    exact ⟨rfl, up (up0 _) _⟩
theorem st1_l1 (n : ByteArray) (A1 : Option Addr) (A2 A3 : Option Addr) (l1 l2 l3 c1 c2 c3 : Nat) (w : World) (h_b : l2 = 0) (h_e : l3 = 0) (h_l1 : l1 ≠ 1) : Calls Tryz.prog 125 #[.agg #[.int .i64 1, .string n, .slice A1 l1 c1, .slice A2 l2 c2, .slice A3 l3 c3]] w (Says false w) := by
  subst h_b
  subst h_e
  have fl : ((l1 : Int) == 1) = false := beq_eq_false_iff_ne.mpr (by omega)
  clear h_l1
  all_goals
    go_enter Tryz.func125, Tryz.ntmps125
    go_wp2_with fail
    go_ret
    exact ⟨rfl, up (up0 _) _⟩
theorem st1_ok (n : ByteArray) (A1 : Option Addr) (A2 A3 : Option Addr) (l1 l2 l3 c1 c2 c3 : Nat) (w : World) (h_b : l2 = 0) (h_e : l3 = 0) (h_l1 : l1 = 1) : Calls Tryz.prog 125 #[.agg #[.int .i64 1, .string n, .slice A1 l1 c1, .slice A2 l2 c2, .slice A3 l3 c3]] w (Says true w) := by
  subst h_b
  subst h_e
  subst h_l1
  all_goals
    go_enter Tryz.func125, Tryz.ntmps125
    go_wp2_with fail
    go_ret
    exact ⟨rfl, up (up0 _) _⟩
theorem st2_b (n : ByteArray) (A1 : Option Addr) (A2 A3 : Option Addr) (l1 l2 l3 c1 c2 c3 : Nat) (w : World) (h_b : l2 ≠ 0) : Calls Tryz.prog 125 #[.agg #[.int .i64 2, .string n, .slice A1 l1 c1, .slice A2 l2 c2, .slice A3 l3 c3]] w (Says false w) := by
  have gb : 0 < l2 := by omega
  clear h_b
  all_goals
    go_enter Tryz.func125, Tryz.ntmps125
    go_wp2_with fail
    go_ret
    exact ⟨rfl, up (up0 _) _⟩
theorem st2_e (n : ByteArray) (A1 : Option Addr) (A2 A3 : Option Addr) (l1 l2 l3 c1 c2 c3 : Nat) (w : World) (h_b : l2 = 0) (h_e : l3 ≠ 0) : Calls Tryz.prog 125 #[.agg #[.int .i64 2, .string n, .slice A1 l1 c1, .slice A2 l2 c2, .slice A3 l3 c3]] w (Says false w) := by
  subst h_b
  have ge : 0 < l3 := by omega
  clear h_e
  all_goals
    go_enter Tryz.func125, Tryz.ntmps125
    go_wp2_with fail
    go_ret
    exact ⟨rfl, up (up0 _) _⟩
theorem st2_l1 (n : ByteArray) (A1 : Option Addr) (A2 A3 : Option Addr) (l1 l2 l3 c1 c2 c3 : Nat) (w : World) (h_b : l2 = 0) (h_e : l3 = 0) (h_l1 : l1 ≠ 1) : Calls Tryz.prog 125 #[.agg #[.int .i64 2, .string n, .slice A1 l1 c1, .slice A2 l2 c2, .slice A3 l3 c3]] w (Says false w) := by
  subst h_b
  subst h_e
  have fl : ((l1 : Int) == 1) = false := beq_eq_false_iff_ne.mpr (by omega)
  clear h_l1
  all_goals
    go_enter Tryz.func125, Tryz.ntmps125
    go_wp2_with fail
    go_ret
    exact ⟨rfl, up (up0 _) _⟩
theorem st2_ok (n : ByteArray) (A1 : Option Addr) (A2 A3 : Option Addr) (l1 l2 l3 c1 c2 c3 : Nat) (w : World) (h_b : l2 = 0) (h_e : l3 = 0) (h_l1 : l1 = 1) : Calls Tryz.prog 125 #[.agg #[.int .i64 2, .string n, .slice A1 l1 c1, .slice A2 l2 c2, .slice A3 l3 c3]] w (Says true w) := by
  subst h_b
  subst h_e
  subst h_l1
  all_goals
    go_enter Tryz.func125, Tryz.ntmps125
    go_wp2_with fail
    go_ret
    exact ⟨rfl, up (up0 _) _⟩
theorem st3_n (n : ByteArray) (A1 : Option Addr) (A2 A3 : Option Addr) (l1 l2 l3 c1 c2 c3 : Nat) (w : World) (h_n : n.toList.isEmpty = false) : Calls Tryz.prog 125 #[.agg #[.int .i64 3, .string n, .slice A1 l1 c1, .slice A2 l2 c2, .slice A3 l3 c3]] w (Says false w) := by
  all_goals
    go_enter Tryz.func125, Tryz.ntmps125
    go_wp2_with fail
    go_ret
    exact ⟨rfl, up (up0 _) _⟩
theorem st3_l1 (n : ByteArray) (A1 : Option Addr) (A2 A3 : Option Addr) (l1 l2 l3 c1 c2 c3 : Nat) (w : World) (h_n : n.toList.isEmpty = true) (h_l1 : l1 ≠ 1) : Calls Tryz.prog 125 #[.agg #[.int .i64 3, .string n, .slice A1 l1 c1, .slice A2 l2 c2, .slice A3 l3 c3]] w (Says false w) := by
  obtain rfl := empty_of' h_n
  clear h_n
  have fl : ((l1 : Int) == 1) = false := beq_eq_false_iff_ne.mpr (by omega)
  clear h_l1
  all_goals
    go_enter Tryz.func125, Tryz.ntmps125
    go_wp2_with fail
    go_ret
    exact ⟨rfl, up (up0 _) _⟩
theorem st3_ok (n : ByteArray) (A1 : Option Addr) (A2 A3 : Option Addr) (l1 l2 l3 c1 c2 c3 : Nat) (w : World) (h_n : n.toList.isEmpty = true) (h_l1 : l1 = 1) : Calls Tryz.prog 125 #[.agg #[.int .i64 3, .string n, .slice A1 l1 c1, .slice A2 l2 c2, .slice A3 l3 c3]] w (Says true w) := by
  obtain rfl := empty_of' h_n
  clear h_n
  subst h_l1
  all_goals
    go_enter Tryz.func125, Tryz.ntmps125
    go_wp2_with fail
    go_ret
    exact ⟨rfl, up (up0 _) _⟩
theorem st4_n (n : ByteArray) (A1 : Option Addr) (A2 A3 : Option Addr) (l1 l2 l3 c1 c2 c3 : Nat) (w : World) (h_n : n.toList.isEmpty = false) : Calls Tryz.prog 125 #[.agg #[.int .i64 4, .string n, .slice A1 l1 c1, .slice A2 l2 c2, .slice A3 l3 c3]] w (Says false w) := by
  all_goals
    go_enter Tryz.func125, Tryz.ntmps125
    go_wp2_with fail
    go_ret
    exact ⟨rfl, up (up0 _) _⟩
theorem st4_e (n : ByteArray) (A1 : Option Addr) (A2 A3 : Option Addr) (l1 l2 l3 c1 c2 c3 : Nat) (w : World) (h_n : n.toList.isEmpty = true) (h_e : l3 ≠ 0) : Calls Tryz.prog 125 #[.agg #[.int .i64 4, .string n, .slice A1 l1 c1, .slice A2 l2 c2, .slice A3 l3 c3]] w (Says false w) := by
  obtain rfl := empty_of' h_n
  clear h_n
  have ge : 0 < l3 := by omega
  clear h_e
  all_goals
    go_enter Tryz.func125, Tryz.ntmps125
    go_wp2_with fail
    go_ret
    exact ⟨rfl, up (up0 _) _⟩
theorem st4_l1 (n : ByteArray) (A1 : Option Addr) (A2 A3 : Option Addr) (l1 l2 l3 c1 c2 c3 : Nat) (w : World) (h_n : n.toList.isEmpty = true) (h_e : l3 = 0) (h_l1 : l1 ≠ 1) : Calls Tryz.prog 125 #[.agg #[.int .i64 4, .string n, .slice A1 l1 c1, .slice A2 l2 c2, .slice A3 l3 c3]] w (Says false w) := by
  obtain rfl := empty_of' h_n
  clear h_n
  subst h_e
  have fl : ((l1 : Int) == 1) = false := beq_eq_false_iff_ne.mpr (by omega)
  clear h_l1
  all_goals
    go_enter Tryz.func125, Tryz.ntmps125
    go_wp2_with fail
    go_ret
    exact ⟨rfl, up (up0 _) _⟩
theorem st4_ok (n : ByteArray) (A1 : Option Addr) (A2 A3 : Option Addr) (l1 l2 l3 c1 c2 c3 : Nat) (w : World) (h_n : n.toList.isEmpty = true) (h_e : l3 = 0) (h_l1 : l1 = 1) : Calls Tryz.prog 125 #[.agg #[.int .i64 4, .string n, .slice A1 l1 c1, .slice A2 l2 c2, .slice A3 l3 c3]] w (Says true w) := by
  obtain rfl := empty_of' h_n
  clear h_n
  subst h_e
  subst h_l1
  all_goals
    go_enter Tryz.func125, Tryz.ntmps125
    go_wp2_with fail
    go_ret
    exact ⟨rfl, up (up0 _) _⟩
theorem st5_n (n : ByteArray) (A1 : Option Addr) (A2 A3 : Option Addr) (l1 l2 l3 c1 c2 c3 : Nat) (w : World) (h_n : n.toList.isEmpty = false) : Calls Tryz.prog 125 #[.agg #[.int .i64 5, .string n, .slice A1 l1 c1, .slice A2 l2 c2, .slice A3 l3 c3]] w (Says false w) := by
  all_goals
    go_enter Tryz.func125, Tryz.ntmps125
    go_wp2_with fail
    go_ret
    exact ⟨rfl, up (up0 _) _⟩
theorem st5_b (n : ByteArray) (A1 : Option Addr) (A2 A3 : Option Addr) (l1 l2 l3 c1 c2 c3 : Nat) (w : World) (h_n : n.toList.isEmpty = true) (h_b : l2 ≠ 0) : Calls Tryz.prog 125 #[.agg #[.int .i64 5, .string n, .slice A1 l1 c1, .slice A2 l2 c2, .slice A3 l3 c3]] w (Says false w) := by
  obtain rfl := empty_of' h_n
  clear h_n
  have gb : 0 < l2 := by omega
  clear h_b
  all_goals
    go_enter Tryz.func125, Tryz.ntmps125
    go_wp2_with fail
    go_ret
    exact ⟨rfl, up (up0 _) _⟩
theorem st5_e (n : ByteArray) (A1 : Option Addr) (A2 A3 : Option Addr) (l1 l2 l3 c1 c2 c3 : Nat) (w : World) (h_n : n.toList.isEmpty = true) (h_b : l2 = 0) (h_e : l3 ≠ 0) : Calls Tryz.prog 125 #[.agg #[.int .i64 5, .string n, .slice A1 l1 c1, .slice A2 l2 c2, .slice A3 l3 c3]] w (Says false w) := by
  obtain rfl := empty_of' h_n
  clear h_n
  subst h_b
  have ge : 0 < l3 := by omega
  clear h_e
  all_goals
    go_enter Tryz.func125, Tryz.ntmps125
    go_wp2_with fail
    go_ret
    exact ⟨rfl, up (up0 _) _⟩
theorem st5_l5 (n : ByteArray) (A1 : Option Addr) (A2 A3 : Option Addr) (l1 l2 l3 c1 c2 c3 : Nat) (w : World) (h_n : n.toList.isEmpty = true) (h_b : l2 = 0) (h_e : l3 = 0) (h_l5 : 1 < l1) : Calls Tryz.prog 125 #[.agg #[.int .i64 5, .string n, .slice A1 l1 c1, .slice A2 l2 c2, .slice A3 l3 c3]] w (Says false w) := by
  obtain rfl := empty_of' h_n
  clear h_n
  subst h_b
  subst h_e
  have fl : decide ((l1 : Int) ≤ 1) = false := decide_eq_false (by omega)
  all_goals
    go_enter Tryz.func125, Tryz.ntmps125
    go_wp2_with fail
    go_ret
    exact ⟨rfl, up (up0 _) _⟩
theorem st5_ok (n : ByteArray) (A1 : Option Addr) (A2 A3 : Option Addr) (l1 l2 l3 c1 c2 c3 : Nat) (w : World) (h_n : n.toList.isEmpty = true) (h_b : l2 = 0) (h_e : l3 = 0) (h_l5 : l1 ≤ 1) : Calls Tryz.prog 125 #[.agg #[.int .i64 5, .string n, .slice A1 l1 c1, .slice A2 l2 c2, .slice A3 l3 c3]] w (Says true w) := by
  obtain rfl := empty_of' h_n
  clear h_n
  subst h_b
  subst h_e
  have fl : decide ((l1 : Int) ≤ 1) = true := decide_eq_true (by omega)
  all_goals
    go_enter Tryz.func125, Tryz.ntmps125
    go_wp2_with fail
    go_ret
    exact ⟨rfl, up (up0 _) _⟩
theorem st6_n (n : ByteArray) (A1 : Option Addr) (A2 A3 : Option Addr) (l1 l2 l3 c1 c2 c3 : Nat) (w : World) (h_n : n.toList.isEmpty = false) : Calls Tryz.prog 125 #[.agg #[.int .i64 6, .string n, .slice A1 l1 c1, .slice A2 l2 c2, .slice A3 l3 c3]] w (Says false w) := by
  all_goals
    go_enter Tryz.func125, Tryz.ntmps125
    go_wp2_with fail
    go_ret
    exact ⟨rfl, up (up0 _) _⟩
theorem st6_b (n : ByteArray) (A1 : Option Addr) (A2 A3 : Option Addr) (l1 l2 l3 c1 c2 c3 : Nat) (w : World) (h_n : n.toList.isEmpty = true) (h_b : l2 ≠ 0) : Calls Tryz.prog 125 #[.agg #[.int .i64 6, .string n, .slice A1 l1 c1, .slice A2 l2 c2, .slice A3 l3 c3]] w (Says false w) := by
  obtain rfl := empty_of' h_n
  clear h_n
  have gb : 0 < l2 := by omega
  clear h_b
  all_goals
    go_enter Tryz.func125, Tryz.ntmps125
    go_wp2_with fail
    go_ret
    exact ⟨rfl, up (up0 _) _⟩
theorem st6_e (n : ByteArray) (A1 : Option Addr) (A2 A3 : Option Addr) (l1 l2 l3 c1 c2 c3 : Nat) (w : World) (h_n : n.toList.isEmpty = true) (h_b : l2 = 0) (h_e : l3 ≠ 0) : Calls Tryz.prog 125 #[.agg #[.int .i64 6, .string n, .slice A1 l1 c1, .slice A2 l2 c2, .slice A3 l3 c3]] w (Says false w) := by
  obtain rfl := empty_of' h_n
  clear h_n
  subst h_b
  have ge : 0 < l3 := by omega
  clear h_e
  all_goals
    go_enter Tryz.func125, Tryz.ntmps125
    go_wp2_with fail
    go_ret
    exact ⟨rfl, up (up0 _) _⟩
theorem st6_l1 (n : ByteArray) (A1 : Option Addr) (A2 A3 : Option Addr) (l1 l2 l3 c1 c2 c3 : Nat) (w : World) (h_n : n.toList.isEmpty = true) (h_b : l2 = 0) (h_e : l3 = 0) (h_l1 : l1 ≠ 1) : Calls Tryz.prog 125 #[.agg #[.int .i64 6, .string n, .slice A1 l1 c1, .slice A2 l2 c2, .slice A3 l3 c3]] w (Says false w) := by
  obtain rfl := empty_of' h_n
  clear h_n
  subst h_b
  subst h_e
  have fl : ((l1 : Int) == 1) = false := beq_eq_false_iff_ne.mpr (by omega)
  clear h_l1
  all_goals
    go_enter Tryz.func125, Tryz.ntmps125
    go_wp2_with fail
    go_ret
    exact ⟨rfl, up (up0 _) _⟩
theorem st6_ok (n : ByteArray) (A1 : Option Addr) (A2 A3 : Option Addr) (l1 l2 l3 c1 c2 c3 : Nat) (w : World) (h_n : n.toList.isEmpty = true) (h_b : l2 = 0) (h_e : l3 = 0) (h_l1 : l1 = 1) : Calls Tryz.prog 125 #[.agg #[.int .i64 6, .string n, .slice A1 l1 c1, .slice A2 l2 c2, .slice A3 l3 c3]] w (Says true w) := by
  obtain rfl := empty_of' h_n
  clear h_n
  subst h_b
  subst h_e
  subst h_l1
  all_goals
    go_enter Tryz.func125, Tryz.ntmps125
    go_wp2_with fail
    go_ret
    exact ⟨rfl, up (up0 _) _⟩
theorem st7_n (n : ByteArray) (A1 : Option Addr) (A2 A3 : Option Addr) (l1 l2 l3 c1 c2 c3 : Nat) (w : World) (h_n : n.toList.isEmpty = false) : Calls Tryz.prog 125 #[.agg #[.int .i64 7, .string n, .slice A1 l1 c1, .slice A2 l2 c2, .slice A3 l3 c3]] w (Says false w) := by
  all_goals
    go_enter Tryz.func125, Tryz.ntmps125
    go_wp2_with fail
    go_ret
    exact ⟨rfl, up (up0 _) _⟩
theorem st7_b (n : ByteArray) (A1 : Option Addr) (A2 A3 : Option Addr) (l1 l2 l3 c1 c2 c3 : Nat) (w : World) (h_n : n.toList.isEmpty = true) (h_b : l2 ≠ 0) : Calls Tryz.prog 125 #[.agg #[.int .i64 7, .string n, .slice A1 l1 c1, .slice A2 l2 c2, .slice A3 l3 c3]] w (Says false w) := by
  obtain rfl := empty_of' h_n
  clear h_n
  have gb : 0 < l2 := by omega
  clear h_b
  all_goals
    go_enter Tryz.func125, Tryz.ntmps125
    go_wp2_with fail
    go_ret
    exact ⟨rfl, up (up0 _) _⟩
theorem st7_e (n : ByteArray) (A1 : Option Addr) (A2 A3 : Option Addr) (l1 l2 l3 c1 c2 c3 : Nat) (w : World) (h_n : n.toList.isEmpty = true) (h_b : l2 = 0) (h_e : l3 ≠ 0) : Calls Tryz.prog 125 #[.agg #[.int .i64 7, .string n, .slice A1 l1 c1, .slice A2 l2 c2, .slice A3 l3 c3]] w (Says false w) := by
  obtain rfl := empty_of' h_n
  clear h_n
  subst h_b
  have ge : 0 < l3 := by omega
  clear h_e
  all_goals
    go_enter Tryz.func125, Tryz.ntmps125
    go_wp2_with fail
    go_ret
    exact ⟨rfl, up (up0 _) _⟩
theorem st7_l1 (n : ByteArray) (A1 : Option Addr) (A2 A3 : Option Addr) (l1 l2 l3 c1 c2 c3 : Nat) (w : World) (h_n : n.toList.isEmpty = true) (h_b : l2 = 0) (h_e : l3 = 0) (h_l1 : l1 ≠ 1) : Calls Tryz.prog 125 #[.agg #[.int .i64 7, .string n, .slice A1 l1 c1, .slice A2 l2 c2, .slice A3 l3 c3]] w (Says false w) := by
  obtain rfl := empty_of' h_n
  clear h_n
  subst h_b
  subst h_e
  have fl : ((l1 : Int) == 1) = false := beq_eq_false_iff_ne.mpr (by omega)
  clear h_l1
  all_goals
    go_enter Tryz.func125, Tryz.ntmps125
    go_wp2_with fail
    go_ret
    exact ⟨rfl, up (up0 _) _⟩
theorem st7_ok (n : ByteArray) (A1 : Option Addr) (A2 A3 : Option Addr) (l1 l2 l3 c1 c2 c3 : Nat) (w : World) (h_n : n.toList.isEmpty = true) (h_b : l2 = 0) (h_e : l3 = 0) (h_l1 : l1 = 1) : Calls Tryz.prog 125 #[.agg #[.int .i64 7, .string n, .slice A1 l1 c1, .slice A2 l2 c2, .slice A3 l3 c3]] w (Says true w) := by
  obtain rfl := empty_of' h_n
  clear h_n
  subst h_b
  subst h_e
  subst h_l1
  all_goals
    go_enter Tryz.func125, Tryz.ntmps125
    go_wp2_with fail
    go_ret
    exact ⟨rfl, up (up0 _) _⟩
theorem st8_l0 (n : ByteArray) (A1 : Option Addr) (A2 A3 : Option Addr) (l1 l2 l3 c1 c2 c3 : Nat) (w : World) (h_l0 : l1 ≠ 0) : Calls Tryz.prog 125 #[.agg #[.int .i64 8, .string n, .slice A1 l1 c1, .slice A2 l2 c2, .slice A3 l3 c3]] w (Says false w) := by
  have fl : ((l1 : Int) == 0) = false := beq_eq_false_iff_ne.mpr (by omega)
  clear h_l0
  all_goals
    go_enter Tryz.func125, Tryz.ntmps125
    go_wp2_with fail
    go_ret
    exact ⟨rfl, up (up0 _) _⟩
theorem st8_ok (n : ByteArray) (A1 : Option Addr) (A2 A3 : Option Addr) (l1 l2 l3 c1 c2 c3 : Nat) (w : World) (h_l0 : l1 = 0) : Calls Tryz.prog 125 #[.agg #[.int .i64 8, .string n, .slice A1 l1 c1, .slice A2 l2 c2, .slice A3 l3 c3]] w (Says true w) := by
  subst h_l0
  all_goals
    go_enter Tryz.func125, Tryz.ntmps125
    go_wp2_with fail
    go_ret
    exact ⟨rfl, up (up0 _) _⟩
theorem st9_n (n : ByteArray) (A1 : Option Addr) (A2 A3 : Option Addr) (l1 l2 l3 c1 c2 c3 : Nat) (w : World) (h_n : n.toList.isEmpty = false) : Calls Tryz.prog 125 #[.agg #[.int .i64 9, .string n, .slice A1 l1 c1, .slice A2 l2 c2, .slice A3 l3 c3]] w (Says false w) := by
  all_goals
    go_enter Tryz.func125, Tryz.ntmps125
    go_wp2_with fail
    go_ret
    exact ⟨rfl, up (up0 _) _⟩
theorem st9_b (n : ByteArray) (A1 : Option Addr) (A2 A3 : Option Addr) (l1 l2 l3 c1 c2 c3 : Nat) (w : World) (h_n : n.toList.isEmpty = true) (h_b : l2 ≠ 0) : Calls Tryz.prog 125 #[.agg #[.int .i64 9, .string n, .slice A1 l1 c1, .slice A2 l2 c2, .slice A3 l3 c3]] w (Says false w) := by
  obtain rfl := empty_of' h_n
  clear h_n
  have gb : 0 < l2 := by omega
  clear h_b
  all_goals
    go_enter Tryz.func125, Tryz.ntmps125
    go_wp2_with fail
    go_ret
    exact ⟨rfl, up (up0 _) _⟩
theorem st9_e (n : ByteArray) (A1 : Option Addr) (A2 A3 : Option Addr) (l1 l2 l3 c1 c2 c3 : Nat) (w : World) (h_n : n.toList.isEmpty = true) (h_b : l2 = 0) (h_e : l3 ≠ 0) : Calls Tryz.prog 125 #[.agg #[.int .i64 9, .string n, .slice A1 l1 c1, .slice A2 l2 c2, .slice A3 l3 c3]] w (Says false w) := by
  obtain rfl := empty_of' h_n
  clear h_n
  subst h_b
  have ge : 0 < l3 := by omega
  clear h_e
  all_goals
    go_enter Tryz.func125, Tryz.ntmps125
    go_wp2_with fail
    go_ret
    exact ⟨rfl, up (up0 _) _⟩
theorem st9_l1 (n : ByteArray) (A1 : Option Addr) (A2 A3 : Option Addr) (l1 l2 l3 c1 c2 c3 : Nat) (w : World) (h_n : n.toList.isEmpty = true) (h_b : l2 = 0) (h_e : l3 = 0) (h_l1 : l1 ≠ 1) : Calls Tryz.prog 125 #[.agg #[.int .i64 9, .string n, .slice A1 l1 c1, .slice A2 l2 c2, .slice A3 l3 c3]] w (Says false w) := by
  obtain rfl := empty_of' h_n
  clear h_n
  subst h_b
  subst h_e
  have fl : ((l1 : Int) == 1) = false := beq_eq_false_iff_ne.mpr (by omega)
  clear h_l1
  all_goals
    go_enter Tryz.func125, Tryz.ntmps125
    go_wp2_with fail
    go_ret
    exact ⟨rfl, up (up0 _) _⟩
theorem st9_x (n : ByteArray) (B o : Nat) (A2 A3 : Option Addr) (l1 l2 l3 c1 c2 c3 : Nat) (w : World) (xk : Int) (a0 : w.cell? ⟨B, o, none⟩ = some (.int .i64 xk)) (h_n : n.toList.isEmpty = true) (h_b : l2 = 0) (h_e : l3 = 0) (h_l1 : l1 = 1) (h_x : (xk ≠ 4 ∧ xk ≠ 5)) : Calls Tryz.prog 125 #[.agg #[.int .i64 9, .string n, .slice (some ⟨B, o, none⟩) l1 c1, .slice A2 l2 c2, .slice A3 l3 c3]] w (Says false w) := by
  have lt1 : B < w.heap.size := World.block_lt_of_cell? w _ a0
  obtain rfl := empty_of' h_n
  clear h_n
  subst h_b
  subst h_e
  subst h_l1
  have x4 : (xk == 4) = false := beq_eq_false_iff_ne.mpr h_x.1
  have x5 : (xk == 5) = false := beq_eq_false_iff_ne.mpr h_x.2
  clear h_x
  all_goals
    go_enter Tryz.func125, Tryz.ntmps125
    go_wp2_with fail
    go_ret
    exact ⟨rfl, up (up0 _) _⟩
theorem st9_ok (n : ByteArray) (B o : Nat) (A2 A3 : Option Addr) (l1 l2 l3 c1 c2 c3 : Nat) (w : World) (xk : Int) (a0 : w.cell? ⟨B, o, none⟩ = some (.int .i64 xk)) (h_n : n.toList.isEmpty = true) (h_b : l2 = 0) (h_e : l3 = 0) (h_l1 : l1 = 1) (h_x : (xk = 4 ∨ xk = 5)) : Calls Tryz.prog 125 #[.agg #[.int .i64 9, .string n, .slice (some ⟨B, o, none⟩) l1 c1, .slice A2 l2 c2, .slice A3 l3 c3]] w (Says true w) := by
  have lt1 : B < w.heap.size := World.block_lt_of_cell? w _ a0
  obtain rfl := empty_of' h_n
  clear h_n
  subst h_b
  subst h_e
  subst h_l1
  rcases h_x with rfl | rfl
  all_goals
    go_enter Tryz.func125, Tryz.ntmps125
    go_wp2_with fail
    go_ret
    exact ⟨rfl, up (up0 _) _⟩
theorem st0_n (k : Int) (hk : k < 1 ∨ 9 < k) (n : ByteArray) (A1 : Option Addr) (A2 A3 : Option Addr) (l1 l2 l3 c1 c2 c3 : Nat) (w : World) (h_n : n.toList.isEmpty = false) : Calls Tryz.prog 125 #[.agg #[.int .i64 k, .string n, .slice A1 l1 c1, .slice A2 l2 c2, .slice A3 l3 c3]] w (Says false w) := by
  have f1 : (k == 1) = false := beq_eq_false_iff_ne.mpr (by omega)
  have f2 : (k == 2) = false := beq_eq_false_iff_ne.mpr (by omega)
  have f3 : (k == 3) = false := beq_eq_false_iff_ne.mpr (by omega)
  have f4 : (k == 4) = false := beq_eq_false_iff_ne.mpr (by omega)
  have f5 : (k == 5) = false := beq_eq_false_iff_ne.mpr (by omega)
  have f6 : (k == 6) = false := beq_eq_false_iff_ne.mpr (by omega)
  have f7 : (k == 7) = false := beq_eq_false_iff_ne.mpr (by omega)
  have f8 : (k == 8) = false := beq_eq_false_iff_ne.mpr (by omega)
  have f9 : (k == 9) = false := beq_eq_false_iff_ne.mpr (by omega)
  clear hk
  all_goals
    go_enter Tryz.func125, Tryz.ntmps125
    go_wp2_with fail
    go_ret
    exact ⟨rfl, up (up0 _) _⟩
theorem st0_b (k : Int) (hk : k < 1 ∨ 9 < k) (n : ByteArray) (A1 : Option Addr) (A2 A3 : Option Addr) (l1 l2 l3 c1 c2 c3 : Nat) (w : World) (h_n : n.toList.isEmpty = true) (h_b : l2 ≠ 0) : Calls Tryz.prog 125 #[.agg #[.int .i64 k, .string n, .slice A1 l1 c1, .slice A2 l2 c2, .slice A3 l3 c3]] w (Says false w) := by
  have f1 : (k == 1) = false := beq_eq_false_iff_ne.mpr (by omega)
  have f2 : (k == 2) = false := beq_eq_false_iff_ne.mpr (by omega)
  have f3 : (k == 3) = false := beq_eq_false_iff_ne.mpr (by omega)
  have f4 : (k == 4) = false := beq_eq_false_iff_ne.mpr (by omega)
  have f5 : (k == 5) = false := beq_eq_false_iff_ne.mpr (by omega)
  have f6 : (k == 6) = false := beq_eq_false_iff_ne.mpr (by omega)
  have f7 : (k == 7) = false := beq_eq_false_iff_ne.mpr (by omega)
  have f8 : (k == 8) = false := beq_eq_false_iff_ne.mpr (by omega)
  have f9 : (k == 9) = false := beq_eq_false_iff_ne.mpr (by omega)
  clear hk
  obtain rfl := empty_of' h_n
  clear h_n
  have gb : 0 < l2 := by omega
  clear h_b
  all_goals
    go_enter Tryz.func125, Tryz.ntmps125
    go_wp2_with fail
    go_ret
    exact ⟨rfl, up (up0 _) _⟩
theorem st0_e (k : Int) (hk : k < 1 ∨ 9 < k) (n : ByteArray) (A1 : Option Addr) (A2 A3 : Option Addr) (l1 l2 l3 c1 c2 c3 : Nat) (w : World) (h_n : n.toList.isEmpty = true) (h_b : l2 = 0) (h_e : l3 ≠ 0) : Calls Tryz.prog 125 #[.agg #[.int .i64 k, .string n, .slice A1 l1 c1, .slice A2 l2 c2, .slice A3 l3 c3]] w (Says false w) := by
  have f1 : (k == 1) = false := beq_eq_false_iff_ne.mpr (by omega)
  have f2 : (k == 2) = false := beq_eq_false_iff_ne.mpr (by omega)
  have f3 : (k == 3) = false := beq_eq_false_iff_ne.mpr (by omega)
  have f4 : (k == 4) = false := beq_eq_false_iff_ne.mpr (by omega)
  have f5 : (k == 5) = false := beq_eq_false_iff_ne.mpr (by omega)
  have f6 : (k == 6) = false := beq_eq_false_iff_ne.mpr (by omega)
  have f7 : (k == 7) = false := beq_eq_false_iff_ne.mpr (by omega)
  have f8 : (k == 8) = false := beq_eq_false_iff_ne.mpr (by omega)
  have f9 : (k == 9) = false := beq_eq_false_iff_ne.mpr (by omega)
  clear hk
  obtain rfl := empty_of' h_n
  clear h_n
  subst h_b
  have ge : 0 < l3 := by omega
  clear h_e
  all_goals
    go_enter Tryz.func125, Tryz.ntmps125
    go_wp2_with fail
    go_ret
    exact ⟨rfl, up (up0 _) _⟩
theorem st0_ok (k : Int) (hk : k < 1 ∨ 9 < k) (n : ByteArray) (A1 : Option Addr) (A2 A3 : Option Addr) (l1 l2 l3 c1 c2 c3 : Nat) (w : World) (h_n : n.toList.isEmpty = true) (h_b : l2 = 0) (h_e : l3 = 0) : Calls Tryz.prog 125 #[.agg #[.int .i64 k, .string n, .slice A1 l1 c1, .slice A2 l2 c2, .slice A3 l3 c3]] w (Says false w) := by
  have f1 : (k == 1) = false := beq_eq_false_iff_ne.mpr (by omega)
  have f2 : (k == 2) = false := beq_eq_false_iff_ne.mpr (by omega)
  have f3 : (k == 3) = false := beq_eq_false_iff_ne.mpr (by omega)
  have f4 : (k == 4) = false := beq_eq_false_iff_ne.mpr (by omega)
  have f5 : (k == 5) = false := beq_eq_false_iff_ne.mpr (by omega)
  have f6 : (k == 6) = false := beq_eq_false_iff_ne.mpr (by omega)
  have f7 : (k == 7) = false := beq_eq_false_iff_ne.mpr (by omega)
  have f8 : (k == 8) = false := beq_eq_false_iff_ne.mpr (by omega)
  have f9 : (k == 9) = false := beq_eq_false_iff_ne.mpr (by omega)
  clear hk
  obtain rfl := empty_of' h_n
  clear h_n
  subst h_b
  subst h_e
  all_goals
    go_enter Tryz.func125, Tryz.ntmps125
    go_wp2_with fail
    go_ret
    exact ⟨rfl, up (up0 _) _⟩
theorem stated_any (k : Int) (n : ByteArray) (e : Exs) (bd el : Sts) (w : World) (v : Value) (hv : (St.mk k n e bd el).Is w v) : Calls Tryz.prog 125 #[v] w (Says (statedB k n e.toList bd.toList.length el.toList.length) w) := by
  unfold St.Is at hv
  obtain ⟨A1, l1, c1, A2, l2, c2, A3, l3, c3, rfl, s1, s2, s3⟩ := hv
  have hl1 := s1.1
  rw [← s2.1, ← s3.1]
  clear s2 s3
  by_cases hk : k < 1 ∨ 9 < k
  · have hf : statedB k n e.toList l2 l3 = false := by unfold statedB; rw [if_neg (by omega), if_neg (by omega), if_neg (by omega), if_neg (by omega), if_neg (by omega), if_neg (by omega), if_neg (by omega)]
    by_cases h_n : n.toList.isEmpty = true
    rotate_left
    · exact says_eq hf (st0_n k hk n A1 A2 A3 l1 l2 l3 c1 c2 c3 w (by simpa using h_n))
    by_cases h_b : l2 = 0
    rotate_left
    · exact says_eq hf (st0_b k hk n A1 A2 A3 l1 l2 l3 c1 c2 c3 w h_n h_b)
    by_cases h_e : l3 = 0
    rotate_left
    · exact says_eq hf (st0_e k hk n A1 A2 A3 l1 l2 l3 c1 c2 c3 w h_n h_b h_e)
    exact says_eq hf (st0_ok k hk n A1 A2 A3 l1 l2 l3 c1 c2 c3 w h_n h_b h_e)
  have hk' : k = 1 ∨ k = 2 ∨ k = 3 ∨ k = 4 ∨ k = 5 ∨ k = 6 ∨ k = 7 ∨ k = 8 ∨ k = 9 := by omega
  clear hk
  rcases hk' with rfl | rfl | rfl | rfl | rfl | rfl | rfl | rfl | rfl
  · skip
    by_cases h_b : l2 = 0
    rotate_left
    · exact says_eq (by unfold statedB; rw [if_pos (by decide)]; simp [h_b]; try omega) (st1_b n A1 A2 A3 l1 l2 l3 c1 c2 c3 w h_b)
    by_cases h_e : l3 = 0
    rotate_left
    · exact says_eq (by unfold statedB; rw [if_pos (by decide)]; simp [h_e]; try omega) (st1_e n A1 A2 A3 l1 l2 l3 c1 c2 c3 w h_b h_e)
    by_cases h_l1 : l1 = 1
    rotate_left
    · exact says_eq (by unfold statedB; rw [if_pos (by decide)]; simp [h_l1, ← hl1]; try omega) (st1_l1 n A1 A2 A3 l1 l2 l3 c1 c2 c3 w h_b h_e h_l1)
    exact says_eq (by unfold statedB; rw [if_pos (by decide)]; simp [h_b, h_e, h_l1, ← hl1]; try omega) (st1_ok n A1 A2 A3 l1 l2 l3 c1 c2 c3 w h_b h_e h_l1)
  · skip
    by_cases h_b : l2 = 0
    rotate_left
    · exact says_eq (by unfold statedB; rw [if_pos (by decide)]; simp [h_b]; try omega) (st2_b n A1 A2 A3 l1 l2 l3 c1 c2 c3 w h_b)
    by_cases h_e : l3 = 0
    rotate_left
    · exact says_eq (by unfold statedB; rw [if_pos (by decide)]; simp [h_e]; try omega) (st2_e n A1 A2 A3 l1 l2 l3 c1 c2 c3 w h_b h_e)
    by_cases h_l1 : l1 = 1
    rotate_left
    · exact says_eq (by unfold statedB; rw [if_pos (by decide)]; simp [h_l1, ← hl1]; try omega) (st2_l1 n A1 A2 A3 l1 l2 l3 c1 c2 c3 w h_b h_e h_l1)
    exact says_eq (by unfold statedB; rw [if_pos (by decide)]; simp [h_b, h_e, h_l1, ← hl1]; try omega) (st2_ok n A1 A2 A3 l1 l2 l3 c1 c2 c3 w h_b h_e h_l1)
  · skip
    by_cases h_n : n.toList.isEmpty = true
    rotate_left
    · exact says_eq (by unfold statedB; rw [if_neg (by decide), if_pos (by decide)]; simp [h_n]; try omega) (st3_n n A1 A2 A3 l1 l2 l3 c1 c2 c3 w (by simpa using h_n))
    by_cases h_l1 : l1 = 1
    rotate_left
    · exact says_eq (by unfold statedB; rw [if_neg (by decide), if_pos (by decide)]; simp [h_l1, ← hl1]; try omega) (st3_l1 n A1 A2 A3 l1 l2 l3 c1 c2 c3 w h_n h_l1)
    exact says_eq (by unfold statedB; rw [if_neg (by decide), if_pos (by decide)]; simp [h_n, h_l1, ← hl1]; try omega) (st3_ok n A1 A2 A3 l1 l2 l3 c1 c2 c3 w h_n h_l1)
  · skip
    by_cases h_n : n.toList.isEmpty = true
    rotate_left
    · exact says_eq (by unfold statedB; rw [if_neg (by decide), if_neg (by decide), if_pos (by decide)]; simp [h_n]; try omega) (st4_n n A1 A2 A3 l1 l2 l3 c1 c2 c3 w (by simpa using h_n))
    by_cases h_e : l3 = 0
    rotate_left
    · exact says_eq (by unfold statedB; rw [if_neg (by decide), if_neg (by decide), if_pos (by decide)]; simp [h_e]; try omega) (st4_e n A1 A2 A3 l1 l2 l3 c1 c2 c3 w h_n h_e)
    by_cases h_l1 : l1 = 1
    rotate_left
    · exact says_eq (by unfold statedB; rw [if_neg (by decide), if_neg (by decide), if_pos (by decide)]; simp [h_l1, ← hl1]; try omega) (st4_l1 n A1 A2 A3 l1 l2 l3 c1 c2 c3 w h_n h_e h_l1)
    exact says_eq (by unfold statedB; rw [if_neg (by decide), if_neg (by decide), if_pos (by decide)]; simp [h_n, h_e, h_l1, ← hl1]; try omega) (st4_ok n A1 A2 A3 l1 l2 l3 c1 c2 c3 w h_n h_e h_l1)
  · skip
    by_cases h_n : n.toList.isEmpty = true
    rotate_left
    · exact says_eq (by unfold statedB; rw [if_neg (by decide), if_neg (by decide), if_neg (by decide), if_pos (by decide)]; simp [h_n]; try omega) (st5_n n A1 A2 A3 l1 l2 l3 c1 c2 c3 w (by simpa using h_n))
    by_cases h_b : l2 = 0
    rotate_left
    · exact says_eq (by unfold statedB; rw [if_neg (by decide), if_neg (by decide), if_neg (by decide), if_pos (by decide)]; simp [h_b]; try omega) (st5_b n A1 A2 A3 l1 l2 l3 c1 c2 c3 w h_n h_b)
    by_cases h_e : l3 = 0
    rotate_left
    · exact says_eq (by unfold statedB; rw [if_neg (by decide), if_neg (by decide), if_neg (by decide), if_pos (by decide)]; simp [h_e]; try omega) (st5_e n A1 A2 A3 l1 l2 l3 c1 c2 c3 w h_n h_b h_e)
    by_cases h_l5 : l1 ≤ 1
    rotate_left
    · exact says_eq (by unfold statedB; rw [if_neg (by decide), if_neg (by decide), if_neg (by decide), if_pos (by decide)]; simp [h_l5, ← hl1]; try omega) (st5_l5 n A1 A2 A3 l1 l2 l3 c1 c2 c3 w h_n h_b h_e (by omega))
    exact says_eq (by unfold statedB; rw [if_neg (by decide), if_neg (by decide), if_neg (by decide), if_pos (by decide)]; simp [h_n, h_b, h_e, h_l5, ← hl1]; try omega) (st5_ok n A1 A2 A3 l1 l2 l3 c1 c2 c3 w h_n h_b h_e h_l5)
  · skip
    by_cases h_n : n.toList.isEmpty = true
    rotate_left
    · exact says_eq (by unfold statedB; rw [if_neg (by decide), if_neg (by decide), if_neg (by decide), if_neg (by decide), if_pos (by decide)]; simp [h_n]; try omega) (st6_n n A1 A2 A3 l1 l2 l3 c1 c2 c3 w (by simpa using h_n))
    by_cases h_b : l2 = 0
    rotate_left
    · exact says_eq (by unfold statedB; rw [if_neg (by decide), if_neg (by decide), if_neg (by decide), if_neg (by decide), if_pos (by decide)]; simp [h_b]; try omega) (st6_b n A1 A2 A3 l1 l2 l3 c1 c2 c3 w h_n h_b)
    by_cases h_e : l3 = 0
    rotate_left
    · exact says_eq (by unfold statedB; rw [if_neg (by decide), if_neg (by decide), if_neg (by decide), if_neg (by decide), if_pos (by decide)]; simp [h_e]; try omega) (st6_e n A1 A2 A3 l1 l2 l3 c1 c2 c3 w h_n h_b h_e)
    by_cases h_l1 : l1 = 1
    rotate_left
    · exact says_eq (by unfold statedB; rw [if_neg (by decide), if_neg (by decide), if_neg (by decide), if_neg (by decide), if_pos (by decide)]; simp [h_l1, ← hl1]; try omega) (st6_l1 n A1 A2 A3 l1 l2 l3 c1 c2 c3 w h_n h_b h_e h_l1)
    exact says_eq (by unfold statedB; rw [if_neg (by decide), if_neg (by decide), if_neg (by decide), if_neg (by decide), if_pos (by decide)]; simp [h_n, h_b, h_e, h_l1, ← hl1]; try omega) (st6_ok n A1 A2 A3 l1 l2 l3 c1 c2 c3 w h_n h_b h_e h_l1)
  · skip
    by_cases h_n : n.toList.isEmpty = true
    rotate_left
    · exact says_eq (by unfold statedB; rw [if_neg (by decide), if_neg (by decide), if_neg (by decide), if_neg (by decide), if_pos (by decide)]; simp [h_n]; try omega) (st7_n n A1 A2 A3 l1 l2 l3 c1 c2 c3 w (by simpa using h_n))
    by_cases h_b : l2 = 0
    rotate_left
    · exact says_eq (by unfold statedB; rw [if_neg (by decide), if_neg (by decide), if_neg (by decide), if_neg (by decide), if_pos (by decide)]; simp [h_b]; try omega) (st7_b n A1 A2 A3 l1 l2 l3 c1 c2 c3 w h_n h_b)
    by_cases h_e : l3 = 0
    rotate_left
    · exact says_eq (by unfold statedB; rw [if_neg (by decide), if_neg (by decide), if_neg (by decide), if_neg (by decide), if_pos (by decide)]; simp [h_e]; try omega) (st7_e n A1 A2 A3 l1 l2 l3 c1 c2 c3 w h_n h_b h_e)
    by_cases h_l1 : l1 = 1
    rotate_left
    · exact says_eq (by unfold statedB; rw [if_neg (by decide), if_neg (by decide), if_neg (by decide), if_neg (by decide), if_pos (by decide)]; simp [h_l1, ← hl1]; try omega) (st7_l1 n A1 A2 A3 l1 l2 l3 c1 c2 c3 w h_n h_b h_e h_l1)
    exact says_eq (by unfold statedB; rw [if_neg (by decide), if_neg (by decide), if_neg (by decide), if_neg (by decide), if_pos (by decide)]; simp [h_n, h_b, h_e, h_l1, ← hl1]; try omega) (st7_ok n A1 A2 A3 l1 l2 l3 c1 c2 c3 w h_n h_b h_e h_l1)
  · skip
    by_cases h_l0 : l1 = 0
    rotate_left
    · exact says_eq (by unfold statedB; rw [if_neg (by decide), if_neg (by decide), if_neg (by decide), if_neg (by decide), if_neg (by decide), if_pos (by decide)]; simp [h_l0, ← hl1]; try omega) (st8_l0 n A1 A2 A3 l1 l2 l3 c1 c2 c3 w h_l0)
    exact says_eq (by unfold statedB; rw [if_neg (by decide), if_neg (by decide), if_neg (by decide), if_neg (by decide), if_neg (by decide), if_pos (by decide)]; simp [h_l0, ← hl1]; try omega) (st8_ok n A1 A2 A3 l1 l2 l3 c1 c2 c3 w h_l0)
  · skip
    by_cases h_n : n.toList.isEmpty = true
    rotate_left
    · exact says_eq (by unfold statedB; rw [if_neg (by decide), if_neg (by decide), if_neg (by decide), if_neg (by decide), if_neg (by decide), if_neg (by decide), if_pos (by decide)]; simp [h_n]; try omega) (st9_n n A1 A2 A3 l1 l2 l3 c1 c2 c3 w (by simpa using h_n))
    by_cases h_b : l2 = 0
    rotate_left
    · exact says_eq (by unfold statedB; rw [if_neg (by decide), if_neg (by decide), if_neg (by decide), if_neg (by decide), if_neg (by decide), if_neg (by decide), if_pos (by decide)]; simp [h_b]; try omega) (st9_b n A1 A2 A3 l1 l2 l3 c1 c2 c3 w h_n h_b)
    by_cases h_e : l3 = 0
    rotate_left
    · exact says_eq (by unfold statedB; rw [if_neg (by decide), if_neg (by decide), if_neg (by decide), if_neg (by decide), if_neg (by decide), if_neg (by decide), if_pos (by decide)]; simp [h_e]; try omega) (st9_e n A1 A2 A3 l1 l2 l3 c1 c2 c3 w h_n h_b h_e)
    by_cases h_l1 : l1 = 1
    rotate_left
    · exact says_eq (by unfold statedB; rw [if_neg (by decide), if_neg (by decide), if_neg (by decide), if_neg (by decide), if_neg (by decide), if_neg (by decide), if_pos (by decide)]; simp [h_l1, ← hl1]; try omega) (st9_l1 n A1 A2 A3 l1 l2 l3 c1 c2 c3 w h_n h_b h_e h_l1)
    subst h_l1
    obtain ⟨B, o, rfl, g1⟩ := s1.at (by decide)
    obtain ⟨x, hx⟩ : ∃ x, e.toList = [x] := List.length_eq_one_iff.1 hl1.symm
    have i1 := g1 0 x (by rw [hx]; rfl)
    obtain ⟨v0, v1, v2, v3, v4, v5, v6, v7, v8, b0, b1, b2, b3, b4, b5, b6, ax⟩ := Ex.In_Is i1
    rw [Nat.zero_mul, Nat.add_zero] at b0
    have hv0 : v0 = x.k := by cases x; unfold Ex.Is at ax; obtain ⟨_, _, _, he, _⟩ := ax; injection he with he; simp only [Array.mk.injEq, List.cons.injEq, Value.int.injEq, true_and] at he; exact he.1
    by_cases h_x : v0 = 4 ∨ v0 = 5
    · exact says_eq (by unfold statedB; rw [if_neg (by decide), if_neg (by decide), if_neg (by decide), if_neg (by decide), if_neg (by decide), if_neg (by decide), if_pos (by decide)]; rw [hx]; rw [hv0] at h_x; simp [h_n, h_b, h_e, h_x]) (st9_ok n B o A2 A3 1 l2 l3 c1 c2 c3 w v0 b0 h_n h_b h_e rfl h_x)
    · exact says_eq (by unfold statedB; rw [if_neg (by decide), if_neg (by decide), if_neg (by decide), if_neg (by decide), if_neg (by decide), if_neg (by decide), if_pos (by decide)]; rw [hx]; rw [hv0] at h_x; simp [(not_or.1 h_x).1, (not_or.1 h_x).2]) (st9_x n B o A2 A3 1 l2 l3 c1 c2 c3 w v0 b0 h_n h_b h_e rfl ⟨fun h => h_x (.inl h), fun h => h_x (.inr h)⟩)
end Go.Proofs.YtbhgpegcdiohlaaGreatDoor.Tr

namespace Go.Proofs.YtbhgpegcdiohlaaGreatDoor.Tr
open Go Go.RowKit Go.Proofs
set_option linter.unusedVariables false
set_option maxRecDepth 100000
set_option maxHeartbeats 40000000
def RStmtsIs (ks : Sts) : Prop := ks.Wf → ∀ (w : World) (A : Option Addr) (l c : Nat), Sl 5 (fun x => x.In w) ks.toList A l → Calls Tryz.prog 88 #[.slice A l c] w (SaysI (errSs ks) w)
theorem stated_b (k : Int) (n : ByteArray) (e : Exs) (bd el : Sts) (z : Bool) (hz : statedB k n e.toList bd.toList.length el.toList.length = z) (w : World) (v : Value) (hv : (St.mk k n e bd el).Is w v) : Calls Tryz.prog 125 #[v] w (Says z w) := hz ▸ stated_any k n e bd el w v hv
theorem rblock_walk (ks : Sts) (hK : ∀ x ∈ ks.toList, RStmtsIs x.bd ∧ RStmtsIs x.el) : RStmtsIs ks := by
  intro hWf w A l c hs
  have hn := hs.2.1
  have HLEN := Hd.mk hs.1
  have G := Hd.mk hs
  have HK := Hd.mk hK
  have HW := Hd.mk (Sts.Wf_iff.1 hWf)
  clear hs hK hWf
  go_enter Tryz.func88, Tryz.ntmps88
  go_wp2_with fail
  go_loopw [3] (fun i w' => ∃ (j : Nat) (r : Sts), j ≤ l ∧ i = .int .i64 j ∧ r.toList = ks.toList.drop j ∧ errSs r = errSs ks ∧ Below w.heap.size w w') (fun i _ => l - (intOf i).toNat)
  case atStart => exact ⟨0, ks, by omega, rfl, rfl, rfl, Below.refl _ _⟩
  case round =>
    obtain ⟨j, r, hj, rfl, hr, hd, hb⟩ := hrel
    have HR := Hd.mk hr
    have HD := Hd.mk hd
    have HB := Hd.mk hb
    clear hr hd hb
    by_cases hlt : j < l
    rotate_left
    · have hnil : r = .nil := Sts.toList_inj (b := .nil) (by have := HR.out; rw [List.drop_of_length_le (by rw [← HLEN.out]; omega)] at this; exact this)
      subst hnil
      go_wp2_with fail
      go_ret
      exact saysI_of (b := 0) (by rw [← HD.out, errSs]) ⟨rfl, HB.out⟩
    cases r with
    | nil => exfalso; have := congrArg List.length HR.out; simp [Sts.toList] at this; have := HLEN.out; omega
    | cons s r =>
    obtain ⟨m1, hr2⟩ := at_drop HR.out
    have HR2 := Hd.mk hr2
    obtain ⟨B, o, rfl, g1⟩ := G.out.at (by omega)
    have i1 := St.In_below HB.out s (g1 j s m1)
    have hk1 := HK.out s (List.mem_of_getElem? m1)
    have hw1 := HW.out s (List.mem_of_getElem? m1)
    cases s with
    | mk k n e bd el =>
    unfold St.Wf at hw1
    obtain ⟨hnz, he0, hbd0, hel0⟩ := hw1
    obtain ⟨A1, l1, c1, A2, l2, c2, A3, l3, c3, a0, a1, a2, a3, a4, s1, s2, s3⟩ := St.In_mk i1
    have hn1 := s1.2.1
    have S1 := Hd.mk s1
    have S2 := Hd.mk s2
    have S3 := Hd.mk s3
    have NZ := Hd.mk hnz
    have EI := Hd.mk (fun x hx => rexprIs x (Exs.Wf_iff.1 he0 x hx))
    have hl1 := Hd.mk s1.1
    obtain ⟨wo, rfl⟩ : ∃ wo : World, wo = wr := ⟨_, rfl⟩
    have SI := Hd.mk (show ∀ w', Below wo.heap.size wo w' → (St.mk k n e bd el).Is w' (.agg #[.int .i64 k, .string n, .slice A1 l1 c1, .slice A2 l2 c2, .slice A3 l3 c3]) from fun w' hb => St.Is_below hb (by unfold St.Is; exact ⟨_, _, _, _, _, _, _, _, _, rfl, s1, s2, s3⟩))
    generalize hsb : errSs bd = sb
    generalize hse : errSs el = se
    have K3 := Hd.mk (fun w (h : Sl 5 (fun x => x.In w) bd.toList A2 l2) => (show Calls Tryz.prog 88 #[.slice A2 l2 c2] w (SaysI sb w) from hsb ▸ hk1.1 hbd0 w A2 l2 c2 h))
    have K4 := Hd.mk (fun w (h : Sl 5 (fun x => x.In w) el.toList A3 l3) => (show Calls Tryz.prog 88 #[.slice A3 l3 c3] w (SaysI se w) from hse ▸ hk1.2 hel0 w A3 l3 c3 h))
    have lt1 : B < wo.heap.size := World.block_lt_of_cell? wo _ a0
    have HE := Hd.mk (show seqI (if statedB k n e.toList bd.toList.length el.toList.length = true then 0 else 1) (seqI (if k = 1 ∨ k = 2 ∨ k = 8 then nameErr n else 0) (seqI (errL e) (seqI sb se))) = errS (.mk k n e bd el) by rw [errS, hsb, hse])
    have HD2 := Hd.mk (show seqI (errS (.mk k n e bd el)) (errSs r) = errSs ks by rw [← HD.out, errSs])
    clear g1 i1 hk1 s1 s2 s3 m1 hr2 he0 hbd0 hel0 hnz hsb hse
    by_cases hst : statedB k n e.toList bd.toList.length el.toList.length = true
    rotate_left
    · have SB := Hd.mk (stated_b k n e bd el false (by simpa using hst))
      have Q := Hd.mk (show (1 : Int) = errSs ks by rw [← HD2.out, ← HE.out, if_neg hst]; rfl)
      clear hst
      go_wp2_with (go_at_call 125; (with_reducible refine ((SB.out _ _ (SI.out _ (up (up0 _) _))).mono ?_)); (rintro e w2 ⟨rfl, hb2⟩; have HB2 := Hd.mk hb2; clear hb2))
      go_ret
      exact saysI_of Q.out ⟨rfl, step (up HB.out _) HB2.out⟩
    have SB := Hd.mk (stated_b k n e bd el true hst)
    have HE1 := Hd.mk (show seqI (seqI (if k = 1 ∨ k = 2 ∨ k = 8 then nameErr n else 0) (seqI (errL e) (seqI sb se))) (errSs r) = errSs ks by rw [← HD2.out, ← HE.out, if_pos hst, seqI_0 rfl])
    clear hst
    have hways : k = 1 ∨ k = 2 ∨ k = 8 ∨ (k ≠ 1 ∧ k ≠ 2 ∧ k ≠ 8) := by omega
    rcases hways with rfl | rfl | rfl | ⟨q1, q2, q8⟩
    · as_aux_lemma =>
      by_cases hnq : nameErr n = 0
      rotate_left
      · have Q := Hd.mk (show nameErr n = errSs ks by rw [← HE1.out, if_pos (by decide), seqI_n hnq, seqI_n hnq])
        generalize hqq : nameErr n = q2 at *
        have HN := Hd.mk hqq
        have hq2 : (q2 == 0) = false := beq_eq_false_iff_ne.mpr hnq
        have hq3 : (q2 != 0) = true := bne_iff_ne.mpr hnq
        clear hqq hnq
        go_wp2_with (first
        | (go_at_call 125; (with_reducible refine ((SB.out _ _ (SI.out _ (up (up0 _) _))).mono ?_)); (rintro e w2 ⟨rfl, hb2⟩; have HB2 := Hd.mk hb2; have hc2 := bcell hb2; have hs2 := bsize1 rfl hb2; clear hb2))
        | (go_at_call 38; (with_reducible refine ((rnameRight n NZ.out _).mono ?_)); (rw [HN.out]; rintro e w3 ⟨rfl, hb3⟩; have HB3 := Hd.mk hb3; have hc3 := bcell hb3; have hs3 := Nat.lt_of_lt_of_le hs2 hb3.size; clear hb3)))
        go_ret
        exact saysI_of Q.out ⟨rfl, step (step (up HB.out _) HB2.out) HB3.out⟩
      have HN := Hd.mk hnq
      have HE3 := Hd.mk (show seqI (seqI (errL e) (seqI sb se)) (errSs r) = errSs ks by rw [← HE1.out, if_pos (by decide), hnq, seqI_0 rfl])
      clear hnq HE1
      go_wp2_with (first
        | (go_at_call 125; (with_reducible refine ((SB.out _ _ (SI.out _ (up (up0 _) _))).mono ?_)); (rintro e w2 ⟨rfl, hb2⟩; have HB2 := Hd.mk hb2; have hc2 := bcell hb2; have hs2 := bsize1 rfl hb2; clear hb2))
        | (go_at_call 38; (with_reducible refine ((rnameRight n NZ.out _).mono ?_)); (rw [HN.out]; rintro e w3 ⟨rfl, hb3⟩; have HB3 := Hd.mk hb3; have hc3 := bcell hb3; have hs3 := Nat.lt_of_lt_of_le hs2 hb3.size; clear hb3)))
      have HBX := Hd.mk (step HB2.out HB3.out)
      go_loopw [6] (fun i w' => ∃ (j2 : Nat) (r2 : Exs), j2 ≤ l1 ∧ i = .int .i64 j2 ∧ r2.toList = e.toList.drop j2 ∧ errL r2 = errL e ∧ Below (wo.alloc (.cells #[.int .i64 1, .string n, .slice A1 l1 c1, .slice A2 l2 c2, .slice A3 l3 c3] 98 (0, 0))).heap.size (wo.alloc (.cells #[.int .i64 1, .string n, .slice A1 l1 c1, .slice A2 l2 c2, .slice A3 l3 c3] 98 (0, 0))) w') (fun i _ => l1 - (intOf i).toNat)
      case atStart => exact ⟨0, e, by omega, rfl, rfl, rfl, HBX.out⟩
      case round =>
        obtain ⟨j2, r2, hj2, rfl, hr, hd, hb⟩ := hrel
        have HR' := Hd.mk hr
        have HD' := Hd.mk hd
        have HB' := Hd.mk hb
        have hcb := bcell hb
        have hsz : wo.heap.size < wr.heap.size := by have := hb.size; simp at this; omega
        clear hr hd hb HBX
        by_cases hlt2 : j2 < l1
        · cases r2 with
          | nil => exfalso; have := congrArg List.length HR'.out; simp [Exs.toList] at this; have := hl1.out; omega
          | cons e1 r2 =>
          obtain ⟨m1, hr2⟩ := at_drop HR'.out
          have HR2' := Hd.mk hr2
          obtain ⟨B', o', rfl, g1⟩ := S1.out.at (by omega)
          have i1 := g1 j2 e1 m1
          have hx := EI.out e1 (List.mem_of_getElem? m1)
          obtain ⟨v0, v1, v2, v3, v4, v5, v6, v7, v8, b0, b1, b2, b3, b4, b5, b6, ax⟩ := Ex.In_Is i1
          have AX := Hd.mk ax
          have lt2 : B' < wo.heap.size := World.block_lt_of_cell? wo _ b0
          clear ax i1 g1 m1 hr2
          generalize hq : errE e1 = q
          have K1 := Hd.mk (fun w v h => hq ▸ hx w v h)
          have QE := Hd.mk hq
          clear hq hx
          by_cases hq0 : q = 0
          · subst hq0
            go_wp2_with (go_at_call 44; (refine ((K1.out _ _ (Ex.Is_below (step (up (up0 _) _) HB'.out) AX.out)).mono ?_)); (rintro e w5 ⟨rfl, hb5⟩; have HB5 := Hd.mk hb5; clear hb5))
            go_roundw
            case rel => exact ⟨j2 + 1, r2, by omega, by go_num, HR2'.out, by rw [← HD'.out, errL, seqI_0 QE.out], HB'.out.trans (HB5.out.mono HB'.out.size)⟩
            case measure => simp [intOf]; omega
          · have Q := Hd.mk (show q = errSs ks by rw [← HE3.out, ← HD'.out, errL, QE.out, seqI_n hq0, seqI_n hq0, seqI_n hq0])
            have hq2 : (q == 0) = false := beq_eq_false_iff_ne.mpr hq0
            have hq3 : (q != 0) = true := bne_iff_ne.mpr hq0
            clear hq0
            go_wp2_with (go_at_call 44; (refine ((K1.out _ _ (Ex.Is_below (step (up (up0 _) _) HB'.out) AX.out)).mono ?_)); (rintro e w5 ⟨rfl, hb5⟩; have HB5 := Hd.mk hb5; clear hb5))
            go_ret
            exact saysI_of Q.out ⟨rfl, step (step (up HB.out _) HB'.out) HB5.out⟩
        · have hnil : r2 = .nil := Exs.toList_inj (b := .nil) (by have := HR'.out; rw [List.drop_of_length_le (by rw [← hl1.out]; omega)] at this; exact this)
          subst hnil
          clear hj2
          have hbig := step (up (up0 wo) _) HB'.out
          have T2 := Hd.mk (SlS_up hbig S2.out)
          have T3 := Hd.mk (SlS_up hbig S3.out)
          have HE4 := Hd.mk (show seqI (seqI sb se) (errSs r) = errSs ks by rw [← HE3.out, ← HD'.out, errL, seqI_0 rfl])
          have HBB := Hd.mk (step HB.out hbig)
          clear hbig
          by_cases hbd : sb = 0
          · subst hbd
            by_cases hel : se = 0
            · subst hel
              go_wp2_with (first
                | (go_at_call 88; (with_reducible refine ((K3.out _ T2.out).mono ?_)); (rintro e w5 ⟨rfl, hb5⟩; have HB5 := Hd.mk hb5; have hc5 := bcell hb5; clear hb5))
                | (go_at_call 88; (with_reducible refine ((K4.out _ (SlS_up HB5.out T3.out)).mono ?_)); (rintro e w6 ⟨rfl, hb6⟩; have HB6 := Hd.mk hb6; clear hb6)))
              go_roundw
              case rel => exact ⟨j + 1, r, by omega, by go_num, HR2.out, by rw [← HE4.out, seqI_0 rfl, seqI_0 rfl], step (step HBB.out HB5.out) HB6.out⟩
              case measure => simp [intOf]; omega
            · have Q := Hd.mk (show se = errSs ks by rw [← HE4.out, seqI_0 rfl, seqI_n hel])
              have hq2 : (se == 0) = false := beq_eq_false_iff_ne.mpr hel
              have hq3 : (se != 0) = true := bne_iff_ne.mpr hel
              clear hel
              go_wp2_with (first
                | (go_at_call 88; (with_reducible refine ((K3.out _ T2.out).mono ?_)); (rintro e w5 ⟨rfl, hb5⟩; have HB5 := Hd.mk hb5; have hc5 := bcell hb5; clear hb5))
                | (go_at_call 88; (with_reducible refine ((K4.out _ (SlS_up HB5.out T3.out)).mono ?_)); (rintro e w6 ⟨rfl, hb6⟩; have HB6 := Hd.mk hb6; clear hb6)))
              go_ret
              exact saysI_of Q.out ⟨rfl, step (step HBB.out HB5.out) HB6.out⟩
          · have Q := Hd.mk (show sb = errSs ks by rw [← HE4.out, seqI_n hbd, seqI_n hbd])
            have hq2 : (sb == 0) = false := beq_eq_false_iff_ne.mpr hbd
            have hq3 : (sb != 0) = true := bne_iff_ne.mpr hbd
            clear hbd
            go_wp2_with (go_at_call 88; (with_reducible refine ((K3.out _ T2.out).mono ?_)); (rintro e w5 ⟨rfl, hb5⟩; have HB5 := Hd.mk hb5; clear hb5))
            go_ret
            exact saysI_of Q.out ⟨rfl, step HBB.out HB5.out⟩
    · as_aux_lemma =>
      by_cases hnq : nameErr n = 0
      rotate_left
      · have Q := Hd.mk (show nameErr n = errSs ks by rw [← HE1.out, if_pos (by decide), seqI_n hnq, seqI_n hnq])
        generalize hqq : nameErr n = q2 at *
        have HN := Hd.mk hqq
        have hq2 : (q2 == 0) = false := beq_eq_false_iff_ne.mpr hnq
        have hq3 : (q2 != 0) = true := bne_iff_ne.mpr hnq
        clear hqq hnq
        go_wp2_with (first
        | (go_at_call 125; (with_reducible refine ((SB.out _ _ (SI.out _ (up (up0 _) _))).mono ?_)); (rintro e w2 ⟨rfl, hb2⟩; have HB2 := Hd.mk hb2; have hc2 := bcell hb2; have hs2 := bsize1 rfl hb2; clear hb2))
        | (go_at_call 38; (with_reducible refine ((rnameRight n NZ.out _).mono ?_)); (rw [HN.out]; rintro e w3 ⟨rfl, hb3⟩; have HB3 := Hd.mk hb3; have hc3 := bcell hb3; have hs3 := Nat.lt_of_lt_of_le hs2 hb3.size; clear hb3)))
        go_ret
        exact saysI_of Q.out ⟨rfl, step (step (up HB.out _) HB2.out) HB3.out⟩
      have HN := Hd.mk hnq
      have HE3 := Hd.mk (show seqI (seqI (errL e) (seqI sb se)) (errSs r) = errSs ks by rw [← HE1.out, if_pos (by decide), hnq, seqI_0 rfl])
      clear hnq HE1
      go_wp2_with (first
        | (go_at_call 125; (with_reducible refine ((SB.out _ _ (SI.out _ (up (up0 _) _))).mono ?_)); (rintro e w2 ⟨rfl, hb2⟩; have HB2 := Hd.mk hb2; have hc2 := bcell hb2; have hs2 := bsize1 rfl hb2; clear hb2))
        | (go_at_call 38; (with_reducible refine ((rnameRight n NZ.out _).mono ?_)); (rw [HN.out]; rintro e w3 ⟨rfl, hb3⟩; have HB3 := Hd.mk hb3; have hc3 := bcell hb3; have hs3 := Nat.lt_of_lt_of_le hs2 hb3.size; clear hb3)))
      have HBX := Hd.mk (step HB2.out HB3.out)
      go_loopw [6] (fun i w' => ∃ (j2 : Nat) (r2 : Exs), j2 ≤ l1 ∧ i = .int .i64 j2 ∧ r2.toList = e.toList.drop j2 ∧ errL r2 = errL e ∧ Below (wo.alloc (.cells #[.int .i64 2, .string n, .slice A1 l1 c1, .slice A2 l2 c2, .slice A3 l3 c3] 98 (0, 0))).heap.size (wo.alloc (.cells #[.int .i64 2, .string n, .slice A1 l1 c1, .slice A2 l2 c2, .slice A3 l3 c3] 98 (0, 0))) w') (fun i _ => l1 - (intOf i).toNat)
      case atStart => exact ⟨0, e, by omega, rfl, rfl, rfl, HBX.out⟩
      case round =>
        obtain ⟨j2, r2, hj2, rfl, hr, hd, hb⟩ := hrel
        have HR' := Hd.mk hr
        have HD' := Hd.mk hd
        have HB' := Hd.mk hb
        have hcb := bcell hb
        have hsz : wo.heap.size < wr.heap.size := by have := hb.size; simp at this; omega
        clear hr hd hb HBX
        by_cases hlt2 : j2 < l1
        · cases r2 with
          | nil => exfalso; have := congrArg List.length HR'.out; simp [Exs.toList] at this; have := hl1.out; omega
          | cons e1 r2 =>
          obtain ⟨m1, hr2⟩ := at_drop HR'.out
          have HR2' := Hd.mk hr2
          obtain ⟨B', o', rfl, g1⟩ := S1.out.at (by omega)
          have i1 := g1 j2 e1 m1
          have hx := EI.out e1 (List.mem_of_getElem? m1)
          obtain ⟨v0, v1, v2, v3, v4, v5, v6, v7, v8, b0, b1, b2, b3, b4, b5, b6, ax⟩ := Ex.In_Is i1
          have AX := Hd.mk ax
          have lt2 : B' < wo.heap.size := World.block_lt_of_cell? wo _ b0
          clear ax i1 g1 m1 hr2
          generalize hq : errE e1 = q
          have K1 := Hd.mk (fun w v h => hq ▸ hx w v h)
          have QE := Hd.mk hq
          clear hq hx
          by_cases hq0 : q = 0
          · subst hq0
            go_wp2_with (go_at_call 44; (refine ((K1.out _ _ (Ex.Is_below (step (up (up0 _) _) HB'.out) AX.out)).mono ?_)); (rintro e w5 ⟨rfl, hb5⟩; have HB5 := Hd.mk hb5; clear hb5))
            go_roundw
            case rel => exact ⟨j2 + 1, r2, by omega, by go_num, HR2'.out, by rw [← HD'.out, errL, seqI_0 QE.out], HB'.out.trans (HB5.out.mono HB'.out.size)⟩
            case measure => simp [intOf]; omega
          · have Q := Hd.mk (show q = errSs ks by rw [← HE3.out, ← HD'.out, errL, QE.out, seqI_n hq0, seqI_n hq0, seqI_n hq0])
            have hq2 : (q == 0) = false := beq_eq_false_iff_ne.mpr hq0
            have hq3 : (q != 0) = true := bne_iff_ne.mpr hq0
            clear hq0
            go_wp2_with (go_at_call 44; (refine ((K1.out _ _ (Ex.Is_below (step (up (up0 _) _) HB'.out) AX.out)).mono ?_)); (rintro e w5 ⟨rfl, hb5⟩; have HB5 := Hd.mk hb5; clear hb5))
            go_ret
            exact saysI_of Q.out ⟨rfl, step (step (up HB.out _) HB'.out) HB5.out⟩
        · have hnil : r2 = .nil := Exs.toList_inj (b := .nil) (by have := HR'.out; rw [List.drop_of_length_le (by rw [← hl1.out]; omega)] at this; exact this)
          subst hnil
          clear hj2
          have hbig := step (up (up0 wo) _) HB'.out
          have T2 := Hd.mk (SlS_up hbig S2.out)
          have T3 := Hd.mk (SlS_up hbig S3.out)
          have HE4 := Hd.mk (show seqI (seqI sb se) (errSs r) = errSs ks by rw [← HE3.out, ← HD'.out, errL, seqI_0 rfl])
          have HBB := Hd.mk (step HB.out hbig)
          clear hbig
          by_cases hbd : sb = 0
          · subst hbd
            by_cases hel : se = 0
            · subst hel
              go_wp2_with (first
                | (go_at_call 88; (with_reducible refine ((K3.out _ T2.out).mono ?_)); (rintro e w5 ⟨rfl, hb5⟩; have HB5 := Hd.mk hb5; have hc5 := bcell hb5; clear hb5))
                | (go_at_call 88; (with_reducible refine ((K4.out _ (SlS_up HB5.out T3.out)).mono ?_)); (rintro e w6 ⟨rfl, hb6⟩; have HB6 := Hd.mk hb6; clear hb6)))
              go_roundw
              case rel => exact ⟨j + 1, r, by omega, by go_num, HR2.out, by rw [← HE4.out, seqI_0 rfl, seqI_0 rfl], step (step HBB.out HB5.out) HB6.out⟩
              case measure => simp [intOf]; omega
            · have Q := Hd.mk (show se = errSs ks by rw [← HE4.out, seqI_0 rfl, seqI_n hel])
              have hq2 : (se == 0) = false := beq_eq_false_iff_ne.mpr hel
              have hq3 : (se != 0) = true := bne_iff_ne.mpr hel
              clear hel
              go_wp2_with (first
                | (go_at_call 88; (with_reducible refine ((K3.out _ T2.out).mono ?_)); (rintro e w5 ⟨rfl, hb5⟩; have HB5 := Hd.mk hb5; have hc5 := bcell hb5; clear hb5))
                | (go_at_call 88; (with_reducible refine ((K4.out _ (SlS_up HB5.out T3.out)).mono ?_)); (rintro e w6 ⟨rfl, hb6⟩; have HB6 := Hd.mk hb6; clear hb6)))
              go_ret
              exact saysI_of Q.out ⟨rfl, step (step HBB.out HB5.out) HB6.out⟩
          · have Q := Hd.mk (show sb = errSs ks by rw [← HE4.out, seqI_n hbd, seqI_n hbd])
            have hq2 : (sb == 0) = false := beq_eq_false_iff_ne.mpr hbd
            have hq3 : (sb != 0) = true := bne_iff_ne.mpr hbd
            clear hbd
            go_wp2_with (go_at_call 88; (with_reducible refine ((K3.out _ T2.out).mono ?_)); (rintro e w5 ⟨rfl, hb5⟩; have HB5 := Hd.mk hb5; clear hb5))
            go_ret
            exact saysI_of Q.out ⟨rfl, step HBB.out HB5.out⟩
    · as_aux_lemma =>
      by_cases hnq : nameErr n = 0
      rotate_left
      · have Q := Hd.mk (show nameErr n = errSs ks by rw [← HE1.out, if_pos (by decide), seqI_n hnq, seqI_n hnq])
        generalize hqq : nameErr n = q2 at *
        have HN := Hd.mk hqq
        have hq2 : (q2 == 0) = false := beq_eq_false_iff_ne.mpr hnq
        have hq3 : (q2 != 0) = true := bne_iff_ne.mpr hnq
        clear hqq hnq
        go_wp2_with (first
        | (go_at_call 125; (with_reducible refine ((SB.out _ _ (SI.out _ (up (up0 _) _))).mono ?_)); (rintro e w2 ⟨rfl, hb2⟩; have HB2 := Hd.mk hb2; have hc2 := bcell hb2; have hs2 := bsize1 rfl hb2; clear hb2))
        | (go_at_call 38; (with_reducible refine ((rnameRight n NZ.out _).mono ?_)); (rw [HN.out]; rintro e w3 ⟨rfl, hb3⟩; have HB3 := Hd.mk hb3; have hc3 := bcell hb3; have hs3 := Nat.lt_of_lt_of_le hs2 hb3.size; clear hb3)))
        go_ret
        exact saysI_of Q.out ⟨rfl, step (step (up HB.out _) HB2.out) HB3.out⟩
      have HN := Hd.mk hnq
      have HE3 := Hd.mk (show seqI (seqI (errL e) (seqI sb se)) (errSs r) = errSs ks by rw [← HE1.out, if_pos (by decide), hnq, seqI_0 rfl])
      clear hnq HE1
      go_wp2_with (first
        | (go_at_call 125; (with_reducible refine ((SB.out _ _ (SI.out _ (up (up0 _) _))).mono ?_)); (rintro e w2 ⟨rfl, hb2⟩; have HB2 := Hd.mk hb2; have hc2 := bcell hb2; have hs2 := bsize1 rfl hb2; clear hb2))
        | (go_at_call 38; (with_reducible refine ((rnameRight n NZ.out _).mono ?_)); (rw [HN.out]; rintro e w3 ⟨rfl, hb3⟩; have HB3 := Hd.mk hb3; have hc3 := bcell hb3; have hs3 := Nat.lt_of_lt_of_le hs2 hb3.size; clear hb3)))
      have HBX := Hd.mk (step HB2.out HB3.out)
      go_loopw [6] (fun i w' => ∃ (j2 : Nat) (r2 : Exs), j2 ≤ l1 ∧ i = .int .i64 j2 ∧ r2.toList = e.toList.drop j2 ∧ errL r2 = errL e ∧ Below (wo.alloc (.cells #[.int .i64 8, .string n, .slice A1 l1 c1, .slice A2 l2 c2, .slice A3 l3 c3] 98 (0, 0))).heap.size (wo.alloc (.cells #[.int .i64 8, .string n, .slice A1 l1 c1, .slice A2 l2 c2, .slice A3 l3 c3] 98 (0, 0))) w') (fun i _ => l1 - (intOf i).toNat)
      case atStart => exact ⟨0, e, by omega, rfl, rfl, rfl, HBX.out⟩
      case round =>
        obtain ⟨j2, r2, hj2, rfl, hr, hd, hb⟩ := hrel
        have HR' := Hd.mk hr
        have HD' := Hd.mk hd
        have HB' := Hd.mk hb
        have hcb := bcell hb
        have hsz : wo.heap.size < wr.heap.size := by have := hb.size; simp at this; omega
        clear hr hd hb HBX
        by_cases hlt2 : j2 < l1
        · cases r2 with
          | nil => exfalso; have := congrArg List.length HR'.out; simp [Exs.toList] at this; have := hl1.out; omega
          | cons e1 r2 =>
          obtain ⟨m1, hr2⟩ := at_drop HR'.out
          have HR2' := Hd.mk hr2
          obtain ⟨B', o', rfl, g1⟩ := S1.out.at (by omega)
          have i1 := g1 j2 e1 m1
          have hx := EI.out e1 (List.mem_of_getElem? m1)
          obtain ⟨v0, v1, v2, v3, v4, v5, v6, v7, v8, b0, b1, b2, b3, b4, b5, b6, ax⟩ := Ex.In_Is i1
          have AX := Hd.mk ax
          have lt2 : B' < wo.heap.size := World.block_lt_of_cell? wo _ b0
          clear ax i1 g1 m1 hr2
          generalize hq : errE e1 = q
          have K1 := Hd.mk (fun w v h => hq ▸ hx w v h)
          have QE := Hd.mk hq
          clear hq hx
          by_cases hq0 : q = 0
          · subst hq0
            go_wp2_with (go_at_call 44; (refine ((K1.out _ _ (Ex.Is_below (step (up (up0 _) _) HB'.out) AX.out)).mono ?_)); (rintro e w5 ⟨rfl, hb5⟩; have HB5 := Hd.mk hb5; clear hb5))
            go_roundw
            case rel => exact ⟨j2 + 1, r2, by omega, by go_num, HR2'.out, by rw [← HD'.out, errL, seqI_0 QE.out], HB'.out.trans (HB5.out.mono HB'.out.size)⟩
            case measure => simp [intOf]; omega
          · have Q := Hd.mk (show q = errSs ks by rw [← HE3.out, ← HD'.out, errL, QE.out, seqI_n hq0, seqI_n hq0, seqI_n hq0])
            have hq2 : (q == 0) = false := beq_eq_false_iff_ne.mpr hq0
            have hq3 : (q != 0) = true := bne_iff_ne.mpr hq0
            clear hq0
            go_wp2_with (go_at_call 44; (refine ((K1.out _ _ (Ex.Is_below (step (up (up0 _) _) HB'.out) AX.out)).mono ?_)); (rintro e w5 ⟨rfl, hb5⟩; have HB5 := Hd.mk hb5; clear hb5))
            go_ret
            exact saysI_of Q.out ⟨rfl, step (step (up HB.out _) HB'.out) HB5.out⟩
        · have hnil : r2 = .nil := Exs.toList_inj (b := .nil) (by have := HR'.out; rw [List.drop_of_length_le (by rw [← hl1.out]; omega)] at this; exact this)
          subst hnil
          clear hj2
          have hbig := step (up (up0 wo) _) HB'.out
          have T2 := Hd.mk (SlS_up hbig S2.out)
          have T3 := Hd.mk (SlS_up hbig S3.out)
          have HE4 := Hd.mk (show seqI (seqI sb se) (errSs r) = errSs ks by rw [← HE3.out, ← HD'.out, errL, seqI_0 rfl])
          have HBB := Hd.mk (step HB.out hbig)
          clear hbig
          by_cases hbd : sb = 0
          · subst hbd
            by_cases hel : se = 0
            · subst hel
              go_wp2_with (first
                | (go_at_call 88; (with_reducible refine ((K3.out _ T2.out).mono ?_)); (rintro e w5 ⟨rfl, hb5⟩; have HB5 := Hd.mk hb5; have hc5 := bcell hb5; clear hb5))
                | (go_at_call 88; (with_reducible refine ((K4.out _ (SlS_up HB5.out T3.out)).mono ?_)); (rintro e w6 ⟨rfl, hb6⟩; have HB6 := Hd.mk hb6; clear hb6)))
              go_roundw
              case rel => exact ⟨j + 1, r, by omega, by go_num, HR2.out, by rw [← HE4.out, seqI_0 rfl, seqI_0 rfl], step (step HBB.out HB5.out) HB6.out⟩
              case measure => simp [intOf]; omega
            · have Q := Hd.mk (show se = errSs ks by rw [← HE4.out, seqI_0 rfl, seqI_n hel])
              have hq2 : (se == 0) = false := beq_eq_false_iff_ne.mpr hel
              have hq3 : (se != 0) = true := bne_iff_ne.mpr hel
              clear hel
              go_wp2_with (first
                | (go_at_call 88; (with_reducible refine ((K3.out _ T2.out).mono ?_)); (rintro e w5 ⟨rfl, hb5⟩; have HB5 := Hd.mk hb5; have hc5 := bcell hb5; clear hb5))
                | (go_at_call 88; (with_reducible refine ((K4.out _ (SlS_up HB5.out T3.out)).mono ?_)); (rintro e w6 ⟨rfl, hb6⟩; have HB6 := Hd.mk hb6; clear hb6)))
              go_ret
              exact saysI_of Q.out ⟨rfl, step (step HBB.out HB5.out) HB6.out⟩
          · have Q := Hd.mk (show sb = errSs ks by rw [← HE4.out, seqI_n hbd, seqI_n hbd])
            have hq2 : (sb == 0) = false := beq_eq_false_iff_ne.mpr hbd
            have hq3 : (sb != 0) = true := bne_iff_ne.mpr hbd
            clear hbd
            go_wp2_with (go_at_call 88; (with_reducible refine ((K3.out _ T2.out).mono ?_)); (rintro e w5 ⟨rfl, hb5⟩; have HB5 := Hd.mk hb5; clear hb5))
            go_ret
            exact saysI_of Q.out ⟨rfl, step HBB.out HB5.out⟩
    · as_aux_lemma =>
      have f1 : (k == 1) = false := beq_eq_false_iff_ne.mpr q1
      have f2 : (k == 2) = false := beq_eq_false_iff_ne.mpr q2
      have f8 : (k == 8) = false := beq_eq_false_iff_ne.mpr q8
      have HE3 := Hd.mk (show seqI (seqI (errL e) (seqI sb se)) (errSs r) = errSs ks by rw [← HE1.out, if_neg (by omega), seqI_0 rfl])
      clear q1 q2 q8 HE1
      go_wp2_with (first
        | (go_at_call 125; (with_reducible refine ((SB.out _ _ (SI.out _ (up (up0 _) _))).mono ?_)); (rintro e w2 ⟨rfl, hb2⟩; have HB2 := Hd.mk hb2; have hc2 := bcell hb2; have hs2 := bsize1 rfl hb2; clear hb2)))
      have HBX := Hd.mk (HB2.out)
      go_loopw [6] (fun i w' => ∃ (j2 : Nat) (r2 : Exs), j2 ≤ l1 ∧ i = .int .i64 j2 ∧ r2.toList = e.toList.drop j2 ∧ errL r2 = errL e ∧ Below (wo.alloc (.cells #[.int .i64 k, .string n, .slice A1 l1 c1, .slice A2 l2 c2, .slice A3 l3 c3] 98 (0, 0))).heap.size (wo.alloc (.cells #[.int .i64 k, .string n, .slice A1 l1 c1, .slice A2 l2 c2, .slice A3 l3 c3] 98 (0, 0))) w') (fun i _ => l1 - (intOf i).toNat)
      case atStart => exact ⟨0, e, by omega, rfl, rfl, rfl, HBX.out⟩
      case round =>
        obtain ⟨j2, r2, hj2, rfl, hr, hd, hb⟩ := hrel
        have HR' := Hd.mk hr
        have HD' := Hd.mk hd
        have HB' := Hd.mk hb
        have hcb := bcell hb
        have hsz : wo.heap.size < wr.heap.size := by have := hb.size; simp at this; omega
        clear hr hd hb HBX
        by_cases hlt2 : j2 < l1
        · cases r2 with
          | nil => exfalso; have := congrArg List.length HR'.out; simp [Exs.toList] at this; have := hl1.out; omega
          | cons e1 r2 =>
          obtain ⟨m1, hr2⟩ := at_drop HR'.out
          have HR2' := Hd.mk hr2
          obtain ⟨B', o', rfl, g1⟩ := S1.out.at (by omega)
          have i1 := g1 j2 e1 m1
          have hx := EI.out e1 (List.mem_of_getElem? m1)
          obtain ⟨v0, v1, v2, v3, v4, v5, v6, v7, v8, b0, b1, b2, b3, b4, b5, b6, ax⟩ := Ex.In_Is i1
          have AX := Hd.mk ax
          have lt2 : B' < wo.heap.size := World.block_lt_of_cell? wo _ b0
          clear ax i1 g1 m1 hr2
          generalize hq : errE e1 = q
          have K1 := Hd.mk (fun w v h => hq ▸ hx w v h)
          have QE := Hd.mk hq
          clear hq hx
          by_cases hq0 : q = 0
          · subst hq0
            go_wp2_with (go_at_call 44; (refine ((K1.out _ _ (Ex.Is_below (step (up (up0 _) _) HB'.out) AX.out)).mono ?_)); (rintro e w5 ⟨rfl, hb5⟩; have HB5 := Hd.mk hb5; clear hb5))
            go_roundw
            case rel => exact ⟨j2 + 1, r2, by omega, by go_num, HR2'.out, by rw [← HD'.out, errL, seqI_0 QE.out], HB'.out.trans (HB5.out.mono HB'.out.size)⟩
            case measure => simp [intOf]; omega
          · have Q := Hd.mk (show q = errSs ks by rw [← HE3.out, ← HD'.out, errL, QE.out, seqI_n hq0, seqI_n hq0, seqI_n hq0])
            have hq2 : (q == 0) = false := beq_eq_false_iff_ne.mpr hq0
            have hq3 : (q != 0) = true := bne_iff_ne.mpr hq0
            clear hq0
            go_wp2_with (go_at_call 44; (refine ((K1.out _ _ (Ex.Is_below (step (up (up0 _) _) HB'.out) AX.out)).mono ?_)); (rintro e w5 ⟨rfl, hb5⟩; have HB5 := Hd.mk hb5; clear hb5))
            go_ret
            exact saysI_of Q.out ⟨rfl, step (step (up HB.out _) HB'.out) HB5.out⟩
        · have hnil : r2 = .nil := Exs.toList_inj (b := .nil) (by have := HR'.out; rw [List.drop_of_length_le (by rw [← hl1.out]; omega)] at this; exact this)
          subst hnil
          clear hj2
          have hbig := step (up (up0 wo) _) HB'.out
          have T2 := Hd.mk (SlS_up hbig S2.out)
          have T3 := Hd.mk (SlS_up hbig S3.out)
          have HE4 := Hd.mk (show seqI (seqI sb se) (errSs r) = errSs ks by rw [← HE3.out, ← HD'.out, errL, seqI_0 rfl])
          have HBB := Hd.mk (step HB.out hbig)
          clear hbig
          by_cases hbd : sb = 0
          · subst hbd
            by_cases hel : se = 0
            · subst hel
              go_wp2_with (first
                | (go_at_call 88; (with_reducible refine ((K3.out _ T2.out).mono ?_)); (rintro e w5 ⟨rfl, hb5⟩; have HB5 := Hd.mk hb5; have hc5 := bcell hb5; clear hb5))
                | (go_at_call 88; (with_reducible refine ((K4.out _ (SlS_up HB5.out T3.out)).mono ?_)); (rintro e w6 ⟨rfl, hb6⟩; have HB6 := Hd.mk hb6; clear hb6)))
              go_roundw
              case rel => exact ⟨j + 1, r, by omega, by go_num, HR2.out, by rw [← HE4.out, seqI_0 rfl, seqI_0 rfl], step (step HBB.out HB5.out) HB6.out⟩
              case measure => simp [intOf]; omega
            · have Q := Hd.mk (show se = errSs ks by rw [← HE4.out, seqI_0 rfl, seqI_n hel])
              have hq2 : (se == 0) = false := beq_eq_false_iff_ne.mpr hel
              have hq3 : (se != 0) = true := bne_iff_ne.mpr hel
              clear hel
              go_wp2_with (first
                | (go_at_call 88; (with_reducible refine ((K3.out _ T2.out).mono ?_)); (rintro e w5 ⟨rfl, hb5⟩; have HB5 := Hd.mk hb5; have hc5 := bcell hb5; clear hb5))
                | (go_at_call 88; (with_reducible refine ((K4.out _ (SlS_up HB5.out T3.out)).mono ?_)); (rintro e w6 ⟨rfl, hb6⟩; have HB6 := Hd.mk hb6; clear hb6)))
              go_ret
              exact saysI_of Q.out ⟨rfl, step (step HBB.out HB5.out) HB6.out⟩
          · have Q := Hd.mk (show sb = errSs ks by rw [← HE4.out, seqI_n hbd, seqI_n hbd])
            have hq2 : (sb == 0) = false := beq_eq_false_iff_ne.mpr hbd
            have hq3 : (sb != 0) = true := bne_iff_ne.mpr hbd
            clear hbd
            go_wp2_with (go_at_call 88; (with_reducible refine ((K3.out _ T2.out).mono ?_)); (rintro e w5 ⟨rfl, hb5⟩; have HB5 := Hd.mk hb5; clear hb5))
            go_ret
            exact saysI_of Q.out ⟨rfl, step HBB.out HB5.out⟩
theorem rblockIs : ∀ ks, RStmtsIs ks := Sts.ind rblock_walk
end Go.Proofs.YtbhgpegcdiohlaaGreatDoor.Tr
