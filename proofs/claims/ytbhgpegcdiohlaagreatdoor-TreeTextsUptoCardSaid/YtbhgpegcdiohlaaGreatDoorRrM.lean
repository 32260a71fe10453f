import Derived.Test.YtbhgpegcdiohlaaGreatDoorRrJ
namespace Go.Proofs.YtbhgpegcdiohlaaGreatDoor.Tr
open Go Go.RowKit Go.Proofs
set_option linter.unusedVariables false
set_option maxRecDepth 100000
set_option maxHeartbeats 40000000
theorem dc1_v (ex : Bool) (n : ByteArray) (t : Int) (A1 A2 A3 : Option Addr) (l1 l2 l3 c1 c2 c3 : Nat) (w : World) (h_v : valuedB t = false) : Calls Tryz.prog 86 #[.agg #[.int .i64 1, .bool ex, .string n, .int .i64 t, .slice A1 l1 c1, .slice A2 l2 c2, .slice A3 l3 c3]] w (Says false w) := by
  have V := Hd.mk h_v
  clear h_v
  go_enter Tryz.func86, Tryz.ntmps86
  go_wp2_with (first | (go_at_call 87; (with_reducible refine ((rvalued_b t _ V.out _).mono ?_)); (rintro e w1 ⟨rfl, rfl⟩)))
  go_ret
  exact ⟨rfl, up (up0 _) _⟩
theorem dc1_e1 (ex : Bool) (n : ByteArray) (t : Int) (A1 A2 A3 : Option Addr) (l1 l2 l3 c1 c2 c3 : Nat) (w : World) (h_v : valuedB t = true) (h_e1 : l2 ≠ 1) : Calls Tryz.prog 86 #[.agg #[.int .i64 1, .bool ex, .string n, .int .i64 t, .slice A1 l1 c1, .slice A2 l2 c2, .slice A3 l3 c3]] w (Says false w) := by
  have V := Hd.mk h_v
  clear h_v
  have fe1 : ((l2 : Int) == 1) = false := beq_eq_false_iff_ne.mpr (by omega)
  clear h_e1
  go_enter Tryz.func86, Tryz.ntmps86
  go_wp2_with (first | (go_at_call 87; (with_reducible refine ((rvalued_b t _ V.out _).mono ?_)); (rintro e w1 ⟨rfl, rfl⟩)))
  go_ret
  exact ⟨rfl, up (up0 _) _⟩
theorem dc1_p (ex : Bool) (n : ByteArray) (t : Int) (A1 A2 A3 : Option Addr) (l1 l2 l3 c1 c2 c3 : Nat) (w : World) (h_v : valuedB t = true) (h_e1 : l2 = 1) (h_p : l1 ≠ 0) : Calls Tryz.prog 86 #[.agg #[.int .i64 1, .bool ex, .string n, .int .i64 t, .slice A1 l1 c1, .slice A2 l2 c2, .slice A3 l3 c3]] w (Says false w) := by
  have V := Hd.mk h_v
  clear h_v
  subst h_e1
  have fp : ((l1 : Int) == 0) = false := beq_eq_false_iff_ne.mpr (by omega)
  clear h_p
  go_enter Tryz.func86, Tryz.ntmps86
  go_wp2_with (first | (go_at_call 87; (with_reducible refine ((rvalued_b t _ V.out _).mono ?_)); (rintro e w1 ⟨rfl, rfl⟩)))
  go_ret
  exact ⟨rfl, up (up0 _) _⟩
theorem dc1_b (ex : Bool) (n : ByteArray) (t : Int) (A1 A2 A3 : Option Addr) (l1 l2 l3 c1 c2 c3 : Nat) (w : World) (h_v : valuedB t = true) (h_e1 : l2 = 1) (h_p : l1 = 0) (h_b : l3 ≠ 0) : Calls Tryz.prog 86 #[.agg #[.int .i64 1, .bool ex, .string n, .int .i64 t, .slice A1 l1 c1, .slice A2 l2 c2, .slice A3 l3 c3]] w (Says false w) := by
  have V := Hd.mk h_v
  clear h_v
  subst h_e1
  subst h_p
  have fb : ((l3 : Int) == 0) = false := beq_eq_false_iff_ne.mpr (by omega)
  clear h_b
  go_enter Tryz.func86, Tryz.ntmps86
  go_wp2_with (first | (go_at_call 87; (with_reducible refine ((rvalued_b t _ V.out _).mono ?_)); (rintro e w1 ⟨rfl, rfl⟩)))
  go_ret
  exact ⟨rfl, up (up0 _) _⟩
theorem dc1_ok (ex : Bool) (n : ByteArray) (t : Int) (A1 A2 A3 : Option Addr) (l1 l2 l3 c1 c2 c3 : Nat) (w : World) (h_v : valuedB t = true) (h_e1 : l2 = 1) (h_p : l1 = 0) (h_b : l3 = 0) : Calls Tryz.prog 86 #[.agg #[.int .i64 1, .bool ex, .string n, .int .i64 t, .slice A1 l1 c1, .slice A2 l2 c2, .slice A3 l3 c3]] w (Says true w) := by
  have V := Hd.mk h_v
  clear h_v
  subst h_e1
  subst h_p
  subst h_b
  go_enter Tryz.func86, Tryz.ntmps86
  go_wp2_with (first | (go_at_call 87; (with_reducible refine ((rvalued_b t _ V.out _).mono ?_)); (rintro e w1 ⟨rfl, rfl⟩)))
  go_ret
  exact ⟨rfl, up (up0 _) _⟩
theorem dc2_x (ex : Bool) (n : ByteArray) (t : Int) (A1 A2 A3 : Option Addr) (l1 l2 l3 c1 c2 c3 : Nat) (w : World) (h_x : ex = true) : Calls Tryz.prog 86 #[.agg #[.int .i64 2, .bool ex, .string n, .int .i64 t, .slice A1 l1 c1, .slice A2 l2 c2, .slice A3 l3 c3]] w (Says false w) := by
  subst h_x
  go_enter Tryz.func86, Tryz.ntmps86
  go_wp2_with (first | (go_at_call 87; (with_reducible refine ((rvalued_b t _ V.out _).mono ?_)); (rintro e w1 ⟨rfl, rfl⟩)))
  go_ret
  exact ⟨rfl, up (up0 _) _⟩
theorem dc2_v (ex : Bool) (n : ByteArray) (t : Int) (A1 A2 A3 : Option Addr) (l1 l2 l3 c1 c2 c3 : Nat) (w : World) (h_x : ex = false) (h_v : valuedB t = false) : Calls Tryz.prog 86 #[.agg #[.int .i64 2, .bool ex, .string n, .int .i64 t, .slice A1 l1 c1, .slice A2 l2 c2, .slice A3 l3 c3]] w (Says false w) := by
  subst h_x
  have V := Hd.mk h_v
  clear h_v
  go_enter Tryz.func86, Tryz.ntmps86
  go_wp2_with (first | (go_at_call 87; (with_reducible refine ((rvalued_b t _ V.out _).mono ?_)); (rintro e w1 ⟨rfl, rfl⟩)))
  go_ret
  exact ⟨rfl, up (up0 _) _⟩
theorem dc2_e1 (ex : Bool) (n : ByteArray) (t : Int) (A1 A2 A3 : Option Addr) (l1 l2 l3 c1 c2 c3 : Nat) (w : World) (h_x : ex = false) (h_v : valuedB t = true) (h_e1 : l2 ≠ 1) : Calls Tryz.prog 86 #[.agg #[.int .i64 2, .bool ex, .string n, .int .i64 t, .slice A1 l1 c1, .slice A2 l2 c2, .slice A3 l3 c3]] w (Says false w) := by
  subst h_x
  have V := Hd.mk h_v
  clear h_v
  have fe1 : ((l2 : Int) == 1) = false := beq_eq_false_iff_ne.mpr (by omega)
  clear h_e1
  go_enter Tryz.func86, Tryz.ntmps86
  go_wp2_with (first | (go_at_call 87; (with_reducible refine ((rvalued_b t _ V.out _).mono ?_)); (rintro e w1 ⟨rfl, rfl⟩)))
  go_ret
  exact ⟨rfl, up (up0 _) _⟩
theorem dc2_p (ex : Bool) (n : ByteArray) (t : Int) (A1 A2 A3 : Option Addr) (l1 l2 l3 c1 c2 c3 : Nat) (w : World) (h_x : ex = false) (h_v : valuedB t = true) (h_e1 : l2 = 1) (h_p : l1 ≠ 0) : Calls Tryz.prog 86 #[.agg #[.int .i64 2, .bool ex, .string n, .int .i64 t, .slice A1 l1 c1, .slice A2 l2 c2, .slice A3 l3 c3]] w (Says false w) := by
  subst h_x
  have V := Hd.mk h_v
  clear h_v
  subst h_e1
  have fp : ((l1 : Int) == 0) = false := beq_eq_false_iff_ne.mpr (by omega)
  clear h_p
  go_enter Tryz.func86, Tryz.ntmps86
  go_wp2_with (first | (go_at_call 87; (with_reducible refine ((rvalued_b t _ V.out _).mono ?_)); (rintro e w1 ⟨rfl, rfl⟩)))
  go_ret
  exact ⟨rfl, up (up0 _) _⟩
theorem dc2_b (ex : Bool) (n : ByteArray) (t : Int) (A1 A2 A3 : Option Addr) (l1 l2 l3 c1 c2 c3 : Nat) (w : World) (h_x : ex = false) (h_v : valuedB t = true) (h_e1 : l2 = 1) (h_p : l1 = 0) (h_b : l3 ≠ 0) : Calls Tryz.prog 86 #[.agg #[.int .i64 2, .bool ex, .string n, .int .i64 t, .slice A1 l1 c1, .slice A2 l2 c2, .slice A3 l3 c3]] w (Says false w) := by
  subst h_x
  have V := Hd.mk h_v
  clear h_v
  subst h_e1
  subst h_p
  have fb : ((l3 : Int) == 0) = false := beq_eq_false_iff_ne.mpr (by omega)
  clear h_b
  go_enter Tryz.func86, Tryz.ntmps86
  go_wp2_with (first | (go_at_call 87; (with_reducible refine ((rvalued_b t _ V.out _).mono ?_)); (rintro e w1 ⟨rfl, rfl⟩)))
  go_ret
  exact ⟨rfl, up (up0 _) _⟩
theorem dc2_ok (ex : Bool) (n : ByteArray) (t : Int) (A1 A2 A3 : Option Addr) (l1 l2 l3 c1 c2 c3 : Nat) (w : World) (h_x : ex = false) (h_v : valuedB t = true) (h_e1 : l2 = 1) (h_p : l1 = 0) (h_b : l3 = 0) : Calls Tryz.prog 86 #[.agg #[.int .i64 2, .bool ex, .string n, .int .i64 t, .slice A1 l1 c1, .slice A2 l2 c2, .slice A3 l3 c3]] w (Says true w) := by
  subst h_x
  have V := Hd.mk h_v
  clear h_v
  subst h_e1
  subst h_p
  subst h_b
  go_enter Tryz.func86, Tryz.ntmps86
  go_wp2_with (first | (go_at_call 87; (with_reducible refine ((rvalued_b t _ V.out _).mono ?_)); (rintro e w1 ⟨rfl, rfl⟩)))
  go_ret
  exact ⟨rfl, up (up0 _) _⟩
theorem dc3a_e0 (ex : Bool) (n : ByteArray) (t : Int) (A1 A2 A3 : Option Addr) (l1 l2 l3 c1 c2 c3 : Nat) (w : World) (h_t : t = 0) (h_e0 : l2 ≠ 0) : Calls Tryz.prog 86 #[.agg #[.int .i64 3, .bool ex, .string n, .int .i64 t, .slice A1 l1 c1, .slice A2 l2 c2, .slice A3 l3 c3]] w (Says false w) := by
  subst h_t
  have fe0 : ((l2 : Int) == 0) = false := beq_eq_false_iff_ne.mpr (by omega)
  clear h_e0
  go_enter Tryz.func86, Tryz.ntmps86
  go_wp2_with (first | (go_at_call 87; (with_reducible refine ((rvalued_b t _ V.out _).mono ?_)); (rintro e w1 ⟨rfl, rfl⟩)))
  go_ret
  exact ⟨rfl, up (up0 _) _⟩
theorem dc3a_ok (ex : Bool) (n : ByteArray) (t : Int) (A1 A2 A3 : Option Addr) (l1 l2 l3 c1 c2 c3 : Nat) (w : World) (h_t : t = 0) (h_e0 : l2 = 0) : Calls Tryz.prog 86 #[.agg #[.int .i64 3, .bool ex, .string n, .int .i64 t, .slice A1 l1 c1, .slice A2 l2 c2, .slice A3 l3 c3]] w (Says true w) := by
  subst h_t
  subst h_e0
  go_enter Tryz.func86, Tryz.ntmps86
  go_wp2_with (first | (go_at_call 87; (with_reducible refine ((rvalued_b t _ V.out _).mono ?_)); (rintro e w1 ⟨rfl, rfl⟩)))
  go_ret
  exact ⟨rfl, up (up0 _) _⟩
theorem dc3b_v (ex : Bool) (n : ByteArray) (t : Int) (A1 A2 A3 : Option Addr) (l1 l2 l3 c1 c2 c3 : Nat) (w : World) (h_t : t ≠ 0) (h_v : valuedB t = false) : Calls Tryz.prog 86 #[.agg #[.int .i64 3, .bool ex, .string n, .int .i64 t, .slice A1 l1 c1, .slice A2 l2 c2, .slice A3 l3 c3]] w (Says false w) := by
  have ft : (t == 0) = false := beq_eq_false_iff_ne.mpr h_t
  clear h_t
  have V := Hd.mk h_v
  clear h_v
  go_enter Tryz.func86, Tryz.ntmps86
  go_wp2_with (first | (go_at_call 87; (with_reducible refine ((rvalued_b t _ V.out _).mono ?_)); (rintro e w1 ⟨rfl, rfl⟩)))
  go_ret
  exact ⟨rfl, up (up0 _) _⟩
theorem dc3b_e0 (ex : Bool) (n : ByteArray) (t : Int) (A1 A2 A3 : Option Addr) (l1 l2 l3 c1 c2 c3 : Nat) (w : World) (h_t : t ≠ 0) (h_v : valuedB t = true) (h_e0 : l2 ≠ 0) : Calls Tryz.prog 86 #[.agg #[.int .i64 3, .bool ex, .string n, .int .i64 t, .slice A1 l1 c1, .slice A2 l2 c2, .slice A3 l3 c3]] w (Says false w) := by
  have ft : (t == 0) = false := beq_eq_false_iff_ne.mpr h_t
  clear h_t
  have V := Hd.mk h_v
  clear h_v
  have fe0 : ((l2 : Int) == 0) = false := beq_eq_false_iff_ne.mpr (by omega)
  clear h_e0
  go_enter Tryz.func86, Tryz.ntmps86
  go_wp2_with (first | (go_at_call 87; (with_reducible refine ((rvalued_b t _ V.out _).mono ?_)); (rintro e w1 ⟨rfl, rfl⟩)))
  go_ret
  exact ⟨rfl, up (up0 _) _⟩
theorem dc3b_ok (ex : Bool) (n : ByteArray) (t : Int) (A1 A2 A3 : Option Addr) (l1 l2 l3 c1 c2 c3 : Nat) (w : World) (h_t : t ≠ 0) (h_v : valuedB t = true) (h_e0 : l2 = 0) : Calls Tryz.prog 86 #[.agg #[.int .i64 3, .bool ex, .string n, .int .i64 t, .slice A1 l1 c1, .slice A2 l2 c2, .slice A3 l3 c3]] w (Says true w) := by
  have ft : (t == 0) = false := beq_eq_false_iff_ne.mpr h_t
  clear h_t
  have V := Hd.mk h_v
  clear h_v
  subst h_e0
  go_enter Tryz.func86, Tryz.ntmps86
  go_wp2_with (first | (go_at_call 87; (with_reducible refine ((rvalued_b t _ V.out _).mono ?_)); (rintro e w1 ⟨rfl, rfl⟩)))
  go_ret
  exact ⟨rfl, up (up0 _) _⟩
theorem dc0 (k : Int) (ex : Bool) (n : ByteArray) (t : Int) (A1 A2 A3 : Option Addr) (l1 l2 l3 c1 c2 c3 : Nat) (w : World) (h1 : k ≠ 1) (h2 : k ≠ 2) (h3 : k ≠ 3) : Calls Tryz.prog 86 #[.agg #[.int .i64 k, .bool ex, .string n, .int .i64 t, .slice A1 l1 c1, .slice A2 l2 c2, .slice A3 l3 c3]] w (Says false w) := by
  have f1 : (k == 1) = false := beq_eq_false_iff_ne.mpr h1
  have f2 : (k == 2) = false := beq_eq_false_iff_ne.mpr h2
  have f3 : (k == 3) = false := beq_eq_false_iff_ne.mpr h3
  clear h1 h2 h3
  go_enter Tryz.func86, Tryz.ntmps86
  go_wp2_with (first | (go_at_call 87; (with_reducible refine ((rvalued_b t _ V.out _).mono ?_)); (rintro e w1 ⟨rfl, rfl⟩)))
  go_ret
  exact ⟨rfl, up (up0 _) _⟩
theorem declared_any (x : De) (w : World) (v : Value) (hv : x.Is w v) : Calls Tryz.prog 86 #[v] w (Says (declaredB x) w) := by
  obtain ⟨A1, l1, c1, A2, l2, c2, A3, l3, c3, rfl, s1, s2, s3⟩ := hv
  obtain ⟨k, ex, n, t, ps, e, bd⟩ := x
  dsimp only at *
  have hu : declaredB ⟨k, ex, n, t, ps, e, bd⟩ = if k = 1 then valuedB t && decide (l2 = 1) && decide (l1 = 0) && decide (l3 = 0) else if k = 2 then valuedB t && decide (l2 = 1) && decide (l1 = 0) && decide (l3 = 0) && !ex else if k = 3 then (decide (t = 0) || valuedB t) && decide (l2 = 0) else false := by
    unfold declaredB
    rw [s1.1, s2.1, s3.1]
  rw [hu]
  clear s1 s2 s3 hu
  by_cases k1 : k = 1
  · subst k1
    by_cases h_v : valuedB t = true
    rotate_left
    · exact says_eq (by rw [if_pos rfl]; simp [h_v]; try omega) (dc1_v ex n t A1 A2 A3 l1 l2 l3 c1 c2 c3 w (by simpa using h_v))
    by_cases h_e1 : l2 = 1
    rotate_left
    · exact says_eq (by rw [if_pos rfl]; simp [h_e1]; try omega) (dc1_e1 ex n t A1 A2 A3 l1 l2 l3 c1 c2 c3 w h_v h_e1)
    by_cases h_p : l1 = 0
    rotate_left
    · exact says_eq (by rw [if_pos rfl]; simp [h_p]; try omega) (dc1_p ex n t A1 A2 A3 l1 l2 l3 c1 c2 c3 w h_v h_e1 h_p)
    by_cases h_b : l3 = 0
    rotate_left
    · exact says_eq (by rw [if_pos rfl]; simp [h_b]; try omega) (dc1_b ex n t A1 A2 A3 l1 l2 l3 c1 c2 c3 w h_v h_e1 h_p h_b)
    exact says_eq (by rw [if_pos rfl]; simp [h_v, h_e1, h_p, h_b]; try omega) (dc1_ok ex n t A1 A2 A3 l1 l2 l3 c1 c2 c3 w h_v h_e1 h_p h_b)
  by_cases k2 : k = 2
  · subst k2
    by_cases h_x : ex = false
    rotate_left
    · exact says_eq (by rw [if_neg (by decide), if_pos rfl]; simp [h_x]; try omega) (dc2_x ex n t A1 A2 A3 l1 l2 l3 c1 c2 c3 w (by simpa using h_x))
    by_cases h_v : valuedB t = true
    rotate_left
    · exact says_eq (by rw [if_neg (by decide), if_pos rfl]; simp [h_v]; try omega) (dc2_v ex n t A1 A2 A3 l1 l2 l3 c1 c2 c3 w h_x (by simpa using h_v))
    by_cases h_e1 : l2 = 1
    rotate_left
    · exact says_eq (by rw [if_neg (by decide), if_pos rfl]; simp [h_e1]; try omega) (dc2_e1 ex n t A1 A2 A3 l1 l2 l3 c1 c2 c3 w h_x h_v h_e1)
    by_cases h_p : l1 = 0
    rotate_left
    · exact says_eq (by rw [if_neg (by decide), if_pos rfl]; simp [h_p]; try omega) (dc2_p ex n t A1 A2 A3 l1 l2 l3 c1 c2 c3 w h_x h_v h_e1 h_p)
    by_cases h_b : l3 = 0
    rotate_left
    · exact says_eq (by rw [if_neg (by decide), if_pos rfl]; simp [h_b]; try omega) (dc2_b ex n t A1 A2 A3 l1 l2 l3 c1 c2 c3 w h_x h_v h_e1 h_p h_b)
    exact says_eq (by rw [if_neg (by decide), if_pos rfl]; simp [h_x, h_v, h_e1, h_p, h_b]; try omega) (dc2_ok ex n t A1 A2 A3 l1 l2 l3 c1 c2 c3 w h_x h_v h_e1 h_p h_b)
  by_cases k3 : k = 3
  · subst k3
    by_cases h_t : t = 0
    · skip
      by_cases h_e0 : l2 = 0
      rotate_left
      · exact says_eq (by rw [if_neg (by decide), if_neg (by decide), if_pos rfl]; simp [h_e0]; try omega) (dc3a_e0 ex n t A1 A2 A3 l1 l2 l3 c1 c2 c3 w h_t h_e0)
      exact says_eq (by rw [if_neg (by decide), if_neg (by decide), if_pos rfl]; simp [h_e0, h_t]; try omega) (dc3a_ok ex n t A1 A2 A3 l1 l2 l3 c1 c2 c3 w h_t h_e0)
    · skip
      by_cases h_v : valuedB t = true
      rotate_left
      · exact says_eq (by rw [if_neg (by decide), if_neg (by decide), if_pos rfl]; simp [h_v]; try omega) (dc3b_v ex n t A1 A2 A3 l1 l2 l3 c1 c2 c3 w h_t (by simpa using h_v))
      by_cases h_e0 : l2 = 0
      rotate_left
      · exact says_eq (by rw [if_neg (by decide), if_neg (by decide), if_pos rfl]; simp [h_e0]; try omega) (dc3b_e0 ex n t A1 A2 A3 l1 l2 l3 c1 c2 c3 w h_t h_v h_e0)
      exact says_eq (by rw [if_neg (by decide), if_neg (by decide), if_pos rfl]; simp [h_v, h_e0, h_t]; try omega) (dc3b_ok ex n t A1 A2 A3 l1 l2 l3 c1 c2 c3 w h_t h_v h_e0)
  exact says_eq (by rw [if_neg k1, if_neg k2, if_neg k3]) (dc0 k ex n t A1 A2 A3 l1 l2 l3 c1 c2 c3 w k1 k2 k3)
theorem declared_b (x : De) (z : Bool) (hz : declaredB x = z) (w : World) (v : Value) (hv : x.Is w v) : Calls Tryz.prog 86 #[v] w (Says z w) := hz ▸ declared_any x w v hv
end Go.Proofs.YtbhgpegcdiohlaaGreatDoor.Tr

namespace Go.Proofs.YtbhgpegcdiohlaaGreatDoor.Tr
open Go Go.RowKit Go.Proofs
set_option linter.unusedVariables false
set_option maxRecDepth 100000
set_option maxHeartbeats 40000000
theorem rdecl_any (x : De) (hw : x.Wf) (w : World) (v : Value) (hx : x.Is w v) : Calls Tryz.prog 39 #[v] w (SaysI (errD x) w) := by
  have X := Hd.mk hx
  have DD := Hd.mk (rdeepDecl_any x)
  have DC := Hd.mk (fun z hz => declared_b x z hz)
  obtain ⟨A1, l1, c1, A2, l2, c2, A3, l3, c3, rfl, s1, s2, s3⟩ := hx
  have HL1 := Hd.mk s1.1
  have HL2 := Hd.mk s2.1
  have hn1 := s1.2.1
  have hn2 := s2.2.1
  have S1 := Hd.mk s1
  have S2 := Hd.mk s2
  have S3 := Hd.mk s3
  have E := Hd.mk (show errD x = _ from rfl)
  obtain ⟨k, ex, n, t, ps, e, bd⟩ := x
  have NZ := Hd.mk hw.1
  have PZ := Hd.mk hw.2.1
  have EI := Hd.mk (fun y hy => rexprIs y (Exs.Wf_iff.1 hw.2.2.1 y hy))
  generalize hsb : errSs bd = sb
  have K3 := Hd.mk (fun w (h : Sl 5 (fun x => x.In w) bd.toList A3 l3) => (show Calls Tryz.prog 88 #[.slice A3 l3 c3] w (SaysI sb w) from hsb ▸ rblockIs bd hw.2.2.2 w A3 l3 c3 h))
  have E0 := Hd.mk (show errD ⟨k, ex, n, t, ps, e, bd⟩ = seqI (if deepDe ⟨k, ex, n, t, ps, e, bd⟩ ≤ 32 then 0 else 13) (seqI (if declaredB ⟨k, ex, n, t, ps, e, bd⟩ = true then 0 else 1) (seqI (nameErr n) (seqI (if ps.length ≤ 8 then 0 else 3) (seqI (errP ps) (seqI (errL e) sb))))) by unfold errD; dsimp only; rw [hsb])
  clear s1 s2 s3 hw hsb E
  dsimp only at *
  generalize errD ⟨k, ex, n, t, ps, e, bd⟩ = R at *
  generalize deepDe ⟨k, ex, n, t, ps, e, bd⟩ = q at *
  generalize declaredB ⟨k, ex, n, t, ps, e, bd⟩ = z at *
  by_cases hd : q ≤ 32
  rotate_left
  · have Q := Hd.mk (show (13 : Int) = R by rw [E0.out, if_neg hd]; rfl)
    have g1 : decide (32 < q) = true := decide_eq_true (by omega)
    clear hd
    go_enter Tryz.func39, Tryz.ntmps39
    go_wp2_with (go_at_call 85; (with_reducible refine ((DD.out _ _ (De.Is_below (up (up0 _) _) X.out)).mono ?_)); (rintro e w1 ⟨rfl, hb1⟩; have HB1 := Hd.mk hb1; have hc1 := bcell hb1; have hs1 := bsize1 rfl hb1; clear hb1))
    go_ret
    exact saysI_of Q.out ⟨rfl, step (up (up0 _) _) HB1.out⟩
  have g1 : decide (32 < q) = false := decide_eq_false (by omega)
  cases z with
  | false =>
    have DC' := Hd.mk (DC.out false rfl)
    have Q := Hd.mk (show (1 : Int) = R by rw [E0.out, if_pos hd]; rfl)
    go_enter Tryz.func39, Tryz.ntmps39
    go_wp2_with (first
      | (go_at_call 85; (with_reducible refine ((DD.out _ _ (De.Is_below (up (up0 _) _) X.out)).mono ?_)); (rintro e w1 ⟨rfl, hb1⟩; have HB1 := Hd.mk hb1; have hc1 := bcell hb1; have hs1 := bsize1 rfl hb1; clear hb1))
      | (go_at_call 86; (with_reducible refine ((DC'.out _ _ (De.Is_below (step (up (up0 _) _) HB1.out) X.out)).mono ?_)); (rintro e w2 ⟨rfl, hb2⟩; have HB2 := Hd.mk hb2; have hc2 := bcell hb2; have hs2 := Nat.lt_of_lt_of_le hs1 hb2.size; clear hb2)))
    go_ret
    exact saysI_of Q.out ⟨rfl, step (step (up (up0 _) _) HB1.out) HB2.out⟩
  | true =>
    have DC' := Hd.mk (DC.out true rfl)
    have E1 := Hd.mk (show R = seqI (nameErr n) (seqI (if ps.length ≤ 8 then 0 else 3) (seqI (errP ps) (seqI (errL e) sb))) by rw [E0.out, if_pos hd, seqI_0 rfl, if_pos rfl, seqI_0 rfl])
    clear hd E0
    by_cases hq : nameErr n = 0
    rotate_left
    · have Q := Hd.mk (show nameErr n = R by rw [E1.out, seqI_n hq])
      generalize hqq : nameErr n = q2 at *
      have HN := Hd.mk hqq
      have hq2 : (q2 == 0) = false := beq_eq_false_iff_ne.mpr hq
      have hq3 : (q2 != 0) = true := bne_iff_ne.mpr hq
      clear hqq hq
      go_enter Tryz.func39, Tryz.ntmps39
      go_wp2_with (first
        | (go_at_call 85; (with_reducible refine ((DD.out _ _ (De.Is_below (up (up0 _) _) X.out)).mono ?_)); (rintro e w1 ⟨rfl, hb1⟩; have HB1 := Hd.mk hb1; have hc1 := bcell hb1; have hs1 := bsize1 rfl hb1; clear hb1))
        | (go_at_call 86; (with_reducible refine ((DC'.out _ _ (De.Is_below (step (up (up0 _) _) HB1.out) X.out)).mono ?_)); (rintro e w2 ⟨rfl, hb2⟩; have HB2 := Hd.mk hb2; have hc2 := bcell hb2; have hs2 := Nat.lt_of_lt_of_le hs1 hb2.size; clear hb2))
        | (go_at_call 38; (with_reducible refine ((rnameRight n NZ.out _).mono ?_)); (rw [HN.out]; rintro e w3 ⟨rfl, hb3⟩; have HB3 := Hd.mk hb3; have hc3 := bcell hb3; have hs3 := Nat.lt_of_lt_of_le hs2 hb3.size; clear hb3)))
      go_ret
      exact saysI_of Q.out ⟨rfl, step (step (step (up (up0 _) _) HB1.out) HB2.out) HB3.out⟩
    have HN := Hd.mk hq
    by_cases h8 : ps.length ≤ 8
    rotate_left
    · have Q := Hd.mk (show (3 : Int) = R by rw [E1.out, seqI_0 hq, if_neg h8]; rfl)
      have g8 : decide (8 < (l1 : Int)) = true := decide_eq_true (by have := HL1.out; omega)
      have g9 : 8 < l1 := by have := HL1.out; omega
      clear h8 hq
      go_enter Tryz.func39, Tryz.ntmps39
      go_wp2_with (first
        | (go_at_call 85; (with_reducible refine ((DD.out _ _ (De.Is_below (up (up0 _) _) X.out)).mono ?_)); (rintro e w1 ⟨rfl, hb1⟩; have HB1 := Hd.mk hb1; have hc1 := bcell hb1; have hs1 := bsize1 rfl hb1; clear hb1))
        | (go_at_call 86; (with_reducible refine ((DC'.out _ _ (De.Is_below (step (up (up0 _) _) HB1.out) X.out)).mono ?_)); (rintro e w2 ⟨rfl, hb2⟩; have HB2 := Hd.mk hb2; have hc2 := bcell hb2; have hs2 := Nat.lt_of_lt_of_le hs1 hb2.size; clear hb2))
        | (go_at_call 38; (with_reducible refine ((rnameRight n NZ.out _).mono ?_)); (rw [HN.out]; rintro e w3 ⟨rfl, hb3⟩; have HB3 := Hd.mk hb3; have hc3 := bcell hb3; have hs3 := Nat.lt_of_lt_of_le hs2 hb3.size; clear hb3)))
      go_ret
      exact saysI_of Q.out ⟨rfl, step (step (step (up (up0 _) _) HB1.out) HB2.out) HB3.out⟩
    have E2 := Hd.mk (show R = seqI (errP ps) (seqI (errL e) sb) by rw [E1.out, seqI_0 hq, if_pos h8, seqI_0 rfl])
    have g8 : decide (8 < (l1 : Int)) = false := decide_eq_false (by have := HL1.out; omega)
    have g9 : ¬ 8 < l1 := by have := HL1.out; omega
    clear h8 hq E1
    go_enter Tryz.func39, Tryz.ntmps39
    go_wp2_with (first
        | (go_at_call 85; (with_reducible refine ((DD.out _ _ (De.Is_below (up (up0 _) _) X.out)).mono ?_)); (rintro e w1 ⟨rfl, hb1⟩; have HB1 := Hd.mk hb1; have hc1 := bcell hb1; have hs1 := bsize1 rfl hb1; clear hb1))
        | (go_at_call 86; (with_reducible refine ((DC'.out _ _ (De.Is_below (step (up (up0 _) _) HB1.out) X.out)).mono ?_)); (rintro e w2 ⟨rfl, hb2⟩; have HB2 := Hd.mk hb2; have hc2 := bcell hb2; have hs2 := Nat.lt_of_lt_of_le hs1 hb2.size; clear hb2))
        | (go_at_call 38; (with_reducible refine ((rnameRight n NZ.out _).mono ?_)); (rw [HN.out]; rintro e w3 ⟨rfl, hb3⟩; have HB3 := Hd.mk hb3; have hc3 := bcell hb3; have hs3 := Nat.lt_of_lt_of_le hs2 hb3.size; clear hb3)))
    have HBX := Hd.mk (step (step HB1.out HB2.out) HB3.out)
    clear hc1 hc2 hc3 hs1 hs2 hs3
    go_loopw [4] (fun i w' => ∃ (j2 : Nat) (r2 : List Pa), j2 ≤ l1 ∧ i = .int .i64 j2 ∧ r2 = ps.drop j2 ∧ errP r2 = errP ps ∧ Below (w.alloc (.cells #[.int .i64 k, .bool ex, .string n, .int .i64 t, .slice A1 l1 c1, .slice A2 l2 c2, .slice A3 l3 c3] 47 (0, 0))).heap.size (w.alloc (.cells #[.int .i64 k, .bool ex, .string n, .int .i64 t, .slice A1 l1 c1, .slice A2 l2 c2, .slice A3 l3 c3] 47 (0, 0))) w') (fun i _ => l1 - (intOf i).toNat)
    case atStart => exact ⟨0, ps, by omega, rfl, rfl, rfl, HBX.out⟩
    case round =>
      obtain ⟨j2, r2, hj2, rfl, hr, hd, hb⟩ := hrel
      have HR' := Hd.mk hr
      have HD' := Hd.mk hd
      have HB' := Hd.mk hb
      have hcb := bcell hb
      have hsz : w.heap.size < wr.heap.size := by have := hb.size; simp at this; omega
      clear hr hd hb HBX
      by_cases hlt2 : j2 < l1
      · cases r2 with
        | nil => exfalso; have := congrArg List.length HR'.out; simp at this; have := HL1.out; omega
        | cons p r2 =>
        obtain ⟨m1, hr2⟩ := at_drop HR'.out
        have HR2' := Hd.mk hr2
        obtain ⟨B', o', rfl, g1⟩ := S1.out.at (by omega)
        have i1 := g1 j2 p m1
        have hz := PZ.out p (List.mem_of_getElem? m1)
        obtain ⟨a0, a1⟩ := i1
        have PZ1 := Hd.mk hz
        have lt2 : B' < w.heap.size := World.block_lt_of_cell? w _ a0
        have lt3 : B' < wr.heap.size := by omega
        obtain ⟨pn, pt⟩ := p
        dsimp only at *
        clear g1 m1 hr2 hz
        by_cases hq : nameErr pn = 0
        rotate_left
        · have Q := Hd.mk (show nameErr pn = R by rw [E2.out, ← HD'.out, errP, seqI_n hq, seqI_n hq])
          generalize hqq : nameErr pn = q2 at *
          have HN2 := Hd.mk hqq
          have hq2 : (q2 == 0) = false := beq_eq_false_iff_ne.mpr hq
          have hq3 : (q2 != 0) = true := bne_iff_ne.mpr hq
          clear hqq hq
          go_wp2_with (go_at_call 38; (with_reducible refine ((rnameRight pn PZ1.out _).mono ?_)); (rw [HN2.out]; rintro e w5 ⟨rfl, hb5⟩; have HB5 := Hd.mk hb5; have hc5 := bcell hb5; clear hb5))
          go_ret
          exact saysI_of Q.out ⟨rfl, step (step (up (up0 _) _) HB'.out) HB5.out⟩
        have HN2 := Hd.mk hq
        by_cases hv2 : valuedB pt = true
        · have V2 := Hd.mk hv2
          have HDn := Hd.mk (show errP r2 = errP ps by rw [← HD'.out, errP, seqI_0 hq]; dsimp only; rw [if_pos hv2, seqI_0 rfl])
          clear hq hv2
          go_wp2_with (first
            | (go_at_call 38; (with_reducible refine ((rnameRight pn PZ1.out _).mono ?_)); (rw [HN2.out]; rintro e w5 ⟨rfl, hb5⟩; have HB5 := Hd.mk hb5; have hc5 := bcell hb5; have hs5 := Nat.lt_of_lt_of_le hsz hb5.size; clear hb5))
            | (go_at_call 87; (with_reducible refine ((rvalued_b pt _ V2.out _).mono ?_)); (rintro e w1 ⟨rfl, rfl⟩)))
          go_roundw
          case rel => exact ⟨j2 + 1, r2, by omega, by go_num, HR2'.out, HDn.out, HB'.out.trans (HB5.out.mono HB'.out.size)⟩
          case measure => simp [intOf]; omega
        · have hv3 : valuedB pt = false := by simpa using hv2
          have V2 := Hd.mk hv3
          have Q := Hd.mk (show (1 : Int) = R by rw [E2.out, ← HD'.out, errP, seqI_0 hq]; dsimp only; rw [if_neg hv2, seqI_n (show (1 : Int) ≠ 0 by decide), seqI_n (show (1 : Int) ≠ 0 by decide)])
          clear hq hv2 hv3
          go_wp2_with (first
            | (go_at_call 38; (with_reducible refine ((rnameRight pn PZ1.out _).mono ?_)); (rw [HN2.out]; rintro e w5 ⟨rfl, hb5⟩; have HB5 := Hd.mk hb5; have hc5 := bcell hb5; have hs5 := Nat.lt_of_lt_of_le hsz hb5.size; clear hb5))
            | (go_at_call 87; (with_reducible refine ((rvalued_b pt _ V2.out _).mono ?_)); (rintro e w1 ⟨rfl, rfl⟩)))
          go_ret
          exact saysI_of Q.out ⟨rfl, step (step (up (up0 _) _) HB'.out) HB5.out⟩
      · have hnil : r2 = [] := by have := HR'.out; rw [List.drop_of_length_le (by rw [← HL1.out]; omega)] at this; exact this
        subst hnil
        clear hj2
        have E3 := Hd.mk (show R = seqI (errL e) sb by rw [E2.out, ← HD'.out, errP, seqI_0 rfl])
        clear HD' HR'
        obtain ⟨wp, rfl⟩ : ∃ wp : World, wp = wr := ⟨_, rfl⟩
        go_wp2_with fail
        go_loopw [6] (fun i w' => ∃ (j3 : Nat) (r3 : Exs), j3 ≤ l2 ∧ i = .int .i64 j3 ∧ r3.toList = e.toList.drop j3 ∧ errL r3 = errL e ∧ Below wp.heap.size wp w') (fun i _ => l2 - (intOf i).toNat)
        case atStart => exact ⟨0, e, by omega, rfl, rfl, rfl, Below.refl _ _⟩
        case round =>
          obtain ⟨j3, r3, hj3, rfl, hr, hd, hb⟩ := hrel
          have HR3 := Hd.mk hr
          have HD3 := Hd.mk hd
          have HB3 := Hd.mk hb
          have hcb3 := bcell hb
          have hsz3 : w.heap.size < wr.heap.size := by have := hb.size; omega
          clear hr hd hb
          by_cases hlt3 : j3 < l2
          · cases r3 with
            | nil => exfalso; have := congrArg List.length HR3.out; simp [Exs.toList] at this; have := HL2.out; omega
            | cons e1 r3 =>
            obtain ⟨m1, hr2⟩ := at_drop HR3.out
            have HR4 := Hd.mk hr2
            obtain ⟨B', o', rfl, g1⟩ := S2.out.at (by omega)
            have i1 := g1 j3 e1 m1
            have hx := EI.out e1 (List.mem_of_getElem? m1)
            obtain ⟨v0, v1, v2, v3, v4, v5, v6, v7, v8, a0, a1, a2, a3, a4, a5, a6, ax⟩ := Ex.In_Is i1
            have AX := Hd.mk ax
            have lt2 : B' < w.heap.size := World.block_lt_of_cell? w _ a0
            have lt3 : B' < wp.heap.size := by omega
            clear ax i1 g1 m1 hr2
            generalize hq : errE e1 = q3
            have K1 := Hd.mk (fun w v h => hq ▸ hx w v h)
            have QE := Hd.mk hq
            clear hq hx
            by_cases hq0 : q3 = 0
            · subst hq0
              go_wp2_with (go_at_call 44; (refine ((K1.out _ _ (Ex.Is_below (step (step (up (up0 _) _) HB'.out) HB3.out) AX.out)).mono ?_)); (rintro e w5 ⟨rfl, hb5⟩; have HB5 := Hd.mk hb5; clear hb5))
              go_roundw
              case rel => exact ⟨j3 + 1, r3, by omega, by go_num, HR4.out, by rw [← HD3.out, errL, seqI_0 QE.out], HB3.out.trans (HB5.out.mono HB3.out.size)⟩
              case measure => simp [intOf]; omega
            · have Q := Hd.mk (show q3 = R by rw [E3.out, ← HD3.out, errL, QE.out, seqI_n hq0, seqI_n hq0])
              have hq2 : (q3 == 0) = false := beq_eq_false_iff_ne.mpr hq0
              have hq3 : (q3 != 0) = true := bne_iff_ne.mpr hq0
              clear hq0
              go_wp2_with (go_at_call 44; (refine ((K1.out _ _ (Ex.Is_below (step (step (up (up0 _) _) HB'.out) HB3.out) AX.out)).mono ?_)); (rintro e w5 ⟨rfl, hb5⟩; have HB5 := Hd.mk hb5; clear hb5))
              go_ret
              exact saysI_of Q.out ⟨rfl, step (step (step (up (up0 _) _) HB'.out) HB3.out) HB5.out⟩
          · have hnil : r3 = .nil := Exs.toList_inj (b := .nil) (by have := HR3.out; rw [List.drop_of_length_le (by rw [← HL2.out]; omega)] at this; exact this)
            subst hnil
            clear hj3
            have HBB := Hd.mk (step (step (up (up0 _) _) HB'.out) HB3.out)
            have T3 := Hd.mk (SlS_up HBB.out S3.out)
            have E4 := Hd.mk (show sb = R by rw [E3.out, ← HD3.out, errL, seqI_0 rfl])
            go_wp2_with (go_at_call 88; (with_reducible refine ((K3.out _ T3.out).mono ?_)); (rintro e w5 ⟨rfl, hb5⟩; have HB5 := Hd.mk hb5; clear hb5))
            go_ret
            exact saysI_of E4.out ⟨rfl, step HBB.out HB5.out⟩
end Go.Proofs.YtbhgpegcdiohlaaGreatDoor.Tr

namespace Go.Proofs.YtbhgpegcdiohlaaGreatDoor.Tr
open Go Go.RowKit Go.Proofs
set_option linter.unusedVariables false
set_option maxRecDepth 100000
set_option maxHeartbeats 40000000
theorem rright_any (m : Mo) (hw : m.Wf) (v : Value) (w : World) (hx : m.Is w v) : Calls Tryz.prog 14 #[v] w (SaysI (errM m) w) := by
  obtain ⟨A1, l1, c1, A2, l2, c2, rfl, s1, s2⟩ := hx
  have HL1 := Hd.mk s1.1
  have HL2 := Hd.mk s2.1
  have hn1 := s1.2.1
  have hn2 := s2.2.1
  have S1 := Hd.mk s1
  have S2 := Hd.mk s2
  obtain ⟨mn, im, ds⟩ := m
  dsimp only at *
  have NZ := Hd.mk hw.1
  have IZ := Hd.mk hw.2.1
  have DI := Hd.mk (fun (d : De) (h : d ∈ ds) => rdecl_any d (hw.2.2 d h))
  have E := Hd.mk (show errM ⟨mn, im, ds⟩ = seqI (nameErr mn) (seqI (if im.length ≤ 16 then 0 else 3) (seqI (errN im) (seqI (if ds.length ≤ 64 then 0 else 3) (errDs ds)))) from rfl)
  generalize errM ⟨mn, im, ds⟩ = R at *
  clear s1 s2 hw
  by_cases hq : nameErr mn = 0
  rotate_left
  · have Q := Hd.mk (show nameErr mn = R by rw [E.out, seqI_n hq])
    generalize hqq : nameErr mn = q2 at *
    have HN := Hd.mk hqq
    have hq2 : (q2 == 0) = false := beq_eq_false_iff_ne.mpr hq
    have hq3 : (q2 != 0) = true := bne_iff_ne.mpr hq
    clear hqq hq
    go_enter Tryz.func14, Tryz.ntmps14
    go_wp2_with (go_at_call 38; (with_reducible refine ((rnameRight mn NZ.out _).mono ?_)); (rw [HN.out]; rintro e w4 ⟨rfl, hb4⟩; have HB4 := Hd.mk hb4; clear hb4))
    go_ret
    exact saysI_of Q.out ⟨rfl, step (up (up0 _) _) HB4.out⟩
  have HN := Hd.mk hq
  by_cases h8 : im.length ≤ 16
  rotate_left
  · have Q := Hd.mk (show (3 : Int) = R by rw [E.out, seqI_0 hq, if_neg h8]; rfl)
    have g8 : decide (16 < (l1 : Int)) = true := decide_eq_true (by have := HL1.out; omega)
    have g9 : 16 < l1 := by have := HL1.out; omega
    clear h8 hq
    go_enter Tryz.func14, Tryz.ntmps14
    go_wp2_with (go_at_call 38; (with_reducible refine ((rnameRight mn NZ.out _).mono ?_)); (rw [HN.out]; rintro e w4 ⟨rfl, hb4⟩; have HB4 := Hd.mk hb4; have hc4 := bcell hb4; have hs4 := bsize1 rfl hb4; clear hb4))
    go_ret
    exact saysI_of Q.out ⟨rfl, step (up (up0 _) _) HB4.out⟩
  have E2 := Hd.mk (show R = seqI (errN im) (seqI (if ds.length ≤ 64 then 0 else 3) (errDs ds)) by rw [E.out, seqI_0 hq, if_pos h8, seqI_0 rfl])
  have g8 : decide (16 < (l1 : Int)) = false := decide_eq_false (by have := HL1.out; omega)
  have g9 : ¬ 16 < l1 := by have := HL1.out; omega
  clear h8 hq E
  go_enter Tryz.func14, Tryz.ntmps14
  go_wp2_with (go_at_call 38; (with_reducible refine ((rnameRight mn NZ.out _).mono ?_)); (rw [HN.out]; rintro e w4 ⟨rfl, hb4⟩; have HB4 := Hd.mk hb4; have hc4 := bcell hb4; have hs4 := bsize1 rfl hb4; clear hb4))
  clear hc4 hs4
  go_loopw [4] (fun i w' => ∃ (j2 : Nat) (r2 : List ByteArray), j2 ≤ l1 ∧ i = .int .i64 j2 ∧ r2 = im.drop j2 ∧ errN r2 = errN im ∧ Below (w.alloc (.cells #[.string mn, .slice A1 l1 c1, .slice A2 l2 c2] 25 (0, 0))).heap.size (w.alloc (.cells #[.string mn, .slice A1 l1 c1, .slice A2 l2 c2] 25 (0, 0))) w') (fun i _ => l1 - (intOf i).toNat)
  case atStart => exact ⟨0, im, by omega, rfl, rfl, rfl, HB4.out⟩
  case round =>
    obtain ⟨j2, r2, hj2, rfl, hr, hd, hb⟩ := hrel
    have HR' := Hd.mk hr
    have HD' := Hd.mk hd
    have HB' := Hd.mk hb
    have hcb := bcell hb
    have hsz : w.heap.size < wr.heap.size := by have := hb.size; simp at this; omega
    clear hr hd hb
    by_cases hlt2 : j2 < l1
    · cases r2 with
      | nil => exfalso; have := congrArg List.length HR'.out; simp at this; have := HL1.out; omega
      | cons p r2 =>
      obtain ⟨m1, hr2⟩ := at_drop HR'.out
      have HR2' := Hd.mk hr2
      obtain ⟨B', o', rfl, g1⟩ := S1.out.at (by omega)
      have a5 := g1 j2 p m1
      unfold strIn at a5
      rw [Nat.mul_one] at a5
      have PZ1 := Hd.mk (IZ.out p (List.mem_of_getElem? m1))
      have lt2 : B' < w.heap.size := World.block_lt_of_cell? w _ a5
      have lt3 : B' < wr.heap.size := by omega
      clear g1 m1 hr2
      by_cases hq : nameErr p = 0
      rotate_left
      · have Q := Hd.mk (show nameErr p = R from by rw [E2.out, ← HD'.out, errN, seqI_n hq, seqI_n hq])
        generalize hqq : nameErr p = q2 at *
        have HN2 := Hd.mk hqq
        have hq2 : (q2 == 0) = false := beq_eq_false_iff_ne.mpr hq
        have hq3 : (q2 != 0) = true := bne_iff_ne.mpr hq
        clear hqq hq
        go_wp2_with (go_at_call 38; (with_reducible refine ((rnameRight p PZ1.out _).mono ?_)); (rw [HN2.out]; rintro e w5 ⟨rfl, hb5⟩; have HB5 := Hd.mk hb5; clear hb5))
        go_ret
        exact saysI_of Q.out ⟨rfl, step (step (up (up0 _) _) HB'.out) HB5.out⟩
      have HN2 := Hd.mk hq
      have HDn := Hd.mk (show errN r2 = errN im by rw [← HD'.out, errN, seqI_0 hq])
      clear hq
      go_wp2_with (go_at_call 38; (with_reducible refine ((rnameRight p PZ1.out _).mono ?_)); (rw [HN2.out]; rintro e w5 ⟨rfl, hb5⟩; have HB5 := Hd.mk hb5; clear hb5))
      go_roundw
      case rel => exact ⟨j2 + 1, r2, by omega, by go_num, HR2'.out, HDn.out, HB'.out.trans (HB5.out.mono HB'.out.size)⟩
      case measure => simp [intOf]; omega
    · have hnil : r2 = [] := by have := HR'.out; rw [List.drop_of_length_le (by rw [← HL1.out]; omega)] at this; exact this
      subst hnil
      clear hj2
      have E3 := Hd.mk (show R = seqI (if ds.length ≤ 64 then 0 else 3) (errDs ds) by rw [E2.out, ← HD'.out, errN, seqI_0 rfl])
      clear HD' HR'
      by_cases h64 : ds.length ≤ 64
      rotate_left
      · have Q := Hd.mk (show (3 : Int) = R by rw [E3.out, if_neg h64]; rfl)
        have g64 : decide (64 < (l2 : Int)) = true := decide_eq_true (by have := HL2.out; omega)
        have g65 : 64 < l2 := by have := HL2.out; omega
        clear h64
        go_wp2_with fail
        go_ret
        exact saysI_of Q.out ⟨rfl, step (up (up0 _) _) HB'.out⟩
      have E4 := Hd.mk (show R = errDs ds by rw [E3.out, if_pos h64, seqI_0 rfl])
      have g64 : decide (64 < (l2 : Int)) = false := decide_eq_false (by have := HL2.out; omega)
      have g65 : ¬ 64 < l2 := by have := HL2.out; omega
      clear h64
      obtain ⟨wp, rfl⟩ : ∃ wp : World, wp = wr := ⟨_, rfl⟩
      go_wp2_with fail
      go_loopw [6] (fun i w' => ∃ (j3 : Nat) (r3 : List De), j3 ≤ l2 ∧ i = .int .i64 j3 ∧ r3 = ds.drop j3 ∧ errDs r3 = errDs ds ∧ Below wp.heap.size wp w') (fun i _ => l2 - (intOf i).toNat)
      case atStart => exact ⟨0, ds, by omega, rfl, rfl, rfl, Below.refl _ _⟩
      case round =>
        obtain ⟨j3, r3, hj3, rfl, hr, hd, hb⟩ := hrel
        have HR3 := Hd.mk hr
        have HD3 := Hd.mk hd
        have HB3 := Hd.mk hb
        have hcb3 := bcell hb
        have hsz3 : w.heap.size < wr.heap.size := by have := hb.size; omega
        clear hr hd hb
        by_cases hlt3 : j3 < l2
        · cases r3 with
          | nil => exfalso; have := congrArg List.length HR3.out; simp at this; have := HL2.out; omega
          | cons d r3 =>
          obtain ⟨m1, hr2⟩ := at_drop HR3.out
          have HR4 := Hd.mk hr2
          obtain ⟨B', o', rfl, g1⟩ := S2.out.at (by omega)
          have i1 := g1 j3 d m1
          have hx := DI.out d (List.mem_of_getElem? m1)
          obtain ⟨v0, v1, v2, v3, v4, v5, v6, v7, v8, v9, v10, v11, v12, b0, b1, b2, b3, b4, b5, b6, ax⟩ := De.In_Is i1
          have AX := Hd.mk ax
          have lt2 : B' < w.heap.size := World.block_lt_of_cell? w _ b0
          have lt3 : B' < wp.heap.size := by omega
          clear ax i1 g1 m1 hr2
          generalize hq : errD d = q3
          have K1 := Hd.mk (fun w v h => hq ▸ hx w v h)
          have QE := Hd.mk hq
          clear hq hx
          by_cases hq0 : q3 = 0
          · subst hq0
            go_wp2_with (go_at_call 39; (refine ((K1.out _ _ (De.Is_below (step (step (up (up0 _) _) HB'.out) HB3.out) AX.out)).mono ?_)); (rintro e w5 ⟨rfl, hb5⟩; have HB5 := Hd.mk hb5; clear hb5))
            go_roundw
            case rel => exact ⟨j3 + 1, r3, by omega, by go_num, HR4.out, by rw [← HD3.out, errDs, seqI_0 QE.out], HB3.out.trans (HB5.out.mono HB3.out.size)⟩
            case measure => simp [intOf]; omega
          · have Q := Hd.mk (show q3 = R by rw [E4.out, ← HD3.out, errDs, QE.out, seqI_n hq0])
            have hq2 : (q3 == 0) = false := beq_eq_false_iff_ne.mpr hq0
            have hq3 : (q3 != 0) = true := bne_iff_ne.mpr hq0
            clear hq0
            go_wp2_with (go_at_call 39; (refine ((K1.out _ _ (De.Is_below (step (step (up (up0 _) _) HB'.out) HB3.out) AX.out)).mono ?_)); (rintro e w5 ⟨rfl, hb5⟩; have HB5 := Hd.mk hb5; clear hb5))
            go_ret
            exact saysI_of Q.out ⟨rfl, step (step (step (up (up0 _) _) HB'.out) HB3.out) HB5.out⟩
        · have hnil : r3 = [] := by have := HR3.out; rw [List.drop_of_length_le (by rw [← HL2.out]; omega)] at this; exact this
          subst hnil
          go_wp2_with fail
          go_ret
          exact saysI_of (b := 0) (by rw [E4.out, ← HD3.out, errDs]) ⟨rfl, step (step (up (up0 _) _) HB'.out) HB3.out⟩
theorem rrightExpr_any (x : Ex) (hw : x.Wf) (v : Value) (w : World) (hx : x.Is w v) : Calls Tryz.prog 16 #[v] w (SaysI (errX x) w) := by
  have X := Hd.mk hx
  have DD := Hd.mk (rdeepIs x 1 0)
  have EI := Hd.mk (rexprIs x hw)
  have E := Hd.mk (show errX x = seqI (if deepE x 1 0 ≤ 32 then 0 else 13) (errE x) from rfl)
  obtain ⟨cs, rfl⟩ : ∃ cs, v = .agg cs := by
    cases x; unfold Ex.Is at hx; obtain ⟨A, l, c, e, _⟩ := hx; exact ⟨_, e⟩
  obtain ⟨v0, v1, v2, v3, v4, v5, v6, v7, v8, rfl, hc⟩ := Ex.boxed hx 31
  clear hc hx hw
  generalize deepE x 1 0 = q at *
  generalize errX x = R at *
  generalize errE x = r at *
  by_cases hd : q ≤ 32
  · have Q := Hd.mk (show r = R by rw [E.out, if_pos hd, seqI_0 rfl])
    have g1 : decide (32 < q) = false := decide_eq_false (by omega)
    clear hd
    go_enter Tryz.func16, Tryz.ntmps16
    go_wp2_with (first
      | (go_at_call 43; (with_reducible refine ((DD.out _ _ (Ex.Is_below (up (up0 _) _) X.out)).mono ?_)); (rintro e w1 ⟨rfl, hb1⟩; have HB1 := Hd.mk hb1; have hc1 := bcell hb1; have hs1 := bsize1 rfl hb1; clear hb1))
      | (go_at_call 44; (with_reducible refine ((EI.out _ _ (Ex.Is_below (step (up (up0 _) _) HB1.out) X.out)).mono ?_)); (rintro e w2 ⟨rfl, hb2⟩; have HB2 := Hd.mk hb2; clear hb2)))
    go_ret
    exact saysI_of Q.out ⟨rfl, step (step (up (up0 _) _) HB1.out) HB2.out⟩
  · have Q := Hd.mk (show (13 : Int) = R by rw [E.out, if_neg hd]; rfl)
    have g1 : decide (32 < q) = true := decide_eq_true (by omega)
    clear hd
    go_enter Tryz.func16, Tryz.ntmps16
    go_wp2_with (go_at_call 43; (with_reducible refine ((DD.out _ _ (Ex.Is_below (up (up0 _) _) X.out)).mono ?_)); (rintro e w1 ⟨rfl, hb1⟩; have HB1 := Hd.mk hb1; clear hb1))
    go_ret
    exact saysI_of Q.out ⟨rfl, step (up (up0 _) _) HB1.out⟩
end Go.Proofs.YtbhgpegcdiohlaaGreatDoor.Tr
