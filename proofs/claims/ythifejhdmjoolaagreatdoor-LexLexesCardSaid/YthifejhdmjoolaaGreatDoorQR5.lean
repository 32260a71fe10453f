-- WRITTEN BY A PROGRAM OF THE SESSION (wip/myprint.sh): Lean checks it.
import Derived.Test.YthifejhdmjoolaaGreatDoorQR0
import Derived.Test.YthifejhdmjoolaaGreatDoorQR4
namespace Go.Proofs.YthifejhdmjoolaaGreatDoor.QR
open Go.Proofs.YthifejhdmjoolaaGreatDoorG
open Go.RowKit Go.Proofs.YthifejhdmjoolaaGreatDoorW.PrintWords Go.Proofs.YthifejhdmjoolaaGreatDoorW.PrintLast Go.Proofs.YthifejhdmjoolaaGreatDoorW.PrintMore
attribute [local go_sem] max2_int min2_int max_two min_two max_three min_three max_four min_four   -- for this text's walks alone
set_option linter.unusedVariables false
set_option linter.unusedSimpArgs false
namespace lex_one_1
def f (a0_0 : Bool) (a0_1 : Bool) (a0_2 : Bool) (a0_3 : Bool) : Option (Bool) := if a0_1 = true then (some true) else (some a0_2)
set_option maxHeartbeats 8000000 in
set_option maxRecDepth 100000 in
theorem calls (a0_0 : Bool) (a0_1 : Bool) (a0_2 : Bool) (a0_3 : Bool) (r : Bool) (w : World) (h : f a0_0 a0_1 a0_2 a0_3 = some r) :
    Calls Tryz.prog 71 #[.agg #[.bool a0_0, .bool a0_1, .bool a0_2, .bool a0_3]] w fun e w' => e = .returned (.bool r) ∧ Below w.heap.size w w' := by
 have hu89 := Tryz.underlying89
 have HB := aM (Below.refl w.heap.size w)
 have H : (if a0_1 = true then (some true) else (some a0_2)) = some r := h
 clear h
 by_cases c2 : a0_1 = true
 ·subst c2
  replace H := iT H
  obtain rfl := Option.some.inj H
  go_enter Tryz.func71, Tryz.ntmps71
  go_wp2_with (first | ((with_reducible refine gate_dst (N := 1) rfl ?_); refine box_event ?hg (N := 1) ?hd (cs := #[.bool a0_0, .bool true, .bool a0_2, .bool a0_3]) (t := 89) ?hr ?_; (case hd => rfl); (case hg => rfl); (case hr => first | (go_simp; done) | (go_simp; rfl)); intro gb137 hg w3 hbox hb; have n0_ := aM (below_step (hB) hb); have n1_ := aM (hbox); have n2_ := aM ((by rw [hg]; exact (below_size (hB)) : w.heap.size ≤ gb137)); have n3_ := aM ((by rw [hg]; exact (below_size (hB)) : w.heap.size ≤ gb137)); clear HB; have HB := n0_; have BK137 := n1_; have GW137 := n2_; have GE137 := n3_; clear n0_ n1_ n2_ n3_; clear hb hbox hg; have hcz4_0 : w3.cell? ⟨gb137, 0, none⟩ = some (.bool a0_0) := (zC BK137.out 0).trans rfl; have hcz4_1 : w3.cell? ⟨gb137, 1, none⟩ = some (.bool true) := (zC BK137.out 1).trans rfl; have hcz4_2 : w3.cell? ⟨gb137, 2, none⟩ = some (.bool a0_2) := (zC BK137.out 2).trans rfl; have hcz4_3 : w3.cell? ⟨gb137, 3, none⟩ = some (.bool a0_3) := (zC BK137.out 3).trans rfl; have hfz4_0 := zF BK137.out 0; have hfz4_1 := zF BK137.out 1; have hfz4_2 := zF BK137.out 2; have hfz4_3 := zF BK137.out 3))
  go_ret
  exact ⟨eR, hS⟩
 replace c2 := nF c2
 subst c2
 replace H := iF H
 obtain rfl := Option.some.inj H
 go_enter Tryz.func71, Tryz.ntmps71
 go_wp2_with (first | ((with_reducible refine gate_dst (N := 1) rfl ?_); refine box_event ?hg (N := 1) ?hd (cs := #[.bool a0_0, .bool false, .bool a0_2, .bool a0_3]) (t := 89) ?hr ?_; (case hd => rfl); (case hg => rfl); (case hr => first | (go_simp; done) | (go_simp; rfl)); intro gb137 hg w5 hbox hb; have n0_ := aM (below_step (hB) hb); have n1_ := aM (hbox); have n2_ := aM ((by rw [hg]; exact (below_size (hB)) : w.heap.size ≤ gb137)); have n3_ := aM ((by rw [hg]; exact (below_size (hB)) : w.heap.size ≤ gb137)); clear HB; have HB := n0_; have BK137 := n1_; have GW137 := n2_; have GE137 := n3_; clear n0_ n1_ n2_ n3_; clear hb hbox hg; have hcz6_0 : w5.cell? ⟨gb137, 0, none⟩ = some (.bool a0_0) := (zC BK137.out 0).trans rfl; have hcz6_1 : w5.cell? ⟨gb137, 1, none⟩ = some (.bool false) := (zC BK137.out 1).trans rfl; have hcz6_2 : w5.cell? ⟨gb137, 2, none⟩ = some (.bool a0_2) := (zC BK137.out 2).trans rfl; have hcz6_3 : w5.cell? ⟨gb137, 3, none⟩ = some (.bool a0_3) := (zC BK137.out 3).trans rfl; have hfz6_0 := zF BK137.out 0; have hfz6_1 := zF BK137.out 1; have hfz6_2 := zF BK137.out 2; have hfz6_3 := zF BK137.out 3))
 go_ret
 exact ⟨eR, hS⟩
end lex_one_1
namespace lex_run_of_71
def l0 : Nat → ByteArray → Int → Int → Option (Int)
  | 0, _, _, _ => none
  | k + 1, x0, x1, x7 => if x7 < (x0.size : Int) then (if 0 ≤ x7 then ((lex_kind.f k (bt x0 x7)).bind fun bt138 => ((lex_one_1.f bt138.1 bt138.2.1 bt138.2.2.1 bt138.2.2.2).bind fun t142 => (if t142 = true then (l0 k x0 x1 (wrap64 (x7 + 1))) else (some (wrap64 (x7 - x1)))))) else (none)) else (some (wrap64 (x7 - x1)))
def f (k : Nat) (a0 : ByteArray) (a1 : Int)  : Option (Int) := l0 k a0 a1 a1
theorem mono_l : ∀ k, (∀ y0 y1 y2, LeO (l0 k y0 y1 y2) (l0 (k + 1) y0 y1 y2))
  | 0 => fun _ _ _ r h => by simp [l0] at h
  | k + 1 => by
    have ih0 := mono_l k
    · intro y0 y1 y2
      unfold l0
      repeat' first
      | (with_reducible first | apply ih0 | apply lex_kind.mono | exact LeO.refl _ | exact LeO.none _ | refine LeO.ite ?_ ?_ | refine LeO.bind ?_ (fun _ => ?_))
      | exact LeO.none _ | refine LeO.ite ?_ ?_ | refine LeO.bind ?_ (fun _ => ?_)
theorem mono : ∀ a0 a1 k, LeO (f k a0 a1) (f (k + 1) a0 a1) := by
  intro a0 a1 k
  have ih0 := mono_l k
  unfold f
  repeat' first
      | (with_reducible first | apply ih0 | apply lex_kind.mono | exact LeO.refl _ | exact LeO.none _ | refine LeO.ite ?_ ?_ | refine LeO.bind ?_ (fun _ => ?_))
      | exact LeO.none _ | refine LeO.ite ?_ ?_ | refine LeO.bind ?_ (fun _ => ?_)
set_option maxHeartbeats 8000000 in
set_option maxRecDepth 100000 in
theorem calls (k : Nat) (a0 : ByteArray) (a1 : Int)  (r : Int) (w : World) (h : f k a0 a1 = some r) :
    Calls Tryz.prog 70 #[.string a0, .int .i64 a1, .func (.func 71) #[] #[]] w fun e w' => e = .returned (.int .i64 r) ∧ Below w.heap.size w w' := by
 have HB := aM (Below.refl w.heap.size w)
 have H : (l0 k a0 a1 a1) = some r := h
 clear h
 have H' := aM H
 clear H
 go_enter Tryz.func70, Tryz.ntmps70
 go_wp2
 go_loopg [7] k (fun kq v7 w' => ∃ (x7_1 : Int), v7 = .int .i64 x7_1 ∧ Aside0 (l0 kq a0 a1 x7_1 = some r) ∧ Aside0 (kq ≤ k) ∧ Aside0 (Below w.heap.size w w'))
 case atStart => exact ⟨a1, xR, H', ⟨Nat.le_refl _⟩, ⟨hB⟩⟩
 case round =>
  clear H'
  obtain ⟨x7_1, rfl, HA, HK1, HB⟩ := hrel
  cases gk with
  | zero => exact absurd HA.out (by simp [l0])
  | succ k1 =>
   have H := HA.out
   clear HA
   simp only [l0] at H
   by_cases c4 : x7_1 < (a0.size : Int)
   rotate_left
   ·rw [if_neg c4] at H
    have c4b0 := dF c4
    clear c4
    obtain rfl := Option.some.inj H
    go_wp2
    go_ret
    exact ⟨eR, hB⟩
   rw [if_pos c4] at H
   have c4b0 := dT c4
   clear c4
   replace H := nI H
   obtain ⟨c5, H⟩ := H
   have c5b0 := dT c5
   clear c5
   replace H := Option.bind_eq_some_iff.mp H
   obtain ⟨⟨t138, t139, t140, t141⟩, A70, H⟩ := H
   replace H : ((lex_one_1.f t138 t139 t140 t141).bind fun t142 => (if t142 = true then (l0 k1 a0 a1 (wrap64 (x7_1 + 1))) else (some (wrap64 (x7_1 - a1))))) = some r := H
   have A7 := aM A70
   clear A70
   replace H := Option.bind_eq_some_iff.mp H
   obtain ⟨t142, A80, H⟩ := H
   replace H : (if t142 = true then (l0 k1 a0 a1 (wrap64 (x7_1 + 1))) else (some (wrap64 (x7_1 - a1)))) = some r := H
   have A8 := aM A80
   clear A80
   by_cases c9 : t142 = true
   rotate_left
   ·replace c9 := nF c9
    subst c9
    replace H := iF H
    obtain rfl := Option.some.inj H
    have p6 : (0 ≤ x7_1) = True := eT
    have q6 : (x7_1 < (a0.size : Int)) = True := eT
    have hx6 := bt_at a0 x7_1
    go_wp2_with (first | (go_at_call 68; (with_reducible refine (lex_kind.calls k1 (bt a0 x7_1) t138 t139 t140 t141 _ A7.out).mono ?_); rintro e w12 ⟨rfl, hb⟩; have n0_ := aM (below_step (hB) hb); clear HB; have HB := n0_; clear n0_) | (go_at_call 71; (with_reducible refine (lex_one_1.calls t138 t139 t140 t141 false _ A8.out).mono ?_); rintro e w13 ⟨rfl, hb⟩; have n0_ := aM (below_step (hB) hb); clear HB; have HB := n0_; clear n0_))
    go_ret
    exact ⟨eR, hB⟩
   subst c9
   replace H := iT H
   have H' := aM H
   clear H
   have p6 : (0 ≤ x7_1) = True := eT
   have q6 : (x7_1 < (a0.size : Int)) = True := eT
   have hx6 := bt_at a0 x7_1
   go_wp2_with (first | (go_at_call 68; (with_reducible refine (lex_kind.calls k1 (bt a0 x7_1) t138 t139 t140 t141 _ A7.out).mono ?_); rintro e w10 ⟨rfl, hb⟩; have n0_ := aM (below_step (hB) hb); clear HB; have HB := n0_; clear n0_) | (go_at_call 71; (with_reducible refine (lex_one_1.calls t138 t139 t140 t141 true _ A8.out).mono ?_); rintro e w11 ⟨rfl, hb⟩; have n0_ := aM (below_step (hB) hb); clear HB; have HB := n0_; clear n0_))
   go_roundg k1
   case measure => exact jC
   case rel => exact ⟨(wrap64 (x7_1 + 1)), xR, H', ⟨jC⟩, ⟨hB⟩⟩
end lex_run_of_71
namespace lex_one_2
def f (a0_0 : Bool) (a0_1 : Bool) (a0_2 : Bool) (a0_3 : Bool) : Option (Bool) := some a0_3
set_option maxHeartbeats 8000000 in
set_option maxRecDepth 100000 in
theorem calls (a0_0 : Bool) (a0_1 : Bool) (a0_2 : Bool) (a0_3 : Bool) (r : Bool) (w : World) (h : f a0_0 a0_1 a0_2 a0_3 = some r) :
    Calls Tryz.prog 73 #[.agg #[.bool a0_0, .bool a0_1, .bool a0_2, .bool a0_3]] w fun e w' => e = .returned (.bool r) ∧ Below w.heap.size w w' := by
 have hu89 := Tryz.underlying89
 have HB := aM (Below.refl w.heap.size w)
 have H : (some a0_3) = some r := h
 clear h
 obtain rfl := Option.some.inj H
 go_enter Tryz.func73, Tryz.ntmps73
 go_wp2_with (first | ((with_reducible refine gate_dst (N := 1) rfl ?_); refine box_event ?hg (N := 1) ?hd (cs := #[.bool a0_0, .bool a0_1, .bool a0_2, .bool a0_3]) (t := 89) ?hr ?_; (case hd => rfl); (case hg => rfl); (case hr => first | (go_simp; done) | (go_simp; rfl)); intro gb143 hg w2 hbox hb; have n0_ := aM (below_step (hB) hb); have n1_ := aM (hbox); have n2_ := aM ((by rw [hg]; exact (below_size (hB)) : w.heap.size ≤ gb143)); have n3_ := aM ((by rw [hg]; exact (below_size (hB)) : w.heap.size ≤ gb143)); clear HB; have HB := n0_; have BK143 := n1_; have GW143 := n2_; have GE143 := n3_; clear n0_ n1_ n2_ n3_; clear hb hbox hg; have hcz3_0 : w2.cell? ⟨gb143, 0, none⟩ = some (.bool a0_0) := (zC BK143.out 0).trans rfl; have hcz3_1 : w2.cell? ⟨gb143, 1, none⟩ = some (.bool a0_1) := (zC BK143.out 1).trans rfl; have hcz3_2 : w2.cell? ⟨gb143, 2, none⟩ = some (.bool a0_2) := (zC BK143.out 2).trans rfl; have hcz3_3 : w2.cell? ⟨gb143, 3, none⟩ = some (.bool a0_3) := (zC BK143.out 3).trans rfl; have hfz3_0 := zF BK143.out 0; have hfz3_1 := zF BK143.out 1; have hfz3_2 := zF BK143.out 2; have hfz3_3 := zF BK143.out 3))
 go_ret
 exact ⟨eR, hS⟩
end lex_one_2
namespace lex_run_of_73
def l0 : Nat → ByteArray → Int → Int → Option (Int)
  | 0, _, _, _ => none
  | k + 1, x0, x1, x7 => if x7 < (x0.size : Int) then (if 0 ≤ x7 then ((lex_kind.f k (bt x0 x7)).bind fun bt144 => ((lex_one_2.f bt144.1 bt144.2.1 bt144.2.2.1 bt144.2.2.2).bind fun t148 => (if t148 = true then (l0 k x0 x1 (wrap64 (x7 + 1))) else (some (wrap64 (x7 - x1)))))) else (none)) else (some (wrap64 (x7 - x1)))
def f (k : Nat) (a0 : ByteArray) (a1 : Int)  : Option (Int) := l0 k a0 a1 a1
theorem mono_l : ∀ k, (∀ y0 y1 y2, LeO (l0 k y0 y1 y2) (l0 (k + 1) y0 y1 y2))
  | 0 => fun _ _ _ r h => by simp [l0] at h
  | k + 1 => by
    have ih0 := mono_l k
    · intro y0 y1 y2
      unfold l0
      repeat' first
      | (with_reducible first | apply ih0 | apply lex_kind.mono | exact LeO.refl _ | exact LeO.none _ | refine LeO.ite ?_ ?_ | refine LeO.bind ?_ (fun _ => ?_))
      | exact LeO.none _ | refine LeO.ite ?_ ?_ | refine LeO.bind ?_ (fun _ => ?_)
theorem mono : ∀ a0 a1 k, LeO (f k a0 a1) (f (k + 1) a0 a1) := by
  intro a0 a1 k
  have ih0 := mono_l k
  unfold f
  repeat' first
      | (with_reducible first | apply ih0 | apply lex_kind.mono | exact LeO.refl _ | exact LeO.none _ | refine LeO.ite ?_ ?_ | refine LeO.bind ?_ (fun _ => ?_))
      | exact LeO.none _ | refine LeO.ite ?_ ?_ | refine LeO.bind ?_ (fun _ => ?_)
set_option maxHeartbeats 8000000 in
set_option maxRecDepth 100000 in
theorem calls (k : Nat) (a0 : ByteArray) (a1 : Int)  (r : Int) (w : World) (h : f k a0 a1 = some r) :
    Calls Tryz.prog 70 #[.string a0, .int .i64 a1, .func (.func 73) #[] #[]] w fun e w' => e = .returned (.int .i64 r) ∧ Below w.heap.size w w' := by
 have HB := aM (Below.refl w.heap.size w)
 have H : (l0 k a0 a1 a1) = some r := h
 clear h
 have H' := aM H
 clear H
 go_enter Tryz.func70, Tryz.ntmps70
 go_wp2
 go_loopg [7] k (fun kq v7 w' => ∃ (x7_1 : Int), v7 = .int .i64 x7_1 ∧ Aside0 (l0 kq a0 a1 x7_1 = some r) ∧ Aside0 (kq ≤ k) ∧ Aside0 (Below w.heap.size w w'))
 case atStart => exact ⟨a1, xR, H', ⟨Nat.le_refl _⟩, ⟨hB⟩⟩
 case round =>
  clear H'
  obtain ⟨x7_1, rfl, HA, HK1, HB⟩ := hrel
  cases gk with
  | zero => exact absurd HA.out (by simp [l0])
  | succ k1 =>
   have H := HA.out
   clear HA
   simp only [l0] at H
   by_cases c4 : x7_1 < (a0.size : Int)
   rotate_left
   ·rw [if_neg c4] at H
    have c4b0 := dF c4
    clear c4
    obtain rfl := Option.some.inj H
    go_wp2
    go_ret
    exact ⟨eR, hB⟩
   rw [if_pos c4] at H
   have c4b0 := dT c4
   clear c4
   replace H := nI H
   obtain ⟨c5, H⟩ := H
   have c5b0 := dT c5
   clear c5
   replace H := Option.bind_eq_some_iff.mp H
   obtain ⟨⟨t144, t145, t146, t147⟩, A70, H⟩ := H
   replace H : ((lex_one_2.f t144 t145 t146 t147).bind fun t148 => (if t148 = true then (l0 k1 a0 a1 (wrap64 (x7_1 + 1))) else (some (wrap64 (x7_1 - a1))))) = some r := H
   have A7 := aM A70
   clear A70
   replace H := Option.bind_eq_some_iff.mp H
   obtain ⟨t148, A80, H⟩ := H
   replace H : (if t148 = true then (l0 k1 a0 a1 (wrap64 (x7_1 + 1))) else (some (wrap64 (x7_1 - a1)))) = some r := H
   have A8 := aM A80
   clear A80
   by_cases c9 : t148 = true
   rotate_left
   ·replace c9 := nF c9
    subst c9
    replace H := iF H
    obtain rfl := Option.some.inj H
    have p6 : (0 ≤ x7_1) = True := eT
    have q6 : (x7_1 < (a0.size : Int)) = True := eT
    have hx6 := bt_at a0 x7_1
    go_wp2_with (first | (go_at_call 68; (with_reducible refine (lex_kind.calls k1 (bt a0 x7_1) t144 t145 t146 t147 _ A7.out).mono ?_); rintro e w12 ⟨rfl, hb⟩; have n0_ := aM (below_step (hB) hb); clear HB; have HB := n0_; clear n0_) | (go_at_call 73; (with_reducible refine (lex_one_2.calls t144 t145 t146 t147 false _ A8.out).mono ?_); rintro e w13 ⟨rfl, hb⟩; have n0_ := aM (below_step (hB) hb); clear HB; have HB := n0_; clear n0_))
    go_ret
    exact ⟨eR, hB⟩
   subst c9
   replace H := iT H
   have H' := aM H
   clear H
   have p6 : (0 ≤ x7_1) = True := eT
   have q6 : (x7_1 < (a0.size : Int)) = True := eT
   have hx6 := bt_at a0 x7_1
   go_wp2_with (first | (go_at_call 68; (with_reducible refine (lex_kind.calls k1 (bt a0 x7_1) t144 t145 t146 t147 _ A7.out).mono ?_); rintro e w10 ⟨rfl, hb⟩; have n0_ := aM (below_step (hB) hb); clear HB; have HB := n0_; clear n0_) | (go_at_call 73; (with_reducible refine (lex_one_2.calls t144 t145 t146 t147 true _ A8.out).mono ?_); rintro e w11 ⟨rfl, hb⟩; have n0_ := aM (below_step (hB) hb); clear HB; have HB := n0_; clear n0_))
   go_roundg k1
   case measure => exact jC
   case rel => exact ⟨(wrap64 (x7_1 + 1)), xR, H', ⟨jC⟩, ⟨hB⟩⟩
end lex_run_of_73
namespace lex_number_1
def f (a0_0 : Bool) (a0_1 : Bool) (a0_2 : Bool) (a0_3 : Bool) : Option (Bool) := some a0_2
set_option maxHeartbeats 8000000 in
set_option maxRecDepth 100000 in
theorem calls (a0_0 : Bool) (a0_1 : Bool) (a0_2 : Bool) (a0_3 : Bool) (r : Bool) (w : World) (h : f a0_0 a0_1 a0_2 a0_3 = some r) :
    Calls Tryz.prog 99 #[.agg #[.bool a0_0, .bool a0_1, .bool a0_2, .bool a0_3]] w fun e w' => e = .returned (.bool r) ∧ Below w.heap.size w w' := by
 have hu89 := Tryz.underlying89
 have HB := aM (Below.refl w.heap.size w)
 have H : (some a0_2) = some r := h
 clear h
 obtain rfl := Option.some.inj H
 go_enter Tryz.func99, Tryz.ntmps99
 go_wp2_with (first | ((with_reducible refine gate_dst (N := 1) rfl ?_); refine box_event ?hg (N := 1) ?hd (cs := #[.bool a0_0, .bool a0_1, .bool a0_2, .bool a0_3]) (t := 89) ?hr ?_; (case hd => rfl); (case hg => rfl); (case hr => first | (go_simp; done) | (go_simp; rfl)); intro gb149 hg w2 hbox hb; have n0_ := aM (below_step (hB) hb); have n1_ := aM (hbox); have n2_ := aM ((by rw [hg]; exact (below_size (hB)) : w.heap.size ≤ gb149)); have n3_ := aM ((by rw [hg]; exact (below_size (hB)) : w.heap.size ≤ gb149)); clear HB; have HB := n0_; have BK149 := n1_; have GW149 := n2_; have GE149 := n3_; clear n0_ n1_ n2_ n3_; clear hb hbox hg; have hcz3_0 : w2.cell? ⟨gb149, 0, none⟩ = some (.bool a0_0) := (zC BK149.out 0).trans rfl; have hcz3_1 : w2.cell? ⟨gb149, 1, none⟩ = some (.bool a0_1) := (zC BK149.out 1).trans rfl; have hcz3_2 : w2.cell? ⟨gb149, 2, none⟩ = some (.bool a0_2) := (zC BK149.out 2).trans rfl; have hcz3_3 : w2.cell? ⟨gb149, 3, none⟩ = some (.bool a0_3) := (zC BK149.out 3).trans rfl; have hfz3_0 := zF BK149.out 0; have hfz3_1 := zF BK149.out 1; have hfz3_2 := zF BK149.out 2; have hfz3_3 := zF BK149.out 3))
 go_ret
 exact ⟨eR, hS⟩
end lex_number_1
namespace lex_run_of_99
def l0 : Nat → ByteArray → Int → Int → Option (Int)
  | 0, _, _, _ => none
  | k + 1, x0, x1, x7 => if x7 < (x0.size : Int) then (if 0 ≤ x7 then ((lex_kind.f k (bt x0 x7)).bind fun bt150 => ((lex_number_1.f bt150.1 bt150.2.1 bt150.2.2.1 bt150.2.2.2).bind fun t154 => (if t154 = true then (l0 k x0 x1 (wrap64 (x7 + 1))) else (some (wrap64 (x7 - x1)))))) else (none)) else (some (wrap64 (x7 - x1)))
def f (k : Nat) (a0 : ByteArray) (a1 : Int)  : Option (Int) := l0 k a0 a1 a1
theorem mono_l : ∀ k, (∀ y0 y1 y2, LeO (l0 k y0 y1 y2) (l0 (k + 1) y0 y1 y2))
  | 0 => fun _ _ _ r h => by simp [l0] at h
  | k + 1 => by
    have ih0 := mono_l k
    · intro y0 y1 y2
      unfold l0
      repeat' first
      | (with_reducible first | apply ih0 | apply lex_kind.mono | exact LeO.refl _ | exact LeO.none _ | refine LeO.ite ?_ ?_ | refine LeO.bind ?_ (fun _ => ?_))
      | exact LeO.none _ | refine LeO.ite ?_ ?_ | refine LeO.bind ?_ (fun _ => ?_)
theorem mono : ∀ a0 a1 k, LeO (f k a0 a1) (f (k + 1) a0 a1) := by
  intro a0 a1 k
  have ih0 := mono_l k
  unfold f
  repeat' first
      | (with_reducible first | apply ih0 | apply lex_kind.mono | exact LeO.refl _ | exact LeO.none _ | refine LeO.ite ?_ ?_ | refine LeO.bind ?_ (fun _ => ?_))
      | exact LeO.none _ | refine LeO.ite ?_ ?_ | refine LeO.bind ?_ (fun _ => ?_)
set_option maxHeartbeats 8000000 in
set_option maxRecDepth 100000 in
theorem calls (k : Nat) (a0 : ByteArray) (a1 : Int)  (r : Int) (w : World) (h : f k a0 a1 = some r) :
    Calls Tryz.prog 70 #[.string a0, .int .i64 a1, .func (.func 99) #[] #[]] w fun e w' => e = .returned (.int .i64 r) ∧ Below w.heap.size w w' := by
 have HB := aM (Below.refl w.heap.size w)
 have H : (l0 k a0 a1 a1) = some r := h
 clear h
 have H' := aM H
 clear H
 go_enter Tryz.func70, Tryz.ntmps70
 go_wp2
 go_loopg [7] k (fun kq v7 w' => ∃ (x7_1 : Int), v7 = .int .i64 x7_1 ∧ Aside0 (l0 kq a0 a1 x7_1 = some r) ∧ Aside0 (kq ≤ k) ∧ Aside0 (Below w.heap.size w w'))
 case atStart => exact ⟨a1, xR, H', ⟨Nat.le_refl _⟩, ⟨hB⟩⟩
 case round =>
  clear H'
  obtain ⟨x7_1, rfl, HA, HK1, HB⟩ := hrel
  cases gk with
  | zero => exact absurd HA.out (by simp [l0])
  | succ k1 =>
   have H := HA.out
   clear HA
   simp only [l0] at H
   by_cases c4 : x7_1 < (a0.size : Int)
   rotate_left
   ·rw [if_neg c4] at H
    have c4b0 := dF c4
    clear c4
    obtain rfl := Option.some.inj H
    go_wp2
    go_ret
    exact ⟨eR, hB⟩
   rw [if_pos c4] at H
   have c4b0 := dT c4
   clear c4
   replace H := nI H
   obtain ⟨c5, H⟩ := H
   have c5b0 := dT c5
   clear c5
   replace H := Option.bind_eq_some_iff.mp H
   obtain ⟨⟨t150, t151, t152, t153⟩, A70, H⟩ := H
   replace H : ((lex_number_1.f t150 t151 t152 t153).bind fun t154 => (if t154 = true then (l0 k1 a0 a1 (wrap64 (x7_1 + 1))) else (some (wrap64 (x7_1 - a1))))) = some r := H
   have A7 := aM A70
   clear A70
   replace H := Option.bind_eq_some_iff.mp H
   obtain ⟨t154, A80, H⟩ := H
   replace H : (if t154 = true then (l0 k1 a0 a1 (wrap64 (x7_1 + 1))) else (some (wrap64 (x7_1 - a1)))) = some r := H
   have A8 := aM A80
   clear A80
   by_cases c9 : t154 = true
   rotate_left
   ·replace c9 := nF c9
    subst c9
    replace H := iF H
    obtain rfl := Option.some.inj H
    have p6 : (0 ≤ x7_1) = True := eT
    have q6 : (x7_1 < (a0.size : Int)) = True := eT
    have hx6 := bt_at a0 x7_1
    go_wp2_with (first | (go_at_call 68; (with_reducible refine (lex_kind.calls k1 (bt a0 x7_1) t150 t151 t152 t153 _ A7.out).mono ?_); rintro e w12 ⟨rfl, hb⟩; have n0_ := aM (below_step (hB) hb); clear HB; have HB := n0_; clear n0_) | (go_at_call 99; (with_reducible refine (lex_number_1.calls t150 t151 t152 t153 false _ A8.out).mono ?_); rintro e w13 ⟨rfl, hb⟩; have n0_ := aM (below_step (hB) hb); clear HB; have HB := n0_; clear n0_))
    go_ret
    exact ⟨eR, hB⟩
   subst c9
   replace H := iT H
   have H' := aM H
   clear H
   have p6 : (0 ≤ x7_1) = True := eT
   have q6 : (x7_1 < (a0.size : Int)) = True := eT
   have hx6 := bt_at a0 x7_1
   go_wp2_with (first | (go_at_call 68; (with_reducible refine (lex_kind.calls k1 (bt a0 x7_1) t150 t151 t152 t153 _ A7.out).mono ?_); rintro e w10 ⟨rfl, hb⟩; have n0_ := aM (below_step (hB) hb); clear HB; have HB := n0_; clear n0_) | (go_at_call 99; (with_reducible refine (lex_number_1.calls t150 t151 t152 t153 true _ A8.out).mono ?_); rintro e w11 ⟨rfl, hb⟩; have n0_ := aM (below_step (hB) hb); clear HB; have HB := n0_; clear n0_))
   go_roundg k1
   case measure => exact jC
   case rel => exact ⟨(wrap64 (x7_1 + 1)), xR, H', ⟨jC⟩, ⟨hB⟩⟩
-- NOT PRINTED: function 74 (lex_number)
end lex_run_of_99
end Go.Proofs.YthifejhdmjoolaaGreatDoor.QR
