-- WRITTEN BY A PROGRAM OF THE SESSION (wip/myprint.sh): Lean checks it.
import Derived.Test.YthifejhdmjoolaaGreatDoorQE0
import Derived.Test.YthifejhdmjoolaaGreatDoorQE4
import Derived.Test.YthifejhdmjoolaaGreatDoorQE5
namespace Go.Proofs.YthifejhdmjoolaaGreatDoor.QE
open Go.Proofs.YthifejhdmjoolaaGreatDoorG Go.Proofs.YthifejhdmjoolaaGreatDoor.QR
attribute [local go_sem] Instr.field asAgg ext47
open Go.RowKit Go.Proofs.YthifejhdmjoolaaGreatDoorW.PrintWords Go.Proofs.YthifejhdmjoolaaGreatDoorW.PrintLast Go.Proofs.YthifejhdmjoolaaGreatDoorW.PrintMore
attribute [local go_sem] max2_int min2_int max_two min_two max_three min_three max_four min_four   -- for this text's walks alone
set_option linter.unusedVariables false
set_option linter.unusedSimpArgs false
namespace foundryref01_Literal
mutual
def l0 : Nat → ByteArray → Int → Int → Int → Bool → Int → Option (Int × Int)
  | 0, _, _, _, _, _, _ => none
  | k + 1, x0, x4, x5, x6, x7, x8 => if x8 < (x0.size : Int) then (if 0 ≤ x8 then ((foundryref01_digit.f k (bt x0 x8)).bind fun t173 => (if (bt x0 x8) = 46 then (if x7 = true then (j1 k x0 x4 x5 x6 x7 x8 t173 false) else (j1 k x0 x4 x5 x6 x7 x8 t173 (decide (x5 > 0)))) else (j1 k x0 x4 x5 x6 x7 x8 t173 false))) else (none)) else (if x6 = 0 then (some (0, 10)) else (if x5 > 15 then (some (0, 3)) else (l1 k x4 x6 1 0)))
def j1 : Nat → ByteArray → Int → Int → Int → Bool → Int → Int → Bool → Option (Int × Int)
  | 0, _, _, _, _, _, _, _, _ => none
  | k + 1, x0, x4, x5, x6, x7, x8, x9, x33 => if x33 = true then (l0 k x0 x4 x5 x6 true (wrap64 (x8 + 1))) else (if x9 < 0 then (j2 k x0 x4 x5 x6 x7 x8 x9 true) else (j2 k x0 x4 x5 x6 x7 x8 x9 (decide (x9 > 9))))
def j2 : Nat → ByteArray → Int → Int → Int → Bool → Int → Int → Bool → Option (Int × Int)
  | 0, _, _, _, _, _, _, _, _ => none
  | k + 1, x0, x4, x5, x6, x7, x8, x9, x39 => if x39 = true then (some (0, 10)) else (if (wrap64 (x5 + 1)) ≤ 15 then (if x7 = true then (l0 k x0 (wrap64 ((wrap64 (10 * x4)) + x9)) (wrap64 (x5 + 1)) (wrap64 (x6 + 1)) x7 (wrap64 (x8 + 1))) else (l0 k x0 (wrap64 ((wrap64 (10 * x4)) + x9)) (wrap64 (x5 + 1)) x6 x7 (wrap64 (x8 + 1)))) else (if x7 = true then (l0 k x0 x4 (wrap64 (x5 + 1)) (wrap64 (x6 + 1)) x7 (wrap64 (x8 + 1))) else (l0 k x0 x4 (wrap64 (x5 + 1)) x6 x7 (wrap64 (x8 + 1)))))
def l1 : Nat → Int → Int → Int → Int → Option (Int × Int)
  | 0, _, _, _, _ => none
  | k + 1, x4, x6, x10, x11 => if x11 < x6 then (l1 k x4 x6 (wrap64 (10 * x10)) (wrap64 (x11 + 1))) else (if (floatBits .quo .f64 (floatOfInt .f64 x4) (floatOfInt .f64 x10)).isSome = true then (some (((((floatBits .quo .f64 (floatOfInt .f64 x4) (floatOfInt .f64 x10)).getD 0) : Nat) : Int), 0)) else (none))
end
def f (k : Nat) (a0 : ByteArray) : Option (Int × Int) := l0 k a0 0 0 0 false 0
theorem mono_l : ∀ k, (∀ y0 y1 y2 y3 y4 y5, LeO (l0 k y0 y1 y2 y3 y4 y5) (l0 (k + 1) y0 y1 y2 y3 y4 y5)) ∧ (∀ y0 y1 y2 y3 y4 y5 y6 y7, LeO (j1 k y0 y1 y2 y3 y4 y5 y6 y7) (j1 (k + 1) y0 y1 y2 y3 y4 y5 y6 y7)) ∧ (∀ y0 y1 y2 y3 y4 y5 y6 y7, LeO (j2 k y0 y1 y2 y3 y4 y5 y6 y7) (j2 (k + 1) y0 y1 y2 y3 y4 y5 y6 y7)) ∧ (∀ y0 y1 y2 y3, LeO (l1 k y0 y1 y2 y3) (l1 (k + 1) y0 y1 y2 y3))
  | 0 => by refine ⟨?_, ?_, ?_, ?_⟩ <;> (intros; exact LeO.none _)
  | k + 1 => by
    obtain ⟨ih0, ih1, ih2, ih3⟩ := mono_l k
    refine ⟨?_, ?_, ?_, ?_⟩ <;> intros <;> first | unfold l0 | unfold j1 | unfold j2 | unfold l1
    all_goals repeat' first
    | (with_reducible first | apply ih0 | apply ih1 | apply ih2 | apply ih3 | apply foundryref01_digit.mono | exact LeO.refl _ | exact LeO.none _ | refine LeO.ite ?_ ?_ | refine LeO.bind ?_ (fun _ => ?_))
    | exact LeO.none _ | refine LeO.ite ?_ ?_ | refine LeO.bind ?_ (fun _ => ?_)
theorem mono : ∀ a0 k, LeO (f k a0) (f (k + 1) a0) := by
  intro a0 k
  obtain ⟨ih0, ih1, ih2, ih3⟩ := mono_l k
  unfold f
  repeat' first
      | (with_reducible first | apply ih0 | apply ih1 | apply ih2 | apply ih3 | apply foundryref01_digit.mono | exact LeO.refl _ | exact LeO.none _ | refine LeO.ite ?_ ?_ | refine LeO.bind ?_ (fun _ => ?_))
      | exact LeO.none _ | refine LeO.ite ?_ ?_ | refine LeO.bind ?_ (fun _ => ?_)
set_option maxHeartbeats 8000000 in
set_option maxRecDepth 100000 in
theorem calls (k : Nat) (a0 : ByteArray) (r1 : Int) (r2 : Int) (w : World) (h : f k a0 = some (r1, r2)) :
    Calls Tryz.prog 20 #[.string a0] w fun e w' => e = .returned (.tuple #[.int .u64 r1, .int .i64 r2]) ∧ Drawn0 w w' := by
 have H : (l0 k a0 0 0 0 false 0) = some (r1, r2) := h
 clear h
 have H' := aM H
 clear H
 go_enter Tryz.func20, Tryz.ntmps20
 go_wp2
 go_loopg [4, 5, 6, 7, 8] k (fun kq v4 v5 v6 v7 v8 w' => ∃ (x4_1 : Int) (x5_1 : Int) (x6_1 : Int) (x7_1 : Bool) (x8_1 : Int), v4 = .int .i64 x4_1 ∧ v5 = .int .i64 x5_1 ∧ v6 = .int .i64 x6_1 ∧ v7 = .bool x7_1 ∧ v8 = .int .i64 x8_1 ∧ Aside0 (l0 kq a0 x4_1 x5_1 x6_1 x7_1 x8_1 = some (r1, r2)) ∧ Aside0 (kq ≤ k) ∧ Drawn0 w w')
 case atStart => exact ⟨(0), (0), (0), false, (0), xR, xR, xR, xR, xR, H', ⟨Nat.le_refl _⟩, dR⟩
 case round =>
  clear H'
  obtain ⟨x4_1, x5_1, x6_1, x7_1, x8_1, rfl, rfl, rfl, rfl, rfl, HA, HK1, ⟨m1, rfl⟩⟩ := hrel
  cases gk with
  | zero => exact absurd HA.out (by simp [l0])
  | succ k1 =>
   have H := HA.out
   clear HA
   simp only [l0] at H
   by_cases c2 : x8_1 < (a0.size : Int)
   rotate_left
   ·rw [if_neg c2] at H
    have c2b0 := dF c2
    clear c2
    by_cases c17 : x6_1 = 0
    ·rw [if_pos c17] at H
     have c17b0 := bT c17
     have c17b1 := mF c17
     clear c17
     simp only [Option.some.injEq, Prod.mk.injEq] at H
     obtain ⟨rfl, rfl⟩ := H
     go_wp2
     go_ret2
     exact ⟨xR, dR⟩
    rw [if_neg c17] at H
    have c17b0 := bF c17
    have c17b1 := mT c17
    by_cases c18 : x5_1 > 15
    ·rw [if_pos c18] at H
     have c18b0 : decide (15 < x5_1) = true := decide_eq_true c18
     clear c18
     simp only [Option.some.injEq, Prod.mk.injEq] at H
     obtain ⟨rfl, rfl⟩ := H
     go_wp2
     go_ret2
     exact ⟨xR, dR⟩
    rw [if_neg c18] at H
    have c18b0 : decide (15 < x5_1) = false := decide_eq_false c18
    clear c18
    have H' := aM H
    clear H
    go_wp2
    go_loopg [10, 11] k1 (fun kq v10 v11 w' => ∃ (x10_2 : Int) (x11_2 : Int), v10 = .int .i64 x10_2 ∧ v11 = .int .i64 x11_2 ∧ Aside0 (l1 kq x4_1 x6_1 x10_2 x11_2 = some (r1, r2)) ∧ Aside0 (kq ≤ k1) ∧ Drawn0 w w')
    case atStart => exact ⟨(1), (0), xR, xR, H', ⟨Nat.le_refl _⟩, dR⟩
    case round =>
     clear H'
     obtain ⟨x10_2, x11_2, rfl, rfl, HA, HK2, ⟨m2, rfl⟩⟩ := hrel
     cases gk with
     | zero => exact absurd HA.out (by simp [l1])
     | succ k2 =>
      have H := HA.out
      clear HA
      simp only [l1] at H
      by_cases c19 : x11_2 < x6_1
      ·rw [if_pos c19] at H
       have c19b0 := dT c19
       clear c19
       have H' := aM H
       clear H
       go_wp2
       go_roundg k2
       case measure => exact jC
       case rel => exact ⟨(wrap64 (10 * x10_2)), (wrap64 (x11_2 + 1)), xR, xR, H', ⟨jC⟩, dR⟩
      rw [if_neg c19] at H
      have c19b0 := dF c19
      clear c19
      replace H := nI H
      obtain ⟨c20, H⟩ := H
      have c20b0 := eq_true c20
      have c20q : floatBits .quo .f64 (floatOfInt .f64 x4_1) (floatOfInt .f64 x10_2) = some ((floatBits .quo .f64 (floatOfInt .f64 x4_1) (floatOfInt .f64 x10_2)).getD 0) := by cases h_ : floatBits .quo .f64 (floatOfInt .f64 x4_1) (floatOfInt .f64 x10_2) with | none => rw [h_] at c20; exact absurd c20 (by decide) | some q_ => rfl
      have c20r := fun t_ w_ => run_float_arith (P := Tryz.prog) w_ .quo t_ .f64 _ _ _ c20q
      clear c20q
      have c20b1 := dT c20
      clear c20
      simp only [Option.some.injEq, Prod.mk.injEq] at H
      obtain ⟨rfl, rfl⟩ := H
      go_wp2
      go_ret2
      exact ⟨xR, dR⟩
   rw [if_pos c2] at H
   have c2b0 := dT c2
   clear c2
   replace H := nI H
   obtain ⟨c3, H⟩ := H
   have c3b0 := dT c3
   clear c3
   replace H := Option.bind_eq_some_iff.mp H
   obtain ⟨t173, A50, H⟩ := H
   replace H : (if (bt a0 x8_1) = 46 then (if x7_1 = true then (j1 k1 a0 x4_1 x5_1 x6_1 x7_1 x8_1 t173 false) else (j1 k1 a0 x4_1 x5_1 x6_1 x7_1 x8_1 t173 (decide (x5_1 > 0)))) else (j1 k1 a0 x4_1 x5_1 x6_1 x7_1 x8_1 t173 false)) = some (r1, r2) := H
   have A5 := aM A50
   clear A50
   have HC6 := aM H
   clear H
   have p4 : (0 ≤ x8_1) = True := eT
   have q4 : (x8_1 < (a0.size : Int)) = True := eT
   have hx4 := bt_at a0 x8_1
   go_upto_region 9 with (first | ((with_reducible refine gate_callee (f := 46) rfl ?_); refine goesL_ (some 21) rfl rfl Tryz.func46 (by kernel_rfl) rfl #[.int .u8 (bt a0 x8_1)] rfl gA ?_; (with_reducible refine (foundryref01_digit.calls k1 (bt a0 x8_1) t173 _ A5.out).mono ?_); rintro e w' ⟨rfl, ⟨nd, rfl⟩⟩; refine ⟨_, rfl, ?_⟩))
   (try simp only [Act.put, List.setIfInBounds_toArray, List.set_cons_zero, List.set_cons_succ])
   go_cut [33] (fun v33 wc => ∃ (kq : Nat) (x33_5 : Bool), v33 = .bool x33_5 ∧ Aside0 (j1 kq a0 x4_1 x5_1 x6_1 x7_1 x8_1 t173 x33_5 = some (r1, r2)) ∧ Aside0 (kq ≤ k1) ∧ Drawn0 w wc)
   case first =>
    have H := HC6.out
    clear HC6
    by_cases c8 : (bt a0 x8_1) = 46
    rotate_left
    ·rw [if_neg c8] at H
     have c8b0 := bF c8
     have c8b1 := mT c8
     (first | rw [c8b0] | (simp only [i64_w, i32_w]; rw [c8b0]) | skip)
     have H' := aM H
     clear H
     have p7 : (0 ≤ x8_1) = True := eT
     have q7 : (x8_1 < (a0.size : Int)) = True := eT
     have hx7 := bt_at a0 x8_1
     go_wp2
     go_meet
     case rel => exact ⟨_, false, xR, H', ⟨jC⟩, dR⟩
    rw [if_pos c8] at H
    have c8b0 := bT c8
    have c8b1 := mF c8
    clear c8
    (first | rw [c8b0] | (simp only [i64_w, i32_w]; rw [c8b0]) | skip)
    by_cases c9 : x7_1 = true
    ·subst c9
     replace H := iT H
     have H' := aM H
     clear H
     have p7 : (0 ≤ x8_1) = True := eT
     have q7 : (x8_1 < (a0.size : Int)) = True := eT
     have hx7 := bt_at a0 x8_1
     go_wp2
     go_meet
     case rel => exact ⟨_, false, xR, H', ⟨jC⟩, dR⟩
    replace c9 := nF c9
    subst c9
    replace H := iF H
    have H' := aM H
    clear H
    have p7 : (0 ≤ x8_1) = True := eT
    have q7 : (x8_1 < (a0.size : Int)) = True := eT
    have hx7 := bt_at a0 x8_1
    go_wp2
    go_meet
    case rel => exact ⟨_, (decide (x5_1 > 0)), xR, H', ⟨jC⟩, dR⟩
   case rest =>
    clear HC6
    obtain ⟨kq, x33_5, rfl, HA, HJ5, ⟨mc5, rfl⟩⟩ := hcut
    cases kq with
    | zero => exact absurd HA.out (by simp [j1])
    | succ kj5 =>
     have H := HA.out
     clear HA
     simp only [j1] at H
     by_cases c10 : x33_5 = true
     ·subst c10
      replace H := iT H
      have H' := aM H
      clear H
      go_wp2
      go_roundg kj5
      case measure => exact jC
      case rel => exact ⟨x4_1, x5_1, x6_1, true, (wrap64 (x8_1 + 1)), xR, xR, xR, xR, xR, H', ⟨jC⟩, dR⟩
     replace c10 := nF c10
     subst c10
     replace H := iF H
     have HC11 := aM H
     clear H
     go_upto_region 11 with (fail)
     go_cut [39] (fun v39 wc => ∃ (kq : Nat) (x39_10 : Bool), v39 = .bool x39_10 ∧ Aside0 (j2 kq a0 x4_1 x5_1 x6_1 x7_1 x8_1 t173 x39_10 = some (r1, r2)) ∧ Aside0 (kq ≤ kj5) ∧ Drawn0 w wc)
     case first =>
      have H := HC11.out
      clear HC11
      by_cases c12 : t173 < 0
      ·rw [if_pos c12] at H
       have c12b0 := dT c12
       clear c12
       (first | rw [c12b0] | (simp only [i64_w, i32_w]; rw [c12b0]) | skip)
       have H' := aM H
       clear H
       go_wp2
       go_meet
       case rel => exact ⟨_, true, xR, H', ⟨jC⟩, dR⟩
      rw [if_neg c12] at H
      have c12b0 := dF c12
      clear c12
      (first | rw [c12b0] | (simp only [i64_w, i32_w]; rw [c12b0]) | skip)
      have H' := aM H
      clear H
      go_wp2
      go_meet
      case rel => exact ⟨_, (decide (t173 > 9)), xR, H', ⟨jC⟩, dR⟩
     case rest =>
      clear HC11
      obtain ⟨kq, x39_10, rfl, HA, HJ10, ⟨mc10, rfl⟩⟩ := hcut
      cases kq with
      | zero => exact absurd HA.out (by simp [j2])
      | succ kj10 =>
       have H := HA.out
       clear HA
       simp only [j2] at H
       by_cases c13 : x39_10 = true
       ·subst c13
        replace H := iT H
        simp only [Option.some.injEq, Prod.mk.injEq] at H
        obtain ⟨rfl, rfl⟩ := H
        go_wp2
        go_ret2
        exact ⟨xR, dR⟩
       replace c13 := nF c13
       subst c13
       replace H := iF H
       by_cases c14 : (wrap64 (x5_1 + 1)) ≤ 15
       rotate_left
       ·rw [if_neg c14] at H
        have c14b0 := dF c14
        clear c14
        by_cases c16 : x7_1 = true
        ·subst c16
         replace H := iT H
         have H' := aM H
         clear H
         go_wp2
         go_roundg kj10
         case measure => exact jC
         case rel => exact ⟨x4_1, (wrap64 (x5_1 + 1)), (wrap64 (x6_1 + 1)), true, (wrap64 (x8_1 + 1)), xR, xR, xR, xR, xR, H', ⟨jC⟩, dR⟩
        replace c16 := nF c16
        subst c16
        replace H := iF H
        have H' := aM H
        clear H
        go_wp2
        go_roundg kj10
        case measure => exact jC
        case rel => exact ⟨x4_1, (wrap64 (x5_1 + 1)), x6_1, false, (wrap64 (x8_1 + 1)), xR, xR, xR, xR, xR, H', ⟨jC⟩, dR⟩
       rw [if_pos c14] at H
       have c14b0 := dT c14
       clear c14
       by_cases c15 : x7_1 = true
       ·subst c15
        replace H := iT H
        have H' := aM H
        clear H
        go_wp2
        go_roundg kj10
        case measure => exact jC
        case rel => exact ⟨(wrap64 ((wrap64 (10 * x4_1)) + t173)), (wrap64 (x5_1 + 1)), (wrap64 (x6_1 + 1)), true, (wrap64 (x8_1 + 1)), xR, xR, xR, xR, xR, H', ⟨jC⟩, dR⟩
       replace c15 := nF c15
       subst c15
       replace H := iF H
       have H' := aM H
       clear H
       go_wp2
       go_roundg kj10
       case measure => exact jC
       case rel => exact ⟨(wrap64 ((wrap64 (10 * x4_1)) + t173)), (wrap64 (x5_1 + 1)), x6_1, false, (wrap64 (x8_1 + 1)), xR, xR, xR, xR, xR, H', ⟨jC⟩, dR⟩
end foundryref01_Literal
namespace foundryref05_hex
def f (a0 : Int) : Option (Bool) := (foundryref05_digit.f a0).bind fun t174 => (if t174 = true then (some true) else (if a0 ≥ 97 then (if a0 ≤ 102 then (some true) else (if a0 = 46 then (some true) else (if a0 = 112 then (some true) else (if a0 = 43 then (some true) else (some (a0 == 45)))))) else (if a0 = 46 then (some true) else (if a0 = 112 then (some true) else (if a0 = 43 then (some true) else (some (a0 == 45)))))))
set_option maxHeartbeats 8000000 in
set_option maxRecDepth 100000 in
theorem calls (a0 : Int) (r : Bool) (w : World) (h : f a0 = some r) :
    Calls Tryz.prog 103 #[.int .u8 a0] w fun e w' => e = .returned (.bool r) ∧ Drawn0 w w' := by
 have H : ((foundryref05_digit.f a0).bind fun t174 => (if t174 = true then (some true) else (if a0 ≥ 97 then (if a0 ≤ 102 then (some true) else (if a0 = 46 then (some true) else (if a0 = 112 then (some true) else (if a0 = 43 then (some true) else (some (a0 == 45)))))) else (if a0 = 46 then (some true) else (if a0 = 112 then (some true) else (if a0 = 43 then (some true) else (some (a0 == 45)))))))) = some r := h
 clear h
 replace H := Option.bind_eq_some_iff.mp H
 obtain ⟨t174, A20, H⟩ := H
 replace H : (if t174 = true then (some true) else (if a0 ≥ 97 then (if a0 ≤ 102 then (some true) else (if a0 = 46 then (some true) else (if a0 = 112 then (some true) else (if a0 = 43 then (some true) else (some (a0 == 45)))))) else (if a0 = 46 then (some true) else (if a0 = 112 then (some true) else (if a0 = 43 then (some true) else (some (a0 == 45))))))) = some r := H
 have A2 := aM A20
 clear A20
 by_cases c3 : t174 = true
 ·subst c3
  replace H := iT H
  obtain rfl := Option.some.inj H
  go_enter Tryz.func103, Tryz.ntmps103
  go_wp2_with (first | ((with_reducible refine gate_callee (f := 76) rfl ?_); refine goesL_ (some 4) rfl rfl Tryz.func76 (by kernel_rfl) rfl #[.int .u8 a0] rfl gA ?_; (with_reducible refine (foundryref05_digit.calls a0 true _ A2.out).mono ?_); rintro e w' ⟨rfl, ⟨nd, rfl⟩⟩; refine ⟨_, rfl, ?_⟩))
  go_ret
  exact ⟨xR, dR⟩
 replace c3 := nF c3
 subst c3
 replace H := iF H
 by_cases c4 : a0 ≥ 97
 rotate_left
 ·rw [if_neg c4] at H
  have c4b0 : decide (97 ≤ a0) = false := decide_eq_false c4
  clear c4
  by_cases c9 : a0 = 46
  ·rw [if_pos c9] at H
   have c9b0 := bT c9
   have c9b1 := mF c9
   clear c9
   obtain rfl := Option.some.inj H
   go_enter Tryz.func103, Tryz.ntmps103
   go_wp2_with (first | ((with_reducible refine gate_callee (f := 76) rfl ?_); refine goesL_ (some 4) rfl rfl Tryz.func76 (by kernel_rfl) rfl #[.int .u8 a0] rfl gA ?_; (with_reducible refine (foundryref05_digit.calls a0 false _ A2.out).mono ?_); rintro e w' ⟨rfl, ⟨nd, rfl⟩⟩; refine ⟨_, rfl, ?_⟩))
   go_ret
   exact ⟨xR, dR⟩
  rw [if_neg c9] at H
  have c9b0 := bF c9
  have c9b1 := mT c9
  by_cases c10 : a0 = 112
  ·rw [if_pos c10] at H
   have c10b0 := bT c10
   have c10b1 := mF c10
   clear c10
   obtain rfl := Option.some.inj H
   go_enter Tryz.func103, Tryz.ntmps103
   go_wp2_with (first | ((with_reducible refine gate_callee (f := 76) rfl ?_); refine goesL_ (some 4) rfl rfl Tryz.func76 (by kernel_rfl) rfl #[.int .u8 a0] rfl gA ?_; (with_reducible refine (foundryref05_digit.calls a0 false _ A2.out).mono ?_); rintro e w' ⟨rfl, ⟨nd, rfl⟩⟩; refine ⟨_, rfl, ?_⟩))
   go_ret
   exact ⟨xR, dR⟩
  rw [if_neg c10] at H
  have c10b0 := bF c10
  have c10b1 := mT c10
  by_cases c11 : a0 = 43
  rotate_left
  ·rw [if_neg c11] at H
   have c11b0 := bF c11
   have c11b1 := mT c11
   obtain rfl := Option.some.inj H
   go_enter Tryz.func103, Tryz.ntmps103
   go_wp2_with (first | ((with_reducible refine gate_callee (f := 76) rfl ?_); refine goesL_ (some 4) rfl rfl Tryz.func76 (by kernel_rfl) rfl #[.int .u8 a0] rfl gA ?_; (with_reducible refine (foundryref05_digit.calls a0 false _ A2.out).mono ?_); rintro e w' ⟨rfl, ⟨nd, rfl⟩⟩; refine ⟨_, rfl, ?_⟩))
   go_ret
   exact ⟨xR, dR⟩
  rw [if_pos c11] at H
  have c11b0 := bT c11
  have c11b1 := mF c11
  clear c11
  obtain rfl := Option.some.inj H
  go_enter Tryz.func103, Tryz.ntmps103
  go_wp2_with (first | ((with_reducible refine gate_callee (f := 76) rfl ?_); refine goesL_ (some 4) rfl rfl Tryz.func76 (by kernel_rfl) rfl #[.int .u8 a0] rfl gA ?_; (with_reducible refine (foundryref05_digit.calls a0 false _ A2.out).mono ?_); rintro e w' ⟨rfl, ⟨nd, rfl⟩⟩; refine ⟨_, rfl, ?_⟩))
  go_ret
  exact ⟨xR, dR⟩
 rw [if_pos c4] at H
 have c4b0 : decide (97 ≤ a0) = true := decide_eq_true c4
 clear c4
 by_cases c5 : a0 ≤ 102
 ·rw [if_pos c5] at H
  have c5b0 := dT c5
  clear c5
  obtain rfl := Option.some.inj H
  go_enter Tryz.func103, Tryz.ntmps103
  go_wp2_with (first | ((with_reducible refine gate_callee (f := 76) rfl ?_); refine goesL_ (some 4) rfl rfl Tryz.func76 (by kernel_rfl) rfl #[.int .u8 a0] rfl gA ?_; (with_reducible refine (foundryref05_digit.calls a0 false _ A2.out).mono ?_); rintro e w' ⟨rfl, ⟨nd, rfl⟩⟩; refine ⟨_, rfl, ?_⟩))
  go_ret
  exact ⟨xR, dR⟩
 rw [if_neg c5] at H
 have c5b0 := dF c5
 clear c5
 by_cases c6 : a0 = 46
 ·rw [if_pos c6] at H
  have c6b0 := bT c6
  have c6b1 := mF c6
  clear c6
  obtain rfl := Option.some.inj H
  go_enter Tryz.func103, Tryz.ntmps103
  go_wp2_with (first | ((with_reducible refine gate_callee (f := 76) rfl ?_); refine goesL_ (some 4) rfl rfl Tryz.func76 (by kernel_rfl) rfl #[.int .u8 a0] rfl gA ?_; (with_reducible refine (foundryref05_digit.calls a0 false _ A2.out).mono ?_); rintro e w' ⟨rfl, ⟨nd, rfl⟩⟩; refine ⟨_, rfl, ?_⟩))
  go_ret
  exact ⟨xR, dR⟩
 rw [if_neg c6] at H
 have c6b0 := bF c6
 have c6b1 := mT c6
 by_cases c7 : a0 = 112
 ·rw [if_pos c7] at H
  have c7b0 := bT c7
  have c7b1 := mF c7
  clear c7
  obtain rfl := Option.some.inj H
  go_enter Tryz.func103, Tryz.ntmps103
  go_wp2_with (first | ((with_reducible refine gate_callee (f := 76) rfl ?_); refine goesL_ (some 4) rfl rfl Tryz.func76 (by kernel_rfl) rfl #[.int .u8 a0] rfl gA ?_; (with_reducible refine (foundryref05_digit.calls a0 false _ A2.out).mono ?_); rintro e w' ⟨rfl, ⟨nd, rfl⟩⟩; refine ⟨_, rfl, ?_⟩))
  go_ret
  exact ⟨xR, dR⟩
 rw [if_neg c7] at H
 have c7b0 := bF c7
 have c7b1 := mT c7
 by_cases c8 : a0 = 43
 rotate_left
 ·rw [if_neg c8] at H
  have c8b0 := bF c8
  have c8b1 := mT c8
  obtain rfl := Option.some.inj H
  go_enter Tryz.func103, Tryz.ntmps103
  go_wp2_with (first | ((with_reducible refine gate_callee (f := 76) rfl ?_); refine goesL_ (some 4) rfl rfl Tryz.func76 (by kernel_rfl) rfl #[.int .u8 a0] rfl gA ?_; (with_reducible refine (foundryref05_digit.calls a0 false _ A2.out).mono ?_); rintro e w' ⟨rfl, ⟨nd, rfl⟩⟩; refine ⟨_, rfl, ?_⟩))
  go_ret
  exact ⟨xR, dR⟩
 rw [if_pos c8] at H
 have c8b0 := bT c8
 have c8b1 := mF c8
 clear c8
 obtain rfl := Option.some.inj H
 go_enter Tryz.func103, Tryz.ntmps103
 go_wp2_with (first | ((with_reducible refine gate_callee (f := 76) rfl ?_); refine goesL_ (some 4) rfl rfl Tryz.func76 (by kernel_rfl) rfl #[.int .u8 a0] rfl gA ?_; (with_reducible refine (foundryref05_digit.calls a0 false _ A2.out).mono ?_); rintro e w' ⟨rfl, ⟨nd, rfl⟩⟩; refine ⟨_, rfl, ?_⟩))
 go_ret
 exact ⟨xR, dR⟩
end foundryref05_hex
namespace foundryref05_number
def l0 : Nat → ByteArray → Int → Int → Option (Int × Bool)
  | 0, _, _, _ => none
  | k + 1, x0, x4, x5 => if x5 < (x0.size : Int) then (if 0 ≤ x5 then (if x4 > ((9223372036854775807 - (((bt x0 x5) - 48) % 256)) / 10) then (some (0, false)) else (l0 k x0 (IntKind.u64.wrap ((IntKind.u64.wrap (10 * x4)) + (((bt x0 x5) - 48) % 256))) (wrap64 (x5 + 1)))) else (none)) else (some (x4, true))
def f (k : Nat) (a0 : ByteArray) : Option (Int × Bool) := l0 k a0 0 0
theorem mono_l : ∀ k, (∀ y0 y1 y2, LeO (l0 k y0 y1 y2) (l0 (k + 1) y0 y1 y2))
  | 0 => fun _ _ _ r h => by simp [l0] at h
  | k + 1 => by
    have ih0 := mono_l k
    · intro y0 y1 y2
      unfold l0
      repeat' first
      | (with_reducible first | apply ih0 | exact LeO.refl _ | exact LeO.none _ | refine LeO.ite ?_ ?_ | refine LeO.bind ?_ (fun _ => ?_))
      | exact LeO.none _ | refine LeO.ite ?_ ?_ | refine LeO.bind ?_ (fun _ => ?_)
theorem mono : ∀ a0 k, LeO (f k a0) (f (k + 1) a0) := by
  intro a0 k
  have ih0 := mono_l k
  unfold f
  repeat' first
      | (with_reducible first | apply ih0 | exact LeO.refl _ | exact LeO.none _ | refine LeO.ite ?_ ?_ | refine LeO.bind ?_ (fun _ => ?_))
      | exact LeO.none _ | refine LeO.ite ?_ ?_ | refine LeO.bind ?_ (fun _ => ?_)
set_option maxHeartbeats 8000000 in
set_option maxRecDepth 100000 in
theorem calls (k : Nat) (a0 : ByteArray) (r1 : Int) (r2 : Bool) (w : World) (h : f k a0 = some (r1, r2)) :
    Calls Tryz.prog 104 #[.string a0] w fun e w' => e = .returned (.tuple #[.int .u64 r1, .bool r2]) ∧ Drawn0 w w' := by
 have H : (l0 k a0 0 0) = some (r1, r2) := h
 clear h
 have H' := aM H
 clear H
 go_enter Tryz.func104, Tryz.ntmps104
 go_wp2
 go_loopg [4, 5] k (fun kq v4 v5 w' => ∃ (x4_1 : Int) (x5_1 : Int), v4 = .int .u64 x4_1 ∧ v5 = .int .i64 x5_1 ∧ Aside0 (l0 kq a0 x4_1 x5_1 = some (r1, r2)) ∧ Aside0 (kq ≤ k) ∧ Drawn0 w w')
 case atStart => exact ⟨(0), (0), xR, xR, H', ⟨Nat.le_refl _⟩, dR⟩
 case round =>
  clear H'
  obtain ⟨x4_1, x5_1, rfl, rfl, HA, HK1, ⟨m1, rfl⟩⟩ := hrel
  cases gk with
  | zero => exact absurd HA.out (by simp [l0])
  | succ k1 =>
   have H := HA.out
   clear HA
   simp only [l0] at H
   by_cases c2 : x5_1 < (a0.size : Int)
   rotate_left
   ·rw [if_neg c2] at H
    have c2b0 := dF c2
    clear c2
    simp only [Option.some.injEq, Prod.mk.injEq] at H
    obtain ⟨rfl, rfl⟩ := H
    go_wp2
    go_ret2
    exact ⟨xR, dR⟩
   rw [if_pos c2] at H
   have c2b0 := dT c2
   clear c2
   replace H := nI H
   obtain ⟨c3, H⟩ := H
   have c3b0 := dT c3
   clear c3
   by_cases c5 : x4_1 > ((9223372036854775807 - (((bt a0 x5_1) - 48) % 256)) / 10)
   ·rw [if_pos c5] at H
    have c5b0 : decide (((9223372036854775807 - (((bt a0 x5_1) - 48) % 256)) / 10) < x4_1) = true := decide_eq_true c5
    clear c5
    simp only [Option.some.injEq, Prod.mk.injEq] at H
    obtain ⟨rfl, rfl⟩ := H
    have p4 : (0 ≤ x5_1) = True := eT
    have q4 : (x5_1 < (a0.size : Int)) = True := eT
    have hx4 := bt_at a0 x5_1
    go_wp2
    go_ret2
    exact ⟨xR, dR⟩
   rw [if_neg c5] at H
   have c5b0 : decide (((9223372036854775807 - (((bt a0 x5_1) - 48) % 256)) / 10) < x4_1) = false := decide_eq_false c5
   clear c5
   have H' := aM H
   clear H
   have p4 : (0 ≤ x5_1) = True := eT
   have q4 : (x5_1 < (a0.size : Int)) = True := eT
   have hx4 := bt_at a0 x5_1
   go_wp2
   go_roundg k1
   case measure => exact jC
   case rel => exact ⟨(IntKind.u64.wrap ((IntKind.u64.wrap (10 * x4_1)) + (((bt a0 x5_1) - 48) % 256))), (wrap64 (x5_1 + 1)), xR, xR, H', ⟨jC⟩, dR⟩
end foundryref05_number
end Go.Proofs.YthifejhdmjoolaaGreatDoor.QE
