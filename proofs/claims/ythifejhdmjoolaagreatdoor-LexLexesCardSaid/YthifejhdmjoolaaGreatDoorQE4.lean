-- WRITTEN BY A PROGRAM OF THE SESSION (wip/myprint.sh): Lean checks it.
import Derived.Test.YthifejhdmjoolaaGreatDoorQE0
namespace Go.Proofs.YthifejhdmjoolaaGreatDoor.QE
open Go.Proofs.YthifejhdmjoolaaGreatDoorG Go.Proofs.YthifejhdmjoolaaGreatDoor.QR
attribute [local go_sem] Instr.field asAgg ext47
open Go.RowKit Go.Proofs.YthifejhdmjoolaaGreatDoorW.PrintWords Go.Proofs.YthifejhdmjoolaaGreatDoorW.PrintLast Go.Proofs.YthifejhdmjoolaaGreatDoorW.PrintMore
attribute [local go_sem] max2_int min2_int max_two min_two max_three min_three max_four min_four   -- for this text's walks alone
set_option linter.unusedVariables false
set_option linter.unusedSimpArgs false
namespace foundryref05_skip
mutual
def l0 : Nat → ByteArray → Int → Option (Int)
  | 0, _, _ => none
  | k + 1, x0, x1 => if x1 < (x0.size : Int) then (if 0 ≤ x1 then (if (bt x0 x1) = 32 then (j1 k x0 x1 true) else (if (bt x0 x1) = 9 then (j1 k x0 x1 true) else (if (bt x0 x1) = 10 then (j1 k x0 x1 true) else (j1 k x0 x1 ((bt x0 x1) == 13))))) else (none)) else (some x1)
def j1 : Nat → ByteArray → Int → Bool → Option (Int)
  | 0, _, _, _ => none
  | k + 1, x0, x1, x10 => if x10 = true then (l0 k x0 (wrap64 (x1 + 1))) else (if 0 ≤ x1 then (if x1 < (x0.size : Int) then (if (bt x0 x1) = 47 then (if (wrap64 (x1 + 1)) < (x0.size : Int) then (if 0 ≤ (wrap64 (x1 + 1)) then (j2 k x0 x1 ((bt x0 (wrap64 (x1 + 1))) == 47)) else (none)) else (j2 k x0 x1 false)) else (j2 k x0 x1 false)) else (none)) else (none))
def j2 : Nat → ByteArray → Int → Bool → Option (Int)
  | 0, _, _, _ => none
  | k + 1, x0, x1, x35 => if x35 = true then (l1 k x0 x1) else (some x1)
def l1 : Nat → ByteArray → Int → Option (Int)
  | 0, _, _ => none
  | k + 1, x0, x1 => if x1 < (x0.size : Int) then (if 0 ≤ x1 then (if (bt x0 x1) = 10 then (l0 k x0 x1) else (l1 k x0 (wrap64 (x1 + 1)))) else (none)) else (l0 k x0 x1)
end
def f (k : Nat) (a0 : ByteArray) (a1 : Int) : Option (Int) := l0 k a0 a1
theorem mono_l : ∀ k, (∀ y0 y1, LeO (l0 k y0 y1) (l0 (k + 1) y0 y1)) ∧ (∀ y0 y1 y2, LeO (j1 k y0 y1 y2) (j1 (k + 1) y0 y1 y2)) ∧ (∀ y0 y1 y2, LeO (j2 k y0 y1 y2) (j2 (k + 1) y0 y1 y2)) ∧ (∀ y0 y1, LeO (l1 k y0 y1) (l1 (k + 1) y0 y1))
  | 0 => by refine ⟨?_, ?_, ?_, ?_⟩ <;> (intros; exact LeO.none _)
  | k + 1 => by
    obtain ⟨ih0, ih1, ih2, ih3⟩ := mono_l k
    refine ⟨?_, ?_, ?_, ?_⟩ <;> intros <;> first | unfold l0 | unfold j1 | unfold j2 | unfold l1
    all_goals repeat' first
    | (with_reducible first | apply ih0 | apply ih1 | apply ih2 | apply ih3 | exact LeO.refl _ | exact LeO.none _ | refine LeO.ite ?_ ?_ | refine LeO.bind ?_ (fun _ => ?_))
    | exact LeO.none _ | refine LeO.ite ?_ ?_ | refine LeO.bind ?_ (fun _ => ?_)
theorem mono : ∀ a0 a1 k, LeO (f k a0 a1) (f (k + 1) a0 a1) := by
  intro a0 a1 k
  obtain ⟨ih0, ih1, ih2, ih3⟩ := mono_l k
  unfold f
  repeat' first
      | (with_reducible first | apply ih0 | apply ih1 | apply ih2 | apply ih3 | exact LeO.refl _ | exact LeO.none _ | refine LeO.ite ?_ ?_ | refine LeO.bind ?_ (fun _ => ?_))
      | exact LeO.none _ | refine LeO.ite ?_ ?_ | refine LeO.bind ?_ (fun _ => ?_)
set_option maxHeartbeats 8000000 in
set_option maxRecDepth 100000 in
theorem calls (k : Nat) (a0 : ByteArray) (a1 : Int) (r : Int) (w : World) (h : f k a0 a1 = some r) :
    Calls Tryz.prog 50 #[.string a0, .int .i64 a1] w fun e w' => e = .returned (.int .i64 r) ∧ Drawn0 w w' := by
 have H : (l0 k a0 a1) = some r := h
 clear h
 have H' := aM H
 clear H
 go_enter Tryz.func50, Tryz.ntmps50
 go_wp2
 go_loopg [1] k (fun kq v1 w' => ∃ (x1_1 : Int), v1 = .int .i64 x1_1 ∧ Aside0 (l0 kq a0 x1_1 = some r) ∧ Aside0 (kq ≤ k) ∧ Drawn0 w w')
 case atStart => exact ⟨a1, xR, H', ⟨Nat.le_refl _⟩, dR⟩
 case round =>
  clear H'
  obtain ⟨x1_1, rfl, HA, HK1, ⟨m1, rfl⟩⟩ := hrel
  cases gk with
  | zero => exact absurd HA.out (by simp [l0])
  | succ k1 =>
   have H := HA.out
   clear HA
   simp only [l0] at H
   by_cases c3 : x1_1 < (a0.size : Int)
   rotate_left
   ·rw [if_neg c3] at H
    have c3b0 := dF c3
    clear c3
    obtain rfl := Option.some.inj H
    go_wp2
    go_ret
    exact ⟨xR, dR⟩
   rw [if_pos c3] at H
   have c3b0 := dT c3
   clear c3
   have HC4 := aM H
   clear H
   go_upto_region 3 with (fail)
   go_cut [10] (fun v10 wc => ∃ (kq : Nat) (x10_3 : Bool), v10 = .bool x10_3 ∧ Aside0 (j1 kq a0 x1_1 x10_3 = some r) ∧ Aside0 (kq ≤ k1) ∧ Drawn0 w wc)
   case first =>
    have H := HC4.out
    clear HC4
    replace H := nI H
    obtain ⟨c5, H⟩ := H
    have c5b0 := dT c5
    clear c5
    (first | rw [c5b0] | (simp only [i64_w, i32_w]; rw [c5b0]) | skip)
    by_cases c7 : (bt a0 x1_1) = 32
    ·rw [if_pos c7] at H
     have c7b0 := bT c7
     have c7b1 := mF c7
     clear c7
     have H' := aM H
     clear H
     have p6 : (0 ≤ x1_1) = True := eT
     have q6 : (x1_1 < (a0.size : Int)) = True := eT
     have hx6 := bt_at a0 x1_1
     go_wp2
     go_meet
     case rel => exact ⟨_, true, xR, H', ⟨jC⟩, dR⟩
    rw [if_neg c7] at H
    have c7b0 := bF c7
    have c7b1 := mT c7
    by_cases c9 : (bt a0 x1_1) = 9
    ·rw [if_pos c9] at H
     have c9b0 := bT c9
     have c9b1 := mF c9
     clear c9
     have H' := aM H
     clear H
     have p6 : (0 ≤ x1_1) = True := eT
     have q6 : (x1_1 < (a0.size : Int)) = True := eT
     have hx6 := bt_at a0 x1_1
     have p8 : (0 ≤ x1_1) = True := eT
     have q8 : (x1_1 < (a0.size : Int)) = True := eT
     have hx8 := bt_at a0 x1_1
     go_wp2
     go_meet
     case rel => exact ⟨_, true, xR, H', ⟨jC⟩, dR⟩
    rw [if_neg c9] at H
    have c9b0 := bF c9
    have c9b1 := mT c9
    by_cases c11 : (bt a0 x1_1) = 10
    ·rw [if_pos c11] at H
     have c11b0 := bT c11
     have c11b1 := mF c11
     clear c11
     have H' := aM H
     clear H
     have p6 : (0 ≤ x1_1) = True := eT
     have q6 : (x1_1 < (a0.size : Int)) = True := eT
     have hx6 := bt_at a0 x1_1
     have p8 : (0 ≤ x1_1) = True := eT
     have q8 : (x1_1 < (a0.size : Int)) = True := eT
     have hx8 := bt_at a0 x1_1
     have p10 : (0 ≤ x1_1) = True := eT
     have q10 : (x1_1 < (a0.size : Int)) = True := eT
     have hx10 := bt_at a0 x1_1
     go_wp2
     go_meet
     case rel => exact ⟨_, true, xR, H', ⟨jC⟩, dR⟩
    rw [if_neg c11] at H
    have c11b0 := bF c11
    have c11b1 := mT c11
    have H' := aM H
    clear H
    have p6 : (0 ≤ x1_1) = True := eT
    have q6 : (x1_1 < (a0.size : Int)) = True := eT
    have hx6 := bt_at a0 x1_1
    have p8 : (0 ≤ x1_1) = True := eT
    have q8 : (x1_1 < (a0.size : Int)) = True := eT
    have hx8 := bt_at a0 x1_1
    have p10 : (0 ≤ x1_1) = True := eT
    have q10 : (x1_1 < (a0.size : Int)) = True := eT
    have hx10 := bt_at a0 x1_1
    have p12 : (0 ≤ x1_1) = True := eT
    have q12 : (x1_1 < (a0.size : Int)) = True := eT
    have hx12 := bt_at a0 x1_1
    go_wp2
    go_meet
    case rel => exact ⟨_, (((bt a0 x1_1) == 13)), xR, H', ⟨jC⟩, dR⟩
   case rest =>
    clear HC4
    obtain ⟨kq, x10_3, rfl, HA, HJ3, ⟨mc3, rfl⟩⟩ := hcut
    cases kq with
    | zero => exact absurd HA.out (by simp [j1])
    | succ kj3 =>
     have H := HA.out
     clear HA
     simp only [j1] at H
     by_cases c13 : x10_3 = true
     ·subst c13
      replace H := iT H
      have H' := aM H
      clear H
      go_wp2
      go_roundg kj3
      case measure => exact jC
      case rel => exact ⟨(wrap64 (x1_1 + 1)), xR, H', ⟨jC⟩, dR⟩
     replace c13 := nF c13
     subst c13
     replace H := iF H
     have HC14 := aM H
     clear H
     go_upto_region 5 with (fail)
     go_cut [35] (fun v35 wc => ∃ (kq : Nat) (x35_13 : Bool), v35 = .bool x35_13 ∧ Aside0 (j2 kq a0 x1_1 x35_13 = some r) ∧ Aside0 (kq ≤ kj3) ∧ Drawn0 w wc)
     case first =>
      have H := HC14.out
      clear HC14
      replace H := nI H
      obtain ⟨c15, H⟩ := H
      have c15b0 := dT c15
      clear c15
      (first | rw [c15b0] | (simp only [i64_w, i32_w]; rw [c15b0]) | skip)
      replace H := nI H
      obtain ⟨c16, H⟩ := H
      have c16b0 := dT c16
      clear c16
      by_cases c18 : (bt a0 x1_1) = 47
      rotate_left
      ·rw [if_neg c18] at H
       have c18b0 := bF c18
       have c18b1 := mT c18
       have H' := aM H
       clear H
       have p17 : (0 ≤ x1_1) = True := eT
       have q17 : (x1_1 < (a0.size : Int)) = True := eT
       have hx17 := bt_at a0 x1_1
       go_wp2
       go_meet
       case rel => exact ⟨_, false, xR, H', ⟨jC⟩, dR⟩
      rw [if_pos c18] at H
      have c18b0 := bT c18
      have c18b1 := mF c18
      clear c18
      by_cases c19 : (wrap64 (x1_1 + 1)) < (a0.size : Int)
      rotate_left
      ·rw [if_neg c19] at H
       have c19b0 := dF c19
       clear c19
       have H' := aM H
       clear H
       have p17 : (0 ≤ x1_1) = True := eT
       have q17 : (x1_1 < (a0.size : Int)) = True := eT
       have hx17 := bt_at a0 x1_1
       go_wp2
       go_meet
       case rel => exact ⟨_, false, xR, H', ⟨jC⟩, dR⟩
      rw [if_pos c19] at H
      have c19b0 := dT c19
      clear c19
      obtain ⟨ji20, hji20⟩ : ∃ j_ : Int, (wrap64 (x1_1 + 1)) = j_ := ⟨_, rfl⟩
      replace H : (if 0 ≤ (ji20) then (j2 kj3 a0 x1_1 ((bt a0 (ji20)) == 47)) else (none)) = some r := by first | (rw [hji20] at H; exact H) | (simp only [hji20] at H ⊢; exact H)
      (try rw [hji20] at c19b0)
      have hji20w : (IntKind.i64.wrap (x1_1 + 1)) = ji20 := (i64_w _).trans hji20
      replace H := nI H
      obtain ⟨c21, H⟩ := H
      have c21b0 := dT c21
      clear c21
      have H' := aM H
      clear H
      have p17 : (0 ≤ x1_1) = True := eT
      have q17 : (x1_1 < (a0.size : Int)) = True := eT
      have hx17 := bt_at a0 x1_1
      have p22 : (0 ≤ ji20) = True := eT
      have q22 : ((ji20) < (a0.size : Int)) = True := eT
      have hx22 := bt_at a0 (ji20)
      go_wp2
      go_meet
      case rel => exact ⟨_, (((bt a0 (ji20)) == 47)), (by first | rfl | (simp; done) | (simp only [← hji20] <;> (first | rfl | simp)) | (simp [*]; done)), H', ⟨jC⟩, dR⟩
     case rest =>
      clear HC14
      obtain ⟨kq, x35_13, rfl, HA, HJ13, ⟨mc13, rfl⟩⟩ := hcut
      cases kq with
      | zero => exact absurd HA.out (by simp [j2])
      | succ kj13 =>
       have H := HA.out
       clear HA
       simp only [j2] at H
       by_cases c23 : x35_13 = true
       rotate_left
       ·replace c23 := nF c23
        subst c23
        replace H := iF H
        obtain rfl := Option.some.inj H
        go_wp2
        go_ret
        exact ⟨xR, dR⟩
       subst c23
       replace H := iT H
       have H' := aM H
       clear H
       go_wp2
       go_loopg [1] kj13 (fun kq v1 w' => ∃ (x1_4 : Int), v1 = .int .i64 x1_4 ∧ Aside0 (l1 kq a0 x1_4 = some r) ∧ Aside0 (kq ≤ kj13) ∧ Drawn0 w w')
       case atStart => exact ⟨x1_1, xR, H', ⟨Nat.le_refl _⟩, dR⟩
       case round =>
        clear H'
        obtain ⟨x1_4, rfl, HA, HK4, ⟨m4, rfl⟩⟩ := hrel
        cases gk with
        | zero => exact absurd HA.out (by simp [l1])
        | succ k4 =>
         have H := HA.out
         clear HA
         simp only [l1] at H
         by_cases c24 : x1_4 < (a0.size : Int)
         rotate_left
         ·rw [if_neg c24] at H
          have c24b0 := dF c24
          clear c24
          have H' := aM H
          clear H
          go_wp2
          go_roundg k4
          case measure => exact jC
          case rel => exact ⟨x1_4, xR, H', ⟨jC⟩, dR⟩
         rw [if_pos c24] at H
         have c24b0 := dT c24
         clear c24
         replace H := nI H
         obtain ⟨c25, H⟩ := H
         have c25b0 := dT c25
         clear c25
         by_cases c27 : (bt a0 x1_4) = 10
         rotate_left
         ·rw [if_neg c27] at H
          have c27b0 := bF c27
          have c27b1 := mT c27
          have H' := aM H
          clear H
          have p26 : (0 ≤ x1_4) = True := eT
          have q26 : (x1_4 < (a0.size : Int)) = True := eT
          have hx26 := bt_at a0 x1_4
          go_wp2
          go_roundg k4
          case measure => exact jC
          case rel => exact ⟨(wrap64 (x1_4 + 1)), xR, H', ⟨jC⟩, dR⟩
         rw [if_pos c27] at H
         have c27b0 := bT c27
         have c27b1 := mF c27
         clear c27
         have H' := aM H
         clear H
         have p26 : (0 ≤ x1_4) = True := eT
         have q26 : (x1_4 < (a0.size : Int)) = True := eT
         have hx26 := bt_at a0 x1_4
         go_wp2
         go_roundg k4
         case measure => exact jC
         case rel => exact ⟨x1_4, xR, H', ⟨jC⟩, dR⟩
end foundryref05_skip
namespace foundryref05_letter
def f (a0 : Int) : Option (Bool) := if a0 ≥ 97 then (if a0 ≤ 122 then (some true) else (if a0 ≥ 65 then (if a0 ≤ 90 then (some true) else (some (a0 == 95))) else (some (a0 == 95)))) else (if a0 ≥ 65 then (if a0 ≤ 90 then (some true) else (some (a0 == 95))) else (some (a0 == 95)))
set_option maxHeartbeats 8000000 in
set_option maxRecDepth 100000 in
theorem calls (a0 : Int) (r : Bool) (w : World) (h : f a0 = some r) :
    Calls Tryz.prog 75 #[.int .u8 a0] w fun e w' => e = .returned (.bool r) ∧ Drawn0 w w' := by
 have H : (if a0 ≥ 97 then (if a0 ≤ 122 then (some true) else (if a0 ≥ 65 then (if a0 ≤ 90 then (some true) else (some (a0 == 95))) else (some (a0 == 95)))) else (if a0 ≥ 65 then (if a0 ≤ 90 then (some true) else (some (a0 == 95))) else (some (a0 == 95)))) = some r := h
 clear h
 by_cases c2 : a0 ≥ 97
 rotate_left
 ·rw [if_neg c2] at H
  have c2b0 : decide (97 ≤ a0) = false := decide_eq_false c2
  clear c2
  by_cases c6 : a0 ≥ 65
  rotate_left
  ·rw [if_neg c6] at H
   have c6b0 : decide (65 ≤ a0) = false := decide_eq_false c6
   clear c6
   obtain rfl := Option.some.inj H
   go_enter Tryz.func75, Tryz.ntmps75
   go_wp2
   go_ret
   exact ⟨xR, dR⟩
  rw [if_pos c6] at H
  have c6b0 : decide (65 ≤ a0) = true := decide_eq_true c6
  clear c6
  by_cases c7 : a0 ≤ 90
  ·rw [if_pos c7] at H
   have c7b0 := dT c7
   clear c7
   obtain rfl := Option.some.inj H
   go_enter Tryz.func75, Tryz.ntmps75
   go_wp2
   go_ret
   exact ⟨xR, dR⟩
  rw [if_neg c7] at H
  have c7b0 := dF c7
  clear c7
  obtain rfl := Option.some.inj H
  go_enter Tryz.func75, Tryz.ntmps75
  go_wp2
  go_ret
  exact ⟨xR, dR⟩
 rw [if_pos c2] at H
 have c2b0 : decide (97 ≤ a0) = true := decide_eq_true c2
 clear c2
 by_cases c3 : a0 ≤ 122
 ·rw [if_pos c3] at H
  have c3b0 := dT c3
  clear c3
  obtain rfl := Option.some.inj H
  go_enter Tryz.func75, Tryz.ntmps75
  go_wp2
  go_ret
  exact ⟨xR, dR⟩
 rw [if_neg c3] at H
 have c3b0 := dF c3
 clear c3
 by_cases c4 : a0 ≥ 65
 rotate_left
 ·rw [if_neg c4] at H
  have c4b0 : decide (65 ≤ a0) = false := decide_eq_false c4
  clear c4
  obtain rfl := Option.some.inj H
  go_enter Tryz.func75, Tryz.ntmps75
  go_wp2
  go_ret
  exact ⟨xR, dR⟩
 rw [if_pos c4] at H
 have c4b0 : decide (65 ≤ a0) = true := decide_eq_true c4
 clear c4
 by_cases c5 : a0 ≤ 90
 ·rw [if_pos c5] at H
  have c5b0 := dT c5
  clear c5
  obtain rfl := Option.some.inj H
  go_enter Tryz.func75, Tryz.ntmps75
  go_wp2
  go_ret
  exact ⟨xR, dR⟩
 rw [if_neg c5] at H
 have c5b0 := dF c5
 clear c5
 obtain rfl := Option.some.inj H
 go_enter Tryz.func75, Tryz.ntmps75
 go_wp2
 go_ret
 exact ⟨xR, dR⟩
end foundryref05_letter
namespace foundryref05_digit
def f (a0 : Int) : Option (Bool) := if a0 ≥ 48 then (some (decide (a0 ≤ 57))) else (some false)
set_option maxHeartbeats 8000000 in
set_option maxRecDepth 100000 in
theorem calls (a0 : Int) (r : Bool) (w : World) (h : f a0 = some r) :
    Calls Tryz.prog 76 #[.int .u8 a0] w fun e w' => e = .returned (.bool r) ∧ Drawn0 w w' := by
 have H : (if a0 ≥ 48 then (some (decide (a0 ≤ 57))) else (some false)) = some r := h
 clear h
 by_cases c2 : a0 ≥ 48
 ·rw [if_pos c2] at H
  have c2b0 : decide (48 ≤ a0) = true := decide_eq_true c2
  clear c2
  obtain rfl := Option.some.inj H
  go_enter Tryz.func76, Tryz.ntmps76
  go_wp2
  go_ret
  exact ⟨xR, dR⟩
 rw [if_neg c2] at H
 have c2b0 : decide (48 ≤ a0) = false := decide_eq_false c2
 clear c2
 obtain rfl := Option.some.inj H
 go_enter Tryz.func76, Tryz.ntmps76
 go_wp2
 go_ret
 exact ⟨xR, dR⟩
end foundryref05_digit
/-! ### foundryref04_Find: function 101 -/
def foundryref04_Find.l0 : Nat → List ByteArray → ByteArray → Int → Option (Int × Bool)
  | 0, _, _, _ => none
  | k + 1, x0, x1, x6 => if x6 < (x0.length : Int) then (if 0 ≤ x6 then (if (rdOf ByteArray.empty x0 x6).toList = x1.toList then (some (x6, true)) else (foundryref04_Find.l0 k x0 x1 (wrap64 (x6 + 1)))) else (none)) else (some (0, false))
def foundryref04_Find.f (k : Nat) (l0 : List ByteArray) (a1 : ByteArray) : Option (Int × Bool) := foundryref04_Find.l0 k l0 a1 0
theorem foundryref04_Find.mono_l : ∀ k, (∀ y0 y1 y2, LeO (foundryref04_Find.l0 k y0 y1 y2) (foundryref04_Find.l0 (k + 1) y0 y1 y2))
  | 0 => fun _ _ _ r h => by simp [foundryref04_Find.l0] at h
  | k + 1 => by
    have ih0 := foundryref04_Find.mono_l k
    · intro y0 y1 y2
      unfold foundryref04_Find.l0
      repeat' first
      | (with_reducible first | apply ih0 | exact LeO.refl _ | exact LeO.none _ | refine LeO.ite ?_ ?_ | refine LeO.bind ?_ (fun _ => ?_))
      | exact LeO.none _ | refine LeO.ite ?_ ?_ | refine LeO.bind ?_ (fun _ => ?_)
theorem foundryref04_Find.mono : ∀ a0 a1 k, LeO (foundryref04_Find.f k a0 a1) (foundryref04_Find.f (k + 1) a0 a1) := by
  intro a0 a1 k
  have ih0 := foundryref04_Find.mono_l k
  unfold foundryref04_Find.f
  repeat' first
      | (with_reducible first | apply ih0 | exact LeO.refl _ | exact LeO.none _ | refine LeO.ite ?_ ?_ | refine LeO.bind ?_ (fun _ => ?_))
      | exact LeO.none _ | refine LeO.ite ?_ ?_ | refine LeO.bind ?_ (fun _ => ?_)
set_option maxHeartbeats 8000000 in
set_option maxRecDepth 100000 in
theorem foundryref04_Find.calls (k : Nat) (A0 : Option Addr) (c0 : Nat) (l0 : List ByteArray) (a1 : ByteArray) (r1 : Int) (r2 : Bool) (w : World) (hr0 : Kd.C Kd.string w A0 l0.length l0) (hc0 : l0.length ≤ c0) (h : foundryref04_Find.f k l0 a1 = some (r1, r2)) :
    Calls Tryz.prog 101 #[.slice A0 l0.length c0, .string a1] w fun e w' => e = .returned (.tuple #[.int .i64 r1, .bool r2]) ∧ Drawn0 w w' := by
 have HR0 := aM hr0
 have HC0 := aM hc0
 clear hr0 hc0
 have H : (foundryref04_Find.l0 k l0 a1 0) = some (r1, r2) := h
 clear h
 have H' := aM H
 clear H
 go_enter Tryz.func101, Tryz.ntmps101
 go_wp2
 go_loopg [6] k (fun kq v6 w' => ∃ (x6_1 : Int), v6 = .int .i64 x6_1 ∧ Aside0 (foundryref04_Find.l0 kq l0 a1 x6_1 = some (r1, r2)) ∧ Aside0 (kq ≤ k) ∧ Drawn0 w w')
 case atStart => exact ⟨(0), xR, H', ⟨Nat.le_refl _⟩, dR⟩
 case round =>
  clear H'
  obtain ⟨x6_1, rfl, HA, HK1, ⟨m1, rfl⟩⟩ := hrel
  cases gk with
  | zero => exact absurd HA.out (by simp [foundryref04_Find.l0])
  | succ k1 =>
   have H := HA.out
   clear HA
   simp only [foundryref04_Find.l0] at H
   by_cases c3 : x6_1 < (l0.length : Int)
   rotate_left
   ·rw [if_neg c3] at H
    have c3b0 := dF c3
    clear c3
    simp only [Option.some.injEq, Prod.mk.injEq] at H
    obtain ⟨rfl, rfl⟩ := H
    go_wp2
    go_ret2
    exact ⟨xR, dR⟩
   rw [if_pos c3] at H
   have c3b0 := dT c3
   clear c3
   replace H := nI H
   obtain ⟨c4, H⟩ := H
   have c4b0 := dT c4
   clear c4
   by_cases c5 : (rdOf ByteArray.empty l0 x6_1).toList = a1.toList
   ·rw [if_pos c5] at H
    have c5b0 : ((rdOf ByteArray.empty l0 x6_1).toList == a1.toList) = true := beq_iff_eq.mpr c5
    have c5b1 : ((rdOf ByteArray.empty l0 x6_1).toList != a1.toList) = false := bne_eq_false_iff_eq.mpr c5
    clear c5
    simp only [Option.some.injEq, Prod.mk.injEq] at H
    obtain ⟨rfl, rfl⟩ := H
    have p145 : 0 ≤ (x6_1 : Int) := oA
    have q145 : x6_1 < (l0.length : Int) := oA
    obtain ⟨ad145, e145, hx145_0⟩ := Kd.at_string HR0.out x6_1 p145 q145
    cases e145
    replace p145 := eq_true p145
    replace q145 := eq_true q145
    go_wp2
    go_ret2
    exact ⟨xR, dR⟩
   rw [if_neg c5] at H
   have c5b0 : ((rdOf ByteArray.empty l0 x6_1).toList == a1.toList) = false := beq_eq_false_iff_ne.mpr c5
   have c5b1 : ((rdOf ByteArray.empty l0 x6_1).toList != a1.toList) = true := bne_iff_ne.mpr c5
   have H' := aM H
   clear H
   have p145 : 0 ≤ (x6_1 : Int) := oA
   have q145 : x6_1 < (l0.length : Int) := oA
   obtain ⟨ad145, e145, hx145_0⟩ := Kd.at_string HR0.out x6_1 p145 q145
   cases e145
   replace p145 := eq_true p145
   replace q145 := eq_true q145
   go_wp2
   go_roundg k1
   case measure => exact jC
   case rel => exact ⟨(wrap64 (x6_1 + 1)), xR, H', ⟨jC⟩, dR⟩
namespace foundryref04_Words
def f  : Option (List ByteArray) := some (([(⟨#[98, 111, 111, 108]⟩ : ByteArray), (⟨#[99, 97, 116, 99, 104]⟩ : ByteArray), (⟨#[99, 111, 110, 115, 116]⟩ : ByteArray), (⟨#[101, 108, 115, 101]⟩ : ByteArray), (⟨#[101, 120, 112, 111, 114, 116]⟩ : ByteArray), (⟨#[102, 97, 105, 108]⟩ : ByteArray), (⟨#[102, 97, 108, 115, 101]⟩ : ByteArray), (⟨#[102, 108, 111, 97, 116]⟩ : ByteArray), (⟨#[102, 110]⟩ : ByteArray), (⟨#[105, 102]⟩ : ByteArray), (⟨#[105, 109, 112, 111, 114, 116]⟩ : ByteArray), (⟨#[105, 110, 102]⟩ : ByteArray), (⟨#[105, 110, 112, 117, 116]⟩ : ByteArray), (⟨#[105, 110, 116]⟩ : ByteArray), (⟨#[108, 101, 116]⟩ : ByteArray), (⟨#[109, 111, 100, 117, 108, 101]⟩ : ByteArray), (⟨#[110, 97, 110]⟩ : ByteArray), (⟨#[114, 101, 116, 117, 114, 110]⟩ : ByteArray), (⟨#[115, 104, 111, 119]⟩ : ByteArray), (⟨#[116, 114, 117, 101]⟩ : ByteArray), (⟨#[116, 114, 121]⟩ : ByteArray), (⟨#[118, 97, 114]⟩ : ByteArray), (⟨#[119, 104, 105, 108, 101]⟩ : ByteArray)] : List ByteArray))
set_option maxHeartbeats 8000000 in
set_option maxRecDepth 100000 in
theorem calls  (r : List ByteArray) (w : World) (h : f  = some r) :
    Calls Tryz.prog 102 #[] w fun e w' => ∃ v0_ : Value, e = .returned (v0_) ∧ Kd.R Kd.string 9 w' w.heap.size (fun _ => True) v0_ r ∧ Below w.heap.size w w' := by
 have HB := aM (Below.refl w.heap.size w)
 have H : (some (([(⟨#[98, 111, 111, 108]⟩ : ByteArray), (⟨#[99, 97, 116, 99, 104]⟩ : ByteArray), (⟨#[99, 111, 110, 115, 116]⟩ : ByteArray), (⟨#[101, 108, 115, 101]⟩ : ByteArray), (⟨#[101, 120, 112, 111, 114, 116]⟩ : ByteArray), (⟨#[102, 97, 105, 108]⟩ : ByteArray), (⟨#[102, 97, 108, 115, 101]⟩ : ByteArray), (⟨#[102, 108, 111, 97, 116]⟩ : ByteArray), (⟨#[102, 110]⟩ : ByteArray), (⟨#[105, 102]⟩ : ByteArray), (⟨#[105, 109, 112, 111, 114, 116]⟩ : ByteArray), (⟨#[105, 110, 102]⟩ : ByteArray), (⟨#[105, 110, 112, 117, 116]⟩ : ByteArray), (⟨#[105, 110, 116]⟩ : ByteArray), (⟨#[108, 101, 116]⟩ : ByteArray), (⟨#[109, 111, 100, 117, 108, 101]⟩ : ByteArray), (⟨#[110, 97, 110]⟩ : ByteArray), (⟨#[114, 101, 116, 117, 114, 110]⟩ : ByteArray), (⟨#[115, 104, 111, 119]⟩ : ByteArray), (⟨#[116, 114, 117, 101]⟩ : ByteArray), (⟨#[116, 114, 121]⟩ : ByteArray), (⟨#[118, 97, 114]⟩ : ByteArray), (⟨#[119, 104, 105, 108, 101]⟩ : ByteArray)] : List ByteArray))) = some r := h
 clear h
 obtain ⟨y146, hy146⟩ : ∃ y_ : List ByteArray, y_ = (([(⟨#[98, 111, 111, 108]⟩ : ByteArray), (⟨#[99, 97, 116, 99, 104]⟩ : ByteArray), (⟨#[99, 111, 110, 115, 116]⟩ : ByteArray), (⟨#[101, 108, 115, 101]⟩ : ByteArray), (⟨#[101, 120, 112, 111, 114, 116]⟩ : ByteArray), (⟨#[102, 97, 105, 108]⟩ : ByteArray), (⟨#[102, 97, 108, 115, 101]⟩ : ByteArray), (⟨#[102, 108, 111, 97, 116]⟩ : ByteArray), (⟨#[102, 110]⟩ : ByteArray), (⟨#[105, 102]⟩ : ByteArray), (⟨#[105, 109, 112, 111, 114, 116]⟩ : ByteArray), (⟨#[105, 110, 102]⟩ : ByteArray), (⟨#[105, 110, 112, 117, 116]⟩ : ByteArray), (⟨#[105, 110, 116]⟩ : ByteArray), (⟨#[108, 101, 116]⟩ : ByteArray), (⟨#[109, 111, 100, 117, 108, 101]⟩ : ByteArray), (⟨#[110, 97, 110]⟩ : ByteArray), (⟨#[114, 101, 116, 117, 114, 110]⟩ : ByteArray), (⟨#[115, 104, 111, 119]⟩ : ByteArray), (⟨#[116, 114, 117, 101]⟩ : ByteArray), (⟨#[116, 114, 121]⟩ : ByteArray), (⟨#[118, 97, 114]⟩ : ByteArray), (⟨#[119, 104, 105, 108, 101]⟩ : ByteArray)] : List ByteArray)) := ⟨_, rfl⟩
 replace H : (some y146) = some r := by first | (rw [hy146]; with_reducible exact H) | (have H2_ := (Option.bind_some _ _).symm.trans H; rw [hy146]; with_reducible exact H2_) | (have H2_ := (Option.bind_some _ _).symm.trans H; with_reducible exact H2_) | with_reducible exact H | (rw [hy146]; exact H) | exact H
 have Ny146 := aM hy146
 clear hy146
 obtain rfl := Option.some.inj H
 go_enter Tryz.func102, Tryz.ntmps102
 go_wp2_with (first | ((with_reducible refine gate_dst (N := 1) rfl ?_); refine Kd.R_lit Kd.string _ 9 ?hg (N := 1) ?hd (xs := ([(⟨#[98, 111, 111, 108]⟩ : ByteArray), (⟨#[99, 97, 116, 99, 104]⟩ : ByteArray), (⟨#[99, 111, 110, 115, 116]⟩ : ByteArray), (⟨#[101, 108, 115, 101]⟩ : ByteArray), (⟨#[101, 120, 112, 111, 114, 116]⟩ : ByteArray), (⟨#[102, 97, 105, 108]⟩ : ByteArray), (⟨#[102, 97, 108, 115, 101]⟩ : ByteArray), (⟨#[102, 108, 111, 97, 116]⟩ : ByteArray), (⟨#[102, 110]⟩ : ByteArray), (⟨#[105, 102]⟩ : ByteArray), (⟨#[105, 109, 112, 111, 114, 116]⟩ : ByteArray), (⟨#[105, 110, 102]⟩ : ByteArray), (⟨#[105, 110, 112, 117, 116]⟩ : ByteArray), (⟨#[105, 110, 116]⟩ : ByteArray), (⟨#[108, 101, 116]⟩ : ByteArray), (⟨#[109, 111, 100, 117, 108, 101]⟩ : ByteArray), (⟨#[110, 97, 110]⟩ : ByteArray), (⟨#[114, 101, 116, 117, 114, 110]⟩ : ByteArray), (⟨#[115, 104, 111, 119]⟩ : ByteArray), (⟨#[116, 114, 117, 101]⟩ : ByteArray), (⟨#[116, 114, 121]⟩ : ByteArray), (⟨#[118, 97, 114]⟩ : ByteArray), (⟨#[119, 104, 105, 108, 101]⟩ : ByteArray)] : List ByteArray)) (inner := [.string (⟨#[98, 111, 111, 108]⟩ : ByteArray), .string (⟨#[99, 97, 116, 99, 104]⟩ : ByteArray), .string (⟨#[99, 111, 110, 115, 116]⟩ : ByteArray), .string (⟨#[101, 108, 115, 101]⟩ : ByteArray), .string (⟨#[101, 120, 112, 111, 114, 116]⟩ : ByteArray), .string (⟨#[102, 97, 105, 108]⟩ : ByteArray), .string (⟨#[102, 97, 108, 115, 101]⟩ : ByteArray), .string (⟨#[102, 108, 111, 97, 116]⟩ : ByteArray), .string (⟨#[102, 110]⟩ : ByteArray), .string (⟨#[105, 102]⟩ : ByteArray), .string (⟨#[105, 109, 112, 111, 114, 116]⟩ : ByteArray), .string (⟨#[105, 110, 102]⟩ : ByteArray), .string (⟨#[105, 110, 112, 117, 116]⟩ : ByteArray), .string (⟨#[105, 110, 116]⟩ : ByteArray), .string (⟨#[108, 101, 116]⟩ : ByteArray), .string (⟨#[109, 111, 100, 117, 108, 101]⟩ : ByteArray), .string (⟨#[110, 97, 110]⟩ : ByteArray), .string (⟨#[114, 101, 116, 117, 114, 110]⟩ : ByteArray), .string (⟨#[115, 104, 111, 119]⟩ : ByteArray), .string (⟨#[116, 114, 117, 101]⟩ : ByteArray), .string (⟨#[116, 114, 121]⟩ : ByteArray), .string (⟨#[118, 97, 114]⟩ : ByteArray), .string (⟨#[119, 104, 105, 108, 101]⟩ : ByteArray)]) (ok := fun _ => True) (okp := fun _ => True) ?hr ?hp (fun _ hk => hk) trivial (Below.refl _ _) (Nat.le_refl _) (by simp) ?_; (case hd => rfl); (case hg => rfl); (case hr => first | (go_simp; done) | (go_simp; rfl)); (case hp => exact (Reps.one (show Kd.M Kd.string _ _ _ (⟨#[98, 111, 111, 108]⟩ : ByteArray) [.string (⟨#[98, 111, 111, 108]⟩ : ByteArray)] from rfl) (Reps.one (show Kd.M Kd.string _ _ _ (⟨#[99, 97, 116, 99, 104]⟩ : ByteArray) [.string (⟨#[99, 97, 116, 99, 104]⟩ : ByteArray)] from rfl) (Reps.one (show Kd.M Kd.string _ _ _ (⟨#[99, 111, 110, 115, 116]⟩ : ByteArray) [.string (⟨#[99, 111, 110, 115, 116]⟩ : ByteArray)] from rfl) (Reps.one (show Kd.M Kd.string _ _ _ (⟨#[101, 108, 115, 101]⟩ : ByteArray) [.string (⟨#[101, 108, 115, 101]⟩ : ByteArray)] from rfl) (Reps.one (show Kd.M Kd.string _ _ _ (⟨#[101, 120, 112, 111, 114, 116]⟩ : ByteArray) [.string (⟨#[101, 120, 112, 111, 114, 116]⟩ : ByteArray)] from rfl) (Reps.one (show Kd.M Kd.string _ _ _ (⟨#[102, 97, 105, 108]⟩ : ByteArray) [.string (⟨#[102, 97, 105, 108]⟩ : ByteArray)] from rfl) (Reps.one (show Kd.M Kd.string _ _ _ (⟨#[102, 97, 108, 115, 101]⟩ : ByteArray) [.string (⟨#[102, 97, 108, 115, 101]⟩ : ByteArray)] from rfl) (Reps.one (show Kd.M Kd.string _ _ _ (⟨#[102, 108, 111, 97, 116]⟩ : ByteArray) [.string (⟨#[102, 108, 111, 97, 116]⟩ : ByteArray)] from rfl) (Reps.one (show Kd.M Kd.string _ _ _ (⟨#[102, 110]⟩ : ByteArray) [.string (⟨#[102, 110]⟩ : ByteArray)] from rfl) (Reps.one (show Kd.M Kd.string _ _ _ (⟨#[105, 102]⟩ : ByteArray) [.string (⟨#[105, 102]⟩ : ByteArray)] from rfl) (Reps.one (show Kd.M Kd.string _ _ _ (⟨#[105, 109, 112, 111, 114, 116]⟩ : ByteArray) [.string (⟨#[105, 109, 112, 111, 114, 116]⟩ : ByteArray)] from rfl) (Reps.one (show Kd.M Kd.string _ _ _ (⟨#[105, 110, 102]⟩ : ByteArray) [.string (⟨#[105, 110, 102]⟩ : ByteArray)] from rfl) (Reps.one (show Kd.M Kd.string _ _ _ (⟨#[105, 110, 112, 117, 116]⟩ : ByteArray) [.string (⟨#[105, 110, 112, 117, 116]⟩ : ByteArray)] from rfl) (Reps.one (show Kd.M Kd.string _ _ _ (⟨#[105, 110, 116]⟩ : ByteArray) [.string (⟨#[105, 110, 116]⟩ : ByteArray)] from rfl) (Reps.one (show Kd.M Kd.string _ _ _ (⟨#[108, 101, 116]⟩ : ByteArray) [.string (⟨#[108, 101, 116]⟩ : ByteArray)] from rfl) (Reps.one (show Kd.M Kd.string _ _ _ (⟨#[109, 111, 100, 117, 108, 101]⟩ : ByteArray) [.string (⟨#[109, 111, 100, 117, 108, 101]⟩ : ByteArray)] from rfl) (Reps.one (show Kd.M Kd.string _ _ _ (⟨#[110, 97, 110]⟩ : ByteArray) [.string (⟨#[110, 97, 110]⟩ : ByteArray)] from rfl) (Reps.one (show Kd.M Kd.string _ _ _ (⟨#[114, 101, 116, 117, 114, 110]⟩ : ByteArray) [.string (⟨#[114, 101, 116, 117, 114, 110]⟩ : ByteArray)] from rfl) (Reps.one (show Kd.M Kd.string _ _ _ (⟨#[115, 104, 111, 119]⟩ : ByteArray) [.string (⟨#[115, 104, 111, 119]⟩ : ByteArray)] from rfl) (Reps.one (show Kd.M Kd.string _ _ _ (⟨#[116, 114, 117, 101]⟩ : ByteArray) [.string (⟨#[116, 114, 117, 101]⟩ : ByteArray)] from rfl) (Reps.one (show Kd.M Kd.string _ _ _ (⟨#[116, 114, 121]⟩ : ByteArray) [.string (⟨#[116, 114, 121]⟩ : ByteArray)] from rfl) (Reps.one (show Kd.M Kd.string _ _ _ (⟨#[118, 97, 114]⟩ : ByteArray) [.string (⟨#[118, 97, 114]⟩ : ByteArray)] from rfl) (Reps.one (show Kd.M Kd.string _ _ _ (⟨#[119, 104, 105, 108, 101]⟩ : ByteArray) [.string (⟨#[119, 104, 105, 108, 101]⟩ : ByteArray)] from rfl) (Reps.none _ _))))))))))))))))))))))))); intro v147 w1 ho2 hb hg_ hnew_; clear hg_ hnew_; (first | rw [← Ny146.out] at ho2 | (simp only [Int.reduceToNat] at ho2; rw [← Ny146.out] at ho2)); have n0_ := aM (Kd.R_lower ho2 (below_size (hB))); have n1_ := aM (below_step (hB) hb); clear HB; have HO148 := n0_; have HB := n1_; clear n0_ n1_; clear hb ho2))
 go_ret
 exact ⟨_, eR, by (with_reducible repeat (first | apply Kd.R_alloc | apply Kd.R_drewN | apply Kd.R_drew)); exact HO148.out, hB⟩
end foundryref04_Words
namespace foundryref04_Reserved
def f (k : Nat) (a0 : ByteArray) : Option (Bool) := (foundryref04_Words.f).bind fun t149 => ((foundryref04_Find.f k t149 a0).bind fun bt152 => (some bt152.2))
theorem mono : ∀ a0 k, LeO (f k a0) (f (k + 1) a0) := by
  intro a0 k
  unfold f
  repeat' first
      | (with_reducible first | apply foundryref04_Find.mono | exact LeO.refl _ | exact LeO.none _ | refine LeO.ite ?_ ?_ | refine LeO.bind ?_ (fun _ => ?_))
      | exact LeO.none _ | refine LeO.ite ?_ ?_ | refine LeO.bind ?_ (fun _ => ?_)
set_option maxHeartbeats 8000000 in
set_option maxRecDepth 100000 in
theorem calls (k : Nat) (a0 : ByteArray) (r : Bool) (w : World) (h : f k a0 = some r) :
    Calls Tryz.prog 77 #[.string a0] w fun e w' => e = .returned (.bool r) ∧ Below w.heap.size w w' := by
 have HB := aM (Below.refl w.heap.size w)
 have H : ((foundryref04_Words.f).bind fun t149 => ((foundryref04_Find.f k t149 a0).bind fun bt152 => (some bt152.2))) = some r := h
 clear h
 replace H := Option.bind_eq_some_iff.mp H
 obtain ⟨t149, A20, H⟩ := H
 replace H : ((foundryref04_Find.f k t149 a0).bind fun bt152 => (some bt152.2)) = some r := H
 have A2 := aM A20
 clear A20
 replace H := Option.bind_eq_some_iff.mp H
 obtain ⟨⟨t152, t153⟩, A30, H⟩ := H
 replace H : (some t153) = some r := H
 have A3 := aM A30
 clear A30
 obtain rfl := Option.some.inj H
 go_enter Tryz.func77, Tryz.ntmps77
 go_wp2_with (first | ((with_reducible refine gate_callee (f := 102) rfl ?_); refine goesL_ (some 6) rfl rfl Tryz.func102 (by kernel_rfl) rfl #[] rfl gA ?_; (with_reducible refine (foundryref04_Words.calls  t149 _ A2.out).mono ?_); rintro e w4 ⟨v150, rfl, ho0, hb⟩; refine ⟨_, rfl, ?_⟩; have n0_ := aM (Kd.R_lower ho0 (below_size (hB))); have n1_ := aM (below_step (hB) hb); clear HB; have HO151 := n0_; have HB := n1_; clear n0_ n1_; obtain ⟨Ao5, co5, eo5⟩ := Kd.R_slice HO151.out; subst eo5) | ((with_reducible refine gate_callee (f := 101) rfl ?_); refine goesL_ (some 8) rfl rfl Tryz.func101 (by kernel_rfl) rfl #[.slice Ao5 t149.length co5, .string a0] rfl gA ?_; (with_reducible refine (foundryref04_Find.calls k _ _ t149 a0 t152 t153 _ ?side1 ?side2 A3.out).mono ?_); (case side1 => repeat (first | exact (Kd.R_reads' HO151.out).2.2 | (with_reducible refine Kd.C_alloc ?_ _) | (with_reducible refine Kd.C_drewN ?_ _) | (with_reducible refine Kd.C_drew ?_))); (case side2 => exact (Kd.R_reads' HO151.out).2.1); rintro e w' ⟨rfl, ⟨nd, rfl⟩⟩; refine ⟨_, rfl, ?_⟩))
 go_ret
 exact ⟨eR, hB⟩
end foundryref04_Reserved
end Go.Proofs.YthifejhdmjoolaaGreatDoor.QE
