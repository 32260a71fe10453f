-- WRITTEN BY A PROGRAM OF THE SESSION (wip/myprint.sh): Lean checks it.
import Derived.Test.YthifejhdmjoolaaGreatDoorQE0
import Derived.Test.YthifejhdmjoolaaGreatDoorQE5
namespace Go.Proofs.YthifejhdmjoolaaGreatDoor.QE
open Go.Proofs.YthifejhdmjoolaaGreatDoorG Go.Proofs.YthifejhdmjoolaaGreatDoor.QR
attribute [local go_sem] Instr.field asAgg ext47
open Go.RowKit Go.Proofs.YthifejhdmjoolaaGreatDoorW.PrintWords Go.Proofs.YthifejhdmjoolaaGreatDoorW.PrintLast Go.Proofs.YthifejhdmjoolaaGreatDoorW.PrintMore
attribute [local go_sem] max2_int min2_int max_two min_two max_three min_three max_four min_four   -- for this text's walks alone
set_option linter.unusedVariables false
set_option linter.unusedSimpArgs false
namespace foundryref01_read
mutual
def j0 : Nat → ByteArray → Int → Bool → Option (Int)
  | 0, _, _, _ => none
  | k + 1, x0, x3, x27 => if x27 = true then (if 1 ≤ (x0.size : Int) then (j1 k (x0.extract 1 x0.size) 9223372036854775808) else (none)) else (j1 k x0 x3)
def j1 : Nat → ByteArray → Int → Option (Int)
  | 0, _, _ => none
  | k + 1, x0, x3 => if (x0.size : Int) < 6 then (j2 k x0 x3 true) else (if (x0.size : Int) > 40 then (j2 k x0 x3 true) else (if 3 ≤ (x0.size : Int) then (j2 k x0 x3 ((x0.extract 0 3).toList != ([48, 120, 49] : List UInt8))) else (none)))
def j2 : Nat → ByteArray → Int → Bool → Option (Int)
  | 0, _, _, _ => none
  | k + 1, x0, x3, x42 => if x42 = true then (some 0) else (if 3 < (x0.size : Int) then (if (bt x0 3) = 46 then (l0 k x0 x3 4 0 0) else (j4 k x0 x3 3 0 0)) else (none))
def j4 : Nat → ByteArray → Int → Int → Int → Int → Option (Int)
  | 0, _, _, _, _, _ => none
  | k + 1, x0, x3, x4, x5, x6 => if 0 ≤ (IntKind.u64.wrap (wrap64 (4 * (wrap64 (13 - x6))))) then (if (wrap64 ((x0.size : Int) - x4)) < 3 then (j5 k x0 x3 x4 (shl .u64 x5 (IntKind.u64.wrap (wrap64 (4 * (wrap64 (13 - x6)))))) true) else (if (wrap64 ((x0.size : Int) - x4)) > 6 then (j5 k x0 x3 x4 (shl .u64 x5 (IntKind.u64.wrap (wrap64 (4 * (wrap64 (13 - x6)))))) true) else (if 0 ≤ x4 then (if x4 < (x0.size : Int) then (j5 k x0 x3 x4 (shl .u64 x5 (IntKind.u64.wrap (wrap64 (4 * (wrap64 (13 - x6)))))) ((bt x0 x4) != 112)) else (none)) else (none)))) else (none)
def j5 : Nat → ByteArray → Int → Int → Int → Bool → Option (Int)
  | 0, _, _, _, _, _ => none
  | k + 1, x0, x3, x4, x5, x99 => if x99 = true then (some 0) else (l1 k x0 x3 x4 x5 0 (wrap64 (x4 + 2)))
def l1 : Nat → ByteArray → Int → Int → Int → Int → Int → Option (Int)
  | 0, _, _, _, _, _, _ => none
  | k + 1, x0, x3, x4, x5, x7, x8 => if x8 < (x0.size : Int) then (if 0 ≤ x8 then ((foundryref01_digit.f k (bt x0 x8)).bind fun t156 => (if t156 < 0 then (some 0) else (if t156 > 9 then (some 0) else (l1 k x0 x3 x4 x5 (wrap64 ((wrap64 (10 * x7)) + t156)) (wrap64 (x8 + 1)))))) else (none)) else (if 0 ≤ (wrap64 (x4 + 1)) then (if (wrap64 (x4 + 1)) < (x0.size : Int) then (if (bt x0 (wrap64 (x4 + 1))) = 45 then (j7 k x3 x5 (wrap64 (-x7))) else (j7 k x3 x5 x7)) else (none)) else (none))
def j7 : Nat → Int → Int → Int → Option (Int)
  | 0, _, _, _ => none
  | k + 1, x3, x5, x7 => if x7 > 1023 then (j8 k x3 x5 x7 true) else (j8 k x3 x5 x7 (decide (x7 < (-1074))))
def j8 : Nat → Int → Int → Int → Bool → Option (Int)
  | 0, _, _, _, _ => none
  | k + 1, x3, x5, x7, x129 => if x129 = true then (some 0) else (if x7 ≥ (-1022) then (some (Go.bits .or .u64 (Go.bits .or .u64 x3 (IntKind.u64.wrap ((IntKind.u64.wrap (wrap64 (x7 + 1023))) * 4503599627370496))) x5)) else (if 0 ≤ (IntKind.u64.wrap (64 - (IntKind.u64.wrap (wrap64 ((-1022) - x7))))) then (if (shl .u64 (Go.bits .or .u64 x5 4503599627370496) (IntKind.u64.wrap (64 - (IntKind.u64.wrap (wrap64 ((-1022) - x7)))))) = 0 then (if 0 ≤ (IntKind.u64.wrap (wrap64 ((-1022) - x7))) then (some (Go.bits .or .u64 x3 (shr .u64 (Go.bits .or .u64 x5 4503599627370496) (IntKind.u64.wrap (wrap64 ((-1022) - x7)))))) else (none)) else (some 0)) else (none)))
def l0 : Nat → ByteArray → Int → Int → Int → Int → Option (Int)
  | 0, _, _, _, _, _ => none
  | k + 1, x0, x3, x4, x5, x6 => if x4 < (x0.size : Int) then (if x6 < 13 then (if 0 ≤ x4 then ((foundryref01_digit.f k (bt x0 x4)).bind fun t154 => (if t154 ≥ 0 then ((foundryref01_digit.f k (bt x0 x4)).bind fun t155 => (l0 k x0 x3 (wrap64 (x4 + 1)) (Go.bits .or .u64 (IntKind.u64.wrap (x5 * 16)) (IntKind.u64.wrap (t155))) (wrap64 (x6 + 1)))) else (j4 k x0 x3 x4 x5 x6))) else (none)) else (j4 k x0 x3 x4 x5 x6)) else (j4 k x0 x3 x4 x5 x6)
end
def f (k : Nat) (a0 : ByteArray) : Option (Int) := if a0.toList = ([110, 97, 110] : List UInt8) then (some 9221120237041090561) else (if a0.toList = ([105, 110, 102] : List UInt8) then (some 9218868437227405312) else (if a0.toList = ([45, 105, 110, 102] : List UInt8) then (some 18442240474082181120) else (if a0.toList = ([45, 48, 120, 48, 112, 43, 48] : List UInt8) then (some 9223372036854775808) else (if (a0.size : Int) > 0 then (if 0 < (a0.size : Int) then (j0 k a0 0 ((bt a0 0) == 45)) else (none)) else (j0 k a0 0 false)))))
theorem mono_l : ∀ k, (∀ y0 y1 y2, LeO (j0 k y0 y1 y2) (j0 (k + 1) y0 y1 y2)) ∧ (∀ y0 y1, LeO (j1 k y0 y1) (j1 (k + 1) y0 y1)) ∧ (∀ y0 y1 y2, LeO (j2 k y0 y1 y2) (j2 (k + 1) y0 y1 y2)) ∧ (∀ y0 y1 y2 y3 y4, LeO (j4 k y0 y1 y2 y3 y4) (j4 (k + 1) y0 y1 y2 y3 y4)) ∧ (∀ y0 y1 y2 y3 y4, LeO (j5 k y0 y1 y2 y3 y4) (j5 (k + 1) y0 y1 y2 y3 y4)) ∧ (∀ y0 y1 y2 y3 y4 y5, LeO (l1 k y0 y1 y2 y3 y4 y5) (l1 (k + 1) y0 y1 y2 y3 y4 y5)) ∧ (∀ y0 y1 y2, LeO (j7 k y0 y1 y2) (j7 (k + 1) y0 y1 y2)) ∧ (∀ y0 y1 y2 y3, LeO (j8 k y0 y1 y2 y3) (j8 (k + 1) y0 y1 y2 y3)) ∧ (∀ y0 y1 y2 y3 y4, LeO (l0 k y0 y1 y2 y3 y4) (l0 (k + 1) y0 y1 y2 y3 y4))
  | 0 => by refine ⟨?_, ?_, ?_, ?_, ?_, ?_, ?_, ?_, ?_⟩ <;> (intros; exact LeO.none _)
  | k + 1 => by
    obtain ⟨ih0, ih1, ih2, ih3, ih4, ih5, ih6, ih7, ih8⟩ := mono_l k
    refine ⟨?_, ?_, ?_, ?_, ?_, ?_, ?_, ?_, ?_⟩ <;> intros <;> first | unfold j0 | unfold j1 | unfold j2 | unfold j4 | unfold j5 | unfold l1 | unfold j7 | unfold j8 | unfold l0
    all_goals repeat' first
    | (with_reducible first | apply ih0 | apply ih1 | apply ih2 | apply ih3 | apply ih4 | apply ih5 | apply ih6 | apply ih7 | apply ih8 | apply foundryref01_digit.mono | exact LeO.refl _ | exact LeO.none _ | refine LeO.ite ?_ ?_ | refine LeO.bind ?_ (fun _ => ?_))
    | exact LeO.none _ | refine LeO.ite ?_ ?_ | refine LeO.bind ?_ (fun _ => ?_)
theorem mono : ∀ a0 k, LeO (f k a0) (f (k + 1) a0) := by
  intro a0 k
  obtain ⟨ih0, ih1, ih2, ih3, ih4, ih5, ih6, ih7, ih8⟩ := mono_l k
  unfold f
  repeat' first
      | (with_reducible first | apply ih0 | apply ih1 | apply ih2 | apply ih3 | apply ih4 | apply ih5 | apply ih6 | apply ih7 | apply ih8 | apply foundryref01_digit.mono | exact LeO.refl _ | exact LeO.none _ | refine LeO.ite ?_ ?_ | refine LeO.bind ?_ (fun _ => ?_))
      | exact LeO.none _ | refine LeO.ite ?_ ?_ | refine LeO.bind ?_ (fun _ => ?_)
set_option maxHeartbeats 8000000 in
set_option maxRecDepth 100000 in
theorem calls (k : Nat) (a0 : ByteArray) (r : Int) (w : World) (h : f k a0 = some r) :
    Calls Tryz.prog 41 #[.string a0] w fun e w' => e = .returned (.int .u64 r) ∧ Drawn0 w w' := by
 have H : (if a0.toList = ([110, 97, 110] : List UInt8) then (some 9221120237041090561) else (if a0.toList = ([105, 110, 102] : List UInt8) then (some 9218868437227405312) else (if a0.toList = ([45, 105, 110, 102] : List UInt8) then (some 18442240474082181120) else (if a0.toList = ([45, 48, 120, 48, 112, 43, 48] : List UInt8) then (some 9223372036854775808) else (if (a0.size : Int) > 0 then (if 0 < (a0.size : Int) then (j0 k a0 0 ((bt a0 0) == 45)) else (none)) else (j0 k a0 0 false)))))) = some r := h
 clear h
 by_cases c2 : a0.toList = ([110, 97, 110] : List UInt8)
 ·rw [if_pos c2] at H
  have c2b0 : (a0.toList == ([110, 97, 110] : List UInt8)) = true := beq_iff_eq.mpr c2
  have c2b1 : (a0.toList != ([110, 97, 110] : List UInt8)) = false := bne_eq_false_iff_eq.mpr c2
  clear c2
  obtain rfl := Option.some.inj H
  go_enter Tryz.func41, Tryz.ntmps41
  go_wp2
  go_ret
  exact ⟨xR, dR⟩
 rw [if_neg c2] at H
 have c2b0 : (a0.toList == ([110, 97, 110] : List UInt8)) = false := beq_eq_false_iff_ne.mpr c2
 have c2b1 : (a0.toList != ([110, 97, 110] : List UInt8)) = true := bne_iff_ne.mpr c2
 by_cases c3 : a0.toList = ([105, 110, 102] : List UInt8)
 ·rw [if_pos c3] at H
  have c3b0 : (a0.toList == ([105, 110, 102] : List UInt8)) = true := beq_iff_eq.mpr c3
  have c3b1 : (a0.toList != ([105, 110, 102] : List UInt8)) = false := bne_eq_false_iff_eq.mpr c3
  clear c3
  obtain rfl := Option.some.inj H
  go_enter Tryz.func41, Tryz.ntmps41
  go_wp2
  go_ret
  exact ⟨xR, dR⟩
 rw [if_neg c3] at H
 have c3b0 : (a0.toList == ([105, 110, 102] : List UInt8)) = false := beq_eq_false_iff_ne.mpr c3
 have c3b1 : (a0.toList != ([105, 110, 102] : List UInt8)) = true := bne_iff_ne.mpr c3
 by_cases c4 : a0.toList = ([45, 105, 110, 102] : List UInt8)
 ·rw [if_pos c4] at H
  have c4b0 : (a0.toList == ([45, 105, 110, 102] : List UInt8)) = true := beq_iff_eq.mpr c4
  have c4b1 : (a0.toList != ([45, 105, 110, 102] : List UInt8)) = false := bne_eq_false_iff_eq.mpr c4
  clear c4
  obtain rfl := Option.some.inj H
  go_enter Tryz.func41, Tryz.ntmps41
  go_wp2
  go_ret
  exact ⟨xR, dR⟩
 rw [if_neg c4] at H
 have c4b0 : (a0.toList == ([45, 105, 110, 102] : List UInt8)) = false := beq_eq_false_iff_ne.mpr c4
 have c4b1 : (a0.toList != ([45, 105, 110, 102] : List UInt8)) = true := bne_iff_ne.mpr c4
 by_cases c5 : a0.toList = ([45, 48, 120, 48, 112, 43, 48] : List UInt8)
 ·rw [if_pos c5] at H
  have c5b0 : (a0.toList == ([45, 48, 120, 48, 112, 43, 48] : List UInt8)) = true := beq_iff_eq.mpr c5
  have c5b1 : (a0.toList != ([45, 48, 120, 48, 112, 43, 48] : List UInt8)) = false := bne_eq_false_iff_eq.mpr c5
  clear c5
  obtain rfl := Option.some.inj H
  go_enter Tryz.func41, Tryz.ntmps41
  go_wp2
  go_ret
  exact ⟨xR, dR⟩
 rw [if_neg c5] at H
 have c5b0 : (a0.toList == ([45, 48, 120, 48, 112, 43, 48] : List UInt8)) = false := beq_eq_false_iff_ne.mpr c5
 have c5b1 : (a0.toList != ([45, 48, 120, 48, 112, 43, 48] : List UInt8)) = true := bne_iff_ne.mpr c5
 have HC6 := aM H
 clear H
 go_enter Tryz.func41, Tryz.ntmps41
 go_upto_region 11 with (fail)
 go_cut [27] (fun v27 wc => ∃ (kq : Nat) (x27_5 : Bool), v27 = .bool x27_5 ∧ Aside0 (j0 kq a0 0 x27_5 = some r) ∧ Aside0 (kq ≤ k) ∧ Drawn0 w wc)
 case first =>
  have H := HC6.out
  clear HC6
  by_cases c7 : (a0.size : Int) > 0
  rotate_left
  ·rw [if_neg c7] at H
   have c7b0 : decide (0 < (a0.size : Int)) = false := decide_eq_false c7
   have c7b1 : decide (0 < a0.size) = false := decide_eq_false (by omega)
   clear c7
   (first | rw [c7b0] | (simp only [i64_w, i32_w]; rw [c7b0]) | skip)
   have H' := aM H
   clear H
   go_wp2
   go_meet
   case rel => exact ⟨_, false, xR, H', ⟨jO⟩, dR⟩
  rw [if_pos c7] at H
  have c7b0 : decide (0 < (a0.size : Int)) = true := decide_eq_true c7
  have c7b1 : decide (0 < a0.size) = true := decide_eq_true (by omega)
  clear c7
  (first | rw [c7b0] | (simp only [i64_w, i32_w]; rw [c7b0]) | skip)
  replace H := nI H
  obtain ⟨c8, H⟩ := H
  have c8b0 := dT c8
  have c8b1 : decide (0 < a0.size) = true := decide_eq_true (by omega)
  clear c8
  have H' := aM H
  clear H
  have p9 : 0 ≤ (0 : Int) := (by omega)
  have q9 : 0 < a0.size := (by have : (0 : Int) < (a0.size : Int) := oA; omega)
  have hx9 : ∀ h : 0 < a0.size, ((a0[0]'h).toNat : Int) = bt a0 0 := bt_at a0 0
  clear p9
  have qi9 : (0 < (a0.size : Int)) = True := eq_true (oA)
  replace q9 := eq_true q9
  go_wp2
  go_meet
  case rel => exact ⟨_, (((bt a0 0) == 45)), xR, H', ⟨jO⟩, dR⟩
 case rest =>
  clear HC6
  obtain ⟨kq, x27_5, rfl, HA, HJ5, ⟨mc5, rfl⟩⟩ := hcut
  cases kq with
  | zero => exact absurd HA.out (by simp [j0])
  | succ kj5 =>
   have H := HA.out
   clear HA
   simp only [j0] at H
   have HC10 := aM H
   clear H
   go_upto_if 27 with (fail)
   go_cut [0, 3] (fun v0 v3 wc => ∃ (kq : Nat) (x0_9 : ByteArray) (x3_9 : Int), v0 = .string x0_9 ∧ v3 = .int .u64 x3_9 ∧ Aside0 (j1 kq x0_9 x3_9 = some r) ∧ Aside0 (kq ≤ kj5) ∧ Drawn0 w wc)
   case first =>
    have H := HC10.out
    clear HC10
    by_cases c11 : x27_5 = true
    rotate_left
    ·replace c11 := nF c11
     subst c11
     replace H := iF H
     have H' := aM H
     clear H
     go_wp2
     go_meet
     case rel => exact ⟨_, a0, (0), xR, xR, H', ⟨jC⟩, dR⟩
    subst c11
    replace H := iT H
    replace H := nI H
    obtain ⟨c12, H⟩ := H
    have c12b0 := eq_true c12
    have c12b1 := dT c12
    clear c12
    have H' := aM H
    clear H
    go_wp2
    go_meet
    case rel => exact ⟨_, (a0.extract 1 a0.size), (9223372036854775808), xR, xR, H', ⟨jC⟩, dR⟩
   case rest =>
    clear HC10
    obtain ⟨kq, x0_9, x3_9, rfl, rfl, HA, HJ9, ⟨mc9, rfl⟩⟩ := hcut
    cases kq with
    | zero => exact absurd HA.out (by simp [j1])
    | succ kj9 =>
     have H := HA.out
     clear HA
     simp only [j1] at H
     have HC13 := aM H
     clear H
     go_upto_region 14 with (fail)
     go_cut [42] (fun v42 wc => ∃ (kq : Nat) (x42_12 : Bool), v42 = .bool x42_12 ∧ Aside0 (j2 kq x0_9 x3_9 x42_12 = some r) ∧ Aside0 (kq ≤ kj9) ∧ Drawn0 w wc)
     case first =>
      have H := HC13.out
      clear HC13
      by_cases c14 : (x0_9.size : Int) < 6
      ·rw [if_pos c14] at H
       have c14b0 := dT c14
       have c14b1 : decide (x0_9.size < 6) = true := decide_eq_true (by omega)
       clear c14
       (first | rw [c14b0] | (simp only [i64_w, i32_w]; rw [c14b0]) | skip)
       have H' := aM H
       clear H
       go_wp2
       go_meet
       case rel => exact ⟨_, true, xR, H', ⟨jC⟩, dR⟩
      rw [if_neg c14] at H
      have c14b0 := dF c14
      have c14b1 : decide (x0_9.size < 6) = false := decide_eq_false (by omega)
      clear c14
      (first | rw [c14b0] | (simp only [i64_w, i32_w]; rw [c14b0]) | skip)
      by_cases c15 : (x0_9.size : Int) > 40
      ·rw [if_pos c15] at H
       have c15b0 : decide (40 < (x0_9.size : Int)) = true := decide_eq_true c15
       have c15b1 : decide (40 < x0_9.size) = true := decide_eq_true (by omega)
       clear c15
       have H' := aM H
       clear H
       go_wp2
       go_meet
       case rel => exact ⟨_, true, xR, H', ⟨jC⟩, dR⟩
      rw [if_neg c15] at H
      have c15b0 : decide (40 < (x0_9.size : Int)) = false := decide_eq_false c15
      have c15b1 : decide (40 < x0_9.size) = false := decide_eq_false (by omega)
      clear c15
      replace H := nI H
      obtain ⟨c16, H⟩ := H
      have c16b0 := eq_true c16
      have c16b1 := dT c16
      clear c16
      have H' := aM H
      clear H
      go_wp2
      go_meet
      case rel => exact ⟨_, (((x0_9.extract 0 3).toList != ([48, 120, 49] : List UInt8))), xR, H', ⟨jC⟩, dR⟩
     case rest =>
      clear HC13
      obtain ⟨kq, x42_12, rfl, HA, HJ12, ⟨mc12, rfl⟩⟩ := hcut
      cases kq with
      | zero => exact absurd HA.out (by simp [j2])
      | succ kj12 =>
       have H := HA.out
       clear HA
       simp only [j2] at H
       by_cases c17 : x42_12 = true
       ·subst c17
        replace H := iT H
        obtain rfl := Option.some.inj H
        go_wp2
        go_ret
        exact ⟨xR, dR⟩
       replace c17 := nF c17
       subst c17
       replace H := iF H
       replace H := nI H
       obtain ⟨c18, H⟩ := H
       have c18b0 := dT c18
       have c18b1 : decide (3 < x0_9.size) = true := decide_eq_true (by omega)
       clear c18
       have HC20 := aM H
       clear H
       have p19 : 0 ≤ (3 : Int) := (by omega)
       have q19 : 3 < x0_9.size := (by have : (3 : Int) < (x0_9.size : Int) := oA; omega)
       have hx19 : ∀ h : 3 < x0_9.size, ((x0_9[3]'h).toNat : Int) = bt x0_9 3 := bt_at x0_9 3
       clear p19
       have qi19 : (3 < (x0_9.size : Int)) = True := eq_true (oA)
       replace q19 := eq_true q19
       go_upto_if 46 with (fail)
       go_cut [4, 5, 6] (fun v4 v5 v6 wc => ∃ (kq : Nat) (x4_19 : Int) (x5_19 : Int) (x6_19 : Int), v4 = .int .i64 x4_19 ∧ v5 = .int .u64 x5_19 ∧ v6 = .int .i64 x6_19 ∧ Aside0 (j4 kq x0_9 x3_9 x4_19 x5_19 x6_19 = some r) ∧ Aside0 (kq ≤ kj12) ∧ Drawn0 w wc)
       case first =>
        have H := HC20.out
        clear HC20
        by_cases c21 : (bt x0_9 3) = 46
        rotate_left
        ·rw [if_neg c21] at H
         have c21b0 := bF c21
         have c21b1 := mT c21
         (first | rw [c21b0] | (simp only [i64_w, i32_w]; rw [c21b0]) | skip)
         have H' := aM H
         clear H
         go_wp2
         go_meet
         case rel => exact ⟨_, (3), (0), (0), xR, xR, xR, H', ⟨jC⟩, dR⟩
        rw [if_pos c21] at H
        have c21b0 := bT c21
        have c21b1 := mF c21
        clear c21
        (first | rw [c21b0] | (simp only [i64_w, i32_w]; rw [c21b0]) | skip)
        have H' := aM H
        clear H
        go_wp2
        go_loopg [4, 5, 6] kj12 (fun kq v4 v5 v6 w' => ∃ (x4_4 : Int) (x5_4 : Int) (x6_4 : Int), v4 = .int .i64 x4_4 ∧ v5 = .int .u64 x5_4 ∧ v6 = .int .i64 x6_4 ∧ Aside0 (l0 kq x0_9 x3_9 x4_4 x5_4 x6_4 = some r) ∧ Aside0 (kq ≤ kj12) ∧ Drawn0 w w')
        case atStart => exact ⟨(4), (0), (0), xR, xR, xR, H', ⟨Nat.le_refl _⟩, dR⟩
        case round =>
         clear H'
         obtain ⟨x4_4, x5_4, x6_4, rfl, rfl, rfl, HA, HK4, ⟨m4, rfl⟩⟩ := hrel
         cases gk with
         | zero => exact absurd HA.out (by simp [l0])
         | succ k4 =>
          have H := HA.out
          clear HA
          simp only [l0] at H
          by_cases c22 : x4_4 < (x0_9.size : Int)
          rotate_left
          ·rw [if_neg c22] at H
           have c22b0 := dF c22
           clear c22
           have H' := aM H
           clear H
           go_wp2
           go_meet
           case rel => exact ⟨_, x4_4, x5_4, x6_4, xR, xR, xR, H', ⟨jC⟩, dR⟩
          rw [if_pos c22] at H
          have c22b0 := dT c22
          clear c22
          by_cases c23 : x6_4 < 13
          rotate_left
          ·rw [if_neg c23] at H
           have c23b0 := dF c23
           clear c23
           have H' := aM H
           clear H
           go_wp2
           go_meet
           case rel => exact ⟨_, x4_4, x5_4, x6_4, xR, xR, xR, H', ⟨jC⟩, dR⟩
          rw [if_pos c23] at H
          have c23b0 := dT c23
          clear c23
          replace H := nI H
          obtain ⟨c24, H⟩ := H
          have c24b0 := dT c24
          clear c24
          replace H := Option.bind_eq_some_iff.mp H
          obtain ⟨t154, A260, H⟩ := H
          replace H : (if t154 ≥ 0 then ((foundryref01_digit.f k4 (bt x0_9 x4_4)).bind fun t155 => (l0 k4 x0_9 x3_9 (wrap64 (x4_4 + 1)) (Go.bits .or .u64 (IntKind.u64.wrap (x5_4 * 16)) (IntKind.u64.wrap (t155))) (wrap64 (x6_4 + 1)))) else (j4 k4 x0_9 x3_9 x4_4 x5_4 x6_4)) = some r := H
          have A26 := aM A260
          clear A260
          by_cases c27 : t154 ≥ 0
          rotate_left
          ·rw [if_neg c27] at H
           have c27b0 : decide (0 ≤ t154) = false := decide_eq_false c27
           clear c27
           have H' := aM H
           clear H
           have p25 : (0 ≤ x4_4) = True := eT
           have q25 : (x4_4 < (x0_9.size : Int)) = True := eT
           have hx25 := bt_at x0_9 x4_4
           go_wp2_with (first | (go_at_call 46; (with_reducible refine (foundryref01_digit.calls k4 (bt x0_9 x4_4) t154 _ A26.out).mono ?_); rintro e w' ⟨rfl, ⟨nd, rfl⟩⟩))
           go_meet
           case rel => exact ⟨_, x4_4, x5_4, x6_4, xR, xR, xR, H', ⟨jC⟩, dR⟩
          rw [if_pos c27] at H
          have c27b0 : decide (0 ≤ t154) = true := decide_eq_true c27
          clear c27
          replace H := Option.bind_eq_some_iff.mp H
          obtain ⟨t155, A290, H⟩ := H
          replace H : (l0 k4 x0_9 x3_9 (wrap64 (x4_4 + 1)) (Go.bits .or .u64 (IntKind.u64.wrap (x5_4 * 16)) (IntKind.u64.wrap (t155))) (wrap64 (x6_4 + 1))) = some r := H
          have A29 := aM A290
          clear A290
          have H' := aM H
          clear H
          have p25 : (0 ≤ x4_4) = True := eT
          have q25 : (x4_4 < (x0_9.size : Int)) = True := eT
          have hx25 := bt_at x0_9 x4_4
          go_wp2_with (first | (go_at_call 46; (with_reducible refine (foundryref01_digit.calls k4 (bt x0_9 x4_4) t154 _ A26.out).mono ?_); rintro e w' ⟨rfl, ⟨nd, rfl⟩⟩; have p28 : (0 ≤ x4_4) = True := eT; have q28 : x4_4 < (x0_9.size : Int) := oA; have hx28 := bt_at x0_9 x4_4; replace q28 := eq_true q28) | ((with_reducible refine gate_callee (f := 46) rfl ?_); refine goesL_ (some 69) rfl rfl Tryz.func46 (by kernel_rfl) rfl #[.int .u8 (bt x0_9 x4_4)] rfl gA ?_; (with_reducible refine (foundryref01_digit.calls k4 (bt x0_9 x4_4) t155 _ A29.out).mono ?_); rintro e w' ⟨rfl, ⟨nd, rfl⟩⟩; refine ⟨_, rfl, ?_⟩))
          go_roundg k4
          case measure => exact jC
          case rel => exact ⟨(wrap64 (x4_4 + 1)), (Go.bits .or .u64 (IntKind.u64.wrap (x5_4 * 16)) (IntKind.u64.wrap (t155))), (wrap64 (x6_4 + 1)), xR, xR, xR, H', ⟨jC⟩, dR⟩
       case rest =>
        clear HC20
        obtain ⟨kq, x4_19, x5_19, x6_19, rfl, rfl, rfl, HA, HJ19, ⟨mc19, rfl⟩⟩ := hcut
        cases kq with
        | zero => exact absurd HA.out (by simp [j4])
        | succ kj19 =>
         have H := HA.out
         clear HA
         simp only [j4] at H
         obtain ⟨ji30, hji30⟩ : ∃ j_ : Int, (IntKind.u64.wrap (wrap64 (4 * (wrap64 (13 - x6_19))))) = j_ := ⟨_, rfl⟩
         replace H : (if 0 ≤ (ji30) then (if (wrap64 ((x0_9.size : Int) - x4_19)) < 3 then (j5 kj19 x0_9 x3_9 x4_19 (shl .u64 x5_19 (ji30)) true) else (if (wrap64 ((x0_9.size : Int) - x4_19)) > 6 then (j5 kj19 x0_9 x3_9 x4_19 (shl .u64 x5_19 (ji30)) true) else (if 0 ≤ x4_19 then (if x4_19 < (x0_9.size : Int) then (j5 kj19 x0_9 x3_9 x4_19 (shl .u64 x5_19 (ji30)) ((bt x0_9 x4_19) != 112)) else (none)) else (none)))) else (none)) = some r := by first | (rw [hji30] at H; exact H) | (simp only [hji30] at H ⊢; exact H)
         replace H := nI H
         obtain ⟨c31, H⟩ := H
         have c31b0 := eq_true c31
         have c31b1 := dT c31
         clear c31
         obtain ⟨ji32, hji32⟩ : ∃ j_ : Int, (shl .u64 x5_19 (ji30)) = j_ := ⟨_, rfl⟩
         replace H : (if (wrap64 ((x0_9.size : Int) - x4_19)) < 3 then (j5 kj19 x0_9 x3_9 x4_19 ji32 true) else (if (wrap64 ((x0_9.size : Int) - x4_19)) > 6 then (j5 kj19 x0_9 x3_9 x4_19 ji32 true) else (if 0 ≤ x4_19 then (if x4_19 < (x0_9.size : Int) then (j5 kj19 x0_9 x3_9 x4_19 ji32 ((bt x0_9 x4_19) != 112)) else (none)) else (none)))) = some r := by first | (rw [hji32] at H; exact H) | (simp only [hji32] at H ⊢; exact H)
         have hji32_ : (IntKind.u64.wrap (x5_19 * 2 ^ min (ji30).toNat 64)) = ji32 := hji32
         have hji32z : (ji30) ≤ 64 → (IntKind.u64.wrap (x5_19 * 2 ^ (ji30).toNat)) = ji32 := shl_small hji32
         have HC33 := aM H
         clear H
         go_upto_region 26 with (fail)
         go_cut [99] (fun v99 wc => ∃ (kq : Nat) (x99_32 : Bool), v99 = .bool x99_32 ∧ Aside0 (j5 kq x0_9 x3_9 x4_19 ji32 x99_32 = some r) ∧ Aside0 (kq ≤ kj19) ∧ Drawn0 w wc)
         case first =>
          have H := HC33.out
          clear HC33
          by_cases c34 : (wrap64 ((x0_9.size : Int) - x4_19)) < 3
          ·rw [if_pos c34] at H
           have c34b0 := dT c34
           clear c34
           (first | rw [c34b0] | (simp only [i64_w, i32_w]; rw [c34b0]) | skip)
           have H' := aM H
           clear H
           go_wp2
           go_meet
           case rel => exact ⟨_, true, xR, H', ⟨jC⟩, dR⟩
          rw [if_neg c34] at H
          have c34b0 := dF c34
          clear c34
          (first | rw [c34b0] | (simp only [i64_w, i32_w]; rw [c34b0]) | skip)
          by_cases c35 : (wrap64 ((x0_9.size : Int) - x4_19)) > 6
          ·rw [if_pos c35] at H
           have c35b0 : decide (6 < (wrap64 ((x0_9.size : Int) - x4_19))) = true := decide_eq_true c35
           clear c35
           have H' := aM H
           clear H
           go_wp2
           go_meet
           case rel => exact ⟨_, true, xR, H', ⟨jC⟩, dR⟩
          rw [if_neg c35] at H
          have c35b0 : decide (6 < (wrap64 ((x0_9.size : Int) - x4_19))) = false := decide_eq_false c35
          clear c35
          replace H := nI H
          obtain ⟨c36, H⟩ := H
          have c36b0 := dT c36
          clear c36
          replace H := nI H
          obtain ⟨c37, H⟩ := H
          have c37b0 := dT c37
          clear c37
          have H' := aM H
          clear H
          have p38 : (0 ≤ x4_19) = True := eT
          have q38 : (x4_19 < (x0_9.size : Int)) = True := eT
          have hx38 := bt_at x0_9 x4_19
          go_wp2
          go_meet
          case rel => exact ⟨_, (((bt x0_9 x4_19) != 112)), xR, H', ⟨jC⟩, dR⟩
         case rest =>
          clear HC33
          obtain ⟨kq, x99_32, rfl, HA, HJ32, ⟨mc32, rfl⟩⟩ := hcut
          cases kq with
          | zero => exact absurd HA.out (by simp [j5])
          | succ kj32 =>
           have H := HA.out
           clear HA
           simp only [j5] at H
           by_cases c39 : x99_32 = true
           ·subst c39
            replace H := iT H
            obtain rfl := Option.some.inj H
            go_wp2
            go_ret
            exact ⟨by first | rfl | (simp; done) | (simp only [← hji30, ← hji32] <;> (first | rfl | simp)) | (simp [*]; done), dR⟩
           replace c39 := nF c39
           subst c39
           replace H := iF H
           have H' := aM H
           clear H
           go_wp2
           go_loopg [7, 8] kj32 (fun kq v7 v8 w' => ∃ (x7_6 : Int) (x8_6 : Int), v7 = .int .i64 x7_6 ∧ v8 = .int .i64 x8_6 ∧ Aside0 (l1 kq x0_9 x3_9 x4_19 ji32 x7_6 x8_6 = some r) ∧ Aside0 (kq ≤ kj32) ∧ Drawn0 w w')
           case atStart => exact ⟨(0), (wrap64 (x4_19 + 2)), xR, xR, H', ⟨Nat.le_refl _⟩, dR⟩
           case round =>
            clear H'
            obtain ⟨x7_6, x8_6, rfl, rfl, HA, HK6, ⟨m6, rfl⟩⟩ := hrel
            cases gk with
            | zero => exact absurd HA.out (by simp [l1])
            | succ k6 =>
             have H := HA.out
             clear HA
             simp only [l1] at H
             by_cases c40 : x8_6 < (x0_9.size : Int)
             ·rw [if_pos c40] at H
              have c40b0 := dT c40
              clear c40
              replace H := nI H
              obtain ⟨c41, H⟩ := H
              have c41b0 := dT c41
              clear c41
              replace H := Option.bind_eq_some_iff.mp H
              obtain ⟨t156, A430, H⟩ := H
              replace H : (if t156 < 0 then (some 0) else (if t156 > 9 then (some 0) else (l1 k6 x0_9 x3_9 x4_19 ji32 (wrap64 ((wrap64 (10 * x7_6)) + t156)) (wrap64 (x8_6 + 1))))) = some r := H
              have A43 := aM A430
              clear A430
              by_cases c44 : t156 < 0
              ·rw [if_pos c44] at H
               have c44b0 := dT c44
               clear c44
               obtain rfl := Option.some.inj H
               have p42 : (0 ≤ x8_6) = True := eT
               have q42 : (x8_6 < (x0_9.size : Int)) = True := eT
               have hx42 := bt_at x0_9 x8_6
               go_wp2_with (first | ((with_reducible refine gate_callee (f := 46) rfl ?_); refine goesL_ (some 111) rfl rfl Tryz.func46 (by kernel_rfl) rfl #[.int .u8 (bt x0_9 x8_6)] rfl gA ?_; (with_reducible refine (foundryref01_digit.calls k6 (bt x0_9 x8_6) t156 _ A43.out).mono ?_); rintro e w' ⟨rfl, ⟨nd, rfl⟩⟩; refine ⟨_, rfl, ?_⟩))
               go_ret
               exact ⟨by first | rfl | (simp; done) | (simp only [← hji30, ← hji32] <;> (first | rfl | simp)) | (simp [*]; done), dR⟩
              rw [if_neg c44] at H
              have c44b0 := dF c44
              clear c44
              by_cases c45 : t156 > 9
              ·rw [if_pos c45] at H
               have c45b0 : decide (9 < t156) = true := decide_eq_true c45
               clear c45
               obtain rfl := Option.some.inj H
               have p42 : (0 ≤ x8_6) = True := eT
               have q42 : (x8_6 < (x0_9.size : Int)) = True := eT
               have hx42 := bt_at x0_9 x8_6
               go_wp2_with (first | ((with_reducible refine gate_callee (f := 46) rfl ?_); refine goesL_ (some 111) rfl rfl Tryz.func46 (by kernel_rfl) rfl #[.int .u8 (bt x0_9 x8_6)] rfl gA ?_; (with_reducible refine (foundryref01_digit.calls k6 (bt x0_9 x8_6) t156 _ A43.out).mono ?_); rintro e w' ⟨rfl, ⟨nd, rfl⟩⟩; refine ⟨_, rfl, ?_⟩))
               go_ret
               exact ⟨by first | rfl | (simp; done) | (simp only [← hji30, ← hji32] <;> (first | rfl | simp)) | (simp [*]; done), dR⟩
              rw [if_neg c45] at H
              have c45b0 : decide (9 < t156) = false := decide_eq_false c45
              clear c45
              have H' := aM H
              clear H
              have p42 : (0 ≤ x8_6) = True := eT
              have q42 : (x8_6 < (x0_9.size : Int)) = True := eT
              have hx42 := bt_at x0_9 x8_6
              go_wp2_with (first | ((with_reducible refine gate_callee (f := 46) rfl ?_); refine goesL_ (some 111) rfl rfl Tryz.func46 (by kernel_rfl) rfl #[.int .u8 (bt x0_9 x8_6)] rfl gA ?_; (with_reducible refine (foundryref01_digit.calls k6 (bt x0_9 x8_6) t156 _ A43.out).mono ?_); rintro e w' ⟨rfl, ⟨nd, rfl⟩⟩; refine ⟨_, rfl, ?_⟩))
              go_roundg k6
              case measure => exact jC
              case rel => exact ⟨(wrap64 ((wrap64 (10 * x7_6)) + t156)), (wrap64 (x8_6 + 1)), xR, xR, H', ⟨jC⟩, dR⟩
             rw [if_neg c40] at H
             have c40b0 := dF c40
             clear c40
             obtain ⟨ji46, hji46⟩ : ∃ j_ : Int, (wrap64 (x4_19 + 1)) = j_ := ⟨_, rfl⟩
             replace H : (if 0 ≤ (ji46) then (if (ji46) < (x0_9.size : Int) then (if (bt x0_9 (ji46)) = 45 then (j7 k6 x3_9 ji32 (wrap64 (-x7_6))) else (j7 k6 x3_9 ji32 x7_6)) else (none)) else (none)) = some r := by first | (rw [hji46] at H; exact H) | (simp only [hji46] at H ⊢; exact H)
             have hji46w : (IntKind.i64.wrap (x4_19 + 1)) = ji46 := (i64_w _).trans hji46
             replace H := nI H
             obtain ⟨c47, H⟩ := H
             have c47b0 := dT c47
             clear c47
             replace H := nI H
             obtain ⟨c48, H⟩ := H
             have c48b0 := dT c48
             clear c48
             have HC50 := aM H
             clear H
             have p49 : (0 ≤ ji46) = True := eT
             have q49 : ((ji46) < (x0_9.size : Int)) = True := eT
             have hx49 := bt_at x0_9 (ji46)
             go_upto_if 126 with (fail)
             go_cut [7] (fun v7 wc => ∃ (kq : Nat) (x7_49 : Int), v7 = .int .i64 x7_49 ∧ Aside0 (j7 kq x3_9 ji32 x7_49 = some r) ∧ Aside0 (kq ≤ k6) ∧ Drawn0 w wc)
             case first =>
              have H := HC50.out
              clear HC50
              by_cases c51 : (bt x0_9 (ji46)) = 45
              rotate_left
              ·rw [if_neg c51] at H
               have c51b0 := bF c51
               have c51b1 := mT c51
               (first | rw [c51b0] | (simp only [i64_w, i32_w]; rw [c51b0]) | skip)
               have H' := aM H
               clear H
               go_wp2
               go_meet
               case rel => exact ⟨_, x7_6, xR, H', ⟨jC⟩, dR⟩
              rw [if_pos c51] at H
              have c51b0 := bT c51
              have c51b1 := mF c51
              clear c51
              (first | rw [c51b0] | (simp only [i64_w, i32_w]; rw [c51b0]) | skip)
              have H' := aM H
              clear H
              go_wp2
              go_meet
              case rel => exact ⟨_, (wrap64 (-x7_6)), xR, H', ⟨jC⟩, dR⟩
             case rest =>
              clear HC50
              obtain ⟨kq, x7_49, rfl, HA, HJ49, ⟨mc49, rfl⟩⟩ := hcut
              cases kq with
              | zero => exact absurd HA.out (by simp [j7])
              | succ kj49 =>
               have H := HA.out
               clear HA
               simp only [j7] at H
               have HC52 := aM H
               clear H
               go_upto_region 38 with (fail)
               go_cut [129] (fun v129 wc => ∃ (kq : Nat) (x129_51 : Bool), v129 = .bool x129_51 ∧ Aside0 (j8 kq x3_9 ji32 x7_49 x129_51 = some r) ∧ Aside0 (kq ≤ kj49) ∧ Drawn0 w wc)
               case first =>
                have H := HC52.out
                clear HC52
                by_cases c53 : x7_49 > 1023
                ·rw [if_pos c53] at H
                 have c53b0 : decide (1023 < x7_49) = true := decide_eq_true c53
                 clear c53
                 (first | rw [c53b0] | (simp only [i64_w, i32_w]; rw [c53b0]) | skip)
                 have H' := aM H
                 clear H
                 go_wp2
                 go_meet
                 case rel => exact ⟨_, true, xR, H', ⟨jC⟩, dR⟩
                rw [if_neg c53] at H
                have c53b0 : decide (1023 < x7_49) = false := decide_eq_false c53
                clear c53
                (first | rw [c53b0] | (simp only [i64_w, i32_w]; rw [c53b0]) | skip)
                have H' := aM H
                clear H
                go_wp2
                go_meet
                case rel => exact ⟨_, (decide (x7_49 < (-1074))), xR, H', ⟨jC⟩, dR⟩
               case rest =>
                clear HC52
                obtain ⟨kq, x129_51, rfl, HA, HJ51, ⟨mc51, rfl⟩⟩ := hcut
                cases kq with
                | zero => exact absurd HA.out (by simp [j8])
                | succ kj51 =>
                 have H := HA.out
                 clear HA
                 simp only [j8] at H
                 by_cases c54 : x129_51 = true
                 ·subst c54
                  replace H := iT H
                  obtain rfl := Option.some.inj H
                  go_wp2
                  go_ret
                  exact ⟨by first | rfl | (simp; done) | (simp only [← hji30, ← hji32, ← hji46] <;> (first | rfl | simp)) | (simp [*]; done), dR⟩
                 replace c54 := nF c54
                 subst c54
                 replace H := iF H
                 by_cases c55 : x7_49 ≥ (-1022)
                 ·rw [if_pos c55] at H
                  have c55b0 : decide ((-1022) ≤ x7_49) = true := decide_eq_true c55
                  clear c55
                  obtain rfl := Option.some.inj H
                  go_wp2
                  go_ret
                  exact ⟨by first | rfl | (simp; done) | (simp only [← hji30, ← hji32, ← hji46] <;> (first | rfl | simp)) | (simp [*]; done), dR⟩
                 rw [if_neg c55] at H
                 have c55b0 : decide ((-1022) ≤ x7_49) = false := decide_eq_false c55
                 clear c55
                 obtain ⟨ji56, hji56⟩ : ∃ j_ : Int, (IntKind.u64.wrap (64 - (IntKind.u64.wrap (wrap64 ((-1022) - x7_49))))) = j_ := ⟨_, rfl⟩
                 replace H : (if 0 ≤ (ji56) then (if (shl .u64 (Go.bits .or .u64 ji32 4503599627370496) (ji56)) = 0 then (if 0 ≤ (IntKind.u64.wrap (wrap64 ((-1022) - x7_49))) then (some (Go.bits .or .u64 x3_9 (shr .u64 (Go.bits .or .u64 ji32 4503599627370496) (IntKind.u64.wrap (wrap64 ((-1022) - x7_49)))))) else (none)) else (some 0)) else (none)) = some r := by first | (rw [hji56] at H; exact H) | (simp only [hji56] at H ⊢; exact H)
                 replace H := nI H
                 obtain ⟨c57, H⟩ := H
                 have c57b0 := eq_true c57
                 have c57b1 := dT c57
                 clear c57
                 obtain ⟨ji58, hji58⟩ : ∃ j_ : Int, (shl .u64 (Go.bits .or .u64 ji32 4503599627370496) (ji56)) = j_ := ⟨_, rfl⟩
                 replace H : (if (ji58) = 0 then (if 0 ≤ (IntKind.u64.wrap (wrap64 ((-1022) - x7_49))) then (some (Go.bits .or .u64 x3_9 (shr .u64 (Go.bits .or .u64 ji32 4503599627370496) (IntKind.u64.wrap (wrap64 ((-1022) - x7_49)))))) else (none)) else (some 0)) = some r := by first | (rw [hji58] at H; exact H) | (simp only [hji58] at H ⊢; exact H)
                 have hji58_ : (IntKind.u64.wrap ((Go.bits .or .u64 ji32 4503599627370496) * 2 ^ min (ji56).toNat 64)) = ji58 := hji58
                 have hji58z : (ji56) ≤ 64 → (IntKind.u64.wrap ((Go.bits .or .u64 ji32 4503599627370496) * 2 ^ (ji56).toNat)) = ji58 := shl_small hji58
                 by_cases c59 : (ji58) = 0
                 rotate_left
                 ·rw [if_neg c59] at H
                  have c59b0 := bF c59
                  have c59b1 := mT c59
                  obtain rfl := Option.some.inj H
                  go_wp2
                  go_ret
                  exact ⟨by first | rfl | (simp; done) | (simp only [← hji30, ← hji32, ← hji46, ← hji56, ← hji58] <;> (first | rfl | simp)) | (simp [*]; done), dR⟩
                 rw [if_pos c59] at H
                 have c59b0 := bT c59
                 have c59b1 := mF c59
                 clear c59
                 obtain ⟨ji60, hji60⟩ : ∃ j_ : Int, (IntKind.u64.wrap (wrap64 ((-1022) - x7_49))) = j_ := ⟨_, rfl⟩
                 have hji56b : IntKind.u64.wrap (64 - ji60) = ji56 := by rw [← hji60]; exact hji56
                 have c59b2 : (IntKind.u64.wrap ((Go.bits .or .u64 ji32 4503599627370496) * 2 ^ min (IntKind.u64.wrap (64 - ji60)).toNat 64) != 0) = false := by rw [hji56b, hji58_]; exact c59b1
                 replace H : (if 0 ≤ (ji60) then (some (Go.bits .or .u64 x3_9 (shr .u64 (Go.bits .or .u64 ji32 4503599627370496) (ji60)))) else (none)) = some r := by first | (rw [hji60] at H; exact H) | (simp only [hji60] at H ⊢; exact H)
                 replace H := nI H
                 obtain ⟨c61, H⟩ := H
                 have c61b0 := eq_true c61
                 have c61b1 := dT c61
                 clear c61
                 obtain ⟨ji62, hji62⟩ : ∃ j_ : Int, (shr .u64 (Go.bits .or .u64 ji32 4503599627370496) (ji60)) = j_ := ⟨_, rfl⟩
                 replace H : (some (Go.bits .or .u64 x3_9 (ji62))) = some r := by first | (rw [hji62] at H; exact H) | (simp only [hji62] at H ⊢; exact H)
                 have hji62_ : ((Go.bits .or .u64 ji32 4503599627370496) / 2 ^ min (ji60).toNat 64) = ji62 := hji62
                 have hji62z : (ji60) ≤ 64 → ((Go.bits .or .u64 ji32 4503599627370496) / 2 ^ (ji60).toNat) = ji62 := shr_small hji62
                 obtain rfl := Option.some.inj H
                 go_wp2
                 go_ret
                 exact ⟨by first | rfl | (simp; done) | (simp only [← hji30, ← hji32, ← hji46, ← hji56, ← hji58, ← hji60, ← hji62] <;> (first | rfl | simp)) | (simp [*]; done), dR⟩
end foundryref01_read
end Go.Proofs.YthifejhdmjoolaaGreatDoor.QE
