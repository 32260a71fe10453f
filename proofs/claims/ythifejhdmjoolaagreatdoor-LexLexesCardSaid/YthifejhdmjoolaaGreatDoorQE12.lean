-- WRITTEN BY A PROGRAM OF THE SESSION (wip/myprint.sh): Lean checks it.
import Derived.Test.YthifejhdmjoolaaGreatDoorQE0
import Derived.Test.YthifejhdmjoolaaGreatDoorQE4
import Derived.Test.YthifejhdmjoolaaGreatDoorQE10
import Derived.Test.YthifejhdmjoolaaGreatDoorQE3
namespace Go.Proofs.YthifejhdmjoolaaGreatDoor.QE
open Go.Proofs.YthifejhdmjoolaaGreatDoorG Go.Proofs.YthifejhdmjoolaaGreatDoor.QR
attribute [local go_sem] Instr.field asAgg ext47
open Go.RowKit Go.Proofs.YthifejhdmjoolaaGreatDoorW.PrintWords Go.Proofs.YthifejhdmjoolaaGreatDoorW.PrintLast Go.Proofs.YthifejhdmjoolaaGreatDoorW.PrintMore
attribute [local go_sem] max2_int min2_int max_two min_two max_three min_three max_four min_four   -- for this text's walks alone
set_option linter.unusedVariables false
set_option linter.unusedSimpArgs false
namespace foundryref05_mark
mutual
def j0 : Nat → ByteArray → Int → Option (Int)
  | 0, _, _ => none
  | k + 1, x0, x1 => l0 k x0 x1 (⟨#[40, 41, 123, 125, 44, 59, 58, 46, 61, 43, 45, 42, 47, 37, 60, 62, 33]⟩ : ByteArray) 0
def l0 : Nat → ByteArray → Int → ByteArray → Int → Option (Int)
  | 0, _, _, _, _ => none
  | k + 1, x0, x1, x6, x7 => if x7 < (x6.size : Int) then (if 0 ≤ x7 then (if 0 ≤ x1 then (if x1 < (x0.size : Int) then (if (bt x6 x7) = (bt x0 x1) then (some 1) else (l0 k x0 x1 x6 (wrap64 (x7 + 1)))) else (none)) else (none)) else (none)) else (some 0)
end
def f (k : Nat) (a0 : ByteArray) (a1 : Int) : Option (Int) := if (wrap64 (a1 + 2)) ≤ (a0.size : Int) then (if 0 ≤ a1 then (if a1 ≤ (wrap64 (a1 + 2)) then (if (a0.extract (a1 : Int).toNat ((wrap64 (a1 + 2)) : Int).toNat).toList = ([60, 61] : List UInt8) then (some 2) else (if (a0.extract (a1 : Int).toNat ((wrap64 (a1 + 2)) : Int).toNat).toList = ([62, 61] : List UInt8) then (some 2) else (if (a0.extract (a1 : Int).toNat ((wrap64 (a1 + 2)) : Int).toNat).toList = ([61, 61] : List UInt8) then (some 2) else (if (a0.extract (a1 : Int).toNat ((wrap64 (a1 + 2)) : Int).toNat).toList = ([33, 61] : List UInt8) then (some 2) else (if (a0.extract (a1 : Int).toNat ((wrap64 (a1 + 2)) : Int).toNat).toList = ([38, 38] : List UInt8) then (some 2) else (if (a0.extract (a1 : Int).toNat ((wrap64 (a1 + 2)) : Int).toNat).toList = ([124, 124] : List UInt8) then (some 2) else (j0 k a0 a1))))))) else (none)) else (none)) else (j0 k a0 a1)
theorem mono_l : ∀ k, (∀ y0 y1, LeO (j0 k y0 y1) (j0 (k + 1) y0 y1)) ∧ (∀ y0 y1 y2 y3, LeO (l0 k y0 y1 y2 y3) (l0 (k + 1) y0 y1 y2 y3))
  | 0 => by refine ⟨?_, ?_⟩ <;> (intros; exact LeO.none _)
  | k + 1 => by
    obtain ⟨ih0, ih1⟩ := mono_l k
    refine ⟨?_, ?_⟩ <;> intros <;> first | unfold j0 | unfold l0
    all_goals repeat' first
    | (with_reducible first | apply ih0 | apply ih1 | exact LeO.refl _ | exact LeO.none _ | refine LeO.ite ?_ ?_ | refine LeO.bind ?_ (fun _ => ?_))
    | exact LeO.none _ | refine LeO.ite ?_ ?_ | refine LeO.bind ?_ (fun _ => ?_)
theorem mono : ∀ a0 a1 k, LeO (f k a0 a1) (f (k + 1) a0 a1) := by
  intro a0 a1 k
  obtain ⟨ih0, ih1⟩ := mono_l k
  unfold f
  repeat' first
      | (with_reducible first | apply ih0 | apply ih1 | exact LeO.refl _ | exact LeO.none _ | refine LeO.ite ?_ ?_ | refine LeO.bind ?_ (fun _ => ?_))
      | exact LeO.none _ | refine LeO.ite ?_ ?_ | refine LeO.bind ?_ (fun _ => ?_)
set_option maxHeartbeats 8000000 in
set_option maxRecDepth 100000 in
theorem calls (k : Nat) (a0 : ByteArray) (a1 : Int) (r : Int) (w : World) (h : f k a0 a1 = some r) :
    Calls Tryz.prog 79 #[.string a0, .int .i64 a1] w fun e w' => e = .returned (.int .i64 r) ∧ Drawn0 w w' := by
 have H : (if (wrap64 (a1 + 2)) ≤ (a0.size : Int) then (if 0 ≤ a1 then (if a1 ≤ (wrap64 (a1 + 2)) then (if (a0.extract (a1 : Int).toNat ((wrap64 (a1 + 2)) : Int).toNat).toList = ([60, 61] : List UInt8) then (some 2) else (if (a0.extract (a1 : Int).toNat ((wrap64 (a1 + 2)) : Int).toNat).toList = ([62, 61] : List UInt8) then (some 2) else (if (a0.extract (a1 : Int).toNat ((wrap64 (a1 + 2)) : Int).toNat).toList = ([61, 61] : List UInt8) then (some 2) else (if (a0.extract (a1 : Int).toNat ((wrap64 (a1 + 2)) : Int).toNat).toList = ([33, 61] : List UInt8) then (some 2) else (if (a0.extract (a1 : Int).toNat ((wrap64 (a1 + 2)) : Int).toNat).toList = ([38, 38] : List UInt8) then (some 2) else (if (a0.extract (a1 : Int).toNat ((wrap64 (a1 + 2)) : Int).toNat).toList = ([124, 124] : List UInt8) then (some 2) else (j0 k a0 a1))))))) else (none)) else (none)) else (j0 k a0 a1)) = some r := h
 clear h
 have HC3 := aM H
 clear H
 go_enter Tryz.func79, Tryz.ntmps79
 go_upto_if 12 with (fail)
 repeat (go_quiet (fail); go_upto_if 12 with (fail))
 go_cut [] (fun wc => ∃ (kq : Nat), Aside0 (j0 kq a0 a1 = some r) ∧ Aside0 (kq ≤ k) ∧ Drawn0 w wc)
 case first =>
  have H := HC3.out
  clear HC3
  by_cases c4 : (wrap64 (a1 + 2)) ≤ (a0.size : Int)
  rotate_left
  ·rw [if_neg c4] at H
   have c4b0 := dF c4
   clear c4
   (first | rw [c4b0] | (simp only [i64_w, i32_w]; rw [c4b0]) | skip)
   have H' := aM H
   clear H
   go_wp2
   repeat (go_quiet (fail); try go_wp2)
   go_meet
   case rel => exact ⟨_, H', ⟨jO⟩, dR⟩
  rw [if_pos c4] at H
  have c4b0 := dT c4
  clear c4
  (first | rw [c4b0] | (simp only [i64_w, i32_w]; rw [c4b0]) | skip)
  replace H := nI H
  obtain ⟨c5, H⟩ := H
  have c5b0 := eq_true c5
  have c5b1 := dT c5
  clear c5
  replace H := nI H
  obtain ⟨c6, H⟩ := H
  have c6b0 := eq_true c6
  have c6b1 := dT c6
  have c7b0 := eq_true (oA : (wrap64 (a1 + 2)) ≤ (a0.size : Int))
  by_cases c8 : (a0.extract (a1 : Int).toNat ((wrap64 (a1 + 2)) : Int).toNat).toList = ([60, 61] : List UInt8)
  ·rw [if_pos c8] at H
   have c8b0 : ((a0.extract (a1 : Int).toNat ((wrap64 (a1 + 2)) : Int).toNat).toList == ([60, 61] : List UInt8)) = true := beq_iff_eq.mpr c8
   have c8b1 : ((a0.extract (a1 : Int).toNat ((wrap64 (a1 + 2)) : Int).toNat).toList != ([60, 61] : List UInt8)) = false := bne_eq_false_iff_eq.mpr c8
   clear c8
   obtain rfl := Option.some.inj H
   go_wp2
   repeat (go_quiet (fail); try go_wp2)
   go_ret
   exact ⟨xR, dR⟩
  rw [if_neg c8] at H
  have c8b0 : ((a0.extract (a1 : Int).toNat ((wrap64 (a1 + 2)) : Int).toNat).toList == ([60, 61] : List UInt8)) = false := beq_eq_false_iff_ne.mpr c8
  have c8b1 : ((a0.extract (a1 : Int).toNat ((wrap64 (a1 + 2)) : Int).toNat).toList != ([60, 61] : List UInt8)) = true := bne_iff_ne.mpr c8
  by_cases c9 : (a0.extract (a1 : Int).toNat ((wrap64 (a1 + 2)) : Int).toNat).toList = ([62, 61] : List UInt8)
  ·rw [if_pos c9] at H
   have c9b0 : ((a0.extract (a1 : Int).toNat ((wrap64 (a1 + 2)) : Int).toNat).toList == ([62, 61] : List UInt8)) = true := beq_iff_eq.mpr c9
   have c9b1 : ((a0.extract (a1 : Int).toNat ((wrap64 (a1 + 2)) : Int).toNat).toList != ([62, 61] : List UInt8)) = false := bne_eq_false_iff_eq.mpr c9
   clear c9
   obtain rfl := Option.some.inj H
   go_wp2
   repeat (go_quiet (fail); try go_wp2)
   go_ret
   exact ⟨xR, dR⟩
  rw [if_neg c9] at H
  have c9b0 : ((a0.extract (a1 : Int).toNat ((wrap64 (a1 + 2)) : Int).toNat).toList == ([62, 61] : List UInt8)) = false := beq_eq_false_iff_ne.mpr c9
  have c9b1 : ((a0.extract (a1 : Int).toNat ((wrap64 (a1 + 2)) : Int).toNat).toList != ([62, 61] : List UInt8)) = true := bne_iff_ne.mpr c9
  by_cases c10 : (a0.extract (a1 : Int).toNat ((wrap64 (a1 + 2)) : Int).toNat).toList = ([61, 61] : List UInt8)
  ·rw [if_pos c10] at H
   have c10b0 : ((a0.extract (a1 : Int).toNat ((wrap64 (a1 + 2)) : Int).toNat).toList == ([61, 61] : List UInt8)) = true := beq_iff_eq.mpr c10
   have c10b1 : ((a0.extract (a1 : Int).toNat ((wrap64 (a1 + 2)) : Int).toNat).toList != ([61, 61] : List UInt8)) = false := bne_eq_false_iff_eq.mpr c10
   clear c10
   obtain rfl := Option.some.inj H
   go_wp2
   repeat (go_quiet (fail); try go_wp2)
   go_ret
   exact ⟨xR, dR⟩
  rw [if_neg c10] at H
  have c10b0 : ((a0.extract (a1 : Int).toNat ((wrap64 (a1 + 2)) : Int).toNat).toList == ([61, 61] : List UInt8)) = false := beq_eq_false_iff_ne.mpr c10
  have c10b1 : ((a0.extract (a1 : Int).toNat ((wrap64 (a1 + 2)) : Int).toNat).toList != ([61, 61] : List UInt8)) = true := bne_iff_ne.mpr c10
  by_cases c11 : (a0.extract (a1 : Int).toNat ((wrap64 (a1 + 2)) : Int).toNat).toList = ([33, 61] : List UInt8)
  ·rw [if_pos c11] at H
   have c11b0 : ((a0.extract (a1 : Int).toNat ((wrap64 (a1 + 2)) : Int).toNat).toList == ([33, 61] : List UInt8)) = true := beq_iff_eq.mpr c11
   have c11b1 : ((a0.extract (a1 : Int).toNat ((wrap64 (a1 + 2)) : Int).toNat).toList != ([33, 61] : List UInt8)) = false := bne_eq_false_iff_eq.mpr c11
   clear c11
   obtain rfl := Option.some.inj H
   go_wp2
   repeat (go_quiet (fail); try go_wp2)
   go_ret
   exact ⟨xR, dR⟩
  rw [if_neg c11] at H
  have c11b0 : ((a0.extract (a1 : Int).toNat ((wrap64 (a1 + 2)) : Int).toNat).toList == ([33, 61] : List UInt8)) = false := beq_eq_false_iff_ne.mpr c11
  have c11b1 : ((a0.extract (a1 : Int).toNat ((wrap64 (a1 + 2)) : Int).toNat).toList != ([33, 61] : List UInt8)) = true := bne_iff_ne.mpr c11
  by_cases c12 : (a0.extract (a1 : Int).toNat ((wrap64 (a1 + 2)) : Int).toNat).toList = ([38, 38] : List UInt8)
  ·rw [if_pos c12] at H
   have c12b0 : ((a0.extract (a1 : Int).toNat ((wrap64 (a1 + 2)) : Int).toNat).toList == ([38, 38] : List UInt8)) = true := beq_iff_eq.mpr c12
   have c12b1 : ((a0.extract (a1 : Int).toNat ((wrap64 (a1 + 2)) : Int).toNat).toList != ([38, 38] : List UInt8)) = false := bne_eq_false_iff_eq.mpr c12
   clear c12
   obtain rfl := Option.some.inj H
   go_wp2
   repeat (go_quiet (fail); try go_wp2)
   go_ret
   exact ⟨xR, dR⟩
  rw [if_neg c12] at H
  have c12b0 : ((a0.extract (a1 : Int).toNat ((wrap64 (a1 + 2)) : Int).toNat).toList == ([38, 38] : List UInt8)) = false := beq_eq_false_iff_ne.mpr c12
  have c12b1 : ((a0.extract (a1 : Int).toNat ((wrap64 (a1 + 2)) : Int).toNat).toList != ([38, 38] : List UInt8)) = true := bne_iff_ne.mpr c12
  by_cases c13 : (a0.extract (a1 : Int).toNat ((wrap64 (a1 + 2)) : Int).toNat).toList = ([124, 124] : List UInt8)
  ·rw [if_pos c13] at H
   have c13b0 : ((a0.extract (a1 : Int).toNat ((wrap64 (a1 + 2)) : Int).toNat).toList == ([124, 124] : List UInt8)) = true := beq_iff_eq.mpr c13
   have c13b1 : ((a0.extract (a1 : Int).toNat ((wrap64 (a1 + 2)) : Int).toNat).toList != ([124, 124] : List UInt8)) = false := bne_eq_false_iff_eq.mpr c13
   clear c13
   obtain rfl := Option.some.inj H
   go_wp2
   repeat (go_quiet (fail); try go_wp2)
   go_ret
   exact ⟨xR, dR⟩
  rw [if_neg c13] at H
  have c13b0 : ((a0.extract (a1 : Int).toNat ((wrap64 (a1 + 2)) : Int).toNat).toList == ([124, 124] : List UInt8)) = false := beq_eq_false_iff_ne.mpr c13
  have c13b1 : ((a0.extract (a1 : Int).toNat ((wrap64 (a1 + 2)) : Int).toNat).toList != ([124, 124] : List UInt8)) = true := bne_iff_ne.mpr c13
  have H' := aM H
  clear H
  go_wp2
  repeat (go_quiet (fail); try go_wp2)
  go_meet
  case rel => exact ⟨_, H', ⟨jO⟩, dR⟩
 case rest =>
  clear HC3
  obtain ⟨kq, HA, HJ2, ⟨mc2, rfl⟩⟩ := hcut
  cases kq with
  | zero => exact absurd HA.out (by simp [j0])
  | succ kj2 =>
   have H := HA.out
   clear HA
   simp only [j0] at H
   have H' := aM H
   clear H
   go_wp2
   repeat (go_quiet (fail); try go_wp2)
   go_loopg [7] kj2 (fun kq v7 w' => ∃ (x7_2 : Int), v7 = .int .i64 x7_2 ∧ Aside0 (l0 kq a0 a1 (⟨#[40, 41, 123, 125, 44, 59, 58, 46, 61, 43, 45, 42, 47, 37, 60, 62, 33]⟩ : ByteArray) x7_2 = some r) ∧ Aside0 (kq ≤ kj2) ∧ Drawn0 w w')
   case atStart => exact ⟨(0), xR, H', ⟨Nat.le_refl _⟩, dR⟩
   case round =>
    clear H'
    obtain ⟨x7_2, rfl, HA, HK2, ⟨m2, rfl⟩⟩ := hrel
    cases gk with
    | zero => exact absurd HA.out (by simp [l0])
    | succ k2 =>
     have H := HA.out
     clear HA
     simp only [l0] at H
     by_cases c14 : x7_2 < ((⟨#[40, 41, 123, 125, 44, 59, 58, 46, 61, 43, 45, 42, 47, 37, 60, 62, 33]⟩ : ByteArray).size : Int)
     rotate_left
     ·rw [if_neg c14] at H
      have c14b0 := dF c14
      have c14z : decide (x7_2 < (17 : Int)) = false := c14b0
      clear c14
      obtain rfl := Option.some.inj H
      go_wp2
      repeat (go_quiet (fail); try go_wp2)
      go_ret
      exact ⟨xR, dR⟩
     rw [if_pos c14] at H
     have c14b0 := dT c14
     have c14z : decide (x7_2 < (17 : Int)) = true := c14b0
     clear c14
     replace H := nI H
     obtain ⟨c15, H⟩ := H
     have c15b0 := dT c15
     clear c15
     replace H := nI H
     obtain ⟨c17, H⟩ := H
     have c17b0 := dT c17
     clear c17
     replace H := nI H
     obtain ⟨c18, H⟩ := H
     have c18b0 := dT c18
     clear c18
     by_cases c20 : (bt (⟨#[40, 41, 123, 125, 44, 59, 58, 46, 61, 43, 45, 42, 47, 37, 60, 62, 33]⟩ : ByteArray) x7_2) = (bt a0 a1)
     ·rw [if_pos c20] at H
      have c20b0 : ((bt (⟨#[40, 41, 123, 125, 44, 59, 58, 46, 61, 43, 45, 42, 47, 37, 60, 62, 33]⟩ : ByteArray) x7_2) == (bt a0 a1)) = true := beq_iff_eq.mpr c20
      have c20b1 : ((bt (⟨#[40, 41, 123, 125, 44, 59, 58, 46, 61, 43, 45, 42, 47, 37, 60, 62, 33]⟩ : ByteArray) x7_2) != (bt a0 a1)) = false := bne_eq_false_iff_eq.mpr c20
      clear c20
      obtain rfl := Option.some.inj H
      have p16 : (0 ≤ x7_2) = True := eT
      have q16 : (x7_2 < (17 : Int)) = True := eT
      have hx16 := bt_at (⟨#[40, 41, 123, 125, 44, 59, 58, 46, 61, 43, 45, 42, 47, 37, 60, 62, 33]⟩ : ByteArray) x7_2
      have p19 : (0 ≤ a1) = True := eT
      have q19 : (a1 < (a0.size : Int)) = True := eT
      have hx19 := bt_at a0 a1
      go_wp2
      repeat (go_quiet (fail); try go_wp2)
      go_ret
      exact ⟨xR, dR⟩
     rw [if_neg c20] at H
     have c20b0 : ((bt (⟨#[40, 41, 123, 125, 44, 59, 58, 46, 61, 43, 45, 42, 47, 37, 60, 62, 33]⟩ : ByteArray) x7_2) == (bt a0 a1)) = false := beq_eq_false_iff_ne.mpr c20
     have c20b1 : ((bt (⟨#[40, 41, 123, 125, 44, 59, 58, 46, 61, 43, 45, 42, 47, 37, 60, 62, 33]⟩ : ByteArray) x7_2) != (bt a0 a1)) = true := bne_iff_ne.mpr c20
     have H' := aM H
     clear H
     have p16 : (0 ≤ x7_2) = True := eT
     have q16 : (x7_2 < (17 : Int)) = True := eT
     have hx16 := bt_at (⟨#[40, 41, 123, 125, 44, 59, 58, 46, 61, 43, 45, 42, 47, 37, 60, 62, 33]⟩ : ByteArray) x7_2
     have p19 : (0 ≤ a1) = True := eT
     have q19 : (a1 < (a0.size : Int)) = True := eT
     have hx19 := bt_at a0 a1
     go_wp2
     repeat (go_quiet (fail); try go_wp2)
     go_roundg k2
     case measure => exact jC
     case rel => exact ⟨(wrap64 (x7_2 + 1)), xR, H', ⟨jC⟩, dR⟩
end foundryref05_mark
end Go.Proofs.YthifejhdmjoolaaGreatDoor.QE

namespace Go.Proofs.YthifejhdmjoolaaGreatDoor.QE
open Go.Proofs.YthifejhdmjoolaaGreatDoorG Go.Proofs.YthifejhdmjoolaaGreatDoor.QR
attribute [local go_sem] Instr.field asAgg ext47
open Go.RowKit Go.Proofs.YthifejhdmjoolaaGreatDoorW.PrintWords Go.Proofs.YthifejhdmjoolaaGreatDoorW.PrintLast Go.Proofs.YthifejhdmjoolaaGreatDoorW.PrintMore
attribute [local go_sem] max2_int min2_int max_two min_two max_three min_three max_four min_four   -- for this text's walks alone
set_option linter.unusedVariables false
set_option linter.unusedSimpArgs false
namespace foundryref05_next
mutual
def j1 : Nat → ByteArray → Int → Int → Int → ByteArray → Int → Int → Int → Option (Int × ByteArray × Int × Int × Int × Int)
  | 0, _, _, _, _, _, _, _, _ => none
  | k + 1, x0, x1, x7, x191000, x191001, x191002, x191003, x191004 => if 0 ≤ x1 then (if x1 ≤ x7 then (if x7 ≤ (x0.size : Int) then ((foundryref04_Reserved.f k (x0.extract (x1 : Int).toNat (x7 : Int).toNat)).bind fun t194 => (if t194 = true then (some (2, x0.extract (x1 : Int).toNat (x7 : Int).toNat, x191002, x191003, x191004, 0)) else (if ((x0.extract (x1 : Int).toNat (x7 : Int).toNat).size : Int) > 32 then (some (1, x0.extract (x1 : Int).toNat (x7 : Int).toNat, x191002, x191003, x191004, 12)) else (some (1, x0.extract (x1 : Int).toNat (x7 : Int).toNat, x191002, x191003, x191004, 0))))) else (none)) else (none)) else (none)
def l0 : Nat → ByteArray → Int → Int → Int → ByteArray → Int → Int → Int → Option (Int × ByteArray × Int × Int × Int × Int)
  | 0, _, _, _, _, _, _, _, _ => none
  | k + 1, x0, x1, x7, x191000, x191001, x191002, x191003, x191004 => if x7 < (x0.size : Int) then (if 0 ≤ x7 then ((foundryref05_letter.f (bt x0 x7)).bind fun t192 => (if t192 = true then (l0 k x0 x1 (wrap64 (x7 + 1)) x191000 x191001 x191002 x191003 x191004) else ((foundryref05_digit.f (bt x0 x7)).bind fun t193 => (if t193 = true then (l0 k x0 x1 (wrap64 (x7 + 1)) x191000 x191001 x191002 x191003 x191004) else (j1 k x0 x1 x7 x191000 x191001 x191002 x191003 x191004))))) else (none)) else (j1 k x0 x1 x7 x191000 x191001 x191002 x191003 x191004)
end
def f (k : Nat) (a0 : ByteArray) (a1 : Int) : Option (Int × ByteArray × Int × Int × Int × Int) := if 0 ≤ a1 then (if a1 < (a0.size : Int) then ((foundryref05_letter.f (bt a0 a1)).bind fun t191 => (if t191 = true then (l0 k a0 a1 a1 0 (⟨#[]⟩ : ByteArray) 0 0 a1) else ((foundryref05_digit.f (bt a0 a1)).bind fun t195 => (if t195 = true then ((foundryref05_numeral.f k a0 a1).bind fun bt196 => (some (bt196.1, bt196.2.1, bt196.2.2.1, bt196.2.2.2.1, bt196.2.2.2.2.1, bt196.2.2.2.2.2))) else ((foundryref05_mark.f k a0 a1).bind fun t202 => (if t202 = 0 then (some (0, (⟨#[]⟩ : ByteArray), 0, 0, a1, 10)) else (if a1 ≤ (wrap64 (a1 + t202)) then (if (wrap64 (a1 + t202)) ≤ (a0.size : Int) then (some (5, a0.extract (a1 : Int).toNat ((wrap64 (a1 + t202)) : Int).toNat, 0, 0, a1, 0)) else (none)) else (none)))))))) else (none)) else (none)
theorem mono_l : ∀ k, (∀ y0 y1 y2 y3 y4 y5 y6 y7, LeO (j1 k y0 y1 y2 y3 y4 y5 y6 y7) (j1 (k + 1) y0 y1 y2 y3 y4 y5 y6 y7)) ∧ (∀ y0 y1 y2 y3 y4 y5 y6 y7, LeO (l0 k y0 y1 y2 y3 y4 y5 y6 y7) (l0 (k + 1) y0 y1 y2 y3 y4 y5 y6 y7))
  | 0 => by refine ⟨?_, ?_⟩ <;> (intros; exact LeO.none _)
  | k + 1 => by
    obtain ⟨ih0, ih1⟩ := mono_l k
    refine ⟨?_, ?_⟩ <;> intros <;> first | unfold j1 | unfold l0
    all_goals repeat' first
    | (with_reducible first | apply ih0 | apply ih1 | apply foundryref04_Reserved.mono | apply foundryref05_mark.mono | apply foundryref05_numeral.mono | exact LeO.refl _ | exact LeO.none _ | refine LeO.ite ?_ ?_ | refine LeO.bind ?_ (fun _ => ?_))
    | exact LeO.none _ | refine LeO.ite ?_ ?_ | refine LeO.bind ?_ (fun _ => ?_)
theorem mono : ∀ a0 a1 k, LeO (f k a0 a1) (f (k + 1) a0 a1) := by
  intro a0 a1 k
  obtain ⟨ih0, ih1⟩ := mono_l k
  unfold f
  repeat' first
      | (with_reducible first | apply ih0 | apply ih1 | apply foundryref04_Reserved.mono | apply foundryref05_mark.mono | apply foundryref05_numeral.mono | exact LeO.refl _ | exact LeO.none _ | refine LeO.ite ?_ ?_ | refine LeO.bind ?_ (fun _ => ?_))
      | exact LeO.none _ | refine LeO.ite ?_ ?_ | refine LeO.bind ?_ (fun _ => ?_)
set_option maxHeartbeats 60000000 in
set_option maxRecDepth 100000 in
theorem calls (k : Nat) (a0 : ByteArray) (a1 : Int) (r1 : Int) (r2 : ByteArray) (r3 : Int) (r4 : Int) (r5 : Int) (r6 : Int) (w : World) (h : f k a0 a1 = some (r1, r2, r3, r4, r5, r6)) :
    Calls Tryz.prog 51 #[.string a0, .int .i64 a1] w fun e w' => e = .returned (.tuple #[.agg #[.int .i64 r1, .string r2, .int .i64 r3, .int .u64 r4, .int .i64 r5], .int .i64 r6]) ∧ Below w.heap.size w w' := by
 have hu43 := Tryz.underlying43
 have HB := aM (Below.refl w.heap.size w)
 have H : (if 0 ≤ a1 then (if a1 < (a0.size : Int) then ((foundryref05_letter.f (bt a0 a1)).bind fun t191 => (if t191 = true then (l0 k a0 a1 a1 0 (⟨#[]⟩ : ByteArray) 0 0 a1) else ((foundryref05_digit.f (bt a0 a1)).bind fun t195 => (if t195 = true then ((foundryref05_numeral.f k a0 a1).bind fun bt196 => (some (bt196.1, bt196.2.1, bt196.2.2.1, bt196.2.2.2.1, bt196.2.2.2.2.1, bt196.2.2.2.2.2))) else ((foundryref05_mark.f k a0 a1).bind fun t202 => (if t202 = 0 then (some (0, (⟨#[]⟩ : ByteArray), 0, 0, a1, 10)) else (if a1 ≤ (wrap64 (a1 + t202)) then (if (wrap64 (a1 + t202)) ≤ (a0.size : Int) then (some (5, a0.extract (a1 : Int).toNat ((wrap64 (a1 + t202)) : Int).toNat, 0, 0, a1, 0)) else (none)) else (none)))))))) else (none)) else (none)) = some (r1, r2, r3, r4, r5, r6) := h
 clear h
 replace H := nI H
 obtain ⟨c3, H⟩ := H
 have c3b0 := dT c3
 clear c3
 replace H := nI H
 obtain ⟨c4, H⟩ := H
 have c4b0 := dT c4
 clear c4
 replace H := Option.bind_eq_some_iff.mp H
 obtain ⟨t191, A60, H⟩ := H
 replace H : (if t191 = true then (l0 k a0 a1 a1 0 (⟨#[]⟩ : ByteArray) 0 0 a1) else ((foundryref05_digit.f (bt a0 a1)).bind fun t195 => (if t195 = true then ((foundryref05_numeral.f k a0 a1).bind fun bt196 => (some (bt196.1, bt196.2.1, bt196.2.2.1, bt196.2.2.2.1, bt196.2.2.2.2.1, bt196.2.2.2.2.2))) else ((foundryref05_mark.f k a0 a1).bind fun t202 => (if t202 = 0 then (some (0, (⟨#[]⟩ : ByteArray), 0, 0, a1, 10)) else (if a1 ≤ (wrap64 (a1 + t202)) then (if (wrap64 (a1 + t202)) ≤ (a0.size : Int) then (some (5, a0.extract (a1 : Int).toNat ((wrap64 (a1 + t202)) : Int).toNat, 0, 0, a1, 0)) else (none)) else (none))))))) = some (r1, r2, r3, r4, r5, r6) := H
 have A6 := aM A60
 clear A60
 by_cases c7 : t191 = true
 rotate_left
 ·replace c7 := nF c7
  subst c7
  replace H := iF H
  replace H := Option.bind_eq_some_iff.mp H
  obtain ⟨t195, A430, H⟩ := H
  replace H : (if t195 = true then ((foundryref05_numeral.f k a0 a1).bind fun bt196 => (some (bt196.1, bt196.2.1, bt196.2.2.1, bt196.2.2.2.1, bt196.2.2.2.2.1, bt196.2.2.2.2.2))) else ((foundryref05_mark.f k a0 a1).bind fun t202 => (if t202 = 0 then (some (0, (⟨#[]⟩ : ByteArray), 0, 0, a1, 10)) else (if a1 ≤ (wrap64 (a1 + t202)) then (if (wrap64 (a1 + t202)) ≤ (a0.size : Int) then (some (5, a0.extract (a1 : Int).toNat ((wrap64 (a1 + t202)) : Int).toNat, 0, 0, a1, 0)) else (none)) else (none))))) = some (r1, r2, r3, r4, r5, r6) := H
  have A43 := aM A430
  clear A430
  by_cases c44 : t195 = true
  ·subst c44
   replace H := iT H
   replace H := Option.bind_eq_some_iff.mp H
   obtain ⟨⟨t196, t197, t198, t199, t200, t201⟩, A450, H⟩ := H
   replace H : (some (t196, t197, t198, t199, t200, t201)) = some (r1, r2, r3, r4, r5, r6) := H
   have A45 := aM A450
   clear A450
   simp only [Option.some.injEq, Prod.mk.injEq] at H
   obtain ⟨rfl, rfl, rfl, rfl, rfl, rfl⟩ := H
   go_enter Tryz.func51, Tryz.ntmps51
   go_wp2_with (first | ((with_reducible refine gate_dst (N := 4) rfl ?_); refine box_event ?hg (N := 4) ?hd (cs := #[.int .i64 0, .string (⟨#[]⟩ : ByteArray), .int .i64 0, .int .u64 0, .int .i64 0]) (t := 43) ?hr ?_; (case hd => rfl); (case hg => rfl); (case hr => first | (go_simp; done) | (go_simp; rfl)); intro gb189 hg w46 hbox hb; have n0_ := aM (below_step (hB) hb); have n1_ := aM (hbox); have n2_ := aM ((by rw [hg]; exact (below_size (hB)) : w.heap.size ≤ gb189)); have n3_ := aM ((by rw [hg]; exact (below_size (hB)) : w.heap.size ≤ gb189)); clear HB; have HB := n0_; have BK189 := n1_; have GW189 := n2_; have GE189 := n3_; clear n0_ n1_ n2_ n3_; clear hb hbox hg) | ((with_reducible refine gate_dst (N := 6) rfl ?_); refine box_event ?hg (N := 6) ?hd (cs := #[.int .i64 0, .string (⟨#[]⟩ : ByteArray), .int .i64 0, .int .u64 0, .int .i64 0]) (t := 43) ?hr ?_; (case hd => rfl); (case hg => rfl); (case hr => first | (go_simp; done) | (go_simp; rfl)); intro gb190 hg w47 hbox hb; have n0_ := aM (blk_below (bK BK189) hb); have n1_ := aM (below_step (hS) hb); have n2_ := aM (hbox); have n3_ := aM ((by rw [hg]; exact (below_size (hS)) : w.heap.size ≤ gb190)); have n4_ := aM ((by rw [hg]; exact (below_size (hS)) : w.heap.size ≤ gb190)); have n5_ := aM ((by rw [hg]; exact Nat.ne_of_lt (blk_lt (bK BK189)) : gb189 ≠ gb190)); have n6_ := aM ((by rw [hg]; exact Nat.ne_of_gt (blk_lt (bK BK189)) : gb190 ≠ gb189)); clear BK189; clear HB; have BK189 := n0_; have HB := n1_; have BK190 := n2_; have GW190 := n3_; have GE190 := n4_; have NB189_190 := n5_; have NB190_189 := n6_; clear n0_ n1_ n2_ n3_ n4_ n5_ n6_; clear hb hbox hg; have hnb48 := NB190_189.out; have hnc48 := NB189_190.out; have hcz49_0 : w47.cell? ⟨gb190, 0, none⟩ = some (.int .i64 0) := (zC BK190.out 0).trans rfl; have hcz49_1 : w47.cell? ⟨gb190, 1, none⟩ = some (.string (⟨#[]⟩ : ByteArray)) := (zC BK190.out 1).trans rfl; have hcz49_2 : w47.cell? ⟨gb190, 2, none⟩ = some (.int .i64 0) := (zC BK190.out 2).trans rfl; have hcz49_3 : w47.cell? ⟨gb190, 3, none⟩ = some (.int .u64 0) := (zC BK190.out 3).trans rfl; have hcz49_4 : w47.cell? ⟨gb190, 4, none⟩ = some (.int .i64 0) := (zC BK190.out 4).trans rfl; have hfz49_0 := zF BK190.out 0; have hfz49_1 := zF BK190.out 1; have hfz49_2 := zF BK190.out 2; have hfz49_3 := zF BK190.out 3; have hfz49_4 := zF BK190.out 4; have p5 : (0 ≤ a1) = True := eT; have q5 : a1 < (a0.size : Int) := oA; have hx5 := bt_at a0 a1; replace q5 := eq_true q5) | ((with_reducible refine gate_callee (f := 75) rfl ?_); refine goesL_ (some 16) rfl rfl Tryz.func75 (by kernel_rfl) rfl #[.int .u8 (bt a0 a1)] rfl gA ?_; (with_reducible refine (foundryref05_letter.calls (bt a0 a1) false _ A6.out).mono ?_); rintro e w' ⟨rfl, ⟨nd, rfl⟩⟩; refine ⟨_, rfl, ?_⟩; have p42 : (0 ≤ a1) = True := eT; have q42 : a1 < (a0.size : Int) := oA; have hx42 := bt_at a0 a1; replace q42 := eq_true q42) | ((with_reducible refine gate_callee (f := 76) rfl ?_); refine goesL_ (some 55) rfl rfl Tryz.func76 (by kernel_rfl) rfl #[.int .u8 (bt a0 a1)] rfl gA ?_; (with_reducible refine (foundryref05_digit.calls (bt a0 a1) true _ A43.out).mono ?_); rintro e w' ⟨rfl, ⟨nd, rfl⟩⟩; refine ⟨_, rfl, ?_⟩) | ((with_reducible refine gate_callee (f := 78) rfl ?_); refine goesL_ (some 58) rfl rfl Tryz.func78 (by kernel_rfl) rfl #[.string a0, .int .i64 a1] rfl gA ?_; (with_reducible refine (foundryref05_numeral.calls k a0 a1 t196 t197 t198 t199 t200 t201 _ A45.out).mono ?_); rintro e w50 ⟨rfl, hb⟩; refine ⟨_, rfl, ?_⟩; have n0_ := aM (blk_below (bK BK189) hb); have n1_ := aM (blk_below (g := gb190) (o := .cells #[.int .i64 0, .string (⟨#[]⟩ : ByteArray), .int .i64 0, .int .u64 0, .int .i64 a1] 43 (0, 0)) (bP BK190) hb); have n2_ := aM (below_step (hS) hb); clear BK189; clear BK190; clear HB; have BK189 := n0_; have BK190 := n1_; have HB := n2_; clear n0_ n1_ n2_; have hcz51_0 : w50.cell? ⟨gb189, 0, none⟩ = some (.int .i64 0) := (zC BK189.out 0).trans rfl; have hcz51_1 : w50.cell? ⟨gb189, 1, none⟩ = some (.string (⟨#[]⟩ : ByteArray)) := (zC BK189.out 1).trans rfl; have hcz51_2 : w50.cell? ⟨gb189, 2, none⟩ = some (.int .i64 0) := (zC BK189.out 2).trans rfl; have hcz51_3 : w50.cell? ⟨gb189, 3, none⟩ = some (.int .u64 0) := (zC BK189.out 3).trans rfl; have hcz51_4 : w50.cell? ⟨gb189, 4, none⟩ = some (.int .i64 0) := (zC BK189.out 4).trans rfl; have hfz51_0 := zF BK189.out 0; have hfz51_1 := zF BK189.out 1; have hfz51_2 := zF BK189.out 2; have hfz51_3 := zF BK189.out 3; have hfz51_4 := zF BK189.out 4))
   refine bodyPost_ret (results_ct rfl _ _ gb189 43 #[.int .i64 t196, .string t197, .int .i64 t198, .int .u64 t199, .int .i64 t200] (0, 0) _ rfl (bP BK189) Tryz.underlying43 rfl (by kernel_rfl)) rfl ?_
   exact ⟨eR, hS⟩
  replace c44 := nF c44
  subst c44
  replace H := iF H
  replace H := Option.bind_eq_some_iff.mp H
  obtain ⟨t202, A520, H⟩ := H
  replace H : (if t202 = 0 then (some (0, (⟨#[]⟩ : ByteArray), 0, 0, a1, 10)) else (if a1 ≤ (wrap64 (a1 + t202)) then (if (wrap64 (a1 + t202)) ≤ (a0.size : Int) then (some (5, a0.extract (a1 : Int).toNat ((wrap64 (a1 + t202)) : Int).toNat, 0, 0, a1, 0)) else (none)) else (none))) = some (r1, r2, r3, r4, r5, r6) := H
  have A52 := aM A520
  clear A520
  by_cases c53 : t202 = 0
  ·rw [if_pos c53] at H
   have c53b0 := bT c53
   have c53b1 := mF c53
   clear c53
   simp only [Option.some.injEq, Prod.mk.injEq] at H
   obtain ⟨rfl, rfl, rfl, rfl, rfl, rfl⟩ := H
   go_enter Tryz.func51, Tryz.ntmps51
   go_wp2_with (first | ((with_reducible refine gate_dst (N := 4) rfl ?_); refine box_event ?hg (N := 4) ?hd (cs := #[.int .i64 0, .string (⟨#[]⟩ : ByteArray), .int .i64 0, .int .u64 0, .int .i64 0]) (t := 43) ?hr ?_; (case hd => rfl); (case hg => rfl); (case hr => first | (go_simp; done) | (go_simp; rfl)); intro gb189 hg w54 hbox hb; have n0_ := aM (below_step (hB) hb); have n1_ := aM (hbox); have n2_ := aM ((by rw [hg]; exact (below_size (hB)) : w.heap.size ≤ gb189)); have n3_ := aM ((by rw [hg]; exact (below_size (hB)) : w.heap.size ≤ gb189)); clear HB; have HB := n0_; have BK189 := n1_; have GW189 := n2_; have GE189 := n3_; clear n0_ n1_ n2_ n3_; clear hb hbox hg) | ((with_reducible refine gate_dst (N := 6) rfl ?_); refine box_event ?hg (N := 6) ?hd (cs := #[.int .i64 0, .string (⟨#[]⟩ : ByteArray), .int .i64 0, .int .u64 0, .int .i64 0]) (t := 43) ?hr ?_; (case hd => rfl); (case hg => rfl); (case hr => first | (go_simp; done) | (go_simp; rfl)); intro gb190 hg w55 hbox hb; have n0_ := aM (blk_below (bK BK189) hb); have n1_ := aM (below_step (hS) hb); have n2_ := aM (hbox); have n3_ := aM ((by rw [hg]; exact (below_size (hS)) : w.heap.size ≤ gb190)); have n4_ := aM ((by rw [hg]; exact (below_size (hS)) : w.heap.size ≤ gb190)); have n5_ := aM ((by rw [hg]; exact Nat.ne_of_lt (blk_lt (bK BK189)) : gb189 ≠ gb190)); have n6_ := aM ((by rw [hg]; exact Nat.ne_of_gt (blk_lt (bK BK189)) : gb190 ≠ gb189)); clear BK189; clear HB; have BK189 := n0_; have HB := n1_; have BK190 := n2_; have GW190 := n3_; have GE190 := n4_; have NB189_190 := n5_; have NB190_189 := n6_; clear n0_ n1_ n2_ n3_ n4_ n5_ n6_; clear hb hbox hg; have hnb56 := NB190_189.out; have hnc56 := NB189_190.out; have hcz57_0 : w55.cell? ⟨gb190, 0, none⟩ = some (.int .i64 0) := (zC BK190.out 0).trans rfl; have hcz57_1 : w55.cell? ⟨gb190, 1, none⟩ = some (.string (⟨#[]⟩ : ByteArray)) := (zC BK190.out 1).trans rfl; have hcz57_2 : w55.cell? ⟨gb190, 2, none⟩ = some (.int .i64 0) := (zC BK190.out 2).trans rfl; have hcz57_3 : w55.cell? ⟨gb190, 3, none⟩ = some (.int .u64 0) := (zC BK190.out 3).trans rfl; have hcz57_4 : w55.cell? ⟨gb190, 4, none⟩ = some (.int .i64 0) := (zC BK190.out 4).trans rfl; have hfz57_0 := zF BK190.out 0; have hfz57_1 := zF BK190.out 1; have hfz57_2 := zF BK190.out 2; have hfz57_3 := zF BK190.out 3; have hfz57_4 := zF BK190.out 4; have p5 : (0 ≤ a1) = True := eT; have q5 : a1 < (a0.size : Int) := oA; have hx5 := bt_at a0 a1; replace q5 := eq_true q5) | ((with_reducible refine gate_callee (f := 75) rfl ?_); refine goesL_ (some 16) rfl rfl Tryz.func75 (by kernel_rfl) rfl #[.int .u8 (bt a0 a1)] rfl gA ?_; (with_reducible refine (foundryref05_letter.calls (bt a0 a1) false _ A6.out).mono ?_); rintro e w' ⟨rfl, ⟨nd, rfl⟩⟩; refine ⟨_, rfl, ?_⟩; have p42 : (0 ≤ a1) = True := eT; have q42 : a1 < (a0.size : Int) := oA; have hx42 := bt_at a0 a1; replace q42 := eq_true q42) | ((with_reducible refine gate_callee (f := 76) rfl ?_); refine goesL_ (some 55) rfl rfl Tryz.func76 (by kernel_rfl) rfl #[.int .u8 (bt a0 a1)] rfl gA ?_; (with_reducible refine (foundryref05_digit.calls (bt a0 a1) false _ A43.out).mono ?_); rintro e w' ⟨rfl, ⟨nd, rfl⟩⟩; refine ⟨_, rfl, ?_⟩) | ((with_reducible refine gate_callee (f := 79) rfl ?_); refine goesL_ (some 63) rfl rfl Tryz.func79 (by kernel_rfl) rfl #[.string a0, .int .i64 a1] rfl gA ?_; (with_reducible refine (foundryref05_mark.calls k a0 a1 t202 _ A52.out).mono ?_); rintro e w' ⟨rfl, ⟨nd, rfl⟩⟩; refine ⟨_, rfl, ?_⟩; have hcz58_0 : w55.cell? ⟨gb189, 0, none⟩ = some (.int .i64 0) := (zC BK189.out 0).trans rfl; have hcz58_1 : w55.cell? ⟨gb189, 1, none⟩ = some (.string (⟨#[]⟩ : ByteArray)) := (zC BK189.out 1).trans rfl; have hcz58_2 : w55.cell? ⟨gb189, 2, none⟩ = some (.int .i64 0) := (zC BK189.out 2).trans rfl; have hcz58_3 : w55.cell? ⟨gb189, 3, none⟩ = some (.int .u64 0) := (zC BK189.out 3).trans rfl; have hcz58_4 : w55.cell? ⟨gb189, 4, none⟩ = some (.int .i64 0) := (zC BK189.out 4).trans rfl; have hfz58_0 := zF BK189.out 0; have hfz58_1 := zF BK189.out 1; have hfz58_2 := zF BK189.out 2; have hfz58_3 := zF BK189.out 3; have hfz58_4 := zF BK189.out 4))
   refine bodyPost_ret (results_ct rfl _ _ gb189 43 #[.int .i64 0, .string (⟨#[]⟩ : ByteArray), .int .i64 0, .int .u64 0, .int .i64 a1] (0, 0) _ rfl (bP BK189) Tryz.underlying43 rfl (by kernel_rfl)) rfl ?_
   exact ⟨eR, hS⟩
  rw [if_neg c53] at H
  have c53b0 := bF c53
  have c53b1 := mT c53
  have c59b0 := eq_true (oA : 0 ≤ a1)
  replace H := nI H
  obtain ⟨c60, H⟩ := H
  have c60b0 := eq_true c60
  have c60b1 := dT c60
  replace H := nI H
  obtain ⟨c61, H⟩ := H
  have c61b0 := eq_true c61
  have c61b1 := dT c61
  simp only [Option.some.injEq, Prod.mk.injEq] at H
  obtain ⟨rfl, rfl, rfl, rfl, rfl, rfl⟩ := H
  clear c60 c61
  generalize hm : wrap64 (a1 + t202) = m at *
  go_enter Tryz.func51, Tryz.ntmps51
  go_upto_region 20 with (first | ((with_reducible refine gate_dst (N := 4) rfl ?_); refine box_event ?hg (N := 4) ?hd (cs := #[.int .i64 0, .string (⟨#[]⟩ : ByteArray), .int .i64 0, .int .u64 0, .int .i64 0]) (t := 43) ?hr ?_; (case hd => rfl); (case hg => rfl); (case hr => first | (go_simp; done) | (go_simp; rfl)); intro gb189 hg w62 hbox hb; have n0_ := aM (below_step (hB) hb); have n1_ := aM (hbox); have n2_ := aM ((by rw [hg]; exact (below_size (hB)) : w.heap.size ≤ gb189)); have n3_ := aM ((by rw [hg]; exact (below_size (hB)) : w.heap.size ≤ gb189)); clear HB; have HB := n0_; have BK189 := n1_; have GW189 := n2_; have GE189 := n3_; clear n0_ n1_ n2_ n3_; clear hb hbox hg) | ((with_reducible refine gate_dst (N := 6) rfl ?_); refine box_event ?hg (N := 6) ?hd (cs := #[.int .i64 0, .string (⟨#[]⟩ : ByteArray), .int .i64 0, .int .u64 0, .int .i64 0]) (t := 43) ?hr ?_; (case hd => rfl); (case hg => rfl); (case hr => first | (go_simp; done) | (go_simp; rfl)); intro gb190 hg w63 hbox hb; have n0_ := aM (blk_below (bK BK189) hb); have n1_ := aM (below_step (hS) hb); have n2_ := aM (hbox); have n3_ := aM ((by rw [hg]; exact (below_size (hS)) : w.heap.size ≤ gb190)); have n4_ := aM ((by rw [hg]; exact (below_size (hS)) : w.heap.size ≤ gb190)); have n5_ := aM ((by rw [hg]; exact Nat.ne_of_lt (blk_lt (bK BK189)) : gb189 ≠ gb190)); have n6_ := aM ((by rw [hg]; exact Nat.ne_of_gt (blk_lt (bK BK189)) : gb190 ≠ gb189)); clear BK189; clear HB; have BK189 := n0_; have HB := n1_; have BK190 := n2_; have GW190 := n3_; have GE190 := n4_; have NB189_190 := n5_; have NB190_189 := n6_; clear n0_ n1_ n2_ n3_ n4_ n5_ n6_; clear hb hbox hg; have hnb64 := NB190_189.out; have hnc64 := NB189_190.out; have hcz65_0 : w63.cell? ⟨gb190, 0, none⟩ = some (.int .i64 0) := (zC BK190.out 0).trans rfl; have hcz65_1 : w63.cell? ⟨gb190, 1, none⟩ = some (.string (⟨#[]⟩ : ByteArray)) := (zC BK190.out 1).trans rfl; have hcz65_2 : w63.cell? ⟨gb190, 2, none⟩ = some (.int .i64 0) := (zC BK190.out 2).trans rfl; have hcz65_3 : w63.cell? ⟨gb190, 3, none⟩ = some (.int .u64 0) := (zC BK190.out 3).trans rfl; have hcz65_4 : w63.cell? ⟨gb190, 4, none⟩ = some (.int .i64 0) := (zC BK190.out 4).trans rfl; have hfz65_0 := zF BK190.out 0; have hfz65_1 := zF BK190.out 1; have hfz65_2 := zF BK190.out 2; have hfz65_3 := zF BK190.out 3; have hfz65_4 := zF BK190.out 4; have p5 : (0 ≤ a1) = True := eT; have q5 : a1 < (a0.size : Int) := oA; have hx5 := bt_at a0 a1; replace q5 := eq_true q5) | ((with_reducible refine gate_callee (f := 75) rfl ?_); refine goesL_ (some 16) rfl rfl Tryz.func75 (by kernel_rfl) rfl #[.int .u8 (bt a0 a1)] rfl gA ?_; (with_reducible refine (foundryref05_letter.calls (bt a0 a1) false _ A6.out).mono ?_); rintro e w' ⟨rfl, ⟨nd, rfl⟩⟩; refine ⟨_, rfl, ?_⟩; have p42 : (0 ≤ a1) = True := eT; have q42 : a1 < (a0.size : Int) := oA; have hx42 := bt_at a0 a1; replace q42 := eq_true q42) | ((with_reducible refine gate_callee (f := 76) rfl ?_); refine goesL_ (some 55) rfl rfl Tryz.func76 (by kernel_rfl) rfl #[.int .u8 (bt a0 a1)] rfl gA ?_; (with_reducible refine (foundryref05_digit.calls (bt a0 a1) false _ A43.out).mono ?_); rintro e w' ⟨rfl, ⟨nd, rfl⟩⟩; refine ⟨_, rfl, ?_⟩) | ((with_reducible refine gate_callee (f := 79) rfl ?_); refine goesL_ (some 63) rfl rfl Tryz.func79 (by kernel_rfl) rfl #[.string a0, .int .i64 a1] rfl gA ?_; (with_reducible refine (foundryref05_mark.calls k a0 a1 t202 _ A52.out).mono ?_); rintro e w' ⟨rfl, ⟨nd, rfl⟩⟩; refine ⟨_, rfl, ?_⟩; have hcz66_0 : w63.cell? ⟨gb189, 0, none⟩ = some (.int .i64 0) := (zC BK189.out 0).trans rfl; have hcz66_1 : w63.cell? ⟨gb189, 1, none⟩ = some (.string (⟨#[]⟩ : ByteArray)) := (zC BK189.out 1).trans rfl; have hcz66_2 : w63.cell? ⟨gb189, 2, none⟩ = some (.int .i64 0) := (zC BK189.out 2).trans rfl; have hcz66_3 : w63.cell? ⟨gb189, 3, none⟩ = some (.int .u64 0) := (zC BK189.out 3).trans rfl; have hcz66_4 : w63.cell? ⟨gb189, 4, none⟩ = some (.int .i64 0) := (zC BK189.out 4).trans rfl; have hfz66_0 := zF BK189.out 0; have hfz66_1 := zF BK189.out 1; have hfz66_2 := zF BK189.out 2; have hfz66_3 := zF BK189.out 3; have hfz66_4 := zF BK189.out 4))
  refine (?_ : ∀ W : World, Aside0 (W.heap[gb190]? = some (.cells #[.int .i64 5, .string (a0.extract (a1 : Int).toNat (m : Int).toNat), .int .i64 0, .int .u64 0, .int .i64 a1] 43 (0, 0))) ∧ Aside0 (W.heap[gb189]? = some (.cells #[.int .i64 0, .string (⟨#[]⟩ : ByteArray), .int .i64 0, .int .u64 0, .int .i64 0] 43 (0, 0))) ∧ Aside0 (Below w.heap.size w W) → Code.wp Tryz.prog _ _ _ W) _ ?_
  rotate_left
  · exact ⟨⟨bP BK190⟩, ⟨bP BK189⟩, ⟨hS⟩⟩
  clear BK190 BK189 HB
  rintro W9 ⟨BK190, BK189, HB⟩
  generalize hs : a0.extract (a1 : Int).toNat (m : Int).toNat = s9 at *
  have hnb9 := NB190_189.out
  have hnc9 := NB189_190.out
  have hcz9_0 : W9.cell? ⟨gb190, 0, none⟩ = some (.int .i64 5) := (zC BK190.out 0).trans rfl
  have hcz9_1 : W9.cell? ⟨gb190, 1, none⟩ = some (.string s9) := (zC BK190.out 1).trans rfl
  have hcz9_2 : W9.cell? ⟨gb190, 2, none⟩ = some (.int .i64 0) := (zC BK190.out 2).trans rfl
  have hcz9_3 : W9.cell? ⟨gb190, 3, none⟩ = some (.int .u64 0) := (zC BK190.out 3).trans rfl
  have hcz9_4 : W9.cell? ⟨gb190, 4, none⟩ = some (.int .i64 a1) := (zC BK190.out 4).trans rfl
  have hfz9_0 := zF BK190.out 0
  have hfz9_1 := zF BK190.out 1
  have hfz9_2 := zF BK190.out 2
  have hfz9_3 := zF BK190.out 3
  have hfz9_4 := zF BK190.out 4
  have hcy9_0 : W9.cell? ⟨gb189, 0, none⟩ = some (.int .i64 0) := (zC BK189.out 0).trans rfl
  have hcy9_1 : W9.cell? ⟨gb189, 1, none⟩ = some (.string (⟨#[]⟩ : ByteArray)) := (zC BK189.out 1).trans rfl
  have hcy9_2 : W9.cell? ⟨gb189, 2, none⟩ = some (.int .i64 0) := (zC BK189.out 2).trans rfl
  have hcy9_3 : W9.cell? ⟨gb189, 3, none⟩ = some (.int .u64 0) := (zC BK189.out 3).trans rfl
  have hcy9_4 : W9.cell? ⟨gb189, 4, none⟩ = some (.int .i64 0) := (zC BK189.out 4).trans rfl
  have hfy9_0 := zF BK189.out 0
  have hfy9_1 := zF BK189.out 1
  have hfy9_2 := zF BK189.out 2
  have hfy9_3 := zF BK189.out 3
  have hfy9_4 := zF BK189.out 4
  go_wp2
  refine bodyPost_ret (results_ct rfl _ _ gb189 43 #[.int .i64 5, .string s9, .int .i64 0, .int .u64 0, .int .i64 a1] (0, 0) _ rfl (bP BK189) Tryz.underlying43 rfl (by kernel_rfl)) rfl ?_
  exact ⟨eR, hS⟩
 subst c7
 replace H := iT H
 have HC8 := aM H
 clear H
 go_enter Tryz.func51, Tryz.ntmps51
 go_upto_block 1 with (first | ((with_reducible refine gate_dst (N := 4) rfl ?_); refine box_event ?hg (N := 4) ?hd (cs := #[.int .i64 0, .string (⟨#[]⟩ : ByteArray), .int .i64 0, .int .u64 0, .int .i64 0]) (t := 43) ?hr ?_; (case hd => rfl); (case hg => rfl); (case hr => first | (go_simp; done) | (go_simp; rfl)); intro gb189 hg w9 hbox hb; have n0_ := aM (below_step (hB) hb); have n1_ := aM (hbox); have n2_ := aM ((by rw [hg]; exact (below_size (hB)) : w.heap.size ≤ gb189)); have n3_ := aM ((by rw [hg]; exact (below_size (hB)) : w.heap.size ≤ gb189)); clear HB; have HB := n0_; have BK189 := n1_; have GW189 := n2_; have GE189 := n3_; clear n0_ n1_ n2_ n3_; clear hb hbox hg) | ((with_reducible refine gate_dst (N := 6) rfl ?_); refine box_event ?hg (N := 6) ?hd (cs := #[.int .i64 0, .string (⟨#[]⟩ : ByteArray), .int .i64 0, .int .u64 0, .int .i64 0]) (t := 43) ?hr ?_; (case hd => rfl); (case hg => rfl); (case hr => first | (go_simp; done) | (go_simp; rfl)); intro gb190 hg w10 hbox hb; have n0_ := aM (blk_below (bK BK189) hb); have n1_ := aM (below_step (hS) hb); have n2_ := aM (hbox); have n3_ := aM ((by rw [hg]; exact (below_size (hS)) : w.heap.size ≤ gb190)); have n4_ := aM ((by rw [hg]; exact (below_size (hS)) : w.heap.size ≤ gb190)); have n5_ := aM ((by rw [hg]; exact Nat.ne_of_lt (blk_lt (bK BK189)) : gb189 ≠ gb190)); have n6_ := aM ((by rw [hg]; exact Nat.ne_of_gt (blk_lt (bK BK189)) : gb190 ≠ gb189)); clear BK189; clear HB; have BK189 := n0_; have HB := n1_; have BK190 := n2_; have GW190 := n3_; have GE190 := n4_; have NB189_190 := n5_; have NB190_189 := n6_; clear n0_ n1_ n2_ n3_ n4_ n5_ n6_; clear hb hbox hg; have hnb11 := NB190_189.out; have hnc11 := NB189_190.out; have hcz12_0 : w10.cell? ⟨gb190, 0, none⟩ = some (.int .i64 0) := (zC BK190.out 0).trans rfl; have hcz12_1 : w10.cell? ⟨gb190, 1, none⟩ = some (.string (⟨#[]⟩ : ByteArray)) := (zC BK190.out 1).trans rfl; have hcz12_2 : w10.cell? ⟨gb190, 2, none⟩ = some (.int .i64 0) := (zC BK190.out 2).trans rfl; have hcz12_3 : w10.cell? ⟨gb190, 3, none⟩ = some (.int .u64 0) := (zC BK190.out 3).trans rfl; have hcz12_4 : w10.cell? ⟨gb190, 4, none⟩ = some (.int .i64 0) := (zC BK190.out 4).trans rfl; have hfz12_0 := zF BK190.out 0; have hfz12_1 := zF BK190.out 1; have hfz12_2 := zF BK190.out 2; have hfz12_3 := zF BK190.out 3; have hfz12_4 := zF BK190.out 4; have p5 : (0 ≤ a1) = True := eT; have q5 : a1 < (a0.size : Int) := oA; have hx5 := bt_at a0 a1; replace q5 := eq_true q5) | ((with_reducible refine gate_callee (f := 75) rfl ?_); refine goesL_ (some 16) rfl rfl Tryz.func75 (by kernel_rfl) rfl #[.int .u8 (bt a0 a1)] rfl gA ?_; (with_reducible refine (foundryref05_letter.calls (bt a0 a1) true _ A6.out).mono ?_); rintro e w' ⟨rfl, ⟨nd, rfl⟩⟩; refine ⟨_, rfl, ?_⟩))
 (try simp only [Act.put, List.setIfInBounds_toArray, List.set_cons_zero, List.set_cons_succ])
 go_cut [7] (fun v7 wc => ∃ (kq : Nat) (x7_7 : Int), v7 = .int .i64 x7_7 ∧ Aside0 (j1 kq a0 a1 x7_7 0 (⟨#[]⟩ : ByteArray) 0 0 a1 = some (r1, r2, r3, r4, r5, r6)) ∧ Aside0 (kq ≤ k) ∧ Aside0 (wc.heap[gb189]? = some (.cells #[.int .i64 0, .string (⟨#[]⟩ : ByteArray), .int .i64 0, .int .u64 0, .int .i64 0] 43 (0, 0))) ∧ Aside0 (wc.heap[gb190]? = some (.cells #[.int .i64 0, .string (⟨#[]⟩ : ByteArray), .int .i64 0, .int .u64 0, .int .i64 a1] 43 (0, 0))) ∧ Aside0 (Below w.heap.size w wc))
 case first =>
  have H := HC8.out
  clear HC8
  have H' := aM H
  clear H
  go_wp2
  go_loopg [7] k (fun kq v7 w' => ∃ (x7_1 : Int), v7 = .int .i64 x7_1 ∧ Aside0 (l0 kq a0 a1 x7_1 0 (⟨#[]⟩ : ByteArray) 0 0 a1 = some (r1, r2, r3, r4, r5, r6)) ∧ Aside0 (kq ≤ k) ∧ Aside0 (w'.heap[gb189]? = some (.cells #[.int .i64 0, .string (⟨#[]⟩ : ByteArray), .int .i64 0, .int .u64 0, .int .i64 0] 43 (0, 0))) ∧ Aside0 (w'.heap[gb190]? = some (.cells #[.int .i64 0, .string (⟨#[]⟩ : ByteArray), .int .i64 0, .int .u64 0, .int .i64 a1] 43 (0, 0))) ∧ Aside0 (Below w.heap.size w w'))
  case atStart => exact ⟨a1, xR, H', ⟨Nat.le_refl _⟩, ⟨bK BK189⟩, ⟨bP BK190⟩, ⟨hS⟩⟩
  case round =>
   clear H'
   obtain ⟨x7_1, rfl, HA, HK1, BK189, BK190, HB⟩ := hrel
   cases gk with
   | zero => exact absurd HA.out (by simp [l0])
   | succ k1 =>
    have H := HA.out
    clear HA
    simp only [l0] at H
    by_cases c13 : x7_1 < (a0.size : Int)
    rotate_left
    ·rw [if_neg c13] at H
     have c13b0 := dF c13
     clear c13
     (first | rw [c13b0] | (simp only [i64_w, i32_w]; rw [c13b0]) | skip)
     have H' := aM H
     clear H
     go_wp2
     go_meet
     case rel => exact ⟨_, x7_1, xR, H', ⟨jC⟩, ⟨bK BK189⟩, ⟨bK BK190⟩, ⟨hS⟩⟩
    rw [if_pos c13] at H
    have c13b0 := dT c13
    clear c13
    (first | rw [c13b0] | (simp only [i64_w, i32_w]; rw [c13b0]) | skip)
    replace H := nI H
    obtain ⟨c14, H⟩ := H
    have c14b0 := dT c14
    clear c14
    replace H := Option.bind_eq_some_iff.mp H
    obtain ⟨t192, A160, H⟩ := H
    replace H : (if t192 = true then (l0 k1 a0 a1 (wrap64 (x7_1 + 1)) 0 (⟨#[]⟩ : ByteArray) 0 0 a1) else ((foundryref05_digit.f (bt a0 x7_1)).bind fun t193 => (if t193 = true then (l0 k1 a0 a1 (wrap64 (x7_1 + 1)) 0 (⟨#[]⟩ : ByteArray) 0 0 a1) else (j1 k1 a0 a1 x7_1 0 (⟨#[]⟩ : ByteArray) 0 0 a1)))) = some (r1, r2, r3, r4, r5, r6) := H
    have A16 := aM A160
    clear A160
    by_cases c17 : t192 = true
    ·subst c17
     replace H := iT H
     have H' := aM H
     clear H
     have p15 : (0 ≤ x7_1) = True := eT
     have q15 : (x7_1 < (a0.size : Int)) = True := eT
     have hx15 := bt_at a0 x7_1
     go_wp2_with (first | (go_at_call 75; (with_reducible refine (foundryref05_letter.calls (bt a0 x7_1) true _ A16.out).mono ?_); rintro e w' ⟨rfl, ⟨nd, rfl⟩⟩))
     go_roundg k1
     case measure => exact jC
     case rel => exact ⟨(wrap64 (x7_1 + 1)), xR, H', ⟨jC⟩, ⟨bK BK189⟩, ⟨bK BK190⟩, ⟨hS⟩⟩
    replace c17 := nF c17
    subst c17
    replace H := iF H
    replace H := Option.bind_eq_some_iff.mp H
    obtain ⟨t193, A190, H⟩ := H
    replace H : (if t193 = true then (l0 k1 a0 a1 (wrap64 (x7_1 + 1)) 0 (⟨#[]⟩ : ByteArray) 0 0 a1) else (j1 k1 a0 a1 x7_1 0 (⟨#[]⟩ : ByteArray) 0 0 a1)) = some (r1, r2, r3, r4, r5, r6) := H
    have A19 := aM A190
    clear A190
    by_cases c20 : t193 = true
    ·subst c20
     replace H := iT H
     have H' := aM H
     clear H
     have p15 : (0 ≤ x7_1) = True := eT
     have q15 : (x7_1 < (a0.size : Int)) = True := eT
     have hx15 := bt_at a0 x7_1
     go_wp2_with (first | (go_at_call 75; (with_reducible refine (foundryref05_letter.calls (bt a0 x7_1) false _ A16.out).mono ?_); rintro e w' ⟨rfl, ⟨nd, rfl⟩⟩; have p18 : (0 ≤ x7_1) = True := eT; have q18 : x7_1 < (a0.size : Int) := oA; have hx18 := bt_at a0 x7_1; replace q18 := eq_true q18) | (go_at_call 76; (with_reducible refine (foundryref05_digit.calls (bt a0 x7_1) true _ A19.out).mono ?_); rintro e w' ⟨rfl, ⟨nd, rfl⟩⟩))
     go_roundg k1
     case measure => exact jC
     case rel => exact ⟨(wrap64 (x7_1 + 1)), xR, H', ⟨jC⟩, ⟨bK BK189⟩, ⟨bK BK190⟩, ⟨hS⟩⟩
    replace c20 := nF c20
    subst c20
    replace H := iF H
    have H' := aM H
    clear H
    have p15 : (0 ≤ x7_1) = True := eT
    have q15 : (x7_1 < (a0.size : Int)) = True := eT
    have hx15 := bt_at a0 x7_1
    go_wp2_with (first | (go_at_call 75; (with_reducible refine (foundryref05_letter.calls (bt a0 x7_1) false _ A16.out).mono ?_); rintro e w' ⟨rfl, ⟨nd, rfl⟩⟩; have p18 : (0 ≤ x7_1) = True := eT; have q18 : x7_1 < (a0.size : Int) := oA; have hx18 := bt_at a0 x7_1; replace q18 := eq_true q18) | (go_at_call 76; (with_reducible refine (foundryref05_digit.calls (bt a0 x7_1) false _ A19.out).mono ?_); rintro e w' ⟨rfl, ⟨nd, rfl⟩⟩))
    go_meet
    case rel => exact ⟨_, x7_1, xR, H', ⟨jC⟩, ⟨bK BK189⟩, ⟨bK BK190⟩, ⟨hS⟩⟩
 case rest =>
  clear HC8
  obtain ⟨kq, x7_7, rfl, HA, HJ7, BK189, BK190, HB⟩ := hcut
  cases kq with
  | zero => exact absurd HA.out (by simp [j1])
  | succ kj7 =>
   have H := HA.out
   clear HA
   simp only [j1] at H
   replace H := nI H
   obtain ⟨c21, H⟩ := H
   have c21b0 := eq_true c21
   have c21b1 := dT c21
   clear c21
   replace H := nI H
   obtain ⟨c22, H⟩ := H
   have c22b0 := eq_true c22
   have c22b1 := dT c22
   clear c22
   replace H := nI H
   obtain ⟨c23, H⟩ := H
   have c23b0 := eq_true c23
   have c23b1 := dT c23
   clear c23
   replace H := Option.bind_eq_some_iff.mp H
   obtain ⟨t194, A240, H⟩ := H
   replace H : (if t194 = true then (some (2, a0.extract (a1 : Int).toNat (x7_7 : Int).toNat, 0, 0, a1, 0)) else (if ((a0.extract (a1 : Int).toNat (x7_7 : Int).toNat).size : Int) > 32 then (some (1, a0.extract (a1 : Int).toNat (x7_7 : Int).toNat, 0, 0, a1, 12)) else (some (1, a0.extract (a1 : Int).toNat (x7_7 : Int).toNat, 0, 0, a1, 0)))) = some (r1, r2, r3, r4, r5, r6) := H
   have A24 := aM A240
   clear A240
   by_cases c25 : t194 = true
   ·subst c25
    replace H := iT H
    simp only [Option.some.injEq, Prod.mk.injEq] at H
    obtain ⟨rfl, rfl, rfl, rfl, rfl, rfl⟩ := H
    have hnb26 := NB190_189.out
    have hnc26 := NB189_190.out
    have hcz27_0 : wc.cell? ⟨gb190, 0, none⟩ = some (.int .i64 0) := (zC BK190.out 0).trans rfl
    have hcz27_1 : wc.cell? ⟨gb190, 1, none⟩ = some (.string (⟨#[]⟩ : ByteArray)) := (zC BK190.out 1).trans rfl
    have hcz27_2 : wc.cell? ⟨gb190, 2, none⟩ = some (.int .i64 0) := (zC BK190.out 2).trans rfl
    have hcz27_3 : wc.cell? ⟨gb190, 3, none⟩ = some (.int .u64 0) := (zC BK190.out 3).trans rfl
    have hcz27_4 : wc.cell? ⟨gb190, 4, none⟩ = some (.int .i64 a1) := (zC BK190.out 4).trans rfl
    have hfz27_0 := zF BK190.out 0
    have hfz27_1 := zF BK190.out 1
    have hfz27_2 := zF BK190.out 2
    have hfz27_3 := zF BK190.out 3
    have hfz27_4 := zF BK190.out 4
    go_wp2_with (first | ((with_reducible refine gate_callee (f := 77) rfl ?_); refine goesL_ (some 43) rfl rfl Tryz.func77 (by kernel_rfl) rfl #[.string (a0.extract (a1 : Int).toNat (x7_7 : Int).toNat)] rfl gA ?_; (with_reducible refine (foundryref04_Reserved.calls kj7 (a0.extract (a1 : Int).toNat (x7_7 : Int).toNat) true _ A24.out).mono ?_); rintro e w28 ⟨rfl, hb⟩; refine ⟨_, rfl, ?_⟩; have n0_ := aM (blk_below (bK BK189) hb); have n1_ := aM (blk_below (g := gb190) (o := .cells #[.int .i64 1, .string (a0.extract (a1 : Int).toNat (x7_7 : Int).toNat), .int .i64 0, .int .u64 0, .int .i64 a1] 43 (0, 0)) (bP BK190) hb); have n2_ := aM (below_step (hS) hb); clear BK189; clear BK190; clear HB; have BK189 := n0_; have BK190 := n1_; have HB := n2_; clear n0_ n1_ n2_; have hcz29_0 : w28.cell? ⟨gb190, 0, none⟩ = some (.int .i64 1) := (zC BK190.out 0).trans rfl; have hcz29_1 : w28.cell? ⟨gb190, 1, none⟩ = some (.string (a0.extract (a1 : Int).toNat (x7_7 : Int).toNat)) := (zC BK190.out 1).trans rfl; have hcz29_2 : w28.cell? ⟨gb190, 2, none⟩ = some (.int .i64 0) := (zC BK190.out 2).trans rfl; have hcz29_3 : w28.cell? ⟨gb190, 3, none⟩ = some (.int .u64 0) := (zC BK190.out 3).trans rfl; have hcz29_4 : w28.cell? ⟨gb190, 4, none⟩ = some (.int .i64 a1) := (zC BK190.out 4).trans rfl; have hfz29_0 := zF BK190.out 0; have hfz29_1 := zF BK190.out 1; have hfz29_2 := zF BK190.out 2; have hfz29_3 := zF BK190.out 3; have hfz29_4 := zF BK190.out 4; have hcz30_0 : w28.cell? ⟨gb189, 0, none⟩ = some (.int .i64 0) := (zC BK189.out 0).trans rfl; have hcz30_1 : w28.cell? ⟨gb189, 1, none⟩ = some (.string (⟨#[]⟩ : ByteArray)) := (zC BK189.out 1).trans rfl; have hcz30_2 : w28.cell? ⟨gb189, 2, none⟩ = some (.int .i64 0) := (zC BK189.out 2).trans rfl; have hcz30_3 : w28.cell? ⟨gb189, 3, none⟩ = some (.int .u64 0) := (zC BK189.out 3).trans rfl; have hcz30_4 : w28.cell? ⟨gb189, 4, none⟩ = some (.int .i64 0) := (zC BK189.out 4).trans rfl; have hfz30_0 := zF BK189.out 0; have hfz30_1 := zF BK189.out 1; have hfz30_2 := zF BK189.out 2; have hfz30_3 := zF BK189.out 3; have hfz30_4 := zF BK189.out 4))
    refine bodyPost_ret (results_ct rfl _ _ gb189 43 #[.int .i64 2, .string (a0.extract (a1 : Int).toNat (x7_7 : Int).toNat), .int .i64 0, .int .u64 0, .int .i64 a1] (0, 0) _ rfl (bP BK189) Tryz.underlying43 rfl (by kernel_rfl)) rfl ?_
    exact ⟨eR, hS⟩
   replace c25 := nF c25
   subst c25
   replace H := iF H
   by_cases c31 : ((a0.extract (a1 : Int).toNat (x7_7 : Int).toNat).size : Int) > 32
   ·rw [if_pos c31] at H
    have c31b0 : decide (32 < ((a0.extract (a1 : Int).toNat (x7_7 : Int).toNat).size : Int)) = true := decide_eq_true c31
    have c31b1 : decide (32 < (a0.extract (a1 : Int).toNat (x7_7 : Int).toNat).size) = true := decide_eq_true (by omega)
    have c31c : (32 : Int) < ((x7_7.toNat - a1.toNat : Nat) : Int) := by rw [ByteArray.size_extract] at c31; omega
    have c31d := decide_eq_true c31c
    have c31e : decide (32 < x7_7.toNat - a1.toNat) = true := decide_eq_true (by omega)
    clear c31
    simp only [Option.some.injEq, Prod.mk.injEq] at H
    obtain ⟨rfl, rfl, rfl, rfl, rfl, rfl⟩ := H
    have hnb32 := NB190_189.out
    have hnc32 := NB189_190.out
    have hcz33_0 : wc.cell? ⟨gb190, 0, none⟩ = some (.int .i64 0) := (zC BK190.out 0).trans rfl
    have hcz33_1 : wc.cell? ⟨gb190, 1, none⟩ = some (.string (⟨#[]⟩ : ByteArray)) := (zC BK190.out 1).trans rfl
    have hcz33_2 : wc.cell? ⟨gb190, 2, none⟩ = some (.int .i64 0) := (zC BK190.out 2).trans rfl
    have hcz33_3 : wc.cell? ⟨gb190, 3, none⟩ = some (.int .u64 0) := (zC BK190.out 3).trans rfl
    have hcz33_4 : wc.cell? ⟨gb190, 4, none⟩ = some (.int .i64 a1) := (zC BK190.out 4).trans rfl
    have hfz33_0 := zF BK190.out 0
    have hfz33_1 := zF BK190.out 1
    have hfz33_2 := zF BK190.out 2
    have hfz33_3 := zF BK190.out 3
    have hfz33_4 := zF BK190.out 4
    go_wp2_with (first | ((with_reducible refine gate_callee (f := 77) rfl ?_); refine goesL_ (some 43) rfl rfl Tryz.func77 (by kernel_rfl) rfl #[.string (a0.extract (a1 : Int).toNat (x7_7 : Int).toNat)] rfl gA ?_; (with_reducible refine (foundryref04_Reserved.calls kj7 (a0.extract (a1 : Int).toNat (x7_7 : Int).toNat) false _ A24.out).mono ?_); rintro e w34 ⟨rfl, hb⟩; refine ⟨_, rfl, ?_⟩; have n0_ := aM (blk_below (bK BK189) hb); have n1_ := aM (blk_below (g := gb190) (o := .cells #[.int .i64 1, .string (a0.extract (a1 : Int).toNat (x7_7 : Int).toNat), .int .i64 0, .int .u64 0, .int .i64 a1] 43 (0, 0)) (bP BK190) hb); have n2_ := aM (below_step (hS) hb); clear BK189; clear BK190; clear HB; have BK189 := n0_; have BK190 := n1_; have HB := n2_; clear n0_ n1_ n2_; have hcz35_0 : w34.cell? ⟨gb190, 0, none⟩ = some (.int .i64 1) := (zC BK190.out 0).trans rfl; have hcz35_1 : w34.cell? ⟨gb190, 1, none⟩ = some (.string (a0.extract (a1 : Int).toNat (x7_7 : Int).toNat)) := (zC BK190.out 1).trans rfl; have hcz35_2 : w34.cell? ⟨gb190, 2, none⟩ = some (.int .i64 0) := (zC BK190.out 2).trans rfl; have hcz35_3 : w34.cell? ⟨gb190, 3, none⟩ = some (.int .u64 0) := (zC BK190.out 3).trans rfl; have hcz35_4 : w34.cell? ⟨gb190, 4, none⟩ = some (.int .i64 a1) := (zC BK190.out 4).trans rfl; have hfz35_0 := zF BK190.out 0; have hfz35_1 := zF BK190.out 1; have hfz35_2 := zF BK190.out 2; have hfz35_3 := zF BK190.out 3; have hfz35_4 := zF BK190.out 4; have hcz36_0 : w34.cell? ⟨gb189, 0, none⟩ = some (.int .i64 0) := (zC BK189.out 0).trans rfl; have hcz36_1 : w34.cell? ⟨gb189, 1, none⟩ = some (.string (⟨#[]⟩ : ByteArray)) := (zC BK189.out 1).trans rfl; have hcz36_2 : w34.cell? ⟨gb189, 2, none⟩ = some (.int .i64 0) := (zC BK189.out 2).trans rfl; have hcz36_3 : w34.cell? ⟨gb189, 3, none⟩ = some (.int .u64 0) := (zC BK189.out 3).trans rfl; have hcz36_4 : w34.cell? ⟨gb189, 4, none⟩ = some (.int .i64 0) := (zC BK189.out 4).trans rfl; have hfz36_0 := zF BK189.out 0; have hfz36_1 := zF BK189.out 1; have hfz36_2 := zF BK189.out 2; have hfz36_3 := zF BK189.out 3; have hfz36_4 := zF BK189.out 4))
    refine bodyPost_ret (results_ct rfl _ _ gb189 43 #[.int .i64 1, .string (a0.extract (a1 : Int).toNat (x7_7 : Int).toNat), .int .i64 0, .int .u64 0, .int .i64 a1] (0, 0) _ rfl (bP BK189) Tryz.underlying43 rfl (by kernel_rfl)) rfl ?_
    exact ⟨eR, hS⟩
   rw [if_neg c31] at H
   have c31b0 : decide (32 < ((a0.extract (a1 : Int).toNat (x7_7 : Int).toNat).size : Int)) = false := decide_eq_false c31
   have c31b1 : decide (32 < (a0.extract (a1 : Int).toNat (x7_7 : Int).toNat).size) = false := decide_eq_false (by omega)
   have c31f : min x7_7.toNat a0.size = x7_7.toNat := Nat.min_eq_left (by have := of_eq_true c23b0; omega)
   have c31c : ¬ (32 : Int) < ((x7_7.toNat - a1.toNat : Nat) : Int) := by rw [ByteArray.size_extract, c31f] at c31; omega
   have c31d := decide_eq_false c31c
   have c31e : decide (32 < x7_7.toNat - a1.toNat) = false := decide_eq_false (by omega)
   clear c31f
   clear c31
   simp only [Option.some.injEq, Prod.mk.injEq] at H
   obtain ⟨rfl, rfl, rfl, rfl, rfl, rfl⟩ := H
   have hnb37 := NB190_189.out
   have hnc37 := NB189_190.out
   have hcz38_0 : wc.cell? ⟨gb190, 0, none⟩ = some (.int .i64 0) := (zC BK190.out 0).trans rfl
   have hcz38_1 : wc.cell? ⟨gb190, 1, none⟩ = some (.string (⟨#[]⟩ : ByteArray)) := (zC BK190.out 1).trans rfl
   have hcz38_2 : wc.cell? ⟨gb190, 2, none⟩ = some (.int .i64 0) := (zC BK190.out 2).trans rfl
   have hcz38_3 : wc.cell? ⟨gb190, 3, none⟩ = some (.int .u64 0) := (zC BK190.out 3).trans rfl
   have hcz38_4 : wc.cell? ⟨gb190, 4, none⟩ = some (.int .i64 a1) := (zC BK190.out 4).trans rfl
   have hfz38_0 := zF BK190.out 0
   have hfz38_1 := zF BK190.out 1
   have hfz38_2 := zF BK190.out 2
   have hfz38_3 := zF BK190.out 3
   have hfz38_4 := zF BK190.out 4
   go_wp2_with (first | ((with_reducible refine gate_callee (f := 77) rfl ?_); refine goesL_ (some 43) rfl rfl Tryz.func77 (by kernel_rfl) rfl #[.string (a0.extract (a1 : Int).toNat (x7_7 : Int).toNat)] rfl gA ?_; (with_reducible refine (foundryref04_Reserved.calls kj7 (a0.extract (a1 : Int).toNat (x7_7 : Int).toNat) false _ A24.out).mono ?_); rintro e w39 ⟨rfl, hb⟩; refine ⟨_, rfl, ?_⟩; have n0_ := aM (blk_below (bK BK189) hb); have n1_ := aM (blk_below (g := gb190) (o := .cells #[.int .i64 1, .string (a0.extract (a1 : Int).toNat (x7_7 : Int).toNat), .int .i64 0, .int .u64 0, .int .i64 a1] 43 (0, 0)) (bP BK190) hb); have n2_ := aM (below_step (hS) hb); clear BK189; clear BK190; clear HB; have BK189 := n0_; have BK190 := n1_; have HB := n2_; clear n0_ n1_ n2_; have hcz40_0 : w39.cell? ⟨gb190, 0, none⟩ = some (.int .i64 1) := (zC BK190.out 0).trans rfl; have hcz40_1 : w39.cell? ⟨gb190, 1, none⟩ = some (.string (a0.extract (a1 : Int).toNat (x7_7 : Int).toNat)) := (zC BK190.out 1).trans rfl; have hcz40_2 : w39.cell? ⟨gb190, 2, none⟩ = some (.int .i64 0) := (zC BK190.out 2).trans rfl; have hcz40_3 : w39.cell? ⟨gb190, 3, none⟩ = some (.int .u64 0) := (zC BK190.out 3).trans rfl; have hcz40_4 : w39.cell? ⟨gb190, 4, none⟩ = some (.int .i64 a1) := (zC BK190.out 4).trans rfl; have hfz40_0 := zF BK190.out 0; have hfz40_1 := zF BK190.out 1; have hfz40_2 := zF BK190.out 2; have hfz40_3 := zF BK190.out 3; have hfz40_4 := zF BK190.out 4; have hcz41_0 : w39.cell? ⟨gb189, 0, none⟩ = some (.int .i64 0) := (zC BK189.out 0).trans rfl; have hcz41_1 : w39.cell? ⟨gb189, 1, none⟩ = some (.string (⟨#[]⟩ : ByteArray)) := (zC BK189.out 1).trans rfl; have hcz41_2 : w39.cell? ⟨gb189, 2, none⟩ = some (.int .i64 0) := (zC BK189.out 2).trans rfl; have hcz41_3 : w39.cell? ⟨gb189, 3, none⟩ = some (.int .u64 0) := (zC BK189.out 3).trans rfl; have hcz41_4 : w39.cell? ⟨gb189, 4, none⟩ = some (.int .i64 0) := (zC BK189.out 4).trans rfl; have hfz41_0 := zF BK189.out 0; have hfz41_1 := zF BK189.out 1; have hfz41_2 := zF BK189.out 2; have hfz41_3 := zF BK189.out 3; have hfz41_4 := zF BK189.out 4))
   refine bodyPost_ret (results_ct rfl _ _ gb189 43 #[.int .i64 1, .string (a0.extract (a1 : Int).toNat (x7_7 : Int).toNat), .int .i64 0, .int .u64 0, .int .i64 a1] (0, 0) _ rfl (bP BK189) Tryz.underlying43 rfl (by kernel_rfl)) rfl ?_
   exact ⟨eR, hS⟩
end foundryref05_next
end Go.Proofs.YthifejhdmjoolaaGreatDoor.QE

namespace Go.Proofs.YthifejhdmjoolaaGreatDoor.QE
open Go.Proofs.YthifejhdmjoolaaGreatDoorG Go.Proofs.YthifejhdmjoolaaGreatDoor.QR
attribute [local go_sem] Instr.field asAgg ext47
open Go.RowKit Go.Proofs.YthifejhdmjoolaaGreatDoorW.PrintWords Go.Proofs.YthifejhdmjoolaaGreatDoorW.PrintLast Go.Proofs.YthifejhdmjoolaaGreatDoorW.PrintMore
attribute [local go_sem] max2_int min2_int max_two min_two max_three min_three max_four min_four   -- for this text's walks alone
set_option linter.unusedVariables false
set_option linter.unusedSimpArgs false
theorem eqA41 (d : Nat) (w : World) (x0 y0 : Int) (x1 y1 : Int) :
    (Op.equalIn (d + 2) 41 (.agg #[.int .i64 x0, .int .u64 x1]) (.agg #[.int .i64 y0, .int .u64 y1])).run Tryz.prog w = .ok (x0 == y0 && (x1 == y1)) w := by
  refine eqA_of Tryz.underlying41 (by kernel_rfl) ?_
  refine eqf_cons (by rfl) (by go_simp; rfl) (by go_simp; rfl) (by go_simp) ?_
  exact eqf_last (by rfl) (by go_simp; rfl) (by go_simp; rfl) (by go_simp)
theorem eqA43 (d : Nat) (w : World) (x0 y0 : Int) (x1 y1 : ByteArray) (x2 y2 : Int) (x3 y3 : Int) (x4 y4 : Int) :
    (Op.equalIn (d + 3) 43 (.agg #[.int .i64 x0, .string x1, .int .i64 x2, .int .u64 x3, .int .i64 x4]) (.agg #[.int .i64 y0, .string y1, .int .i64 y2, .int .u64 y3, .int .i64 y4])).run Tryz.prog w = .ok (x0 == y0 && (x1.toList == y1.toList && ((x2 == y2 && (x3 == y3)) && (x4 == y4)))) w := by
  refine eqA_of Tryz.underlying43 (by kernel_rfl) ?_
  refine eqf_cons (by rfl) (by go_simp; rfl) (by go_simp; rfl) (by go_simp) ?_
  refine eqf_cons (by rfl) (by go_simp; rfl) (by go_simp; rfl) (by go_simp) ?_
  refine eqf_cons (by rfl) (by go_simp) (by go_simp) (eqA41 (d + 0) w _ _ _ _) ?_
  exact eqf_last (by rfl) (by go_simp; rfl) (by go_simp; rfl) (by go_simp)
end Go.Proofs.YthifejhdmjoolaaGreatDoor.QE

namespace Go.Proofs.YthifejhdmjoolaaGreatDoor.QE
open Go.Proofs.YthifejhdmjoolaaGreatDoorG Go.Proofs.YthifejhdmjoolaaGreatDoor.QR
attribute [local go_sem] Instr.field asAgg ext47
open Go.RowKit Go.Proofs.YthifejhdmjoolaaGreatDoorW.PrintWords Go.Proofs.YthifejhdmjoolaaGreatDoorW.PrintLast Go.Proofs.YthifejhdmjoolaaGreatDoorW.PrintMore
attribute [local go_sem] max2_int min2_int max_two min_two max_three min_three max_four min_four   -- for this text's walks alone
set_option linter.unusedVariables false
set_option linter.unusedSimpArgs false
attribute [local go_sem high] eqA43
namespace foundryref05_Lex
def l0 : Nat → ByteArray → List (S43) → Int → Option ((List (S43)) × Int × Int)
  | 0, _, _, _ => none
  | k + 1, x0, x5, x6 => if x6 < (x0.size : Int) then ((foundryref05_next.f k x0 x6).bind fun bt204 => (if bt204.2.2.2.2.2 = 0 then (if (x5.length : Int) = 1024 then (some (([] : List (S43)), x6, 3)) else (if x5.length < 2932031007402 then ((foundryref05_skip.f k x0 (wrap64 (x6 + (bt204.2.1.size : Int)))).bind fun t214 => (l0 k x0 (x5 ++ [(⟨bt204.1, bt204.2.1, (⟨bt204.2.2.1, bt204.2.2.2.1⟩ : S41), bt204.2.2.2.2.1⟩ : S43)]) t214)) else (none))) else (some (([] : List (S43)), x6, bt204.2.2.2.2.2)))) else (some (x5, 0, 0))
def f (k : Nat) (a0 : ByteArray) : Option ((List (S43)) × Int × Int) := if (a0.size : Int) > 4096 then (some (([] : List (S43)), 0, 3)) else ((foundryref05_skip.f k a0 0).bind fun t203 => (l0 k a0 ([] : List (S43)) t203))
theorem mono_l : ∀ k, (∀ y0 y1 y2, LeO (l0 k y0 y1 y2) (l0 (k + 1) y0 y1 y2))
  | 0 => fun _ _ _ r h => by simp [l0] at h
  | k + 1 => by
    have ih0 := mono_l k
    · intro y0 y1 y2
      unfold l0
      repeat' first
      | (with_reducible first | apply ih0 | apply foundryref05_next.mono | apply foundryref05_skip.mono | exact LeO.refl _ | exact LeO.none _ | refine LeO.ite ?_ ?_ | refine LeO.bind ?_ (fun _ => ?_))
      | exact LeO.none _ | refine LeO.ite ?_ ?_ | refine LeO.bind ?_ (fun _ => ?_)
theorem mono : ∀ a0 k, LeO (f k a0) (f (k + 1) a0) := by
  intro a0 k
  have ih0 := mono_l k
  unfold f
  repeat' first
      | (with_reducible first | apply ih0 | apply foundryref05_next.mono | apply foundryref05_skip.mono | exact LeO.refl _ | exact LeO.none _ | refine LeO.ite ?_ ?_ | refine LeO.bind ?_ (fun _ => ?_))
      | exact LeO.none _ | refine LeO.ite ?_ ?_ | refine LeO.bind ?_ (fun _ => ?_)
set_option maxHeartbeats 8000000 in
set_option maxRecDepth 100000 in
theorem calls (k : Nat) (a0 : ByteArray) (r1 : List (S43)) (r2 : Int) (r3 : Int) (w : World) (h : f k a0 = some (r1, r2, r3)) :
    Calls Tryz.prog 22 #[.string a0] w fun e w' => ∃ v0_ : Value, e = .returned (.tuple #[v0_, .int .i64 r2, .int .i64 r3]) ∧ Kd.R k43 43 w' w.heap.size (fun _ => True) v0_ r1 ∧ Below w.heap.size w w' := by
 have hu43 := Tryz.underlying43
 have HB := aM (Below.refl w.heap.size w)
 have H : (if (a0.size : Int) > 4096 then (some (([] : List (S43)), 0, 3)) else ((foundryref05_skip.f k a0 0).bind fun t203 => (l0 k a0 ([] : List (S43)) t203))) = some (r1, r2, r3) := h
 clear h
 by_cases c2 : (a0.size : Int) > 4096
 ·rw [if_pos c2] at H
  have c2b0 : decide (4096 < (a0.size : Int)) = true := decide_eq_true c2
  have c2b1 : decide (4096 < a0.size) = true := decide_eq_true (by omega)
  clear c2
  simp only [Option.some.injEq, Prod.mk.injEq] at H
  obtain ⟨rfl, rfl, rfl⟩ := H
  go_enter Tryz.func22, Tryz.ntmps22
  go_wp2
  go_ret3
  exact ⟨_, eR, by first | exact Kd.R_nil _ _ _ _ _ | exact Kd.N_nil _ _ _ _ _ | exact Kd.V_nil _ _ _ _ _ | exact Kd.Q_nil _ _ _ _ _ | exact Kd.S_nil _ _ _ _ _, hB⟩
 rw [if_neg c2] at H
 have c2b0 : decide (4096 < (a0.size : Int)) = false := decide_eq_false c2
 have c2b1 : decide (4096 < a0.size) = false := decide_eq_false (by omega)
 clear c2
 replace H := Option.bind_eq_some_iff.mp H
 obtain ⟨t203, A30, H⟩ := H
 replace H : (l0 k a0 ([] : List (S43)) t203) = some (r1, r2, r3) := H
 have A3 := aM A30
 clear A30
 have H' := aM H
 clear H
 go_enter Tryz.func22, Tryz.ntmps22
 go_wp2_with (first | ((with_reducible refine gate_callee (f := 50) rfl ?_); refine goesL_ (some 13) rfl rfl Tryz.func50 (by kernel_rfl) rfl #[.string a0, .int .i64 0] rfl gA ?_; (with_reducible refine (foundryref05_skip.calls k a0 0 t203 _ A3.out).mono ?_); rintro e w' ⟨rfl, ⟨nd, rfl⟩⟩; refine ⟨_, rfl, ?_⟩))
 go_loopg [5, 6] k (fun kq v5 v6 w' => ∃ (x5_1 : List (S43)) (x6_1 : Int), v6 = .int .i64 x6_1 ∧ Aside0 (l0 kq a0 x5_1 x6_1 = some (r1, r2, r3)) ∧ Aside0 (kq ≤ k) ∧ Aside0 (Kd.R k43 43 w' w.heap.size (fun _ => True) v5 x5_1) ∧ Aside0 (Below w.heap.size w w'))
 case atStart => exact ⟨(([] : List (S43))), t203, xR, H', ⟨Nat.le_refl _⟩, ⟨by first | exact Kd.R_nil _ _ _ _ _ | exact Kd.N_nil _ _ _ _ _ | exact Kd.V_nil _ _ _ _ _ | exact Kd.Q_nil _ _ _ _ _ | exact Kd.S_nil _ _ _ _ _⟩, ⟨hB⟩⟩
 case round =>
  clear H'
  obtain ⟨x5_1, x6_1, rfl, HA, HK1, HO_5, HB⟩ := hrel
  cases gk with
  | zero => exact absurd HA.out (by simp [l0])
  | succ k1 =>
   have H := HA.out
   clear HA
   simp only [l0] at H
   by_cases c4 : x6_1 < (a0.size : Int)
   rotate_left
   ·rw [if_neg c4] at H
    have c4b0 := dF c4
    clear c4
    simp only [Option.some.injEq, Prod.mk.injEq] at H
    obtain ⟨rfl, rfl, rfl⟩ := H
    go_wp2
    go_ret3
    exact ⟨_, eR, by (with_reducible repeat (first | apply Kd.R_alloc | apply Kd.R_drewN | apply Kd.R_drew)); exact HO_5.out, hB⟩
   rw [if_pos c4] at H
   have c4b0 := dT c4
   clear c4
   replace H := Option.bind_eq_some_iff.mp H
   obtain ⟨⟨t204, t205, t206, t207, t208, t209⟩, A50, H⟩ := H
   replace H : (if t209 = 0 then (if (x5_1.length : Int) = 1024 then (some (([] : List (S43)), x6_1, 3)) else (if x5_1.length < 2932031007402 then ((foundryref05_skip.f k1 a0 (wrap64 (x6_1 + (t205.size : Int)))).bind fun t214 => (l0 k1 a0 (x5_1 ++ [(⟨t204, t205, (⟨t206, t207⟩ : S41), t208⟩ : S43)]) t214)) else (none))) else (some (([] : List (S43)), x6_1, t209))) = some (r1, r2, r3) := H
   have A5 := aM A50
   clear A50
   by_cases c6 : t209 = 0
   rotate_left
   ·rw [if_neg c6] at H
    have c6b0 := bF c6
    have c6b1 := mT c6
    simp only [Option.some.injEq, Prod.mk.injEq] at H
    obtain ⟨rfl, rfl, rfl⟩ := H
    go_wp2_with (first | ((with_reducible refine gate_callee (f := 51) rfl ?_); refine goesL_ (some 21) rfl rfl Tryz.func51 (by kernel_rfl) rfl #[.string a0, .int .i64 x6_1] rfl gA ?_; (with_reducible refine (foundryref05_next.calls k1 a0 x6_1 t204 t205 t206 t207 t208 t209 _ A5.out).mono ?_); rintro e w20 ⟨rfl, hb⟩; refine ⟨_, rfl, ?_⟩; have n0_ := aM (Kd.R_below (rO HO_5) hb); have n1_ := aM (below_step (hB) hb); clear HO_5; clear HB; have HO_5 := n0_; have HB := n1_; clear n0_ n1_) | ((with_reducible refine gate_dst (N := 7) rfl ?_); refine box_event ?hg (N := 7) ?hd (cs := #[.int .i64 0, .string (⟨#[]⟩ : ByteArray), .int .i64 0, .int .u64 0, .int .i64 0]) (t := 43) ?hr ?_; (case hd => rfl); (case hg => rfl); (case hr => first | (go_simp; done) | (go_simp; rfl)); intro gb210 hg w21 hbox hb; have n0_ := aM (Kd.R_below (Kd.R_elderB (rO HO_5) gb210 (Nat.le_of_eq hg.symm)) hb); have n1_ := aM (below_step (hB) hb); have n2_ := aM (hbox); have n3_ := aM ((by rw [hg]; exact (below_size (hB)) : w.heap.size ≤ gb210)); have n4_ := aM ((by rw [hg]; exact (below_size (hB)) : w.heap.size ≤ gb210)); clear HO_5; clear HB; have HO_5 := n0_; have HB := n1_; have BK210 := n2_; have GW210 := n3_; have GE210 := n4_; clear n0_ n1_ n2_ n3_ n4_; clear hb hbox hg; have hcz22_0 : w21.cell? ⟨gb210, 0, none⟩ = some (.int .i64 0) := (zC BK210.out 0).trans rfl; have hcz22_1 : w21.cell? ⟨gb210, 1, none⟩ = some (.string (⟨#[]⟩ : ByteArray)) := (zC BK210.out 1).trans rfl; have hcz22_2 : w21.cell? ⟨gb210, 2, none⟩ = some (.int .i64 0) := (zC BK210.out 2).trans rfl; have hcz22_3 : w21.cell? ⟨gb210, 3, none⟩ = some (.int .u64 0) := (zC BK210.out 3).trans rfl; have hcz22_4 : w21.cell? ⟨gb210, 4, none⟩ = some (.int .i64 0) := (zC BK210.out 4).trans rfl; have hfz22_0 := zF BK210.out 0; have hfz22_1 := zF BK210.out 1; have hfz22_2 := zF BK210.out 2; have hfz22_3 := zF BK210.out 3; have hfz22_4 := zF BK210.out 4))
    go_ret3
    exact ⟨_, eR, by first | exact Kd.R_nil _ _ _ _ _ | exact Kd.N_nil _ _ _ _ _ | exact Kd.V_nil _ _ _ _ _ | exact Kd.Q_nil _ _ _ _ _ | exact Kd.S_nil _ _ _ _ _, hS⟩
   rw [if_pos c6] at H
   have c6b0 := bT c6
   have c6b1 := mF c6
   clear c6
   by_cases c7 : (x5_1.length : Int) = 1024
   ·rw [if_pos c7] at H
    have c7b0 := bT c7
    have c7b1 := mF c7
    clear c7
    simp only [Option.some.injEq, Prod.mk.injEq] at H
    obtain ⟨rfl, rfl, rfl⟩ := H
    go_wp2_with (first | ((with_reducible refine gate_callee (f := 51) rfl ?_); refine goesL_ (some 21) rfl rfl Tryz.func51 (by kernel_rfl) rfl #[.string a0, .int .i64 x6_1] rfl gA ?_; (with_reducible refine (foundryref05_next.calls k1 a0 x6_1 t204 t205 t206 t207 t208 t209 _ A5.out).mono ?_); rintro e w8 ⟨rfl, hb⟩; refine ⟨_, rfl, ?_⟩; have n0_ := aM (Kd.R_below (rO HO_5) hb); have n1_ := aM (below_step (hB) hb); clear HO_5; clear HB; have HO_5 := n0_; have HB := n1_; clear n0_ n1_) | ((with_reducible refine gate_dst (N := 7) rfl ?_); refine box_event ?hg (N := 7) ?hd (cs := #[.int .i64 0, .string (⟨#[]⟩ : ByteArray), .int .i64 0, .int .u64 0, .int .i64 0]) (t := 43) ?hr ?_; (case hd => rfl); (case hg => rfl); (case hr => first | (go_simp; done) | (go_simp; rfl)); intro gb210 hg w9 hbox hb; have n0_ := aM (Kd.R_below (Kd.R_elderB (rO HO_5) gb210 (Nat.le_of_eq hg.symm)) hb); have n1_ := aM (below_step (hB) hb); have n2_ := aM (hbox); have n3_ := aM ((by rw [hg]; exact (below_size (hB)) : w.heap.size ≤ gb210)); have n4_ := aM ((by rw [hg]; exact (below_size (hB)) : w.heap.size ≤ gb210)); clear HO_5; clear HB; have HO_5 := n0_; have HB := n1_; have BK210 := n2_; have GW210 := n3_; have GE210 := n4_; clear n0_ n1_ n2_ n3_ n4_; clear hb hbox hg; have hcz10_0 : w9.cell? ⟨gb210, 0, none⟩ = some (.int .i64 0) := (zC BK210.out 0).trans rfl; have hcz10_1 : w9.cell? ⟨gb210, 1, none⟩ = some (.string (⟨#[]⟩ : ByteArray)) := (zC BK210.out 1).trans rfl; have hcz10_2 : w9.cell? ⟨gb210, 2, none⟩ = some (.int .i64 0) := (zC BK210.out 2).trans rfl; have hcz10_3 : w9.cell? ⟨gb210, 3, none⟩ = some (.int .u64 0) := (zC BK210.out 3).trans rfl; have hcz10_4 : w9.cell? ⟨gb210, 4, none⟩ = some (.int .i64 0) := (zC BK210.out 4).trans rfl; have hfz10_0 := zF BK210.out 0; have hfz10_1 := zF BK210.out 1; have hfz10_2 := zF BK210.out 2; have hfz10_3 := zF BK210.out 3; have hfz10_4 := zF BK210.out 4; obtain ⟨Ao11, co11, eo11⟩ := Kd.R_slice HO_5.out; subst eo11))
    go_ret3
    exact ⟨_, eR, by first | exact Kd.R_nil _ _ _ _ _ | exact Kd.N_nil _ _ _ _ _ | exact Kd.V_nil _ _ _ _ _ | exact Kd.Q_nil _ _ _ _ _ | exact Kd.S_nil _ _ _ _ _, hS⟩
   rw [if_neg c7] at H
   have c7b0 := bF c7
   have c7b1 := mT c7
   replace H := nI H
   obtain ⟨c12, H⟩ := H
   have LMc12 := aM c12
   clear c12
   obtain ⟨y211, hy211⟩ : ∃ y_ : List (S43), y_ = (x5_1 ++ [(⟨t204, t205, (⟨t206, t207⟩ : S41), t208⟩ : S43)]) := ⟨_, rfl⟩
   replace H : ((foundryref05_skip.f k1 a0 (wrap64 (x6_1 + (t205.size : Int)))).bind fun t214 => (l0 k1 a0 y211 t214)) = some (r1, r2, r3) := by first | (rw [hy211]; with_reducible exact H) | (have H2_ := (Option.bind_some _ _).symm.trans H; rw [hy211]; with_reducible exact H2_) | (have H2_ := (Option.bind_some _ _).symm.trans H; with_reducible exact H2_) | with_reducible exact H | (rw [hy211]; exact H) | exact H
   have Ny211 := aM hy211
   clear hy211
   replace H := Option.bind_eq_some_iff.mp H
   obtain ⟨t214, A130, H⟩ := H
   replace H : (l0 k1 a0 y211 t214) = some (r1, r2, r3) := H
   have A13 := aM A130
   clear A130
   have H' := aM H
   clear H
   go_wp2_with (first | ((with_reducible refine gate_callee (f := 51) rfl ?_); refine goesL_ (some 21) rfl rfl Tryz.func51 (by kernel_rfl) rfl #[.string a0, .int .i64 x6_1] rfl gA ?_; (with_reducible refine (foundryref05_next.calls k1 a0 x6_1 t204 t205 t206 t207 t208 t209 _ A5.out).mono ?_); rintro e w14 ⟨rfl, hb⟩; refine ⟨_, rfl, ?_⟩; have n0_ := aM (Kd.R_below (rO HO_5) hb); have n1_ := aM (below_step (hB) hb); clear HO_5; clear HB; have HO_5 := n0_; have HB := n1_; clear n0_ n1_) | ((with_reducible refine gate_dst (N := 7) rfl ?_); refine box_event ?hg (N := 7) ?hd (cs := #[.int .i64 0, .string (⟨#[]⟩ : ByteArray), .int .i64 0, .int .u64 0, .int .i64 0]) (t := 43) ?hr ?_; (case hd => rfl); (case hg => rfl); (case hr => first | (go_simp; done) | (go_simp; rfl)); intro gb210 hg w15 hbox hb; have n0_ := aM (Kd.R_below (Kd.R_elderB (rO HO_5) gb210 (Nat.le_of_eq hg.symm)) hb); have n1_ := aM (below_step (hB) hb); have n2_ := aM (hbox); have n3_ := aM ((by rw [hg]; exact (below_size (hB)) : w.heap.size ≤ gb210)); have n4_ := aM ((by rw [hg]; exact (below_size (hB)) : w.heap.size ≤ gb210)); clear HO_5; clear HB; have HO_5 := n0_; have HB := n1_; have BK210 := n2_; have GW210 := n3_; have GE210 := n4_; clear n0_ n1_ n2_ n3_ n4_; clear hb hbox hg; have hcz16_0 : w15.cell? ⟨gb210, 0, none⟩ = some (.int .i64 0) := (zC BK210.out 0).trans rfl; have hcz16_1 : w15.cell? ⟨gb210, 1, none⟩ = some (.string (⟨#[]⟩ : ByteArray)) := (zC BK210.out 1).trans rfl; have hcz16_2 : w15.cell? ⟨gb210, 2, none⟩ = some (.int .i64 0) := (zC BK210.out 2).trans rfl; have hcz16_3 : w15.cell? ⟨gb210, 3, none⟩ = some (.int .u64 0) := (zC BK210.out 3).trans rfl; have hcz16_4 : w15.cell? ⟨gb210, 4, none⟩ = some (.int .i64 0) := (zC BK210.out 4).trans rfl; have hfz16_0 := zF BK210.out 0; have hfz16_1 := zF BK210.out 1; have hfz16_2 := zF BK210.out 2; have hfz16_3 := zF BK210.out 3; have hfz16_4 := zF BK210.out 4; obtain ⟨Ao17, co17, eo17⟩ := Kd.R_slice HO_5.out; subst eo17) | ((with_reducible refine gate_builtin (b := .append) (xs := #[.tmp 32, .tmp 34]) rfl ?_); at_builtin; refine Kd.R_append k43 (w0 := w) w.heap.size rfl (.tmp 32) (.tmp 34) 36 43 (.agg #[(.int .i64 0), (.string ⟨#[]⟩), (.int .i64 0), (.int .u64 0), (.int .i64 0)]) 48 rfl Tryz.underlying36 info43 rfl (by decide) (by omega) (.slice Ao17 x5_1.length co17) x5_1 (⟨t204, t205, (⟨t206, t207⟩ : S41), t208⟩ : S43) [.int .i64 t204, .string t205, .int .i64 t206, .int .u64 t207, .int .i64 t208] (fun k_ => k_ ≠ gb210) (fun _ => False) rfl (by first | (go_simp; done) | (go_simp; rfl)) ?aP (fun _ hk => hk.elim) ?aF ?aO ?aB ?aS ?aL ?_; (case aP => exact k43_mkM _ _ _ (⟨t204, t205, (⟨t206, t207⟩ : S41), t208⟩ : S43)); (case aB => exact (hS)); (case aF => exact (fun k_ hk => Kd.freshB (g := gb210) (o := .cells #[.int .i64 t204, .string t205, .int .i64 t206, .int .u64 t207, .int .i64 t208] 43 (0, 0)) (bP BK210) k_ hk)); (case aO => exact (by (with_reducible repeat (first | apply Kd.R_alloc | apply Kd.R_drewN | apply Kd.R_drew)); exact Kd.R_mono (Kd.R_far (p := ⟨gb210, 4, none⟩) (Kd.R_far (p := ⟨gb210, 3, none⟩) (Kd.R_far (p := ⟨gb210, 2, none⟩) (Kd.R_far (p := ⟨gb210, 1, none⟩) (Kd.R_far (p := ⟨gb210, 0, none⟩) (Kd.R_mono HO_5.out (fun k_ hk => (⟨hk, hk.2⟩ : _ ∧ k_ ≠ gb210))) (fun _ hk => hk.2) (.int .i64 t204)) (fun _ hk => hk.2) (.string t205)) (fun _ hk => hk.2) (.int .i64 t206)) (fun _ hk => hk.2) (.int .u64 t207)) (fun _ hk => hk.2) (.int .i64 t208)) (fun _ hk => hk.1.2))); (case aS => exact (below_size (hS))); (case aL => have := LMc12.out; omega); intro v212 w18 ho hb hg hat; rw [← Ny211.out] at ho; have n0_ := aM (blk_grown (g := gb210) (o := .cells #[.int .i64 t204, .string t205, .int .i64 t206, .int .u64 t207, .int .i64 t208] 43 (0, 0)) (bP BK210) hg (Kd.R_away HO_5.out (fun _ hk => hk.2))); have n1_ := aM (hb); have n2_ := aM (ho); clear BK210; clear HB; clear HO_5; have BK210 := n0_; have HB := n1_; have HO213 := n2_; clear n0_ n1_ n2_; clear ho hb hg hat; have hcz19_0 : w18.cell? ⟨gb210, 0, none⟩ = some (.int .i64 t204) := (zC BK210.out 0).trans rfl; have hcz19_1 : w18.cell? ⟨gb210, 1, none⟩ = some (.string t205) := (zC BK210.out 1).trans rfl; have hcz19_2 : w18.cell? ⟨gb210, 2, none⟩ = some (.int .i64 t206) := (zC BK210.out 2).trans rfl; have hcz19_3 : w18.cell? ⟨gb210, 3, none⟩ = some (.int .u64 t207) := (zC BK210.out 3).trans rfl; have hcz19_4 : w18.cell? ⟨gb210, 4, none⟩ = some (.int .i64 t208) := (zC BK210.out 4).trans rfl; have hfz19_0 := zF BK210.out 0; have hfz19_1 := zF BK210.out 1; have hfz19_2 := zF BK210.out 2; have hfz19_3 := zF BK210.out 3; have hfz19_4 := zF BK210.out 4) | ((with_reducible refine gate_callee (f := 50) rfl ?_); refine goesL_ (some 42) rfl rfl Tryz.func50 (by kernel_rfl) rfl #[.string a0, .int .i64 (wrap64 (x6_1 + (t205.size : Int)))] rfl gA ?_; (with_reducible refine (foundryref05_skip.calls k1 a0 (wrap64 (x6_1 + (t205.size : Int))) t214 _ A13.out).mono ?_); rintro e w' ⟨rfl, ⟨nd, rfl⟩⟩; refine ⟨_, rfl, ?_⟩))
   go_roundg k1
   case measure => exact jC
   case rel => exact ⟨(y211), t214, xR, H', ⟨jC⟩, ⟨by (with_reducible repeat (first | apply Kd.R_alloc | apply Kd.R_drewN | apply Kd.R_drew)); exact Kd.R_mono HO213.out (fun _ hk => trivial)⟩, ⟨hS⟩⟩
end foundryref05_Lex
namespace foundrylaw05_alive
def f (k : Nat)  : Option (Bool) := (lex_Lex.f k (⟨#[108, 101, 116, 32, 120, 60, 61, 49, 46, 53, 59, 32, 47, 47, 32, 103, 111]⟩ : ByteArray)).bind fun bt215 => ((lex_Lex.f k (⟨#[97, 32, 38, 32, 98]⟩ : ByteArray)).bind fun bt220 => (if bt215.2.2 = 0 then (if (bt215.1.length : Int) = 5 then (if 0 < (bt215.1.length : Int) then (if ((rd_T44 bt215.1 0).f0) = 2 then (if 2 < (bt215.1.length : Int) then (if ((rd_T44 bt215.1 2).f1).toList = ([60, 61] : List UInt8) then (if 3 < (bt215.1.length : Int) then (if ((rd_T44 bt215.1 3).f2.f1) = 4609434218613702656 then (if bt220.2.2 = 10 then (some (bt220.2.1 == 2)) else (none)) else (none)) else (none)) else (none)) else (none)) else (none)) else (none)) else (none)) else (none)))
theorem mono : ∀ k, LeO (f k ) (f (k + 1) ) := by
  intro  k
  unfold f
  repeat' first
      | (with_reducible first | apply lex_Lex.mono | exact LeO.refl _ | exact LeO.none _ | refine LeO.ite ?_ ?_ | refine LeO.bind ?_ (fun _ => ?_))
      | exact LeO.none _ | refine LeO.ite ?_ ?_ | refine LeO.bind ?_ (fun _ => ?_)
set_option maxHeartbeats 8000000 in
set_option maxRecDepth 100000 in
theorem calls (k : Nat)  (r : Bool) (w : World) (hLaid : LaidOk w) (h : f k  = some r) :
    Calls Tryz.prog 23 #[] w fun e w' => e = .returned (.bool r) ∧ Below w.heap.size w w' := by
 have HLAID := aM hLaid
 clear hLaid
 have HB := aM (Below.refl w.heap.size w)
 have H : ((lex_Lex.f k (⟨#[108, 101, 116, 32, 120, 60, 61, 49, 46, 53, 59, 32, 47, 47, 32, 103, 111]⟩ : ByteArray)).bind fun bt215 => ((lex_Lex.f k (⟨#[97, 32, 38, 32, 98]⟩ : ByteArray)).bind fun bt220 => (if bt215.2.2 = 0 then (if (bt215.1.length : Int) = 5 then (if 0 < (bt215.1.length : Int) then (if ((rd_T44 bt215.1 0).f0) = 2 then (if 2 < (bt215.1.length : Int) then (if ((rd_T44 bt215.1 2).f1).toList = ([60, 61] : List UInt8) then (if 3 < (bt215.1.length : Int) then (if ((rd_T44 bt215.1 3).f2.f1) = 4609434218613702656 then (if bt220.2.2 = 10 then (some (bt220.2.1 == 2)) else (none)) else (none)) else (none)) else (none)) else (none)) else (none)) else (none)) else (none)) else (none)))) = some r := h
 clear h
 replace H := Option.bind_eq_some_iff.mp H
 obtain ⟨⟨t215, t216, t217⟩, A10, H⟩ := H
 replace H : ((lex_Lex.f k (⟨#[97, 32, 38, 32, 98]⟩ : ByteArray)).bind fun bt220 => (if t217 = 0 then (if (t215.length : Int) = 5 then (if 0 < (t215.length : Int) then (if ((rd_T44 t215 0).f0) = 2 then (if 2 < (t215.length : Int) then (if ((rd_T44 t215 2).f1).toList = ([60, 61] : List UInt8) then (if 3 < (t215.length : Int) then (if ((rd_T44 t215 3).f2.f1) = 4609434218613702656 then (if bt220.2.2 = 10 then (some (bt220.2.1 == 2)) else (none)) else (none)) else (none)) else (none)) else (none)) else (none)) else (none)) else (none)) else (none))) = some r := H
 have A1 := aM A10
 clear A10
 replace H := Option.bind_eq_some_iff.mp H
 obtain ⟨⟨t220, t221, t222⟩, A20, H⟩ := H
 replace H : (if t217 = 0 then (if (t215.length : Int) = 5 then (if 0 < (t215.length : Int) then (if ((rd_T44 t215 0).f0) = 2 then (if 2 < (t215.length : Int) then (if ((rd_T44 t215 2).f1).toList = ([60, 61] : List UInt8) then (if 3 < (t215.length : Int) then (if ((rd_T44 t215 3).f2.f1) = 4609434218613702656 then (if t222 = 10 then (some (t221 == 2)) else (none)) else (none)) else (none)) else (none)) else (none)) else (none)) else (none)) else (none)) else (none)) = some r := H
 have A2 := aM A20
 clear A20
 replace H := nI H
 obtain ⟨c3, H⟩ := H
 have c3b0 := bT c3
 have c3b1 := mF c3
 clear c3
 replace H := nI H
 obtain ⟨c4, H⟩ := H
 have c4b0 := bT c4
 have c4b1 := mF c4
 clear c4
 replace H := nI H
 obtain ⟨c5, H⟩ := H
 have c5b0 := dT c5
 have c5b1 : decide (0 < t215.length) = true := decide_eq_true (by omega)
 clear c5
 replace H := nI H
 obtain ⟨c6, H⟩ := H
 have c6b0 := bT c6
 have c6b1 := mF c6
 clear c6
 replace H := nI H
 obtain ⟨c7, H⟩ := H
 have c7b0 := dT c7
 have c7b1 : decide (2 < t215.length) = true := decide_eq_true (by omega)
 clear c7
 replace H := nI H
 obtain ⟨c8, H⟩ := H
 have c8b0 : (((rd_T44 t215 2).f1).toList == ([60, 61] : List UInt8)) = true := beq_iff_eq.mpr c8
 have c8b1 : (((rd_T44 t215 2).f1).toList != ([60, 61] : List UInt8)) = false := bne_eq_false_iff_eq.mpr c8
 clear c8
 replace H := nI H
 obtain ⟨c9, H⟩ := H
 have c9b0 := dT c9
 have c9b1 : decide (3 < t215.length) = true := decide_eq_true (by omega)
 clear c9
 replace H := nI H
 obtain ⟨c10, H⟩ := H
 have c10b0 := bT c10
 have c10b1 := mF c10
 clear c10
 replace H := nI H
 obtain ⟨c11, H⟩ := H
 have c11b0 := bT c11
 have c11b1 := mF c11
 clear c11
 obtain rfl := Option.some.inj H
 go_enter Tryz.func23, Tryz.ntmps23
 go_wp2_with (first | ((with_reducible refine gate_callee (f := 21) rfl ?_); refine goesL_ (some 8) rfl rfl Tryz.func21 (by kernel_rfl) rfl #[.string (⟨#[108, 101, 116, 32, 120, 60, 61, 49, 46, 53, 59, 32, 47, 47, 32, 103, 111]⟩ : ByteArray)] rfl gA ?_; (with_reducible refine (lex_Lex.calls k (⟨#[108, 101, 116, 32, 120, 60, 61, 49, 46, 53, 59, 32, 47, 47, 32, 103, 111]⟩ : ByteArray) t215 t216 t217 _ ?side1 A1.out).mono ?_); (case side1 => exact LaidOk.below (hB) HLAID.out); rintro e w12 ⟨v218, rfl, ho0, hb⟩; refine ⟨_, rfl, ?_⟩; have n0_ := aM (Kd.R_lower ho0 (below_size (hB))); have n1_ := aM (below_step (hB) hb); clear HB; have HO219 := n0_; have HB := n1_; clear n0_ n1_) | ((with_reducible refine gate_callee (f := 21) rfl ?_); refine goesL_ (some 13) rfl rfl Tryz.func21 (by kernel_rfl) rfl #[.string (⟨#[97, 32, 38, 32, 98]⟩ : ByteArray)] rfl gA ?_; (with_reducible refine (lex_Lex.calls k (⟨#[97, 32, 38, 32, 98]⟩ : ByteArray) t220 t221 t222 _ ?side1 A2.out).mono ?_); (case side1 => exact LaidOk.below (hB) HLAID.out); rintro e w13 ⟨v223, rfl, ho0, hb⟩; refine ⟨_, rfl, ?_⟩; have n0_ := aM (Kd.R_elder' (rO HO219) (Kd.R_base ho0) hb); have n1_ := aM (Kd.R_lower (Kd.R_new' ho0 (Kd.R_lt (rO HO219))) (below_size (hB))); have n2_ := aM (below_step (hB) hb); clear HO219; clear HB; have HO219 := n0_; have HO224 := n1_; have HB := n2_; clear n0_ n1_ n2_; obtain ⟨Ao14, co14, eo14⟩ := Kd.R_slice HO219.out; subst eo14; have p225 : 0 ≤ (0 : Int) := (by omega); have q225 : 0 < (t215.length : Int) := oA; obtain ⟨ad225, e225, hx225_0, hx225_1, hx225_2, hx225_3, hx225_4⟩ := at_T44 (Kd.R_reads' HO219.out).2.2 0 p225 q225; cases e225; have qi225 : (0 < t215.length) = True := eq_true (by omega); (try rw [show ((0 : Int)).toNat = 0 from rfl] at hx225_0); (try rw [show 0 * 5 = 0 from rfl] at hx225_0); (try rw [Addr.add_zero'] at hx225_0); (try rw [show ((0 : Int)).toNat = 0 from rfl] at hx225_1); (try rw [show 0 * 5 = 0 from rfl] at hx225_1); (try rw [Addr.add_zero'] at hx225_1); (try rw [show ((0 : Int)).toNat = 0 from rfl] at hx225_2); (try rw [show 0 * 5 = 0 from rfl] at hx225_2); (try rw [Addr.add_zero'] at hx225_2); (try rw [show ((0 : Int)).toNat = 0 from rfl] at hx225_3); (try rw [show 0 * 5 = 0 from rfl] at hx225_3); (try rw [Addr.add_zero'] at hx225_3); (try rw [show ((0 : Int)).toNat = 0 from rfl] at hx225_4); (try rw [show 0 * 5 = 0 from rfl] at hx225_4); (try rw [Addr.add_zero'] at hx225_4); replace p225 := eq_true p225; replace q225 := eq_true q225; have p226 : 0 ≤ (2 : Int) := (by omega); have q226 : 2 < (t215.length : Int) := oA; obtain ⟨ad226, e226, hx226_0, hx226_1, hx226_2, hx226_3, hx226_4⟩ := at_T44 (Kd.R_reads' HO219.out).2.2 2 p226 q226; obtain rfl : ad225 = ad226 := (by injection e226); (try simp only [show (2 : Int).toNat = 2 from rfl, Nat.reduceMul, Nat.reduceEqDiff, Go.Addr.add, ↓reduceIte] at hx226_0); (try simp only [show (2 : Int).toNat = 2 from rfl, Nat.reduceMul, Nat.reduceEqDiff, Go.Addr.add, ↓reduceIte] at hx226_1); (try simp only [show (2 : Int).toNat = 2 from rfl, Nat.reduceMul, Nat.reduceEqDiff, Go.Addr.add, ↓reduceIte] at hx226_2); (try simp only [show (2 : Int).toNat = 2 from rfl, Nat.reduceMul, Nat.reduceEqDiff, Go.Addr.add, ↓reduceIte] at hx226_3); (try simp only [show (2 : Int).toNat = 2 from rfl, Nat.reduceMul, Nat.reduceEqDiff, Go.Addr.add, ↓reduceIte] at hx226_4); have qi226 : (2 < t215.length) = True := eq_true (by omega); (try rw [show ((2 : Int)).toNat = 2 from rfl] at hx226_0); (try rw [show 2 * 5 = 10 from rfl] at hx226_0); (try rw [show ((2 : Int)).toNat = 2 from rfl] at hx226_1); (try rw [show 2 * 5 = 10 from rfl] at hx226_1); (try rw [show ((2 : Int)).toNat = 2 from rfl] at hx226_2); (try rw [show 2 * 5 = 10 from rfl] at hx226_2); (try rw [show ((2 : Int)).toNat = 2 from rfl] at hx226_3); (try rw [show 2 * 5 = 10 from rfl] at hx226_3); (try rw [show ((2 : Int)).toNat = 2 from rfl] at hx226_4); (try rw [show 2 * 5 = 10 from rfl] at hx226_4); replace p226 := eq_true p226; replace q226 := eq_true q226; have p227 : 0 ≤ (3 : Int) := (by omega); have q227 : 3 < (t215.length : Int) := oA; obtain ⟨ad227, e227, hx227_0, hx227_1, hx227_2, hx227_3, hx227_4⟩ := at_T44 (Kd.R_reads' HO219.out).2.2 3 p227 q227; obtain rfl : ad225 = ad227 := (by injection e227); (try simp only [show (3 : Int).toNat = 3 from rfl, Nat.reduceMul, Nat.reduceEqDiff, Go.Addr.add, ↓reduceIte] at hx227_0); (try simp only [show (3 : Int).toNat = 3 from rfl, Nat.reduceMul, Nat.reduceEqDiff, Go.Addr.add, ↓reduceIte] at hx227_1); (try simp only [show (3 : Int).toNat = 3 from rfl, Nat.reduceMul, Nat.reduceEqDiff, Go.Addr.add, ↓reduceIte] at hx227_2); (try simp only [show (3 : Int).toNat = 3 from rfl, Nat.reduceMul, Nat.reduceEqDiff, Go.Addr.add, ↓reduceIte] at hx227_3); (try simp only [show (3 : Int).toNat = 3 from rfl, Nat.reduceMul, Nat.reduceEqDiff, Go.Addr.add, ↓reduceIte] at hx227_4); have qi227 : (3 < t215.length) = True := eq_true (by omega); (try rw [show ((3 : Int)).toNat = 3 from rfl] at hx227_0); (try rw [show 3 * 5 = 15 from rfl] at hx227_0); (try rw [show ((3 : Int)).toNat = 3 from rfl] at hx227_1); (try rw [show 3 * 5 = 15 from rfl] at hx227_1); (try rw [show ((3 : Int)).toNat = 3 from rfl] at hx227_2); (try rw [show 3 * 5 = 15 from rfl] at hx227_2); (try rw [show ((3 : Int)).toNat = 3 from rfl] at hx227_3); (try rw [show 3 * 5 = 15 from rfl] at hx227_3); (try rw [show ((3 : Int)).toNat = 3 from rfl] at hx227_4); (try rw [show 3 * 5 = 15 from rfl] at hx227_4); replace p227 := eq_true p227; replace q227 := eq_true q227))
 go_ret
 exact ⟨eR, hB⟩
end foundrylaw05_alive
/-! ### foundrylaw05_Tokens: function 24 -/
def foundrylaw05_Tokens.l0 : Nat → List (S44) → List (S43) → Int → Option ((List (S43)))
  | 0, _, _, _ => none
  | k + 1, x0, x3, x4 => if x4 < (x0.length : Int) then (if 0 ≤ x4 then (if x3.length < 2932031007402 then (foundrylaw05_Tokens.l0 k x0 (x3 ++ [(⟨(rd_T44 x0 x4).f0, (rd_T44 x0 x4).f1, (⟨(rd_T44 x0 x4).f2.f0, (rd_T44 x0 x4).f2.f1⟩ : S41), (rd_T44 x0 x4).f3⟩ : S43)]) (wrap64 (x4 + 1))) else (none)) else (none)) else (some x3)
def foundrylaw05_Tokens.f (k : Nat) (l0 : List (S44)) : Option ((List (S43))) := foundrylaw05_Tokens.l0 k l0 ([] : List (S43)) 0
theorem foundrylaw05_Tokens.mono_l : ∀ k, (∀ y0 y1 y2, LeO (foundrylaw05_Tokens.l0 k y0 y1 y2) (foundrylaw05_Tokens.l0 (k + 1) y0 y1 y2))
  | 0 => fun _ _ _ r h => by simp [foundrylaw05_Tokens.l0] at h
  | k + 1 => by
    have ih0 := foundrylaw05_Tokens.mono_l k
    · intro y0 y1 y2
      unfold foundrylaw05_Tokens.l0
      repeat' first
      | (with_reducible first | apply ih0 | exact LeO.refl _ | exact LeO.none _ | refine LeO.ite ?_ ?_ | refine LeO.bind ?_ (fun _ => ?_))
      | exact LeO.none _ | refine LeO.ite ?_ ?_ | refine LeO.bind ?_ (fun _ => ?_)
theorem foundrylaw05_Tokens.mono : ∀ a0 k, LeO (foundrylaw05_Tokens.f k a0) (foundrylaw05_Tokens.f (k + 1) a0) := by
  intro a0 k
  have ih0 := foundrylaw05_Tokens.mono_l k
  unfold foundrylaw05_Tokens.f
  repeat' first
      | (with_reducible first | apply ih0 | exact LeO.refl _ | exact LeO.none _ | refine LeO.ite ?_ ?_ | refine LeO.bind ?_ (fun _ => ?_))
      | exact LeO.none _ | refine LeO.ite ?_ ?_ | refine LeO.bind ?_ (fun _ => ?_)
def foundrylaw05_Tokens.T5 : Bool × List (List Nat × List Nat) := (true, [([], []), ([], []), ([], []), ([1, 2], [1, 2]), ([3], [3]), ([4], [4]), ([], []), ([], []), ([6, 7], [6, 7]), ([8], [8]), ([9], [9]), ([], []), ([], []), ([11, 12], [11, 12]), ([13], [13]), ([14], [14]), ([], []), ([], []), ([16, 17], [16, 17]), ([18], [18]), ([19], [19]), ([5, 10, 15, 20], [5, 10, 15, 20]), ([21], [21]), ([0, 22], [0, 22]), ([23, 23, 0, 1, 2, 3, 4, 5, 6, 7, 8, 9, 10, 11, 12, 13, 14, 15, 16, 17, 18, 19, 20, 21, 22, 23], [0, 23])])
def foundrylaw05_Tokens.B5 : List Nat := [0, 0, 0, 6, 14, 30, 0, 0, 192, 448, 960, 0, 0, 6144, 14336, 30720, 0, 0, 196608, 458752, 983040, 2097150, 4194302, 8388607, 16777215]
theorem foundrylaw05_Tokens.tab5 : rtab .any (opsOf Tryz.f24 5) = foundrylaw05_Tokens.T5 := by kernel_rfl
theorem foundrylaw05_Tokens.bits5 : waitsOk foundrylaw05_Tokens.T5.2 foundrylaw05_Tokens.B5 = true := by kernel_rfl
set_option maxHeartbeats 8000000 in
set_option maxRecDepth 100000 in
theorem foundrylaw05_Tokens.calls (k : Nat) (A0 : Option Addr) (c0 : Nat) (l0 : List (S44)) (r : List (S43)) (w : World) (hr0 : Kd.C k44 w A0 l0.length l0) (hc0 : l0.length ≤ c0) (h : foundrylaw05_Tokens.f k l0 = some r) :
    Calls Tryz.prog 24 #[.slice A0 l0.length c0] w fun e w' => ∃ v0_ : Value, e = .returned (v0_) ∧ Kd.R k43 43 w' w.heap.size (fun _ => True) v0_ r ∧ Below w.heap.size w w' := by
 have hu41 := Tryz.underlying41
 have hu43 := Tryz.underlying43
 have HR0 := aM hr0
 have HC0 := aM hc0
 clear hr0 hc0
 have HB := aM (Below.refl w.heap.size w)
 have H : (foundrylaw05_Tokens.l0 k l0 ([] : List (S43)) 0) = some r := h
 clear h
 have H' := aM H
 clear H
 go_enter Tryz.func24, Tryz.ntmps24
 go_wp2
 go_loopg [3, 4] k (fun kq v3 v4 w' => ∃ (x3_1 : List (S43)) (x4_1 : Int), v4 = .int .i64 x4_1 ∧ Aside0 (foundrylaw05_Tokens.l0 kq l0 x3_1 x4_1 = some r) ∧ Aside0 (kq ≤ k) ∧ Aside0 (Kd.R k43 43 w' w.heap.size (fun _ => True) v3 x3_1) ∧ Aside0 (Below w.heap.size w w'))
 case atStart => exact ⟨(([] : List (S43))), (0), xR, H', ⟨Nat.le_refl _⟩, ⟨by first | exact Kd.R_nil _ _ _ _ _ | exact Kd.N_nil _ _ _ _ _ | exact Kd.V_nil _ _ _ _ _ | exact Kd.Q_nil _ _ _ _ _ | exact Kd.S_nil _ _ _ _ _⟩, ⟨hB⟩⟩
 case round =>
  clear H'
  obtain ⟨x3_1, x4_1, rfl, HA, HK1, HO_3, HB⟩ := hrel
  cases gk with
  | zero => exact absurd HA.out (by simp [foundrylaw05_Tokens.l0])
  | succ k1 =>
   have H := HA.out
   clear HA
   simp only [foundrylaw05_Tokens.l0] at H
   by_cases c2 : x4_1 < (l0.length : Int)
   rotate_left
   ·rw [if_neg c2] at H
    have c2b0 := dF c2
    clear c2
    obtain rfl := Option.some.inj H
    go_wp2
    go_ret
    exact ⟨_, eR, by (with_reducible repeat (first | apply Kd.R_alloc | apply Kd.R_drewN | apply Kd.R_drew)); exact HO_3.out, hB⟩
   rw [if_pos c2] at H
   have c2b0 := dT c2
   clear c2
   by_cases c3 : 0 ≤ x4_1
   rotate_left
   ·rw [if_neg c3] at H
    exact absurd H (by simp)
   rw [if_pos c3] at H
   have c3b0 := dT c3
   clear c3
   by_cases c4 : x3_1.length < 2932031007402
   rotate_left
   ·rw [if_neg c4] at H
    exact absurd H (by simp)
   rw [if_pos c4] at H
   have LMc4 := aM c4
   clear c4
   obtain ⟨y232, hy232⟩ : ∃ y_ : List (S43), y_ = (x3_1 ++ [(⟨(rd_T44 l0 x4_1).f0, (rd_T44 l0 x4_1).f1, (⟨(rd_T44 l0 x4_1).f2.f0, (rd_T44 l0 x4_1).f2.f1⟩ : S41), (rd_T44 l0 x4_1).f3⟩ : S43)]) := ⟨_, rfl⟩
   replace H : (foundrylaw05_Tokens.l0 k1 l0 y232 (wrap64 (x4_1 + 1))) = some r := by first | (rw [hy232]; with_reducible exact H) | (have H2_ := (Option.bind_some _ _).symm.trans H; rw [hy232]; with_reducible exact H2_) | (have H2_ := (Option.bind_some _ _).symm.trans H; with_reducible exact H2_) | with_reducible exact H | (rw [hy232]; exact H) | exact H
   have Ny232 := aM hy232
   clear hy232
   have H' := aM H
   clear H
   try go_wp2
   have n0_ := aM (Kd.R_drew HO_3.out)
   have n1_ := aM (below_drew1 HB.out)
   clear HO_3
   clear HB
   have HO_3 := n0_
   have HB := n1_
   clear n0_ n1_
   have p228 : 0 ≤ (x4_1 : Int) := oA
   have q228 : x4_1 < (l0.length : Int) := oA
   obtain ⟨ad228, e228, hx228_0, hx228_1, hx228_2, hx228_3, hx228_4⟩ := at_T44 HR0.out x4_1 p228 q228
   have hw228_4 := hx228_4
   have hw228_3 := hx228_3
   have hw228_2 := hx228_2
   have hw228_1 := hx228_1
   have hw228_0 := hx228_0
   cases e228
   replace hx228_0 := (HB.out.cell (wB w _ hx228_0)).trans hx228_0
   replace hx228_1 := (HB.out.cell (wB w _ hx228_1)).trans hx228_1
   replace hx228_2 := (HB.out.cell (wB w _ hx228_2)).trans hx228_2
   replace hx228_3 := (HB.out.cell (wB w _ hx228_3)).trans hx228_3
   replace hx228_4 := (HB.out.cell (wB w _ hx228_4)).trans hx228_4
   replace p228 := eq_true p228
   replace q228 := eq_true q228
   have p229 : 0 ≤ (x4_1 : Int) := oA
   have q229 : x4_1 < (l0.length : Int) := oA
   obtain ⟨ad229, e229, hx229_0, hx229_1, hx229_2, hx229_3, hx229_4⟩ := at_T44 HR0.out x4_1 p229 q229
   have hw229_4 := hx229_4
   have hw229_3 := hx229_3
   have hw229_2 := hx229_2
   have hw229_1 := hx229_1
   have hw229_0 := hx229_0
   obtain rfl : ad228 = ad229 := (by injection e229)
   replace hx229_0 := (HB.out.cell (wB w _ hx229_0)).trans hx229_0
   replace hx229_1 := (HB.out.cell (wB w _ hx229_1)).trans hx229_1
   replace hx229_2 := (HB.out.cell (wB w _ hx229_2)).trans hx229_2
   replace hx229_3 := (HB.out.cell (wB w _ hx229_3)).trans hx229_3
   replace hx229_4 := (HB.out.cell (wB w _ hx229_4)).trans hx229_4
   replace p229 := eq_true p229
   replace q229 := eq_true q229
   have p230 : 0 ≤ (x4_1 : Int) := oA
   have q230 : x4_1 < (l0.length : Int) := oA
   obtain ⟨ad230, e230, hx230_0, hx230_1, hx230_2, hx230_3, hx230_4⟩ := at_T44 HR0.out x4_1 p230 q230
   have hw230_4 := hx230_4
   have hw230_3 := hx230_3
   have hw230_2 := hx230_2
   have hw230_1 := hx230_1
   have hw230_0 := hx230_0
   obtain rfl : ad228 = ad230 := (by injection e230)
   replace hx230_0 := (HB.out.cell (wB w _ hx230_0)).trans hx230_0
   replace hx230_1 := (HB.out.cell (wB w _ hx230_1)).trans hx230_1
   replace hx230_2 := (HB.out.cell (wB w _ hx230_2)).trans hx230_2
   replace hx230_3 := (HB.out.cell (wB w _ hx230_3)).trans hx230_3
   replace hx230_4 := (HB.out.cell (wB w _ hx230_4)).trans hx230_4
   replace p230 := eq_true p230
   replace q230 := eq_true q230
   have p231 : 0 ≤ (x4_1 : Int) := oA
   have q231 : x4_1 < (l0.length : Int) := oA
   obtain ⟨ad231, e231, hx231_0, hx231_1, hx231_2, hx231_3, hx231_4⟩ := at_T44 HR0.out x4_1 p231 q231
   have hw231_4 := hx231_4
   have hw231_3 := hx231_3
   have hw231_2 := hx231_2
   have hw231_1 := hx231_1
   have hw231_0 := hx231_0
   obtain rfl : ad228 = ad231 := (by injection e231)
   replace hx231_0 := (HB.out.cell (wB w _ hx231_0)).trans hx231_0
   replace hx231_1 := (HB.out.cell (wB w _ hx231_1)).trans hx231_1
   replace hx231_2 := (HB.out.cell (wB w _ hx231_2)).trans hx231_2
   replace hx231_3 := (HB.out.cell (wB w _ hx231_3)).trans hx231_3
   replace hx231_4 := (HB.out.cell (wB w _ hx231_4)).trans hx231_4
   replace p231 := eq_true p231
   replace q231 := eq_true q231
   refine start_ (n := 25) (S := fun w' => w'.cell? (ad228.add ((x4_1).toNat * 5)) = some (.int .i64 ((rd_T44 l0 x4_1).f0)) ∧ w'.cell? ⟨(ad228.add ((x4_1).toNat * 5)).block, (ad228.add ((x4_1).toNat * 5)).off + 1, none⟩ = some (.string ((rd_T44 l0 x4_1).f1)) ∧ w'.cell? ⟨(ad228.add ((x4_1).toNat * 5)).block, (ad228.add ((x4_1).toNat * 5)).off + 2, none⟩ = some (.int .i64 ((rd_T44 l0 x4_1).f2.f0)) ∧ w'.cell? ⟨(ad228.add ((x4_1).toNat * 5)).block, (ad228.add ((x4_1).toNat * 5)).off + 3, none⟩ = some (.int .u64 ((rd_T44 l0 x4_1).f2.f1)) ∧ w'.cell? ⟨(ad228.add ((x4_1).toNat * 5)).block, (ad228.add ((x4_1).toNat * 5)).off + 4, none⟩ = some (.int .i64 ((rd_T44 l0 x4_1).f3)) ∧ w'.cell? (ad228.add ((x4_1).toNat * 5)) = some (.int .i64 ((rd_T44 l0 x4_1).f0)) ∧ w'.cell? ⟨(ad228.add ((x4_1).toNat * 5)).block, (ad228.add ((x4_1).toNat * 5)).off + 1, none⟩ = some (.string ((rd_T44 l0 x4_1).f1)) ∧ w'.cell? ⟨(ad228.add ((x4_1).toNat * 5)).block, (ad228.add ((x4_1).toNat * 5)).off + 2, none⟩ = some (.int .i64 ((rd_T44 l0 x4_1).f2.f0)) ∧ w'.cell? ⟨(ad228.add ((x4_1).toNat * 5)).block, (ad228.add ((x4_1).toNat * 5)).off + 3, none⟩ = some (.int .u64 ((rd_T44 l0 x4_1).f2.f1)) ∧ w'.cell? ⟨(ad228.add ((x4_1).toNat * 5)).block, (ad228.add ((x4_1).toNat * 5)).off + 4, none⟩ = some (.int .i64 ((rd_T44 l0 x4_1).f3)) ∧ w'.cell? (ad228.add ((x4_1).toNat * 5)) = some (.int .i64 ((rd_T44 l0 x4_1).f0)) ∧ w'.cell? ⟨(ad228.add ((x4_1).toNat * 5)).block, (ad228.add ((x4_1).toNat * 5)).off + 1, none⟩ = some (.string ((rd_T44 l0 x4_1).f1)) ∧ w'.cell? ⟨(ad228.add ((x4_1).toNat * 5)).block, (ad228.add ((x4_1).toNat * 5)).off + 2, none⟩ = some (.int .i64 ((rd_T44 l0 x4_1).f2.f0)) ∧ w'.cell? ⟨(ad228.add ((x4_1).toNat * 5)).block, (ad228.add ((x4_1).toNat * 5)).off + 3, none⟩ = some (.int .u64 ((rd_T44 l0 x4_1).f2.f1)) ∧ w'.cell? ⟨(ad228.add ((x4_1).toNat * 5)).block, (ad228.add ((x4_1).toNat * 5)).off + 4, none⟩ = some (.int .i64 ((rd_T44 l0 x4_1).f3)) ∧ w'.cell? (ad228.add ((x4_1).toNat * 5)) = some (.int .i64 ((rd_T44 l0 x4_1).f0)) ∧ w'.cell? ⟨(ad228.add ((x4_1).toNat * 5)).block, (ad228.add ((x4_1).toNat * 5)).off + 1, none⟩ = some (.string ((rd_T44 l0 x4_1).f1)) ∧ w'.cell? ⟨(ad228.add ((x4_1).toNat * 5)).block, (ad228.add ((x4_1).toNat * 5)).off + 2, none⟩ = some (.int .i64 ((rd_T44 l0 x4_1).f2.f0)) ∧ w'.cell? ⟨(ad228.add ((x4_1).toNat * 5)).block, (ad228.add ((x4_1).toNat * 5)).off + 3, none⟩ = some (.int .u64 ((rd_T44 l0 x4_1).f2.f1)) ∧ w'.cell? ⟨(ad228.add ((x4_1).toNat * 5)).block, (ad228.add ((x4_1).toNat * 5)).off + 4, none⟩ = some (.int .i64 ((rd_T44 l0 x4_1).f3))) (ds := []) #[false, false, false, false, false, false, false, false, false, false, false, false, false, false, false, false, false, false, false, false, false, false, false, false, false] (by kernel_rfl) rfl rfl ⟨((HB.out.cell (wB w _ hw228_0)).trans hw228_0), ((HB.out.cell (wB w _ hw228_1)).trans hw228_1), ((HB.out.cell (wB w _ hw228_2)).trans hw228_2), ((HB.out.cell (wB w _ hw228_3)).trans hw228_3), ((HB.out.cell (wB w _ hw228_4)).trans hw228_4), ((HB.out.cell (wB w _ hw229_0)).trans hw229_0), ((HB.out.cell (wB w _ hw229_1)).trans hw229_1), ((HB.out.cell (wB w _ hw229_2)).trans hw229_2), ((HB.out.cell (wB w _ hw229_3)).trans hw229_3), ((HB.out.cell (wB w _ hw229_4)).trans hw229_4), ((HB.out.cell (wB w _ hw230_0)).trans hw230_0), ((HB.out.cell (wB w _ hw230_1)).trans hw230_1), ((HB.out.cell (wB w _ hw230_2)).trans hw230_2), ((HB.out.cell (wB w _ hw230_3)).trans hw230_3), ((HB.out.cell (wB w _ hw230_4)).trans hw230_4), ((HB.out.cell (wB w _ hw231_0)).trans hw231_0), ((HB.out.cell (wB w _ hw231_1)).trans hw231_1), ((HB.out.cell (wB w _ hw231_2)).trans hw231_2), ((HB.out.cell (wB w _ hw231_3)).trans hw231_3), ((HB.out.cell (wB w _ hw231_4)).trans hw231_4)⟩ (fun hHeld => ?_); refine with_tabW foundrylaw05_Tokens.tab5 foundrylaw05_Tokens.bits5 (fun HT_ HW_ => ?_)
   generalize wr.drew = w5 at HO_3 HB hx228_0 hx228_1 hx228_2 hx228_3 hx228_4 hx229_0 hx229_1 hx229_2 hx229_3 hx229_4 hx230_0 hx230_1 hx230_2 hx230_3 hx230_4 hx231_0 hx231_1 hx231_2 hx231_3 hx231_4 hHeld ⊢
   refine pure_ (i := 0) (N := some 11) (v := ?_) (a' := ?_) #[true, false, false, false, false, false, false, false, false, false, false, false, false, false, false, false, false, false, false, false, false, false, false, false, false] rfl rfl (any_of HT_.out (by kernel_rfl)) (fun _ _ _ h => h) (Or.inl ⟨by rfl, ?_⟩) ?_ ?_
   rotate_left
   ·intro w'
    go_simp
    with_reducible rfl
   rotate_left
   ·simp only [aP]
    rfl
   refine pure_ (i := 1) (N := some 12) (v := ?_) (a' := ?_) #[true, true, false, false, false, false, false, false, false, false, false, false, false, false, false, false, false, false, false, false, false, false, false, false, false] rfl rfl (any_of HT_.out (by kernel_rfl)) (fun _ _ _ h => h) (Or.inl ⟨by rfl, ?_⟩) ?_ ?_
   rotate_left
   ·intro w'
    go_simp
    with_reducible rfl
   rotate_left
   ·simp only [aP]
    rfl
   refine pure_ (i := 2) (N := some 13) (v := ?_) (a' := ?_) #[true, true, true, false, false, false, false, false, false, false, false, false, false, false, false, false, false, false, false, false, false, false, false, false, false] rfl rfl (any_of HT_.out (by kernel_rfl)) (fun _ _ _ h => h) (Or.inl ⟨by rfl, ?_⟩) ?_ ?_
   rotate_left
   ·intro w'
    go_simp
    with_reducible rfl
   rotate_left
   ·simp only [aP]
    rfl
   refine pure_ (i := 3) (N := some 14) (v := ?_) (a' := ?_) #[true, true, true, true, false, false, false, false, false, false, false, false, false, false, false, false, false, false, false, false, false, false, false, false, false] rfl rfl (any_of HT_.out (by kernel_rfl)) (fun _ _ _ h => h) (Or.inl ⟨by rfl, ?_⟩) ?_ ?_
   rotate_left
   ·intro w'
    go_simp
    with_reducible rfl
   rotate_left
   ·simp only [aP]
    rfl
   refine pure_ (i := 4) (N := some 15) (v := ?_) (a' := ?_) #[true, true, true, true, true, false, false, false, false, false, false, false, false, false, false, false, false, false, false, false, false, false, false, false, false] rfl rfl (any_of HT_.out (by kernel_rfl)) (fun _ _ _ h => h) (Or.inl ⟨by rfl, ?_⟩) ?_ ?_
   rotate_left
   ·intro w'
    go_simp
    with_reducible rfl
   rotate_left
   ·simp only [aP]
    rfl
   refine pure_ (i := 6) (N := some 17) (v := ?_) (a' := ?_) #[true, true, true, true, true, false, true, false, false, false, false, false, false, false, false, false, false, false, false, false, false, false, false, false, false] rfl rfl (any_of HT_.out (by kernel_rfl)) (fun _ _ _ h => h) (Or.inl ⟨by rfl, ?_⟩) ?_ ?_
   rotate_left
   ·intro w'
    go_simp
    with_reducible rfl
   rotate_left
   ·simp only [aP]
    rfl
   refine pure_ (i := 7) (N := some 18) (v := ?_) (a' := ?_) #[true, true, true, true, true, false, true, true, false, false, false, false, false, false, false, false, false, false, false, false, false, false, false, false, false] rfl rfl (any_of HT_.out (by kernel_rfl)) (fun _ _ _ h => h) (Or.inl ⟨by rfl, ?_⟩) ?_ ?_
   rotate_left
   ·intro w'
    go_simp
    with_reducible rfl
   rotate_left
   ·simp only [aP]
    rfl
   refine pure_ (i := 8) (N := some 19) (v := ?_) (a' := ?_) #[true, true, true, true, true, false, true, true, true, false, false, false, false, false, false, false, false, false, false, false, false, false, false, false, false] rfl rfl (any_of HT_.out (by kernel_rfl)) (fun _ _ _ h => h) (Or.inl ⟨by rfl, ?_⟩) ?_ ?_
   rotate_left
   ·intro w'
    go_simp
    with_reducible rfl
   rotate_left
   ·simp only [aP]
    rfl
   refine pure_ (i := 9) (N := some 20) (v := ?_) (a' := ?_) #[true, true, true, true, true, false, true, true, true, true, false, false, false, false, false, false, false, false, false, false, false, false, false, false, false] rfl rfl (any_of HT_.out (by kernel_rfl)) (fun _ _ _ h => h) (Or.inl ⟨by rfl, ?_⟩) ?_ ?_
   rotate_left
   ·intro w'
    go_simp
    with_reducible rfl
   rotate_left
   ·simp only [aP]
    rfl
   refine pure_ (i := 11) (N := some 22) (v := ?_) (a' := ?_) #[true, true, true, true, true, false, true, true, true, true, false, true, false, false, false, false, false, false, false, false, false, false, false, false, false] rfl rfl (any_of HT_.out (by kernel_rfl)) (fun _ _ _ h => h) (Or.inl ⟨by rfl, ?_⟩) ?_ ?_
   rotate_left
   ·intro w'
    go_simp
    with_reducible rfl
   rotate_left
   ·simp only [aP]
    rfl
   refine pure_ (i := 12) (N := some 23) (v := ?_) (a' := ?_) #[true, true, true, true, true, false, true, true, true, true, false, true, true, false, false, false, false, false, false, false, false, false, false, false, false] rfl rfl (any_of HT_.out (by kernel_rfl)) (fun _ _ _ h => h) (Or.inl ⟨by rfl, ?_⟩) ?_ ?_
   rotate_left
   ·intro w'
    go_simp
    with_reducible rfl
   rotate_left
   ·simp only [aP]
    rfl
   refine pure_ (i := 13) (N := some 24) (v := ?_) (a' := ?_) #[true, true, true, true, true, false, true, true, true, true, false, true, true, true, false, false, false, false, false, false, false, false, false, false, false] rfl rfl (any_of HT_.out (by kernel_rfl)) (fun _ _ _ h => h) (Or.inl ⟨by rfl, ?_⟩) ?_ ?_
   rotate_left
   ·intro w'
    go_simp
    with_reducible rfl
   rotate_left
   ·simp only [aP]
    rfl
   refine pure_ (i := 14) (N := some 25) (v := ?_) (a' := ?_) #[true, true, true, true, true, false, true, true, true, true, false, true, true, true, true, false, false, false, false, false, false, false, false, false, false] rfl rfl (any_of HT_.out (by kernel_rfl)) (fun _ _ _ h => h) (Or.inl ⟨by rfl, ?_⟩) ?_ ?_
   rotate_left
   ·intro w'
    go_simp
    with_reducible rfl
   rotate_left
   ·simp only [aP]
    rfl
   refine pure_ (i := 16) (N := some 27) (v := ?_) (a' := ?_) #[true, true, true, true, true, false, true, true, true, true, false, true, true, true, true, false, true, false, false, false, false, false, false, false, false] rfl rfl (any_of HT_.out (by kernel_rfl)) (fun _ _ _ h => h) (Or.inl ⟨by rfl, ?_⟩) ?_ ?_
   rotate_left
   ·intro w'
    go_simp
    with_reducible rfl
   rotate_left
   ·simp only [aP]
    rfl
   refine pure_ (i := 17) (N := some 28) (v := ?_) (a' := ?_) #[true, true, true, true, true, false, true, true, true, true, false, true, true, true, true, false, true, true, false, false, false, false, false, false, false] rfl rfl (any_of HT_.out (by kernel_rfl)) (fun _ _ _ h => h) (Or.inl ⟨by rfl, ?_⟩) ?_ ?_
   rotate_left
   ·intro w'
    go_simp
    with_reducible rfl
   rotate_left
   ·simp only [aP]
    rfl
   refine pure_ (i := 18) (N := some 29) (v := ?_) (a' := ?_) #[true, true, true, true, true, false, true, true, true, true, false, true, true, true, true, false, true, true, true, false, false, false, false, false, false] rfl rfl (any_of HT_.out (by kernel_rfl)) (fun _ _ _ h => h) (Or.inl ⟨by rfl, ?_⟩) ?_ ?_
   rotate_left
   ·intro w'
    go_simp
    with_reducible rfl
   rotate_left
   ·simp only [aP]
    rfl
   refine pure_ (i := 19) (N := some 30) (v := ?_) (a' := ?_) #[true, true, true, true, true, false, true, true, true, true, false, true, true, true, true, false, true, true, true, true, false, false, false, false, false] rfl rfl (any_of HT_.out (by kernel_rfl)) (fun _ _ _ h => h) (Or.inl ⟨by rfl, ?_⟩) ?_ ?_
   rotate_left
   ·intro w'
    go_simp
    with_reducible rfl
   rotate_left
   ·simp only [aP]
    rfl
   refine take_ (i := 5) (N := some 16) (v := ?_) (a' := ?_) #[true, true, true, true, true, true, true, true, true, true, false, true, true, true, true, false, true, true, true, true, false, false, false, false, false] rfl rfl (take_ofW HT_.out HW_.out (by kernel_rfl)) (fun _ _ _ h => h) (Or.inl ⟨by rfl, ?_⟩) hHeld ?_ ?_
   rotate_left
   ·rintro w' ⟨s0, s1, s2, s3, s4, s5, s6, s7, s8, s9, s10, s11, s12, s13, s14, s15, s16, s17, s18, s19⟩
    go_simp
    with_reducible rfl
   rotate_left
   ·simp only [aP]
    rfl
   refine take_ (i := 10) (N := some 21) (v := ?_) (a' := ?_) #[true, true, true, true, true, true, true, true, true, true, true, true, true, true, true, false, true, true, true, true, false, false, false, false, false] rfl rfl (take_ofW HT_.out HW_.out (by kernel_rfl)) (fun _ _ _ h => h) (Or.inl ⟨by rfl, ?_⟩) hHeld ?_ ?_
   rotate_left
   ·rintro w' ⟨s0, s1, s2, s3, s4, s5, s6, s7, s8, s9, s10, s11, s12, s13, s14, s15, s16, s17, s18, s19⟩
    go_simp
    with_reducible rfl
   rotate_left
   ·simp only [aP]
    rfl
   refine take_ (i := 15) (N := some 26) (v := ?_) (a' := ?_) #[true, true, true, true, true, true, true, true, true, true, true, true, true, true, true, true, true, true, true, true, false, false, false, false, false] rfl rfl (take_ofW HT_.out HW_.out (by kernel_rfl)) (fun _ _ _ h => h) (Or.inl ⟨by rfl, ?_⟩) hHeld ?_ ?_
   rotate_left
   ·rintro w' ⟨s0, s1, s2, s3, s4, s5, s6, s7, s8, s9, s10, s11, s12, s13, s14, s15, s16, s17, s18, s19⟩
    go_simp
    with_reducible rfl
   rotate_left
   ·simp only [aP]
    rfl
   refine take_ (i := 20) (N := some 31) (v := ?_) (a' := ?_) #[true, true, true, true, true, true, true, true, true, true, true, true, true, true, true, true, true, true, true, true, true, false, false, false, false] rfl rfl (take_ofW HT_.out HW_.out (by kernel_rfl)) (fun _ _ _ h => h) (Or.inl ⟨by rfl, ?_⟩) hHeld ?_ ?_
   rotate_left
   ·rintro w' ⟨s0, s1, s2, s3, s4, s5, s6, s7, s8, s9, s10, s11, s12, s13, s14, s15, s16, s17, s18, s19⟩
    go_simp
    with_reducible rfl
   rotate_left
   ·simp only [aP]
    rfl
   refine pure_ (i := 21) (N := some 32) (v := ?_) (a' := ?_) #[true, true, true, true, true, true, true, true, true, true, true, true, true, true, true, true, true, true, true, true, true, true, false, false, false] rfl rfl (any_of HT_.out (by kernel_rfl)) (fun _ _ _ h => h) (Or.inl ⟨by rfl, ?_⟩) ?_ ?_
   rotate_left
   ·intro w'
    go_simp
    with_reducible rfl
   rotate_left
   ·simp only [aP]
    rfl
   refine one_ (i := 22) (N := some 33) #[true, true, true, true, true, true, true, true, true, true, true, true, true, true, true, true, true, true, true, true, true, true, true, false, false] rfl rfl (one_of HT_.out (by kernel_rfl)) (by decide) (fun K hK => ?_)
   refine value_ (w1 := ?_) (v := ?_) (by rfl) rfl ?_ ?_
   rotate_left 2
   ·go_simp
    constructor
    ·rfl
    ·rfl
   refine hK.out _ _ ⟨(World.cell?_alloc_lt _ _ _ (wB _ _ (((HB.out.cell (wB w _ hw228_0)).trans hw228_0)))).trans (((HB.out.cell (wB w _ hw228_0)).trans hw228_0)), (World.cell?_alloc_lt _ _ _ (wB _ _ (((HB.out.cell (wB w _ hw228_1)).trans hw228_1)))).trans (((HB.out.cell (wB w _ hw228_1)).trans hw228_1)), (World.cell?_alloc_lt _ _ _ (wB _ _ (((HB.out.cell (wB w _ hw228_2)).trans hw228_2)))).trans (((HB.out.cell (wB w _ hw228_2)).trans hw228_2)), (World.cell?_alloc_lt _ _ _ (wB _ _ (((HB.out.cell (wB w _ hw228_3)).trans hw228_3)))).trans (((HB.out.cell (wB w _ hw228_3)).trans hw228_3)), (World.cell?_alloc_lt _ _ _ (wB _ _ (((HB.out.cell (wB w _ hw228_4)).trans hw228_4)))).trans (((HB.out.cell (wB w _ hw228_4)).trans hw228_4)), (World.cell?_alloc_lt _ _ _ (wB _ _ (((HB.out.cell (wB w _ hw229_0)).trans hw229_0)))).trans (((HB.out.cell (wB w _ hw229_0)).trans hw229_0)), (World.cell?_alloc_lt _ _ _ (wB _ _ (((HB.out.cell (wB w _ hw229_1)).trans hw229_1)))).trans (((HB.out.cell (wB w _ hw229_1)).trans hw229_1)), (World.cell?_alloc_lt _ _ _ (wB _ _ (((HB.out.cell (wB w _ hw229_2)).trans hw229_2)))).trans (((HB.out.cell (wB w _ hw229_2)).trans hw229_2)), (World.cell?_alloc_lt _ _ _ (wB _ _ (((HB.out.cell (wB w _ hw229_3)).trans hw229_3)))).trans (((HB.out.cell (wB w _ hw229_3)).trans hw229_3)), (World.cell?_alloc_lt _ _ _ (wB _ _ (((HB.out.cell (wB w _ hw229_4)).trans hw229_4)))).trans (((HB.out.cell (wB w _ hw229_4)).trans hw229_4)), (World.cell?_alloc_lt _ _ _ (wB _ _ (((HB.out.cell (wB w _ hw230_0)).trans hw230_0)))).trans (((HB.out.cell (wB w _ hw230_0)).trans hw230_0)), (World.cell?_alloc_lt _ _ _ (wB _ _ (((HB.out.cell (wB w _ hw230_1)).trans hw230_1)))).trans (((HB.out.cell (wB w _ hw230_1)).trans hw230_1)), (World.cell?_alloc_lt _ _ _ (wB _ _ (((HB.out.cell (wB w _ hw230_2)).trans hw230_2)))).trans (((HB.out.cell (wB w _ hw230_2)).trans hw230_2)), (World.cell?_alloc_lt _ _ _ (wB _ _ (((HB.out.cell (wB w _ hw230_3)).trans hw230_3)))).trans (((HB.out.cell (wB w _ hw230_3)).trans hw230_3)), (World.cell?_alloc_lt _ _ _ (wB _ _ (((HB.out.cell (wB w _ hw230_4)).trans hw230_4)))).trans (((HB.out.cell (wB w _ hw230_4)).trans hw230_4)), (World.cell?_alloc_lt _ _ _ (wB _ _ (((HB.out.cell (wB w _ hw231_0)).trans hw231_0)))).trans (((HB.out.cell (wB w _ hw231_0)).trans hw231_0)), (World.cell?_alloc_lt _ _ _ (wB _ _ (((HB.out.cell (wB w _ hw231_1)).trans hw231_1)))).trans (((HB.out.cell (wB w _ hw231_1)).trans hw231_1)), (World.cell?_alloc_lt _ _ _ (wB _ _ (((HB.out.cell (wB w _ hw231_2)).trans hw231_2)))).trans (((HB.out.cell (wB w _ hw231_2)).trans hw231_2)), (World.cell?_alloc_lt _ _ _ (wB _ _ (((HB.out.cell (wB w _ hw231_3)).trans hw231_3)))).trans (((HB.out.cell (wB w _ hw231_3)).trans hw231_3)), (World.cell?_alloc_lt _ _ _ (wB _ _ (((HB.out.cell (wB w _ hw231_4)).trans hw231_4)))).trans (((HB.out.cell (wB w _ hw231_4)).trans hw231_4))⟩ (fun hHeld => ?_)
   clear hK K
   refine norm_ (a' := ?_) ?_ ?_
   rotate_left
   ·show Act.put _ (some 33) _ = _
    simp only [aP]
    rfl
   refine one_ (i := 23) (N := some 34) #[true, true, true, true, true, true, true, true, true, true, true, true, true, true, true, true, true, true, true, true, true, true, true, true, false] rfl rfl (one_of HT_.out (by kernel_rfl)) (by decide) (fun K hK => ?_)
   refine Kd.R_append_step k43 (w0 := w) w.heap.size (by rfl) (.tmp 11) (.tmp 33) 36 43 (.agg #[(.int .i64 0), (.string ⟨#[]⟩), (.int .i64 0), (.int .u64 0), (.int .i64 0)]) 48 rfl Tryz.underlying36 info43 rfl (by decide) (by omega) u3 x3_1 (⟨(rd_T44 l0 x4_1).f0, (rd_T44 l0 x4_1).f1, (⟨(rd_T44 l0 x4_1).f2.f0, (rd_T44 l0 x4_1).f2.f1⟩ : S41), (rd_T44 l0 x4_1).f3⟩ : S43) [.int .i64 ((rd_T44 l0 x4_1).f0), .string ((rd_T44 l0 x4_1).f1), .int .i64 ((rd_T44 l0 x4_1).f2.f0), .int .u64 ((rd_T44 l0 x4_1).f2.f1), .int .i64 ((rd_T44 l0 x4_1).f3)] (fun _ => True) (fun _ => False) rfl rfl ?aP (fun _ hk => hk.elim) ?aF ?aO ?aB ?aS ?aL ?_
   (case aP => exact k43_mkM _ _ _ (⟨(rd_T44 l0 x4_1).f0, (rd_T44 l0 x4_1).f1, (⟨(rd_T44 l0 x4_1).f2.f0, (rd_T44 l0 x4_1).f2.f1⟩ : S41), (rd_T44 l0 x4_1).f3⟩ : S43))
   (case aB => exact (hB))
   (case aF => exact (fun _ _ => trivial))
   (case aO => exact (rO HO_3))
   (case aS => exact (below_size (hB)))
   (case aL => have := LMc4.out; omega)
   intro v233 w6 ho hb hg hat
   rw [← Ny232.out] at ho
   have n0_ := aM (hb)
   have n1_ := aM (ho)
   clear HB
   clear HO_3
   have HB := n0_
   have HO234 := n1_
   clear n0_ n1_
   clear ho hb hg hat
   refine hK.out _ _ ⟨((HB.out.cell (wB w _ hw228_0)).trans hw228_0), ((HB.out.cell (wB w _ hw228_1)).trans hw228_1), ((HB.out.cell (wB w _ hw228_2)).trans hw228_2), ((HB.out.cell (wB w _ hw228_3)).trans hw228_3), ((HB.out.cell (wB w _ hw228_4)).trans hw228_4), ((HB.out.cell (wB w _ hw229_0)).trans hw229_0), ((HB.out.cell (wB w _ hw229_1)).trans hw229_1), ((HB.out.cell (wB w _ hw229_2)).trans hw229_2), ((HB.out.cell (wB w _ hw229_3)).trans hw229_3), ((HB.out.cell (wB w _ hw229_4)).trans hw229_4), ((HB.out.cell (wB w _ hw230_0)).trans hw230_0), ((HB.out.cell (wB w _ hw230_1)).trans hw230_1), ((HB.out.cell (wB w _ hw230_2)).trans hw230_2), ((HB.out.cell (wB w _ hw230_3)).trans hw230_3), ((HB.out.cell (wB w _ hw230_4)).trans hw230_4), ((HB.out.cell (wB w _ hw231_0)).trans hw231_0), ((HB.out.cell (wB w _ hw231_1)).trans hw231_1), ((HB.out.cell (wB w _ hw231_2)).trans hw231_2), ((HB.out.cell (wB w _ hw231_3)).trans hw231_3), ((HB.out.cell (wB w _ hw231_4)).trans hw231_4)⟩ (fun hHeld => ?_)
   clear hK K
   refine norm_ (a' := ?_) ?_ ?_
   rotate_left
   ·show Act.put _ (some 34) _ = _
    simp only [aP]
    rfl
   refine pure_ (i := 24) (N := some 3) (v := ?_) (a' := ?_) #[true, true, true, true, true, true, true, true, true, true, true, true, true, true, true, true, true, true, true, true, true, true, true, true, true] rfl rfl (any_of HT_.out (by kernel_rfl)) (fun _ _ _ h => h) (Or.inl ⟨by rfl, ?_⟩) ?_ ?_
   rotate_left
   ·intro w'
    go_simp
    with_reducible rfl
   rotate_left
   ·simp only [aP]
    rfl
   refine done_ (done_of HT_.out (by kernel_rfl)) ?_
   try go_wp2
   go_roundg k1
   case measure => exact jC
   case rel => exact ⟨(y232), (wrap64 (x4_1 + 1)), xR, H', ⟨jC⟩, ⟨rO HO234⟩, ⟨hB⟩⟩
namespace foundrylaw05_LexLexes
def l0 : Nat → List (S43) → List (S43) → Int → Option (Bool)
  | 0, _, _, _ => none
  | k + 1, x6, x9, x10 => if x10 < (x9.length : Int) then (if 0 ≤ x10 then (if x10 < (x6.length : Int) then (if (!(((rd_T43 x9 x10).f0) == ((rd_T43 x6 x10).f0)) || (!((((rd_T43 x9 x10).f1).toList) == (((rd_T43 x6 x10).f1).toList)) || ((!(((rd_T43 x9 x10).f2.f0) == ((rd_T43 x6 x10).f2.f0)) || (!(((rd_T43 x9 x10).f2.f1) == ((rd_T43 x6 x10).f2.f1)))) || (!(((rd_T43 x9 x10).f3) == ((rd_T43 x6 x10).f3)))))) = true then (none) else (l0 k x6 x9 (wrap64 (x10 + 1)))) else (none)) else (none)) else (some true)
def f (k : Nat) (a0 : ByteArray) : Option (Bool) := (lex_Lex.f k a0).bind fun bt235 => ((foundryref05_Lex.f k a0).bind fun bt240 => (if bt235.2.1 = bt240.2.1 then (if bt235.2.2 = bt240.2.2 then (if (bt235.1.length : Int) = (bt240.1.length : Int) then ((foundrylaw05_alive.f k).bind fun t245 => (if t245 = true then ((foundrylaw05_Tokens.f k bt235.1).bind fun t246 => (l0 k bt240.1 t246 0)) else (none))) else (none)) else (none)) else (none)))
theorem mono_l : ∀ k, (∀ y0 y1 y2, LeO (l0 k y0 y1 y2) (l0 (k + 1) y0 y1 y2))
  | 0 => fun _ _ _ r h => by simp [l0] at h
  | k + 1 => by
    have ih0 := mono_l k
    · intro y0 y1 y2
      unfold l0
      repeat' first
      | (with_reducible first | apply ih0 | apply foundrylaw05_Tokens.mono | apply foundrylaw05_alive.mono | apply foundryref05_Lex.mono | apply lex_Lex.mono | exact LeO.refl _ | exact LeO.none _ | refine LeO.ite ?_ ?_ | refine LeO.bind ?_ (fun _ => ?_))
      | exact LeO.none _ | refine LeO.ite ?_ ?_ | refine LeO.bind ?_ (fun _ => ?_)
theorem mono : ∀ a0 k, LeO (f k a0) (f (k + 1) a0) := by
  intro a0 k
  have ih0 := mono_l k
  unfold f
  repeat' first
      | (with_reducible first | apply ih0 | apply foundrylaw05_Tokens.mono | apply foundrylaw05_alive.mono | apply foundryref05_Lex.mono | apply lex_Lex.mono | exact LeO.refl _ | exact LeO.none _ | refine LeO.ite ?_ ?_ | refine LeO.bind ?_ (fun _ => ?_))
      | exact LeO.none _ | refine LeO.ite ?_ ?_ | refine LeO.bind ?_ (fun _ => ?_)
set_option maxHeartbeats 8000000 in
set_option maxRecDepth 100000 in
theorem calls (k : Nat) (a0 : ByteArray) (r : Bool) (w : World) (hLaid : LaidOk w) (h : f k a0 = some r) :
    Calls Tryz.prog 5 #[.string a0] w fun e w' => e = .returned (.bool r) ∧ Below w.heap.size w w' := by
 have hu43 := Tryz.underlying43
 have HLAID := aM hLaid
 clear hLaid
 have HB := aM (Below.refl w.heap.size w)
 have H : ((lex_Lex.f k a0).bind fun bt235 => ((foundryref05_Lex.f k a0).bind fun bt240 => (if bt235.2.1 = bt240.2.1 then (if bt235.2.2 = bt240.2.2 then (if (bt235.1.length : Int) = (bt240.1.length : Int) then ((foundrylaw05_alive.f k).bind fun t245 => (if t245 = true then ((foundrylaw05_Tokens.f k bt235.1).bind fun t246 => (l0 k bt240.1 t246 0)) else (none))) else (none)) else (none)) else (none)))) = some r := h
 clear h
 replace H := Option.bind_eq_some_iff.mp H
 obtain ⟨⟨t235, t236, t237⟩, A20, H⟩ := H
 replace H : ((foundryref05_Lex.f k a0).bind fun bt240 => (if t236 = bt240.2.1 then (if t237 = bt240.2.2 then (if (t235.length : Int) = (bt240.1.length : Int) then ((foundrylaw05_alive.f k).bind fun t245 => (if t245 = true then ((foundrylaw05_Tokens.f k t235).bind fun t246 => (l0 k bt240.1 t246 0)) else (none))) else (none)) else (none)) else (none))) = some r := H
 have A2 := aM A20
 clear A20
 replace H := Option.bind_eq_some_iff.mp H
 obtain ⟨⟨t240, t241, t242⟩, A30, H⟩ := H
 replace H : (if t236 = t241 then (if t237 = t242 then (if (t235.length : Int) = (t240.length : Int) then ((foundrylaw05_alive.f k).bind fun t245 => (if t245 = true then ((foundrylaw05_Tokens.f k t235).bind fun t246 => (l0 k t240 t246 0)) else (none))) else (none)) else (none)) else (none)) = some r := H
 have A3 := aM A30
 clear A30
 replace H := nI H
 obtain ⟨c4, H⟩ := H
 have c4b0 := bT c4
 have c4b1 := mF c4
 clear c4
 replace H := nI H
 obtain ⟨c5, H⟩ := H
 have c5b0 := bT c5
 have c5b1 := mF c5
 clear c5
 replace H := nI H
 obtain ⟨c6, H⟩ := H
 have c6b0 := bT c6
 have c6b1 := mF c6
 have c6b2 : (t235.length == t240.length) = true := by first | simpa using c6 | (simp at c6 ⊢; omega)
 clear c6
 replace H := Option.bind_eq_some_iff.mp H
 obtain ⟨t245, A70, H⟩ := H
 replace H : (if t245 = true then ((foundrylaw05_Tokens.f k t235).bind fun t246 => (l0 k t240 t246 0)) else (none)) = some r := H
 have A7 := aM A70
 clear A70
 by_cases c8 : t245 = true
 rotate_left
 ·replace c8 := nF c8
  subst c8
  replace H := iF H
  exact absurd H (by simp)
 subst c8
 replace H := iT H
 replace H := Option.bind_eq_some_iff.mp H
 obtain ⟨t246, A90, H⟩ := H
 replace H : (l0 k t240 t246 0) = some r := H
 have A9 := aM A90
 clear A90
 have H' := aM H
 clear H
 go_enter Tryz.func5, Tryz.ntmps5
 go_wp2_with (first | (go_at_call 21; (with_reducible refine (lex_Lex.calls k a0 t235 t236 t237 _ ?side1 A2.out).mono ?_); (case side1 => exact LaidOk.below (hB) HLAID.out); rintro e w10 ⟨v238, rfl, ho0, hb⟩; have n0_ := aM (Kd.R_lower ho0 (below_size (hB))); have n1_ := aM (below_step (hB) hb); clear HB; have HO239 := n0_; have HB := n1_; clear n0_ n1_) | (go_at_call 22; (with_reducible refine (foundryref05_Lex.calls k a0 t240 t241 t242 _ A3.out).mono ?_); rintro e w11 ⟨v243, rfl, ho0, hb⟩; have n0_ := aM (Kd.R_below (rO HO239) hb); have n1_ := aM (Kd.R_lower ho0 (below_size (hB))); have n2_ := aM (below_step (hB) hb); clear HO239; clear HB; have HO239 := n0_; have HO244 := n1_; have HB := n2_; clear n0_ n1_ n2_; obtain ⟨Ao12, co12, eo12⟩ := Kd.R_slice HO239.out; subst eo12; obtain ⟨Ao13, co13, eo13⟩ := Kd.R_slice HO244.out; subst eo13) | (go_at_call 23; (with_reducible refine (foundrylaw05_alive.calls k  true _ ?side1 A7.out).mono ?_); (case side1 => exact LaidOk.below (hB) HLAID.out); rintro e w14 ⟨rfl, hb⟩; have n0_ := aM (Kd.R_below (rO HO239) hb); have n1_ := aM (Kd.R_below (rO HO244) hb); have n2_ := aM (below_step (hB) hb); clear HO239; clear HO244; clear HB; have HO239 := n0_; have HO244 := n1_; have HB := n2_; clear n0_ n1_ n2_) | (go_at_call 24; (with_reducible refine (foundrylaw05_Tokens.calls k _ _ t235 t246 _ ?side1 ?side2 A9.out).mono ?_); (case side1 => repeat (first | exact (Kd.R_reads' HO239.out).2.2 | (with_reducible refine Kd.C_alloc ?_ _) | (with_reducible refine Kd.C_drewN ?_ _) | (with_reducible refine Kd.C_drew ?_))); (case side2 => exact (Kd.R_reads' HO239.out).2.1); rintro e w15 ⟨v247, rfl, ho0, hb⟩; have n0_ := aM (Kd.R_below (rO HO239) hb); have n1_ := aM (Kd.R_elder' (rO HO244) (Kd.R_base ho0) hb); have n2_ := aM (Kd.R_lower (Kd.R_new' ho0 (Kd.R_lt (rO HO244))) (below_size (hB))); have n3_ := aM (below_step (hB) hb); clear HO239; clear HO244; clear HB; have HO239 := n0_; have HO244 := n1_; have HO248 := n2_; have HB := n3_; clear n0_ n1_ n2_ n3_))
 repeat (go_quiet (first | (go_at_call 21; (with_reducible refine (lex_Lex.calls k a0 t235 t236 t237 _ ?side1 A2.out).mono ?_); (case side1 => exact LaidOk.below (hB) HLAID.out); rintro e w10 ⟨v238, rfl, ho0, hb⟩; have n0_ := aM (Kd.R_lower ho0 (below_size (hB))); have n1_ := aM (below_step (hB) hb); clear HB; have HO239 := n0_; have HB := n1_; clear n0_ n1_) | (go_at_call 22; (with_reducible refine (foundryref05_Lex.calls k a0 t240 t241 t242 _ A3.out).mono ?_); rintro e w11 ⟨v243, rfl, ho0, hb⟩; have n0_ := aM (Kd.R_below (rO HO239) hb); have n1_ := aM (Kd.R_lower ho0 (below_size (hB))); have n2_ := aM (below_step (hB) hb); clear HO239; clear HB; have HO239 := n0_; have HO244 := n1_; have HB := n2_; clear n0_ n1_ n2_; obtain ⟨Ao12, co12, eo12⟩ := Kd.R_slice HO239.out; subst eo12; obtain ⟨Ao13, co13, eo13⟩ := Kd.R_slice HO244.out; subst eo13) | (go_at_call 23; (with_reducible refine (foundrylaw05_alive.calls k  true _ ?side1 A7.out).mono ?_); (case side1 => exact LaidOk.below (hB) HLAID.out); rintro e w14 ⟨rfl, hb⟩; have n0_ := aM (Kd.R_below (rO HO239) hb); have n1_ := aM (Kd.R_below (rO HO244) hb); have n2_ := aM (below_step (hB) hb); clear HO239; clear HO244; clear HB; have HO239 := n0_; have HO244 := n1_; have HB := n2_; clear n0_ n1_ n2_) | (go_at_call 24; (with_reducible refine (foundrylaw05_Tokens.calls k _ _ t235 t246 _ ?side1 ?side2 A9.out).mono ?_); (case side1 => repeat (first | exact (Kd.R_reads' HO239.out).2.2 | (with_reducible refine Kd.C_alloc ?_ _) | (with_reducible refine Kd.C_drewN ?_ _) | (with_reducible refine Kd.C_drew ?_))); (case side2 => exact (Kd.R_reads' HO239.out).2.1); rintro e w15 ⟨v247, rfl, ho0, hb⟩; have n0_ := aM (Kd.R_below (rO HO239) hb); have n1_ := aM (Kd.R_elder' (rO HO244) (Kd.R_base ho0) hb); have n2_ := aM (Kd.R_lower (Kd.R_new' ho0 (Kd.R_lt (rO HO244))) (below_size (hB))); have n3_ := aM (below_step (hB) hb); clear HO239; clear HO244; clear HB; have HO239 := n0_; have HO244 := n1_; have HO248 := n2_; have HB := n3_; clear n0_ n1_ n2_ n3_)); try go_wp2_with (first | (go_at_call 21; (with_reducible refine (lex_Lex.calls k a0 t235 t236 t237 _ ?side1 A2.out).mono ?_); (case side1 => exact LaidOk.below (hB) HLAID.out); rintro e w10 ⟨v238, rfl, ho0, hb⟩; have n0_ := aM (Kd.R_lower ho0 (below_size (hB))); have n1_ := aM (below_step (hB) hb); clear HB; have HO239 := n0_; have HB := n1_; clear n0_ n1_) | (go_at_call 22; (with_reducible refine (foundryref05_Lex.calls k a0 t240 t241 t242 _ A3.out).mono ?_); rintro e w11 ⟨v243, rfl, ho0, hb⟩; have n0_ := aM (Kd.R_below (rO HO239) hb); have n1_ := aM (Kd.R_lower ho0 (below_size (hB))); have n2_ := aM (below_step (hB) hb); clear HO239; clear HB; have HO239 := n0_; have HO244 := n1_; have HB := n2_; clear n0_ n1_ n2_; obtain ⟨Ao12, co12, eo12⟩ := Kd.R_slice HO239.out; subst eo12; obtain ⟨Ao13, co13, eo13⟩ := Kd.R_slice HO244.out; subst eo13) | (go_at_call 23; (with_reducible refine (foundrylaw05_alive.calls k  true _ ?side1 A7.out).mono ?_); (case side1 => exact LaidOk.below (hB) HLAID.out); rintro e w14 ⟨rfl, hb⟩; have n0_ := aM (Kd.R_below (rO HO239) hb); have n1_ := aM (Kd.R_below (rO HO244) hb); have n2_ := aM (below_step (hB) hb); clear HO239; clear HO244; clear HB; have HO239 := n0_; have HO244 := n1_; have HB := n2_; clear n0_ n1_ n2_) | (go_at_call 24; (with_reducible refine (foundrylaw05_Tokens.calls k _ _ t235 t246 _ ?side1 ?side2 A9.out).mono ?_); (case side1 => repeat (first | exact (Kd.R_reads' HO239.out).2.2 | (with_reducible refine Kd.C_alloc ?_ _) | (with_reducible refine Kd.C_drewN ?_ _) | (with_reducible refine Kd.C_drew ?_))); (case side2 => exact (Kd.R_reads' HO239.out).2.1); rintro e w15 ⟨v247, rfl, ho0, hb⟩; have n0_ := aM (Kd.R_below (rO HO239) hb); have n1_ := aM (Kd.R_elder' (rO HO244) (Kd.R_base ho0) hb); have n2_ := aM (Kd.R_lower (Kd.R_new' ho0 (Kd.R_lt (rO HO244))) (below_size (hB))); have n3_ := aM (below_step (hB) hb); clear HO239; clear HO244; clear HB; have HO239 := n0_; have HO244 := n1_; have HO248 := n2_; have HB := n3_; clear n0_ n1_ n2_ n3_)))
 go_loopg [10] k (fun kq v10 w' => ∃ (x10_1 : Int), v10 = .int .i64 x10_1 ∧ Aside0 (l0 kq t240 t246 x10_1 = some r) ∧ Aside0 (kq ≤ k) ∧ Aside0 (Kd.R k43 43 w' w.heap.size (fun k_ => some k_ ≠ (v247 : Value).ownBlock) (.slice Ao13 t240.length co13) t240) ∧ Aside0 (Kd.R k43 43 w' w.heap.size (fun k_ => some k_ ≠ ((.slice Ao13 t240.length co13) : Value).ownBlock) v247 t246) ∧ Aside0 (Below w.heap.size w w'))
 case atStart => exact ⟨(0), xR, H', ⟨Nat.le_refl _⟩, ⟨by (with_reducible repeat (first | apply Kd.R_alloc | apply Kd.R_drewN | apply Kd.R_drew)); exact Kd.R_mono HO244.out (fun _ hk => hk.2)⟩, ⟨by (with_reducible repeat (first | apply Kd.R_alloc | apply Kd.R_drewN | apply Kd.R_drew)); exact Kd.R_mono HO248.out (fun _ hk => hk.2)⟩, ⟨hB⟩⟩
 case round =>
  clear H'
  obtain ⟨x10_1, rfl, HA, HK1, HO_6, HO_9, HB⟩ := hrel
  cases gk with
  | zero => exact absurd HA.out (by simp [l0])
  | succ k1 =>
   have H := HA.out
   clear HA
   simp only [l0] at H
   by_cases c16 : x10_1 < (t246.length : Int)
   rotate_left
   ·rw [if_neg c16] at H
    have c16b0 := dF c16
    clear c16
    obtain rfl := Option.some.inj H
    obtain ⟨Ao21, co21, eo21⟩ := Kd.R_slice HO_9.out
    subst eo21
    go_wp2
    repeat (go_quiet (fail); try go_wp2)
    go_ret
    exact ⟨eR, hB⟩
   rw [if_pos c16] at H
   have c16b0 := dT c16
   clear c16
   replace H := nI H
   obtain ⟨c17, H⟩ := H
   have c17b0 := dT c17
   clear c17
   replace H := nI H
   obtain ⟨c18, H⟩ := H
   have c18b0 := dT c18
   clear c18
   replace H := nJ H
   obtain ⟨c19, H⟩ := H
   have c19b0 : (!(((rd_T43 t246 x10_1).f0) == ((rd_T43 t240 x10_1).f0)) || (!((((rd_T43 t246 x10_1).f1).toList) == (((rd_T43 t240 x10_1).f1).toList)) || ((!(((rd_T43 t246 x10_1).f2.f0) == ((rd_T43 t240 x10_1).f2.f0)) || (!(((rd_T43 t246 x10_1).f2.f1) == ((rd_T43 t240 x10_1).f2.f1)))) || (!(((rd_T43 t246 x10_1).f3) == ((rd_T43 t240 x10_1).f3)))))) = false := by simpa using c19
   clear c19
   have H' := aM H
   clear H
   obtain ⟨Ao20, co20, eo20⟩ := Kd.R_slice HO_9.out
   subst eo20
   have p249 : 0 ≤ (x10_1 : Int) := oA
   have q249 : x10_1 < (t246.length : Int) := oA
   obtain ⟨ad249, e249, hx249_0, hx249_1, hx249_2, hx249_3, hx249_4⟩ := at_T43 (Kd.R_reads' HO_9.out).2.2 x10_1 p249 q249
   cases e249
   replace p249 := eq_true p249
   replace q249 := eq_true q249
   have p250 : 0 ≤ (x10_1 : Int) := oA
   have q250 : x10_1 < (t240.length : Int) := oA
   obtain ⟨ad250, e250, hx250_0, hx250_1, hx250_2, hx250_3, hx250_4⟩ := at_T43 (Kd.R_reads' HO_6.out).2.2 x10_1 p250 q250
   cases e250
   replace p250 := eq_true p250
   replace q250 := eq_true q250
   go_wp2
   repeat (go_quiet (fail); try go_wp2)
   go_roundg k1
   case measure => exact jC
   case rel => exact ⟨(wrap64 (x10_1 + 1)), xR, H', ⟨jC⟩, ⟨rO HO_6⟩, ⟨rO HO_9⟩, ⟨hB⟩⟩
/-- THE ONE PURE STATEMENT of foundrylaw05_LexLexes: yours. -/
def Pure : Prop := ∀ (a0 : ByteArray), a0.size ≤ 140737488351232 → ∃ k, f k a0 = some true
theorem walk (P : Pure) (a0 : ByteArray) (w : World) (hLaid : LaidOk w) (w0 : a0.size ≤ 140737488351232) :
    Calls Tryz.prog 5 #[.string a0] w fun e w' => e = .returned (.bool true) ∧ Below w.heap.size w w' := by
  obtain ⟨k, h⟩ := P a0 w0
  refine (calls k a0 true w hLaid h).mono ?_
  rintro e w' ⟨rfl, hd⟩
  exact ⟨rfl, hd⟩
end foundrylaw05_LexLexes
end Go.Proofs.YthifejhdmjoolaaGreatDoor.QE
