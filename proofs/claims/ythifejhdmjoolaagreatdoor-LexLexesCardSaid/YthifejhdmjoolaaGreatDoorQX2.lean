-- WRITTEN BY A PROGRAM OF THE SESSION (wip/myprint.sh): Lean checks it.
import Derived.Test.YthifejhdmjoolaaGreatDoorProg
import Derived.Below
import Derived.Deep.Draws
import Derived.Deep.AppendLies
import Derived.Maps.AppendAt
import Derived.OwnWalk
import Derived.Laws.BytesArg
import Derived.Laws.MakeOwn
import Derived.Laws.OwnMore
import Derived.Deep.OwnRows
import Derived.Tactics
import Derived.Lib.ConvBytes
import Derived.Laws.Slices
import Derived.WalkKit
import Derived.KernelRfl
import Derived.RowKit3
import Derived.Deep.LoopGhost
import Derived.Deep.QuietTactic
import Derived.BigQuiet
import Derived.WideLaws
import Derived.Deep.DeepCutAuto
import Derived.Deep.CutBlock
import Derived.Deep.RegionHeld3
import Derived.Laws.Rows
import Derived.Lib.AppendStr
import Derived.ArgAppend
import Derived.Laws.IdiomCopy
import Derived.OrdersHeld
import Derived.Laws.BitsLemmas
import Derived.RowKit
import Derived.Test.YthifejhdmjoolaaGreatDoorGivX
import Derived.Test.YthifejhdmjoolaaGreatDoorWWords
namespace Go.Proofs.YthifejhdmjoolaaGreatDoor.QX
open Go.Proofs.YthifejhdmjoolaaGreatDoorG
attribute [local go_sem] ext143 Instr.field asAgg
open Go.RowKit Go.Proofs.YthifejhdmjoolaaGreatDoorW.PrintWords Go.Proofs.YthifejhdmjoolaaGreatDoorW.PrintLast Go.Proofs.YthifejhdmjoolaaGreatDoorW.PrintMore
attribute [local go_sem] max2_int min2_int max_two min_two max_three min_three max_four min_four   -- for this text's walks alone
set_option linter.unusedVariables false
set_option linter.unusedSimpArgs false
def errW : Option Int → Value
  | none => .nilIface
  | some c => .iface 104 (.int .i64 c)
theorem errW_none : errW none = .nilIface := rfl
theorem errW_some (c : Int) : errW (some c) = .iface 104 (.int .i64 c) := rfl
-- the values' own types
end Go.Proofs.YthifejhdmjoolaaGreatDoor.QX
namespace Go.Proofs.YthifejhdmjoolaaGreatDoor.QX
open Go.Proofs.YthifejhdmjoolaaGreatDoorG
attribute [local go_sem] ext143 Instr.field asAgg
open Go.RowKit Go.Proofs.YthifejhdmjoolaaGreatDoorW.PrintWords Go.Proofs.YthifejhdmjoolaaGreatDoorW.PrintLast Go.Proofs.YthifejhdmjoolaaGreatDoorW.PrintMore
attribute [local go_sem] max2_int min2_int max_two min_two max_three min_three max_four min_four   -- for this text's walks alone
set_option linter.unusedVariables false
set_option linter.unusedSimpArgs false
-- NOT PRINTED: function 137 (strconv_float32frombits)
-- NOT PRINTED: function 143 (strconv_float64frombits)
end Go.Proofs.YthifejhdmjoolaaGreatDoor.QX
namespace Go.Proofs.YthifejhdmjoolaaGreatDoor.QX
open Go.Proofs.YthifejhdmjoolaaGreatDoorG
attribute [local go_sem] ext143 Instr.field asAgg
open Go.RowKit Go.Proofs.YthifejhdmjoolaaGreatDoorW.PrintWords Go.Proofs.YthifejhdmjoolaaGreatDoorW.PrintLast Go.Proofs.YthifejhdmjoolaaGreatDoorW.PrintMore
attribute [local go_sem] max2_int min2_int max_two min_two max_three min_three max_four min_four   -- for this text's walks alone
set_option linter.unusedVariables false
set_option linter.unusedSimpArgs false
namespace strconv_atofHex
mutual
def j1 : Nat → Int → Int → Bool → Bool → Option (Nat × Option Int)
  | 0, _, _, _, _ => none
  | k + 1, x2, x3, x4, x5 => if x5 = true then (j2 k (Go.bits .or .u64 x2 1) x3 x4) else (j2 k x2 x3 x4)
def j2 : Nat → Int → Int → Bool → Option (Nat × Option Int)
  | 0, _, _, _ => none
  | k + 1, x2, x3, x4 => l1 k x2 x3 x4
def l1 : Nat → Int → Int → Bool → Option (Nat × Option Int)
  | 0, _, _, _ => none
  | k + 1, x2, x3, x4 => if (x2 / 36028797018963968) = 0 then (l2 k x2 x3 x4) else (l1 k (Go.bits .or .u64 (x2 / 2) (Go.bits .and .u64 x2 1)) (wrap64 (x3 + 1)) x4)
def j5 : Nat → Int → Int → Bool → Option (Nat × Option Int)
  | 0, _, _, _ => none
  | k + 1, x2, x3, x4 => if (Go.bits .or .u64 (Go.bits .and .u64 x2 3) (Go.bits .and .u64 (x2 / 4) 1)) = 3 then (if (IntKind.u64.wrap ((x2 / 4) + 1)) = 9007199254740992 then (j6 k ((IntKind.u64.wrap ((x2 / 4) + 1)) / 2) (wrap64 ((wrap64 (x3 + 2)) + 1)) x4) else (j6 k (IntKind.u64.wrap ((x2 / 4) + 1)) (wrap64 (x3 + 2)) x4)) else (j6 k (x2 / 4) (wrap64 (x3 + 2)) x4)
def j6 : Nat → Int → Int → Bool → Option (Nat × Option Int)
  | 0, _, _, _ => none
  | k + 1, x2, x3, x4 => if (x2 / 4503599627370496) = 0 then (j7 k x2 (-1023) x4) else (j7 k x2 x3 x4)
def j7 : Nat → Int → Int → Bool → Option (Nat × Option Int)
  | 0, _, _, _ => none
  | k + 1, x2, x3, x4 => if x3 > 1023 then (j8 k 4503599627370496 1024 x4 (some 1)) else (j8 k x2 x3 x4 none)
def j8 : Nat → Int → Int → Bool → Option Int → Option (Nat × Option Int)
  | 0, _, _, _, _ => none
  | k + 1, x2, x3, x4, x17 => if x4 = true then (j9 k x17 (Go.bits .or .u64 (Go.bits .or .u64 (Go.bits .and .u64 x2 4503599627370495) (IntKind.u64.wrap ((IntKind.u64.wrap (Go.bits .and .i64 (wrap64 (x3 - (-1023))) 2047)) * 4503599627370496))) 9223372036854775808)) else (j9 k x17 (Go.bits .or .u64 (Go.bits .and .u64 x2 4503599627370495) (IntKind.u64.wrap ((IntKind.u64.wrap (Go.bits .and .i64 (wrap64 (x3 - (-1023))) 2047)) * 4503599627370496))))
def j9 : Nat → Option Int → Int → Option (Nat × Option Int)
  | 0, _, _ => none
  | k + 1, x17, x18 => some ((x18).toNat, x17)
def l2 : Nat → Int → Int → Bool → Option (Nat × Option Int)
  | 0, _, _, _ => none
  | k + 1, x2, x3, x4 => if x2 > 1 then (if x3 < (-1024) then (l2 k (Go.bits .or .u64 (x2 / 2) (Go.bits .and .u64 x2 1)) (wrap64 (x3 + 1)) x4) else (j5 k x2 x3 x4)) else (j5 k x2 x3 x4)
def l0 : Nat → Int → Int → Bool → Bool → Option (Nat × Option Int)
  | 0, _, _, _, _ => none
  | k + 1, x2, x3, x4, x5 => if x2 = 0 then (j1 k x2 x3 x4 x5) else (if (x2 / 18014398509481984) = 0 then (l0 k (IntKind.u64.wrap (x2 * 2)) (wrap64 (x3 - 1)) x4 x5) else (j1 k x2 x3 x4 x5))
end
def f (k : Nat) (a0 : ByteArray)  (a2 : Int) (a3 : Int) (a4 : Bool) (a5 : Bool) : Option (Nat × Option Int) := l0 k a2 (wrap64 (a3 + 52)) a4 a5
theorem mono_l : ∀ k, (∀ y0 y1 y2 y3, LeO (j1 k y0 y1 y2 y3) (j1 (k + 1) y0 y1 y2 y3)) ∧ (∀ y0 y1 y2, LeO (j2 k y0 y1 y2) (j2 (k + 1) y0 y1 y2)) ∧ (∀ y0 y1 y2, LeO (l1 k y0 y1 y2) (l1 (k + 1) y0 y1 y2)) ∧ (∀ y0 y1 y2, LeO (j5 k y0 y1 y2) (j5 (k + 1) y0 y1 y2)) ∧ (∀ y0 y1 y2, LeO (j6 k y0 y1 y2) (j6 (k + 1) y0 y1 y2)) ∧ (∀ y0 y1 y2, LeO (j7 k y0 y1 y2) (j7 (k + 1) y0 y1 y2)) ∧ (∀ y0 y1 y2 y3, LeO (j8 k y0 y1 y2 y3) (j8 (k + 1) y0 y1 y2 y3)) ∧ (∀ y0 y1, LeO (j9 k y0 y1) (j9 (k + 1) y0 y1)) ∧ (∀ y0 y1 y2, LeO (l2 k y0 y1 y2) (l2 (k + 1) y0 y1 y2)) ∧ (∀ y0 y1 y2 y3, LeO (l0 k y0 y1 y2 y3) (l0 (k + 1) y0 y1 y2 y3))
  | 0 => by refine ⟨?_, ?_, ?_, ?_, ?_, ?_, ?_, ?_, ?_, ?_⟩ <;> (intros; exact LeO.none _)
  | k + 1 => by
    obtain ⟨ih0, ih1, ih2, ih3, ih4, ih5, ih6, ih7, ih8, ih9⟩ := mono_l k
    refine ⟨?_, ?_, ?_, ?_, ?_, ?_, ?_, ?_, ?_, ?_⟩ <;> intros <;> first | unfold j1 | unfold j2 | unfold l1 | unfold j5 | unfold j6 | unfold j7 | unfold j8 | unfold j9 | unfold l2 | unfold l0
    all_goals repeat' first
    | (with_reducible first | apply ih0 | apply ih1 | apply ih2 | apply ih3 | apply ih4 | apply ih5 | apply ih6 | apply ih7 | apply ih8 | apply ih9 | exact LeO.refl _ | exact LeO.none _ | refine LeO.ite ?_ ?_ | refine LeO.bind ?_ (fun _ => ?_))
    | exact LeO.none _ | refine LeO.ite ?_ ?_ | refine LeO.bind ?_ (fun _ => ?_)
theorem mono : ∀ a0 a1 a2 a3 a4 k, LeO (f k a0 a1 a2 a3 a4) (f (k + 1) a0 a1 a2 a3 a4) := by
  intro a0 a1 a2 a3 a4 k
  obtain ⟨ih0, ih1, ih2, ih3, ih4, ih5, ih6, ih7, ih8, ih9⟩ := mono_l k
  unfold f
  repeat' first
      | (with_reducible first | apply ih0 | apply ih1 | apply ih2 | apply ih3 | apply ih4 | apply ih5 | apply ih6 | apply ih7 | apply ih8 | apply ih9 | exact LeO.refl _ | exact LeO.none _ | refine LeO.ite ?_ ?_ | refine LeO.bind ?_ (fun _ => ?_))
      | exact LeO.none _ | refine LeO.ite ?_ ?_ | refine LeO.bind ?_ (fun _ => ?_)
set_option maxHeartbeats 8000000 in
set_option maxRecDepth 100000 in
theorem calls (k : Nat) (a0 : ByteArray)  (a2 : Int) (a3 : Int) (a4 : Bool) (a5 : Bool) (r1 : Nat) (r2 : Option Int) (w : World) (hg6_0 : w.cell? ⟨6, 0, none⟩ = some (.int .u64 52)) (hg6_1 : w.cell? ⟨6, 1, none⟩ = some (.int .u64 11)) (hg6_2 : w.cell? ⟨6, 2, none⟩ = some (.int .i64 (-1023))) (hpe : ∀ (n : Nat), (binOp .eql 152 (.pointer (some ⟨6, 0, none⟩)) (.pointer (some ⟨5, 0, none⟩))).run Tryz.prog (w.drewN n) = .ok (.bool false) (w.drewN n)) (h : f k a0 a2 a3 a4 a5 = some (r1, r2)) :
  Calls Tryz.prog 135 #[.string a0, .pointer (some ⟨6, 0, none⟩), .int .u64 a2, .int .i64 a3, .bool a4, .bool a5] w fun e w' => e = .returned (.tuple #[.float .f64 r1, errW r2]) ∧ Drawn0 w w' := by
 have hu56 := Tryz.underlying56
 have hu104 := Tryz.underlying104
 have H : (l0 k a2 (wrap64 (a3 + 52)) a4 a5) = some (r1, r2) := h
 clear h
 have HC7 := aM H
 clear H
 go_enter Tryz.func135, Tryz.ntmps135
 go_upto_block 0 with (fail)
 repeat (go_quiet (fail); go_upto_block 0 with (fail))
 go_cut [2, 3] (fun v2 v3 wc => ∃ (kq : Nat) (x2_6 : Int) (x3_6 : Int), v2 = .int .u64 x2_6 ∧ v3 = .int .i64 x3_6 ∧ Aside0 (j1 kq x2_6 x3_6 a4 a5 = some (r1, r2)) ∧ Aside0 (kq ≤ k) ∧ Drawn0 w wc)
 case first =>
  have H := HC7.out
  clear HC7
  have H' := aM H
  clear H
  go_wp2
  repeat (go_quiet (fail); try go_wp2)
  go_loopg [2, 3] k (fun kq v2 v3 w' => ∃ (x2_1 : Int) (x3_1 : Int), v2 = .int .u64 x2_1 ∧ v3 = .int .i64 x3_1 ∧ Aside0 (l0 kq x2_1 x3_1 a4 a5 = some (r1, r2)) ∧ Aside0 (kq ≤ k) ∧ Drawn0 w w')
  case atStart => exact ⟨a2, (wrap64 (a3 + 52)), xR, xR, H', ⟨Nat.le_refl _⟩, dR⟩
  case round =>
   clear H'
   obtain ⟨x2_1, x3_1, rfl, rfl, HA, HK1, ⟨m1, rfl⟩⟩ := hrel
   cases gk with
   | zero => exact absurd HA.out (by simp [l0])
   | succ k1 =>
    have H := HA.out
    clear HA
    simp only [l0] at H
    by_cases c8 : x2_1 = 0
    ·rw [if_pos c8] at H
     have c8b0 := bT c8
     have c8b1 := mF c8
     clear c8
     (first | rw [c8b0] | (simp only [i64_w, i32_w]; rw [c8b0]) | skip)
     have H' := aM H
     clear H
     go_wp2
     repeat (go_quiet (fail); try go_wp2)
     go_meet
     case rel => exact ⟨_, x2_1, x3_1, xR, xR, H', ⟨jC⟩, dR⟩
    rw [if_neg c8] at H
    have c8b0 := bF c8
    have c8b1 := mT c8
    (first | rw [c8b0] | (simp only [i64_w, i32_w]; rw [c8b0]) | skip)
    by_cases c9 : (x2_1 / 18014398509481984) = 0
    rotate_left
    ·rw [if_neg c9] at H
     have c9b0 := bF c9
     have c9b1 := mT c9
     have H' := aM H
     clear H
     go_wp2
     repeat (go_quiet (fail); try go_wp2)
     go_meet
     case rel => exact ⟨_, x2_1, x3_1, xR, xR, H', ⟨jC⟩, dR⟩
    rw [if_pos c9] at H
    have c9b0 := bT c9
    have c9b1 := mF c9
    clear c9
    have H' := aM H
    clear H
    go_wp2
    repeat (go_quiet (fail); try go_wp2)
    go_roundg k1
    case measure => exact jC
    case rel => exact ⟨(IntKind.u64.wrap (x2_1 * 2)), (wrap64 (x3_1 - 1)), xR, xR, H', ⟨jC⟩, dR⟩
 case rest =>
  clear HC7
  obtain ⟨kq, x2_6, x3_6, rfl, rfl, HA, HJ6, ⟨mc6, rfl⟩⟩ := hcut
  cases kq with
  | zero => exact absurd HA.out (by simp [j1])
  | succ kj6 =>
   have H := HA.out
   clear HA
   simp only [j1] at H
   have HC10 := aM H
   clear H
   go_upto_if 58 with (fail)
   repeat (go_quiet (fail); go_upto_if 58 with (fail))
   go_cut [2] (fun v2 wc => ∃ (kq : Nat) (x2_9 : Int), v2 = .int .u64 x2_9 ∧ Aside0 (j2 kq x2_9 x3_6 a4 = some (r1, r2)) ∧ Aside0 (kq ≤ kj6) ∧ Drawn0 w wc)
   case first =>
    have H := HC10.out
    clear HC10
    by_cases c11 : a5 = true
    ·subst c11
     replace H := iT H
     have H' := aM H
     clear H
     go_wp2
     repeat (go_quiet (fail); try go_wp2)
     go_meet
     case rel => exact ⟨_, (Go.bits .or .u64 x2_6 1), xR, H', ⟨jC⟩, dR⟩
    replace c11 := nF c11
    subst c11
    replace H := iF H
    have H' := aM H
    clear H
    go_wp2
    repeat (go_quiet (fail); try go_wp2)
    go_meet
    case rel => exact ⟨_, x2_6, xR, H', ⟨jC⟩, dR⟩
   case rest =>
    clear HC10
    obtain ⟨kq, x2_9, rfl, HA, HJ9, ⟨mc9, rfl⟩⟩ := hcut
    cases kq with
    | zero => exact absurd HA.out (by simp [j2])
    | succ kj9 =>
     have H := HA.out
     clear HA
     simp only [j2] at H
     have H' := aM H
     clear H
     go_wp2
     repeat (go_quiet (fail); try go_wp2)
     go_loopg [2, 3] kj9 (fun kq v2 v3 w' => ∃ (x2_3 : Int) (x3_3 : Int), v2 = .int .u64 x2_3 ∧ v3 = .int .i64 x3_3 ∧ Aside0 (l1 kq x2_3 x3_3 a4 = some (r1, r2)) ∧ Aside0 (kq ≤ kj9) ∧ Drawn0 w w')
     case atStart => exact ⟨x2_9, x3_6, xR, xR, H', ⟨Nat.le_refl _⟩, dR⟩
     case round =>
      clear H'
      obtain ⟨x2_3, x3_3, rfl, rfl, HA, HK3, ⟨m3, rfl⟩⟩ := hrel
      cases gk with
      | zero => exact absurd HA.out (by simp [l1])
      | succ k3 =>
       have H := HA.out
       clear HA
       simp only [l1] at H
       by_cases c12 : (x2_3 / 36028797018963968) = 0
       rotate_left
       ·rw [if_neg c12] at H
        have c12b0 := bF c12
        have c12b1 := mT c12
        have H' := aM H
        clear H
        go_wp2
        repeat (go_quiet (fail); try go_wp2)
        go_roundg k3
        case measure => exact jC
        case rel => exact ⟨(Go.bits .or .u64 (x2_3 / 2) (Go.bits .and .u64 x2_3 1)), (wrap64 (x3_3 + 1)), xR, xR, H', ⟨jC⟩, dR⟩
       rw [if_pos c12] at H
       have c12b0 := bT c12
       have c12b1 := mF c12
       clear c12
       have HC13 := aM H
       clear H
       go_upto_block 4 with (fail)
       repeat (go_quiet (fail); go_upto_block 4 with (fail))
       go_cut [2, 3] (fun v2 v3 wc => ∃ (kq : Nat) (x2_12 : Int) (x3_12 : Int), v2 = .int .u64 x2_12 ∧ v3 = .int .i64 x3_12 ∧ Aside0 (j5 kq x2_12 x3_12 a4 = some (r1, r2)) ∧ Aside0 (kq ≤ k3) ∧ Drawn0 w wc)
       case first =>
        have H := HC13.out
        clear HC13
        have H' := aM H
        clear H
        go_wp2
        repeat (go_quiet (fail); try go_wp2)
        go_loopg [2, 3] k3 (fun kq v2 v3 w' => ∃ (x2_4 : Int) (x3_4 : Int), v2 = .int .u64 x2_4 ∧ v3 = .int .i64 x3_4 ∧ Aside0 (l2 kq x2_4 x3_4 a4 = some (r1, r2)) ∧ Aside0 (kq ≤ k3) ∧ Drawn0 w w')
        case atStart => exact ⟨x2_3, x3_3, xR, xR, H', ⟨Nat.le_refl _⟩, dR⟩
        case round =>
         clear H'
         obtain ⟨x2_4, x3_4, rfl, rfl, HA, HK4, ⟨m4, rfl⟩⟩ := hrel
         cases gk with
         | zero => exact absurd HA.out (by simp [l2])
         | succ k4 =>
          have H := HA.out
          clear HA
          simp only [l2] at H
          by_cases c14 : x2_4 > 1
          rotate_left
          ·rw [if_neg c14] at H
           have c14b0 : decide (1 < x2_4) = false := decide_eq_false c14
           clear c14
           (first | rw [c14b0] | (simp only [i64_w, i32_w]; rw [c14b0]) | skip)
           have H' := aM H
           clear H
           go_wp2
           repeat (go_quiet (fail); try go_wp2)
           go_meet
           case rel => exact ⟨_, x2_4, x3_4, xR, xR, H', ⟨jC⟩, dR⟩
          rw [if_pos c14] at H
          have c14b0 : decide (1 < x2_4) = true := decide_eq_true c14
          clear c14
          (first | rw [c14b0] | (simp only [i64_w, i32_w]; rw [c14b0]) | skip)
          by_cases c15 : x3_4 < (-1024)
          rotate_left
          ·rw [if_neg c15] at H
           have c15b0 := dF c15
           clear c15
           have H' := aM H
           clear H
           go_wp2
           repeat (go_quiet (fail); try go_wp2)
           go_meet
           case rel => exact ⟨_, x2_4, x3_4, xR, xR, H', ⟨jC⟩, dR⟩
          rw [if_pos c15] at H
          have c15b0 := dT c15
          clear c15
          have H' := aM H
          clear H
          go_wp2
          repeat (go_quiet (fail); try go_wp2)
          go_roundg k4
          case measure => exact jC
          case rel => exact ⟨(Go.bits .or .u64 (x2_4 / 2) (Go.bits .and .u64 x2_4 1)), (wrap64 (x3_4 + 1)), xR, xR, H', ⟨jC⟩, dR⟩
       case rest =>
        clear HC13
        obtain ⟨kq, x2_12, x3_12, rfl, rfl, HA, HJ12, ⟨mc12, rfl⟩⟩ := hcut
        cases kq with
        | zero => exact absurd HA.out (by simp [j5])
        | succ kj12 =>
         have H := HA.out
         clear HA
         simp only [j5] at H
         have HC16 := aM H
         clear H
         go_upto_if 103 with (fail)
         repeat (go_quiet (fail); go_upto_if 103 with (fail))
         go_cut [2, 3] (fun v2 v3 wc => ∃ (kq : Nat) (x2_15 : Int) (x3_15 : Int), v2 = .int .u64 x2_15 ∧ v3 = .int .i64 x3_15 ∧ Aside0 (j6 kq x2_15 x3_15 a4 = some (r1, r2)) ∧ Aside0 (kq ≤ kj12) ∧ Drawn0 w wc)
         case first =>
          have H := HC16.out
          clear HC16
          by_cases c17 : (Go.bits .or .u64 (Go.bits .and .u64 x2_12 3) (Go.bits .and .u64 (x2_12 / 4) 1)) = 3
          rotate_left
          ·rw [if_neg c17] at H
           have c17b0 := bF c17
           have c17b1 := mT c17
           (first | rw [c17b0] | (simp only [i64_w, i32_w]; rw [c17b0]) | skip)
           have H' := aM H
           clear H
           go_wp2
           repeat (go_quiet (fail); try go_wp2)
           go_meet
           case rel => exact ⟨_, (x2_12 / 4), (wrap64 (x3_12 + 2)), xR, xR, H', ⟨jC⟩, dR⟩
          rw [if_pos c17] at H
          have c17b0 := bT c17
          have c17b1 := mF c17
          clear c17
          (first | rw [c17b0] | (simp only [i64_w, i32_w]; rw [c17b0]) | skip)
          by_cases c18 : (IntKind.u64.wrap ((x2_12 / 4) + 1)) = 9007199254740992
          rotate_left
          ·rw [if_neg c18] at H
           have c18b0 := bF c18
           have c18b1 := mT c18
           have H' := aM H
           clear H
           go_wp2
           repeat (go_quiet (fail); try go_wp2)
           go_meet
           case rel => exact ⟨_, (IntKind.u64.wrap ((x2_12 / 4) + 1)), (wrap64 (x3_12 + 2)), xR, xR, H', ⟨jC⟩, dR⟩
          rw [if_pos c18] at H
          have c18b0 := bT c18
          have c18b1 := mF c18
          clear c18
          have H' := aM H
          clear H
          go_wp2
          repeat (go_quiet (fail); try go_wp2)
          go_meet
          case rel => exact ⟨_, ((IntKind.u64.wrap ((x2_12 / 4) + 1)) / 2), (wrap64 ((wrap64 (x3_12 + 2)) + 1)), xR, xR, H', ⟨jC⟩, dR⟩
         case rest =>
          clear HC16
          obtain ⟨kq, x2_15, x3_15, rfl, rfl, HA, HJ15, ⟨mc15, rfl⟩⟩ := hcut
          cases kq with
          | zero => exact absurd HA.out (by simp [j6])
          | succ kj15 =>
           have H := HA.out
           clear HA
           simp only [j6] at H
           have HC19 := aM H
           clear H
           go_upto_if 124 with (fail)
           repeat (go_quiet (fail); go_upto_if 124 with (fail))
           go_cut [3] (fun v3 wc => ∃ (kq : Nat) (x3_18 : Int), v3 = .int .i64 x3_18 ∧ Aside0 (j7 kq x2_15 x3_18 a4 = some (r1, r2)) ∧ Aside0 (kq ≤ kj15) ∧ Drawn0 w wc)
           case first =>
            have H := HC19.out
            clear HC19
            by_cases c20 : (x2_15 / 4503599627370496) = 0
            rotate_left
            ·rw [if_neg c20] at H
             have c20b0 := bF c20
             have c20b1 := mT c20
             (first | rw [c20b0] | (simp only [i64_w, i32_w]; rw [c20b0]) | skip)
             have H' := aM H
             clear H
             go_wp2
             repeat (go_quiet (fail); try go_wp2)
             go_meet
             case rel => exact ⟨_, x3_15, xR, H', ⟨jC⟩, dR⟩
            rw [if_pos c20] at H
            have c20b0 := bT c20
            have c20b1 := mF c20
            clear c20
            (first | rw [c20b0] | (simp only [i64_w, i32_w]; rw [c20b0]) | skip)
            have H' := aM H
            clear H
            go_wp2
            repeat (go_quiet (fail); try go_wp2)
            go_meet
            case rel => exact ⟨_, ((-1023)), xR, H', ⟨jC⟩, dR⟩
           case rest =>
            clear HC19
            obtain ⟨kq, x3_18, rfl, HA, HJ18, ⟨mc18, rfl⟩⟩ := hcut
            cases kq with
            | zero => exact absurd HA.out (by simp [j7])
            | succ kj18 =>
             have H := HA.out
             clear HA
             simp only [j7] at H
             have HC21 := aM H
             clear H
             go_upto_if 131 with (fail)
             repeat (go_quiet (fail); go_upto_if 131 with (fail))
             go_cut [2, 3, 17] (fun v2 v3 v17 wc => ∃ (kq : Nat) (x2_20 : Int) (x3_20 : Int) (x17_20 : Option Int), v2 = .int .u64 x2_20 ∧ v3 = .int .i64 x3_20 ∧ v17 = errW x17_20 ∧ Aside0 (j8 kq x2_20 x3_20 a4 x17_20 = some (r1, r2)) ∧ Aside0 (kq ≤ kj18) ∧ Drawn0 w wc)
             case first =>
              have H := HC21.out
              clear HC21
              by_cases c22 : x3_18 > 1023
              rotate_left
              ·rw [if_neg c22] at H
               have c22b0 : decide (1023 < x3_18) = false := decide_eq_false c22
               clear c22
               (first | rw [c22b0] | (simp only [i64_w, i32_w]; rw [c22b0]) | skip)
               have H' := aM H
               clear H
               go_wp2
               repeat (go_quiet (fail); try go_wp2)
               go_meet
               case rel => exact ⟨_, x2_15, x3_18, (none), xR, xR, xR, H', ⟨jC⟩, dR⟩
              rw [if_pos c22] at H
              have c22b0 : decide (1023 < x3_18) = true := decide_eq_true c22
              clear c22
              (first | rw [c22b0] | (simp only [i64_w, i32_w]; rw [c22b0]) | skip)
              have H' := aM H
              clear H
              go_wp2
              repeat (go_quiet (fail); try go_wp2)
              go_meet
              case rel => exact ⟨_, (4503599627370496), (1024), (some 1), xR, xR, xR, H', ⟨jC⟩, dR⟩
             case rest =>
              clear HC21
              obtain ⟨kq, x2_20, x3_20, x17_20, rfl, rfl, rfl, HA, HJ20, ⟨mc20, rfl⟩⟩ := hcut
              cases kq with
              | zero => exact absurd HA.out (by simp [j8])
              | succ kj20 =>
               have H := HA.out
               clear HA
               simp only [j8] at H
               have HC23 := aM H
               clear H
               go_upto_if 169 with (fail)
               repeat (go_quiet (fail); go_upto_if 169 with (fail))
               go_cut [18] (fun v18 wc => ∃ (kq : Nat) (x18_22 : Int), v18 = .int .u64 x18_22 ∧ Aside0 (j9 kq x17_20 x18_22 = some (r1, r2)) ∧ Aside0 (kq ≤ kj20) ∧ Drawn0 w wc)
               case first =>
                have H := HC23.out
                clear HC23
                by_cases c24 : a4 = true
                ·subst c24
                 replace H := iT H
                 have H' := aM H
                 clear H
                 go_wp2
                 repeat (go_quiet (fail); try go_wp2)
                 go_meet
                 case rel => exact ⟨_, (Go.bits .or .u64 (Go.bits .or .u64 (Go.bits .and .u64 x2_20 4503599627370495) (IntKind.u64.wrap ((IntKind.u64.wrap (Go.bits .and .i64 (wrap64 (x3_20 - (-1023))) 2047)) * 4503599627370496))) 9223372036854775808), xR, H', ⟨jC⟩, dR⟩
                replace c24 := nF c24
                subst c24
                replace H := iF H
                have H' := aM H
                clear H
                go_wp2
                repeat (go_quiet (fail); try go_wp2)
                go_meet
                case rel => exact ⟨_, (Go.bits .or .u64 (Go.bits .and .u64 x2_20 4503599627370495) (IntKind.u64.wrap ((IntKind.u64.wrap (Go.bits .and .i64 (wrap64 (x3_20 - (-1023))) 2047)) * 4503599627370496))), xR, H', ⟨jC⟩, dR⟩
               case rest =>
                clear HC23
                obtain ⟨kq, x18_22, rfl, HA, HJ22, ⟨mc22, rfl⟩⟩ := hcut
                cases kq with
                | zero => exact absurd HA.out (by simp [j9])
                | succ kj22 =>
                 have H := HA.out
                 clear HA
                 simp only [j9] at H
                 simp only [Option.some.injEq, Prod.mk.injEq] at H
                 obtain ⟨rfl, rfl⟩ := H
                 go_wp2
                 repeat (go_quiet (fail); try go_wp2)
                 go_ret2
                 exact ⟨xR, dR⟩
end strconv_atofHex
end Go.Proofs.YthifejhdmjoolaaGreatDoor.QX
