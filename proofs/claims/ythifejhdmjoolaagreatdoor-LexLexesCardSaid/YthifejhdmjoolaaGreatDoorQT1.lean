-- WRITTEN BY A PROGRAM OF THE SESSION (wip/myprint.sh): Lean checks it.
import Derived.Test.YthifejhdmjoolaaGreatDoorProg
import Derived.Below
import Derived.Deep.Draws
import Derived.Deep.AppendLies
import Derived.Maps.AppendAt
import Derived.OwnWalk
import Derived.Laws.BytesArg
import Derived.Laws.MakeOwn
import Derived.Laws.OwnMore
import Derived.Deep.OwnRows
import Derived.Tactics
import Derived.Lib.ConvBytes
import Derived.Laws.Slices
import Derived.WalkKit
import Derived.KernelRfl
import Derived.RowKit3
import Derived.Deep.LoopGhost
import Derived.Deep.QuietTactic
import Derived.BigQuiet
import Derived.WideLaws
import Derived.Deep.DeepCutAuto
import Derived.Deep.CutBlock
import Derived.Deep.RegionHeld3
import Derived.Laws.Rows
import Derived.Lib.AppendStr
import Derived.ArgAppend
import Derived.Laws.IdiomCopy
import Derived.OrdersHeld
import Derived.Laws.BitsLemmas
import Derived.RowKit
import Derived.Test.YthifejhdmjoolaaGreatDoorGivB
import Derived.Test.YthifejhdmjoolaaGreatDoorGivF
import Derived.Test.YthifejhdmjoolaaGreatDoorWWords
namespace Go.Proofs.YthifejhdmjoolaaGreatDoor.QT
open Go.Proofs.YthifejhdmjoolaaGreatDoorG
attribute [local go_sem] Instr.field asAgg
open Go.RowKit Go.Proofs.YthifejhdmjoolaaGreatDoorW.PrintWords Go.Proofs.YthifejhdmjoolaaGreatDoorW.PrintLast Go.Proofs.YthifejhdmjoolaaGreatDoorW.PrintMore
attribute [local go_sem] max2_int min2_int max_two min_two max_three min_three max_four min_four   -- for this text's walks alone
set_option linter.unusedVariables false
set_option linter.unusedSimpArgs false
def errW : Option Int → Value
  | none => .nilIface
  | some c => .iface 0 (.int .i64 c)
theorem errW_none : errW none = .nilIface := rfl
theorem errW_some (c : Int) : errW (some c) = .iface 0 (.int .i64 c) := rfl
-- the values' own types
end Go.Proofs.YthifejhdmjoolaaGreatDoor.QT
namespace Go.Proofs.YthifejhdmjoolaaGreatDoor.QT
open Go.Proofs.YthifejhdmjoolaaGreatDoorG
attribute [local go_sem] Instr.field asAgg
open Go.RowKit Go.Proofs.YthifejhdmjoolaaGreatDoorW.PrintWords Go.Proofs.YthifejhdmjoolaaGreatDoorW.PrintLast Go.Proofs.YthifejhdmjoolaaGreatDoorW.PrintMore
attribute [local go_sem] max2_int min2_int max_two min_two max_three min_three max_four min_four   -- for this text's walks alone
set_option linter.unusedVariables false
set_option linter.unusedSimpArgs false
namespace floats_Canon
def f (a0 : Int) : Option (Int) := if (Go.bits .andNot .u64 a0 9223372036854775808) > 9218868437227405312 then (some 9221120237041090561) else (some a0)
set_option maxHeartbeats 8000000 in
set_option maxRecDepth 100000 in
theorem calls (a0 : Int) (r : Int) (w : World) (h : f a0 = some r) :
  Calls Tryz.prog 13 #[.int .u64 a0] w fun e w' => e = .returned (.int .u64 r) ∧ Drawn0 w w' := by
 have H : (if (Go.bits .andNot .u64 a0 9223372036854775808) > 9218868437227405312 then (some 9221120237041090561) else (some a0)) = some r := h
 clear h
 by_cases c2 : (Go.bits .andNot .u64 a0 9223372036854775808) > 9218868437227405312
 ·rw [if_pos c2] at H
  have c2b0 : decide (9218868437227405312 < (Go.bits .andNot .u64 a0 9223372036854775808)) = true := decide_eq_true c2
  clear c2
  obtain rfl := Option.some.inj H
  go_enter Tryz.func13, Tryz.ntmps13
  go_wp2
  go_ret
  exact ⟨xR, dR⟩
 rw [if_neg c2] at H
 have c2b0 : decide (9218868437227405312 < (Go.bits .andNot .u64 a0 9223372036854775808)) = false := decide_eq_false c2
 clear c2
 obtain rfl := Option.some.inj H
 go_enter Tryz.func13, Tryz.ntmps13
 go_wp2
 go_ret
 exact ⟨xR, dR⟩
end floats_Canon
namespace floats_Text
def l0 : Nat → ByteArray → Int → Option (ByteArray)
  | 0, _, _ => none
  | k + 1, x3, x4 => if (wrap64 (x4 + 1)) < (x3.size : Int) then (if 0 ≤ x4 then (if x4 < (x3.size : Int) then (if (bt x3 x4) = 48 then (if x4 ≤ (x3.size : Int) then (if 0 ≤ (wrap64 (x4 + 1)) then (if (wrap64 (x4 + 1)) ≤ (x3.size : Int) then (if (x3.extract 0 (x4 : Int).toNat).size + (x3.extract ((wrap64 (x4 + 1)) : Int).toNat x3.size).size ≤ 9223372036854775807 then (l0 k ((x3.extract 0 (x4 : Int).toNat) ++ (x3.extract ((wrap64 (x4 + 1)) : Int).toNat x3.size)) x4) else (none)) else (none)) else (none)) else (none)) else (some x3)) else (none)) else (none)) else (some x3)
def f (k : Nat) (a0 : Int) : Option (ByteArray) := (floats_Canon.f a0).bind fun t101 => (if t101 = 9221120237041090561 then (some (⟨#[110, 97, 110]⟩ : ByteArray)) else (if t101 = 9218868437227405312 then (some (⟨#[105, 110, 102]⟩ : ByteArray)) else (if t101 = 18442240474082181120 then (some (⟨#[45, 105, 110, 102]⟩ : ByteArray)) else ((floats_to.f t101).bind fun t102 => ((strconv_FormatFloat.f k t102 120 (-1) 64).bind fun t103 => ((strings_IndexByte.f t103 112).bind fun t104 => (l0 k t103 (wrap64 (t104 + 2)))))))))
theorem mono_l : ∀ k, (∀ y0 y1, LeO (l0 k y0 y1) (l0 (k + 1) y0 y1))
  | 0 => fun _ _ r h => by simp [l0] at h
  | k + 1 => by
    have ih0 := mono_l k
    · intro y0 y1
      unfold l0
      repeat' first
      | (with_reducible first | apply ih0 | apply strconv_FormatFloat.mono | exact LeO.refl _ | exact LeO.none _ | refine LeO.ite ?_ ?_ | refine LeO.bind ?_ (fun _ => ?_))
      | exact LeO.none _ | refine LeO.ite ?_ ?_ | refine LeO.bind ?_ (fun _ => ?_)
theorem mono : ∀ a0 k, LeO (f k a0) (f (k + 1) a0) := by
  intro a0 k
  have ih0 := mono_l k
  unfold f
  repeat' first
      | (with_reducible first | apply ih0 | apply strconv_FormatFloat.mono | exact LeO.refl _ | exact LeO.none _ | refine LeO.ite ?_ ?_ | refine LeO.bind ?_ (fun _ => ?_))
      | exact LeO.none _ | refine LeO.ite ?_ ?_ | refine LeO.bind ?_ (fun _ => ?_)
set_option maxHeartbeats 8000000 in
set_option maxRecDepth 100000 in
theorem calls (k : Nat) (a0 : Int) (r : ByteArray) (w : World) (h : f k a0 = some r) :
  Calls Tryz.prog 12 #[.int .u64 a0] w fun e w' => e = .returned (.string r) ∧ Below w.heap.size w w' := by
 have HB := aM (Below.refl w.heap.size w)
 have H : ((floats_Canon.f a0).bind fun t101 => (if t101 = 9221120237041090561 then (some (⟨#[110, 97, 110]⟩ : ByteArray)) else (if t101 = 9218868437227405312 then (some (⟨#[105, 110, 102]⟩ : ByteArray)) else (if t101 = 18442240474082181120 then (some (⟨#[45, 105, 110, 102]⟩ : ByteArray)) else ((floats_to.f t101).bind fun t102 => ((strconv_FormatFloat.f k t102 120 (-1) 64).bind fun t103 => ((strings_IndexByte.f t103 112).bind fun t104 => (l0 k t103 (wrap64 (t104 + 2)))))))))) = some r := h
 clear h
 replace H := Option.bind_eq_some_iff.mp H
 obtain ⟨t101, A20, H⟩ := H
 replace H : (if t101 = 9221120237041090561 then (some (⟨#[110, 97, 110]⟩ : ByteArray)) else (if t101 = 9218868437227405312 then (some (⟨#[105, 110, 102]⟩ : ByteArray)) else (if t101 = 18442240474082181120 then (some (⟨#[45, 105, 110, 102]⟩ : ByteArray)) else ((floats_to.f t101).bind fun t102 => ((strconv_FormatFloat.f k t102 120 (-1) 64).bind fun t103 => ((strings_IndexByte.f t103 112).bind fun t104 => (l0 k t103 (wrap64 (t104 + 2))))))))) = some r := H
 have A2 := aM A20
 clear A20
 by_cases c3 : t101 = 9221120237041090561
 ·rw [if_pos c3] at H
  have c3b0 := bT c3
  have c3b1 := mF c3
  clear c3
  obtain rfl := Option.some.inj H
  go_enter Tryz.func12, Tryz.ntmps12
  go_wp2_with (first | (go_at_call 13; (with_reducible refine (floats_Canon.calls a0 t101 _ A2.out).mono ?_); rintro e w' ⟨rfl, ⟨nd, rfl⟩⟩; (try first | exact ⟨rfl, _, World.drewN_drewN _ _ _⟩ | exact ⟨rfl, _, Eq.trans (World.drewN_drewN _ _ _) (congrArg (World.drewN _) (Nat.add_assoc _ _ _))⟩)))
  repeat (go_quiet (first | (go_at_call 13; (with_reducible refine (floats_Canon.calls a0 t101 _ A2.out).mono ?_); rintro e w' ⟨rfl, ⟨nd, rfl⟩⟩; (try first | exact ⟨rfl, _, World.drewN_drewN _ _ _⟩ | exact ⟨rfl, _, Eq.trans (World.drewN_drewN _ _ _) (congrArg (World.drewN _) (Nat.add_assoc _ _ _))⟩))); try go_wp2_with (first | (go_at_call 13; (with_reducible refine (floats_Canon.calls a0 t101 _ A2.out).mono ?_); rintro e w' ⟨rfl, ⟨nd, rfl⟩⟩; (try first | exact ⟨rfl, _, World.drewN_drewN _ _ _⟩ | exact ⟨rfl, _, Eq.trans (World.drewN_drewN _ _ _) (congrArg (World.drewN _) (Nat.add_assoc _ _ _))⟩))))
  go_ret
  exact ⟨eR, hB⟩
 rw [if_neg c3] at H
 have c3b0 := bF c3
 have c3b1 := mT c3
 by_cases c4 : t101 = 9218868437227405312
 ·rw [if_pos c4] at H
  have c4b0 := bT c4
  have c4b1 := mF c4
  clear c4
  obtain rfl := Option.some.inj H
  go_enter Tryz.func12, Tryz.ntmps12
  go_wp2_with (first | (go_at_call 13; (with_reducible refine (floats_Canon.calls a0 t101 _ A2.out).mono ?_); rintro e w' ⟨rfl, ⟨nd, rfl⟩⟩; (try first | exact ⟨rfl, _, World.drewN_drewN _ _ _⟩ | exact ⟨rfl, _, Eq.trans (World.drewN_drewN _ _ _) (congrArg (World.drewN _) (Nat.add_assoc _ _ _))⟩)))
  repeat (go_quiet (first | (go_at_call 13; (with_reducible refine (floats_Canon.calls a0 t101 _ A2.out).mono ?_); rintro e w' ⟨rfl, ⟨nd, rfl⟩⟩; (try first | exact ⟨rfl, _, World.drewN_drewN _ _ _⟩ | exact ⟨rfl, _, Eq.trans (World.drewN_drewN _ _ _) (congrArg (World.drewN _) (Nat.add_assoc _ _ _))⟩))); try go_wp2_with (first | (go_at_call 13; (with_reducible refine (floats_Canon.calls a0 t101 _ A2.out).mono ?_); rintro e w' ⟨rfl, ⟨nd, rfl⟩⟩; (try first | exact ⟨rfl, _, World.drewN_drewN _ _ _⟩ | exact ⟨rfl, _, Eq.trans (World.drewN_drewN _ _ _) (congrArg (World.drewN _) (Nat.add_assoc _ _ _))⟩))))
  go_ret
  exact ⟨eR, hB⟩
 rw [if_neg c4] at H
 have c4b0 := bF c4
 have c4b1 := mT c4
 by_cases c5 : t101 = 18442240474082181120
 ·rw [if_pos c5] at H
  have c5b0 := bT c5
  have c5b1 := mF c5
  clear c5
  obtain rfl := Option.some.inj H
  go_enter Tryz.func12, Tryz.ntmps12
  go_wp2_with (first | (go_at_call 13; (with_reducible refine (floats_Canon.calls a0 t101 _ A2.out).mono ?_); rintro e w' ⟨rfl, ⟨nd, rfl⟩⟩; (try first | exact ⟨rfl, _, World.drewN_drewN _ _ _⟩ | exact ⟨rfl, _, Eq.trans (World.drewN_drewN _ _ _) (congrArg (World.drewN _) (Nat.add_assoc _ _ _))⟩)))
  repeat (go_quiet (first | (go_at_call 13; (with_reducible refine (floats_Canon.calls a0 t101 _ A2.out).mono ?_); rintro e w' ⟨rfl, ⟨nd, rfl⟩⟩; (try first | exact ⟨rfl, _, World.drewN_drewN _ _ _⟩ | exact ⟨rfl, _, Eq.trans (World.drewN_drewN _ _ _) (congrArg (World.drewN _) (Nat.add_assoc _ _ _))⟩))); try go_wp2_with (first | (go_at_call 13; (with_reducible refine (floats_Canon.calls a0 t101 _ A2.out).mono ?_); rintro e w' ⟨rfl, ⟨nd, rfl⟩⟩; (try first | exact ⟨rfl, _, World.drewN_drewN _ _ _⟩ | exact ⟨rfl, _, Eq.trans (World.drewN_drewN _ _ _) (congrArg (World.drewN _) (Nat.add_assoc _ _ _))⟩))))
  go_ret
  exact ⟨eR, hB⟩
 rw [if_neg c5] at H
 have c5b0 := bF c5
 have c5b1 := mT c5
 replace H := Option.bind_eq_some_iff.mp H
 obtain ⟨t102, A60, H⟩ := H
 replace H : ((strconv_FormatFloat.f k t102 120 (-1) 64).bind fun t103 => ((strings_IndexByte.f t103 112).bind fun t104 => (l0 k t103 (wrap64 (t104 + 2))))) = some r := H
 have A6 := aM A60
 clear A60
 replace H := Option.bind_eq_some_iff.mp H
 obtain ⟨t103, A70, H⟩ := H
 replace H : ((strings_IndexByte.f t103 112).bind fun t104 => (l0 k t103 (wrap64 (t104 + 2)))) = some r := H
 have A7 := aM A70
 clear A70
 replace H := Option.bind_eq_some_iff.mp H
 obtain ⟨t104, A80, H⟩ := H
 replace H : (l0 k t103 (wrap64 (t104 + 2))) = some r := H
 have A8 := aM A80
 clear A80
 have H' := aM H
 clear H
 go_enter Tryz.func12, Tryz.ntmps12
 go_wp2_with (first | (go_at_call 13; (with_reducible refine (floats_Canon.calls a0 t101 _ A2.out).mono ?_); rintro e w' ⟨rfl, ⟨nd, rfl⟩⟩; (try first | exact ⟨rfl, _, World.drewN_drewN _ _ _⟩ | exact ⟨rfl, _, Eq.trans (World.drewN_drewN _ _ _) (congrArg (World.drewN _) (Nat.add_assoc _ _ _))⟩)) | (go_at_call 36; (with_reducible refine (floats_to.calls t101 t102 _ A6.out).mono ?_); rintro e w9 ⟨rfl, hb⟩; have n0_ := aM (below_step (hB) hb); clear HB; have HB := n0_; clear n0_) | (go_at_call 35; (with_reducible refine (strconv_FormatFloat.calls k t102 120 (-1) 64 t103 _ A7.out).mono ?_); rintro e w10 ⟨rfl, hb⟩; have n0_ := aM (below_step (hB) hb); clear HB; have HB := n0_; clear n0_) | (go_at_call 37; (with_reducible refine (strings_IndexByte.calls t103 112 t104 _ A8.out).mono ?_); rintro e w11 ⟨rfl, hb⟩; have n0_ := aM (below_step (hB) hb); clear HB; have HB := n0_; clear n0_))
 repeat (go_quiet (first | (go_at_call 13; (with_reducible refine (floats_Canon.calls a0 t101 _ A2.out).mono ?_); rintro e w' ⟨rfl, ⟨nd, rfl⟩⟩; (try first | exact ⟨rfl, _, World.drewN_drewN _ _ _⟩ | exact ⟨rfl, _, Eq.trans (World.drewN_drewN _ _ _) (congrArg (World.drewN _) (Nat.add_assoc _ _ _))⟩)) | (go_at_call 36; (with_reducible refine (floats_to.calls t101 t102 _ A6.out).mono ?_); rintro e w9 ⟨rfl, hb⟩; have n0_ := aM (below_step (hB) hb); clear HB; have HB := n0_; clear n0_) | (go_at_call 35; (with_reducible refine (strconv_FormatFloat.calls k t102 120 (-1) 64 t103 _ A7.out).mono ?_); rintro e w10 ⟨rfl, hb⟩; have n0_ := aM (below_step (hB) hb); clear HB; have HB := n0_; clear n0_) | (go_at_call 37; (with_reducible refine (strings_IndexByte.calls t103 112 t104 _ A8.out).mono ?_); rintro e w11 ⟨rfl, hb⟩; have n0_ := aM (below_step (hB) hb); clear HB; have HB := n0_; clear n0_)); try go_wp2_with (first | (go_at_call 13; (with_reducible refine (floats_Canon.calls a0 t101 _ A2.out).mono ?_); rintro e w' ⟨rfl, ⟨nd, rfl⟩⟩; (try first | exact ⟨rfl, _, World.drewN_drewN _ _ _⟩ | exact ⟨rfl, _, Eq.trans (World.drewN_drewN _ _ _) (congrArg (World.drewN _) (Nat.add_assoc _ _ _))⟩)) | (go_at_call 36; (with_reducible refine (floats_to.calls t101 t102 _ A6.out).mono ?_); rintro e w9 ⟨rfl, hb⟩; have n0_ := aM (below_step (hB) hb); clear HB; have HB := n0_; clear n0_) | (go_at_call 35; (with_reducible refine (strconv_FormatFloat.calls k t102 120 (-1) 64 t103 _ A7.out).mono ?_); rintro e w10 ⟨rfl, hb⟩; have n0_ := aM (below_step (hB) hb); clear HB; have HB := n0_; clear n0_) | (go_at_call 37; (with_reducible refine (strings_IndexByte.calls t103 112 t104 _ A8.out).mono ?_); rintro e w11 ⟨rfl, hb⟩; have n0_ := aM (below_step (hB) hb); clear HB; have HB := n0_; clear n0_)))
 obtain ⟨x4_1, hx4_1⟩ : ∃ q_ : Int, wrap64 (t104 + 2) = q_ := ⟨_, rfl⟩
 rw [hx4_1] at H'
 simp only [hx4_1]
 go_loopg [3] k (fun kq v3 w' => ∃ (x3_1 : ByteArray), v3 = .string x3_1 ∧ Aside0 (l0 kq x3_1 x4_1 = some r) ∧ Aside0 (kq ≤ k) ∧ Aside0 (Below w.heap.size w w'))
 case atStart => exact ⟨t103, xR, H', ⟨Nat.le_refl _⟩, ⟨hB⟩⟩
 case round =>
  clear H'
  obtain ⟨x3_1, rfl, HA, HK1, HB⟩ := hrel
  cases gk with
  | zero => exact absurd HA.out (by simp [l0])
  | succ k1 =>
   have H := HA.out
   clear HA
   simp only [l0] at H
   by_cases c12 : (wrap64 (x4_1 + 1)) < (x3_1.size : Int)
   rotate_left
   ·rw [if_neg c12] at H
    have c12b0 := dF c12
    clear c12
    obtain rfl := Option.some.inj H
    go_wp2
    repeat (go_quiet (fail); try go_wp2)
    go_ret
    exact ⟨eR, hB⟩
   rw [if_pos c12] at H
   have c12b0 := dT c12
   clear c12
   replace H := nI H
   obtain ⟨c13, H⟩ := H
   have c13b0 := dT c13
   clear c13
   replace H := nI H
   obtain ⟨c14, H⟩ := H
   have c14b0 := dT c14
   clear c14
   by_cases c16 : (bt x3_1 x4_1) = 48
   rotate_left
   ·rw [if_neg c16] at H
    have c16b0 := bF c16
    have c16b1 := mT c16
    obtain rfl := Option.some.inj H
    have p15 : (0 ≤ x4_1) = True := eT
    have q15 : (x4_1 < (x3_1.size : Int)) = True := eT
    have hx15 := bt_at x3_1 x4_1
    go_wp2
    repeat (go_quiet (fail); try go_wp2)
    go_ret
    exact ⟨eR, hB⟩
   rw [if_pos c16] at H
   have c16b0 := bT c16
   have c16b1 := mF c16
   clear c16
   have c17b0 := eq_true (oA : 0 ≤ x4_1)
   replace H := nI H
   obtain ⟨c18, H⟩ := H
   have c18b0 := eq_true c18
   have c18b1 := dT c18
   clear c18
   obtain ⟨ji19, hji19⟩ : ∃ j_ : Int, (wrap64 (x4_1 + 1)) = j_ := ⟨_, rfl⟩
   replace H : (if 0 ≤ (ji19) then (if (ji19) ≤ (x3_1.size : Int) then (if (x3_1.extract 0 (x4_1 : Int).toNat).size + (x3_1.extract ((ji19) : Int).toNat x3_1.size).size ≤ 9223372036854775807 then (l0 k1 ((x3_1.extract 0 (x4_1 : Int).toNat) ++ (x3_1.extract ((ji19) : Int).toNat x3_1.size)) x4_1) else (none)) else (none)) else (none)) = some r := by first | (rw [hji19] at H; exact H) | (simp only [hji19] at H ⊢; exact H)
   (try rw [hji19] at c12b0)
   have hji19w : (IntKind.i64.wrap (x4_1 + 1)) = ji19 := (i64_w _).trans hji19
   replace H := nI H
   obtain ⟨c20, H⟩ := H
   have c20b0 := eq_true c20
   have c20b1 := dT c20
   clear c20
   replace H := nI H
   obtain ⟨c21, H⟩ := H
   have c21b0 := eq_true c21
   have c21b1 := dT c21
   clear c21
   replace H := nI H
   obtain ⟨c22, H⟩ := H
   have c22b0 := eq_true c22
   have c22b1 := dT c22
   try have c22b2 : (9223372036854775807 < (x3_1.extract 0 (x4_1 : Int).toNat).size + (x3_1.extract ((ji19) : Int).toNat x3_1.size).size) = False := eq_false (Nat.not_lt.2 c22)
   have H' := aM H
   clear H
   have p15 : (0 ≤ x4_1) = True := eT
   have q15 : (x4_1 < (x3_1.size : Int)) = True := eT
   have hx15 := bt_at x3_1 x4_1
   go_wp2
   repeat (go_quiet (fail); try go_wp2)
   go_roundg k1
   case measure => exact jC
   case rel => exact ⟨((x3_1.extract 0 (x4_1 : Int).toNat) ++ (x3_1.extract ((ji19) : Int).toNat x3_1.size)), (by first | rfl | (simp; done) | (simp only [← hji19] <;> (first | rfl | simp)) | (simp [*]; done)), H', ⟨jC⟩, ⟨hB⟩⟩
end floats_Text
end Go.Proofs.YthifejhdmjoolaaGreatDoor.QT
