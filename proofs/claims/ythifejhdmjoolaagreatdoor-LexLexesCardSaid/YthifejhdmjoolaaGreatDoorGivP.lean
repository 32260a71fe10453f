-- WRITTEN BY A PROGRAM OF THE SESSION (wip/myprint.sh): Lean checks it.
import Derived.Test.YthifejhdmjoolaaGreatDoorProg
import Derived.Below
import Derived.Deep.Draws
import Derived.Deep.AppendLies
import Derived.Maps.AppendAt
import Derived.OwnWalk
import Derived.Laws.BytesArg
import Derived.Laws.MakeOwn
import Derived.Laws.OwnMore
import Derived.Deep.OwnRows
import Derived.Tactics
import Derived.Lib.ConvBytes
import Derived.Laws.Slices
import Derived.WalkKit
import Derived.KernelRfl
import Derived.RowKit3
import Derived.Deep.LoopGhost
import Derived.Deep.QuietTactic
import Derived.BigQuiet
import Derived.WideLaws
import Derived.Deep.DeepCutAuto
import Derived.Deep.CutBlock
import Derived.Deep.RegionHeld3
import Derived.Laws.Rows
import Derived.Lib.AppendStr
import Derived.ArgAppend
import Derived.Laws.IdiomCopy
import Derived.OrdersHeld
import Derived.Laws.BitsLemmas
import Derived.RowKit
import Derived.Test.YthifejhdmjoolaaGreatDoorGivR
import Derived.Test.YthifejhdmjoolaaGreatDoorGivX
import Derived.Test.YthifejhdmjoolaaGreatDoorWWords
import Derived.Test.YthifejhdmjoolaaGreatDoorShelf
import Derived.Test.YthifejhdmjoolaaGreatDoorQT1
namespace Go.Proofs.YthifejhdmjoolaaGreatDoor.QP
open Go.Proofs.YthifejhdmjoolaaGreatDoor.QX (errW errW_none errW_some)
open Go.Proofs.YthifejhdmjoolaaGreatDoorG
attribute [local go_sem] ext143 Instr.field asAgg
open Go.RowKit Go.Proofs.YthifejhdmjoolaaGreatDoorW.PrintWords Go.Proofs.YthifejhdmjoolaaGreatDoorW.PrintLast Go.Proofs.YthifejhdmjoolaaGreatDoorW.PrintMore
attribute [local go_sem] max2_int min2_int max_two min_two max_three min_three max_four min_four   -- for this text's walks alone
set_option linter.unusedVariables false
set_option linter.unusedSimpArgs false
-- the values' own types
end Go.Proofs.YthifejhdmjoolaaGreatDoor.QP
namespace Go.Proofs.YthifejhdmjoolaaGreatDoor.QP
open Go.Proofs.YthifejhdmjoolaaGreatDoor.QX (errW errW_none errW_some)
open Go.Proofs.YthifejhdmjoolaaGreatDoorG
attribute [local go_sem] ext143 Instr.field asAgg
open Go.RowKit Go.Proofs.YthifejhdmjoolaaGreatDoorW.PrintWords Go.Proofs.YthifejhdmjoolaaGreatDoorW.PrintLast Go.Proofs.YthifejhdmjoolaaGreatDoorW.PrintMore
attribute [local go_sem] max2_int min2_int max_two min_two max_three min_three max_four min_four   -- for this text's walks alone
set_option linter.unusedVariables false
set_option linter.unusedSimpArgs false
/-! ### strconv_atof64: function 108 -/
def strconv_atof64.f (k : Nat) (a0 : ByteArray) : Option (Nat × Int × Option Int) := (strconv_special.f k a0).bind fun bt101 => (if bt101.2.2 = true then (some (bt101.1, bt101.2.1, none)) else ((strconv_readFloat.f k a0).bind fun bt104 => (if bt104.2.2.2.2.2.2 = true then (if bt104.2.2.2.2.1 = true then (if 0 ≤ bt104.2.2.2.2.2.1 then (if bt104.2.2.2.2.2.1 ≤ (a0.size : Int) then ((strconv_atofHex.f k (a0.extract 0 (bt104.2.2.2.2.2.1 : Int).toNat) bt104.1 bt104.2.1 bt104.2.2.1 bt104.2.2.2.1).bind fun bt111 => (some (bt111.1, bt104.2.2.2.2.2.1, bt111.2))) else (none)) else (none)) else (none)) else (some (0, bt104.2.2.2.2.2.1, some 2)))))
theorem strconv_atof64.mono : ∀ a0 k, LeO (strconv_atof64.f k a0) (strconv_atof64.f (k + 1) a0) := by
  intro a0 k
  unfold strconv_atof64.f
  repeat' first
      | (with_reducible apply strconv_atofHex.mono)
      | (with_reducible apply strconv_readFloat.mono)
      | (with_reducible apply strconv_special.mono)
      | (with_reducible exact LeO.refl _)
      | (with_reducible exact LeO.none _)
      | (with_reducible refine LeO.ite ?_ ?_)
      | (with_reducible refine LeO.bind ?_ (fun _ => ?_))
      | exact LeO.none _
      | refine LeO.ite ?_ ?_
      | refine LeO.bind ?_ (fun _ => ?_)
set_option maxHeartbeats 8000000 in
set_option maxRecDepth 100000 in
theorem strconv_atof64.calls (k : Nat) (a0 : ByteArray) (r1 : Nat) (r2 : Int) (r3 : Option Int) (w : World) (hLaid : LaidOk w) (h : strconv_atof64.f k a0 = some (r1, r2, r3)) :
  Calls Tryz.prog 108 #[.string a0] w fun e w' => e = .returned (.tuple #[.float .f64 r1, .int .i64 r2, errW r3]) ∧ Below w.heap.size w w' := by
 have hu56 := Tryz.underlying56
 have hu104 := Tryz.underlying104
 have HLAID := aM hLaid
 clear hLaid
 have HB := aM (Below.refl w.heap.size w)
 have H : ((strconv_special.f k a0).bind fun bt101 => (if bt101.2.2 = true then (some (bt101.1, bt101.2.1, none)) else ((strconv_readFloat.f k a0).bind fun bt104 => (if bt104.2.2.2.2.2.2 = true then (if bt104.2.2.2.2.1 = true then (if 0 ≤ bt104.2.2.2.2.2.1 then (if bt104.2.2.2.2.2.1 ≤ (a0.size : Int) then ((strconv_atofHex.f k (a0.extract 0 (bt104.2.2.2.2.2.1 : Int).toNat) bt104.1 bt104.2.1 bt104.2.2.1 bt104.2.2.2.1).bind fun bt111 => (some (bt111.1, bt104.2.2.2.2.2.1, bt111.2))) else (none)) else (none)) else (none)) else (some (0, bt104.2.2.2.2.2.1, some 2)))))) = some (r1, r2, r3) := h
 clear h
 replace H := Option.bind_eq_some_iff.mp H
 obtain ⟨⟨t101, t102, t103⟩, A20, H⟩ := H
 replace H : (if t103 = true then (some (t101, t102, none)) else ((strconv_readFloat.f k a0).bind fun bt104 => (if bt104.2.2.2.2.2.2 = true then (if bt104.2.2.2.2.1 = true then (if 0 ≤ bt104.2.2.2.2.2.1 then (if bt104.2.2.2.2.2.1 ≤ (a0.size : Int) then ((strconv_atofHex.f k (a0.extract 0 (bt104.2.2.2.2.2.1 : Int).toNat) bt104.1 bt104.2.1 bt104.2.2.1 bt104.2.2.2.1).bind fun bt111 => (some (bt111.1, bt104.2.2.2.2.2.1, bt111.2))) else (none)) else (none)) else (none)) else (some (0, bt104.2.2.2.2.2.1, some 2))))) = some (r1, r2, r3) := H
 have A2 := aM A20
 clear A20
 by_cases c3 : t103 = true
 ·subst c3
  have H1 : (some (t101, t102, none)) = some (r1, r2, r3) := by rw [if_pos rfl] at H; exact H
  clear H
  have H := H1
  clear H1
  simp only [Option.some.injEq, Prod.mk.injEq] at H
  obtain ⟨rfl, rfl, rfl⟩ := H
  go_enter Tryz.func108, Tryz.ntmps108
  go_wp2_with (first | ((with_reducible refine gate_callee (f := 133) rfl ?_); refine goesL_ (some 28) rfl rfl Tryz.func133 (by kernel_rfl) rfl #[.string a0] rfl gA ?_; (with_reducible refine (strconv_special.calls k a0 t101 t102 true _ A2.out).mono ?_); rintro e w4 ⟨rfl, hb⟩; refine ⟨_, rfl, ?_⟩; have n0_ := aM (below_step (hB) hb); clear HB; have HB := n0_; clear n0_; (try clear hb)))
  go_ret3
  exact ⟨by first | rfl | (simp [errW_none, errW_some] <;> rfl) | (simp [*, errW_none, errW_some] <;> rfl), hB⟩
 replace c3 := Bool.eq_false_iff.mpr c3
 subst c3
 have H1 : ((strconv_readFloat.f k a0).bind fun bt104 => (if bt104.2.2.2.2.2.2 = true then (if bt104.2.2.2.2.1 = true then (if 0 ≤ bt104.2.2.2.2.2.1 then (if bt104.2.2.2.2.2.1 ≤ (a0.size : Int) then ((strconv_atofHex.f k (a0.extract 0 (bt104.2.2.2.2.2.1 : Int).toNat) bt104.1 bt104.2.1 bt104.2.2.1 bt104.2.2.2.1).bind fun bt111 => (some (bt111.1, bt104.2.2.2.2.2.1, bt111.2))) else (none)) else (none)) else (none)) else (some (0, bt104.2.2.2.2.2.1, some 2)))) = some (r1, r2, r3) := by rw [if_neg (show ¬ (false = true) by decide)] at H; exact H
 clear H
 have H := H1
 clear H1
 replace H := Option.bind_eq_some_iff.mp H
 obtain ⟨⟨t104, t105, t106, t107, t108, t109, t110⟩, A50, H⟩ := H
 replace H : (if t110 = true then (if t108 = true then (if 0 ≤ t109 then (if t109 ≤ (a0.size : Int) then ((strconv_atofHex.f k (a0.extract 0 (t109 : Int).toNat) t104 t105 t106 t107).bind fun bt111 => (some (bt111.1, t109, bt111.2))) else (none)) else (none)) else (none)) else (some (0, t109, some 2))) = some (r1, r2, r3) := H
 have A5 := aM A50
 clear A50
 by_cases c6 : t110 = true
 rotate_left
 ·replace c6 := Bool.eq_false_iff.mpr c6
  subst c6
  have H1 : (some (0, t109, some 2)) = some (r1, r2, r3) := by rw [if_neg (show ¬ (false = true) by decide)] at H; exact H
  clear H
  have H := H1
  clear H1
  simp only [Option.some.injEq, Prod.mk.injEq] at H
  obtain ⟨rfl, rfl, rfl⟩ := H
  go_enter Tryz.func108, Tryz.ntmps108
  go_wp2_with (first | ((with_reducible refine gate_callee (f := 133) rfl ?_); refine goesL_ (some 28) rfl rfl Tryz.func133 (by kernel_rfl) rfl #[.string a0] rfl gA ?_; (with_reducible refine (strconv_special.calls k a0 t101 t102 false _ A2.out).mono ?_); rintro e w14 ⟨rfl, hb⟩; refine ⟨_, rfl, ?_⟩; have n0_ := aM (below_step (hB) hb); clear HB; have HB := n0_; clear n0_; (try clear hb)) | ((with_reducible refine gate_callee (f := 134) rfl ?_); refine goesL_ (some 37) rfl rfl Tryz.func134 (by kernel_rfl) rfl #[.string a0] rfl gA ?_; (with_reducible refine (strconv_readFloat.calls k a0 t104 t105 t106 t107 t108 t109 false _ A5.out).mono ?_); rintro e w15 ⟨rfl, hb⟩; refine ⟨_, rfl, ?_⟩; have n0_ := aM (below_step (hB) hb); clear HB; have HB := n0_; clear n0_; (try clear hb)))
  go_ret3
  exact ⟨by first | rfl | (simp [errW_none, errW_some] <;> rfl) | (simp [*, errW_none, errW_some] <;> rfl), hB⟩
 subst c6
 have H1 : (if t108 = true then (if 0 ≤ t109 then (if t109 ≤ (a0.size : Int) then ((strconv_atofHex.f k (a0.extract 0 (t109 : Int).toNat) t104 t105 t106 t107).bind fun bt111 => (some (bt111.1, t109, bt111.2))) else (none)) else (none)) else (none)) = some (r1, r2, r3) := by rw [if_pos rfl] at H; exact H
 clear H
 have H := H1
 clear H1
 by_cases c7 : t108 = true
 rotate_left
 ·replace c7 := Bool.eq_false_iff.mpr c7
  subst c7
  have H1 : (none) = some (r1, r2, r3) := by rw [if_neg (show ¬ (false = true) by decide)] at H; exact H
  clear H
  have H := H1
  clear H1
  exact absurd H (by simp)
 subst c7
 have H1 : (if 0 ≤ t109 then (if t109 ≤ (a0.size : Int) then ((strconv_atofHex.f k (a0.extract 0 (t109 : Int).toNat) t104 t105 t106 t107).bind fun bt111 => (some (bt111.1, t109, bt111.2))) else (none)) else (none)) = some (r1, r2, r3) := by rw [if_pos rfl] at H; exact H
 clear H
 have H := H1
 clear H1
 by_cases c8 : 0 ≤ t109
 rotate_left
 ·rw [if_neg c8] at H
  exact absurd H (by simp)
 rw [if_pos c8] at H
 have c8b0 := eq_true c8
 have c8b1 : decide (0 ≤ t109) = true := decide_eq_true c8
 clear c8
 by_cases c9 : t109 ≤ (a0.size : Int)
 rotate_left
 ·rw [if_neg c9] at H
  exact absurd H (by simp)
 rw [if_pos c9] at H
 have c9b0 := eq_true c9
 have c9b1 : decide (t109 ≤ (a0.size : Int)) = true := decide_eq_true c9
 clear c9
 replace H := Option.bind_eq_some_iff.mp H
 obtain ⟨⟨t111, t112⟩, A100, H⟩ := H
 replace H : (some (t111, t109, t112)) = some (r1, r2, r3) := H
 have A10 := aM A100
 clear A100
 simp only [Option.some.injEq, Prod.mk.injEq] at H
 obtain ⟨rfl, rfl, rfl⟩ := H
 go_enter Tryz.func108, Tryz.ntmps108
 go_wp2_with (first | ((with_reducible refine gate_callee (f := 133) rfl ?_); refine goesL_ (some 28) rfl rfl Tryz.func133 (by kernel_rfl) rfl #[.string a0] rfl gA ?_; (with_reducible refine (strconv_special.calls k a0 t101 t102 false _ A2.out).mono ?_); rintro e w11 ⟨rfl, hb⟩; refine ⟨_, rfl, ?_⟩; have n0_ := aM (below_step (hB) hb); clear HB; have HB := n0_; clear n0_; (try clear hb)) | ((with_reducible refine gate_callee (f := 134) rfl ?_); refine goesL_ (some 37) rfl rfl Tryz.func134 (by kernel_rfl) rfl #[.string a0] rfl gA ?_; (with_reducible refine (strconv_readFloat.calls k a0 t104 t105 t106 t107 true t109 true _ A5.out).mono ?_); rintro e w12 ⟨rfl, hb⟩; refine ⟨_, rfl, ?_⟩; have n0_ := aM (below_step (hB) hb); clear HB; have HB := n0_; clear n0_; (try clear hb)) | ((with_reducible refine gate_callee (f := 135) rfl ?_); refine goesL_ (some 58) rfl rfl Tryz.func135 (by kernel_rfl) rfl #[.string (a0.extract 0 (t109 : Int).toNat), .pointer (some ⟨6, 0, none⟩), .int .u64 t104, .int .i64 t105, .bool t106, .bool t107] rfl gA ?_; (with_reducible refine (strconv_atofHex.calls k (a0.extract 0 (t109 : Int).toNat)  t104 t105 t106 t107 t111 t112 _ ?side1 A10.out).mono ?_); (case side1 => exact LaidOk.below (hB) HLAID.out); rintro e w13 ⟨rfl, hb⟩; refine ⟨_, rfl, ?_⟩; have n0_ := aM (below_step (hB) hb); clear HB; have HB := n0_; clear n0_; (try clear hb); (try simp only [errW_none, errW_some])))
 go_ret3
 exact ⟨by first | rfl | (simp [errW_none, errW_some] <;> rfl) | (simp [*, errW_none, errW_some] <;> rfl), hB⟩
/-! ### strconv_parseFloatPrefix: function 87 -/
def strconv_parseFloatPrefix.f (k : Nat) (a0 : ByteArray) (a1 : Int) : Option (Nat × Int × Option Int) := if a1 = 32 then (none) else ((strconv_atof64.f k a0).bind fun bt113 => (some (bt113.1, bt113.2.1, bt113.2.2)))
theorem strconv_parseFloatPrefix.mono : ∀ a0 a1 k, LeO (strconv_parseFloatPrefix.f k a0 a1) (strconv_parseFloatPrefix.f (k + 1) a0 a1) := by
  intro a0 a1 k
  unfold strconv_parseFloatPrefix.f
  repeat' first
      | (with_reducible apply strconv_atof64.mono)
      | (with_reducible exact LeO.refl _)
      | (with_reducible exact LeO.none _)
      | (with_reducible refine LeO.ite ?_ ?_)
      | (with_reducible refine LeO.bind ?_ (fun _ => ?_))
      | exact LeO.none _
      | refine LeO.ite ?_ ?_
      | refine LeO.bind ?_ (fun _ => ?_)
set_option maxHeartbeats 8000000 in
set_option maxRecDepth 100000 in
theorem strconv_parseFloatPrefix.calls (k : Nat) (a0 : ByteArray) (a1 : Int) (r1 : Nat) (r2 : Int) (r3 : Option Int) (w : World) (hLaid : LaidOk w) (h : strconv_parseFloatPrefix.f k a0 a1 = some (r1, r2, r3)) :
  Calls Tryz.prog 87 #[.string a0, .int .i64 a1] w fun e w' => e = .returned (.tuple #[.float .f64 r1, .int .i64 r2, errW r3]) ∧ Below w.heap.size w w' := by
 have HLAID := aM hLaid
 clear hLaid
 have HB := aM (Below.refl w.heap.size w)
 have H : (if a1 = 32 then (none) else ((strconv_atof64.f k a0).bind fun bt113 => (some (bt113.1, bt113.2.1, bt113.2.2)))) = some (r1, r2, r3) := h
 clear h
 by_cases c3 : a1 = 32
 ·rw [if_pos c3] at H
  exact absurd H (by simp)
 rw [if_neg c3] at H
 have c3b0 : (a1 == 32) = false := beq_eq_false_iff_ne.mpr c3
 have c3b1 : (a1 != 32) = true := bne_iff_ne.mpr c3
 replace H := Option.bind_eq_some_iff.mp H
 obtain ⟨⟨t113, t114, t115⟩, A40, H⟩ := H
 replace H : (some (t113, t114, t115)) = some (r1, r2, r3) := H
 have A4 := aM A40
 clear A40
 simp only [Option.some.injEq, Prod.mk.injEq] at H
 obtain ⟨rfl, rfl, rfl⟩ := H
 go_enter Tryz.func87, Tryz.ntmps87
 go_wp2_with (first | ((with_reducible refine gate_callee (f := 108) rfl ?_); refine goesL_ (some 23) rfl rfl Tryz.func108 (by kernel_rfl) rfl #[.string a0] rfl gA ?_; (with_reducible refine (strconv_atof64.calls k a0 t113 t114 t115 _ ?side1 A4.out).mono ?_); (case side1 => exact LaidOk.below (hB) HLAID.out); rintro e w5 ⟨rfl, hb⟩; refine ⟨_, rfl, ?_⟩; have n0_ := aM (below_step (hB) hb); clear HB; have HB := n0_; clear n0_; (try clear hb); (try simp only [errW_none, errW_some])))
 go_ret3
 exact ⟨by first | rfl | (simp [errW_none, errW_some] <;> rfl) | (simp [*, errW_none, errW_some] <;> rfl), hB⟩
/-! ### strconv_ParseFloat: function 58 -/
def strconv_ParseFloat.f (k : Nat) (a0 : ByteArray) (a1 : Int) : Option (Nat × Option Int) := (strconv_parseFloatPrefix.f k a0 a1).bind fun bt116 => (if bt116.2.1 = (a0.size : Int) then (some (bt116.1, bt116.2.2)) else (some (0, some 2)))
theorem strconv_ParseFloat.mono : ∀ a0 a1 k, LeO (strconv_ParseFloat.f k a0 a1) (strconv_ParseFloat.f (k + 1) a0 a1) := by
  intro a0 a1 k
  unfold strconv_ParseFloat.f
  repeat' first
      | (with_reducible apply strconv_parseFloatPrefix.mono)
      | (with_reducible exact LeO.refl _)
      | (with_reducible exact LeO.none _)
      | (with_reducible refine LeO.ite ?_ ?_)
      | (with_reducible refine LeO.bind ?_ (fun _ => ?_))
      | exact LeO.none _
      | refine LeO.ite ?_ ?_
      | refine LeO.bind ?_ (fun _ => ?_)
set_option maxHeartbeats 8000000 in
set_option maxRecDepth 100000 in
theorem strconv_ParseFloat.calls (k : Nat) (a0 : ByteArray) (a1 : Int) (r1 : Nat) (r2 : Option Int) (w : World) (hLaid : LaidOk w) (h : strconv_ParseFloat.f k a0 a1 = some (r1, r2)) :
  Calls Tryz.prog 58 #[.string a0, .int .i64 a1] w fun e w' => e = .returned (.tuple #[.float .f64 r1, errW r2]) ∧ Below w.heap.size w w' := by
 have hu56 := Tryz.underlying56
 have hu104 := Tryz.underlying104
 have HLAID := aM hLaid
 clear hLaid
 have HB := aM (Below.refl w.heap.size w)
 have H : ((strconv_parseFloatPrefix.f k a0 a1).bind fun bt116 => (if bt116.2.1 = (a0.size : Int) then (some (bt116.1, bt116.2.2)) else (some (0, some 2)))) = some (r1, r2) := h
 clear h
 replace H := Option.bind_eq_some_iff.mp H
 obtain ⟨⟨t116, t117, t118⟩, A30, H⟩ := H
 replace H : (if t117 = (a0.size : Int) then (some (t116, t118)) else (some (0, some 2))) = some (r1, r2) := H
 have A3 := aM A30
 clear A30
 by_cases c4 : t117 = (a0.size : Int)
 rotate_left
 ·rw [if_neg c4] at H
  have c4b0 : (t117 == (a0.size : Int)) = false := beq_eq_false_iff_ne.mpr c4
  have c4b1 : (t117 != (a0.size : Int)) = true := bne_iff_ne.mpr c4
  simp only [Option.some.injEq, Prod.mk.injEq] at H
  obtain ⟨rfl, rfl⟩ := H
  go_enter Tryz.func58, Tryz.ntmps58
  go_wp2_with (first | ((with_reducible refine gate_callee (f := 87) rfl ?_); refine goesL_ (some 12) rfl rfl Tryz.func87 (by kernel_rfl) rfl #[.string a0, .int .i64 a1] rfl gA ?_; (with_reducible refine (strconv_parseFloatPrefix.calls k a0 a1 t116 t117 t118 _ ?side1 A3.out).mono ?_); (case side1 => exact LaidOk.below (hB) HLAID.out); rintro e w6 ⟨rfl, hb⟩; refine ⟨_, rfl, ?_⟩; have n0_ := aM (below_step (hB) hb); clear HB; have HB := n0_; clear n0_; (try clear hb); (try simp only [errW_none, errW_some])))
  go_ret2
  exact ⟨by first | rfl | (simp [errW_none, errW_some] <;> rfl) | (simp [*, errW_none, errW_some] <;> rfl), hB⟩
 rw [if_pos c4] at H
 have c4b0 : (t117 == (a0.size : Int)) = true := beq_iff_eq.mpr c4
 have c4b1 : (t117 != (a0.size : Int)) = false := bne_eq_false_iff_eq.mpr c4
 clear c4
 simp only [Option.some.injEq, Prod.mk.injEq] at H
 obtain ⟨rfl, rfl⟩ := H
 go_enter Tryz.func58, Tryz.ntmps58
 go_wp2_with (first | ((with_reducible refine gate_callee (f := 87) rfl ?_); refine goesL_ (some 12) rfl rfl Tryz.func87 (by kernel_rfl) rfl #[.string a0, .int .i64 a1] rfl gA ?_; (with_reducible refine (strconv_parseFloatPrefix.calls k a0 a1 t116 t117 t118 _ ?side1 A3.out).mono ?_); (case side1 => exact LaidOk.below (hB) HLAID.out); rintro e w5 ⟨rfl, hb⟩; refine ⟨_, rfl, ?_⟩; have n0_ := aM (below_step (hB) hb); clear HB; have HB := n0_; clear n0_; (try clear hb); (try simp only [errW_none, errW_some])))
 go_ret2
 exact ⟨by first | rfl | (simp [errW_none, errW_some] <;> rfl) | (simp [*, errW_none, errW_some] <;> rfl), hB⟩
end Go.Proofs.YthifejhdmjoolaaGreatDoor.QP
namespace Go.Proofs.YthifejhdmjoolaaGreatDoorG
open Go Go.RowKit Go.Proofs.YthifejhdmjoolaaGreatDoorW.PrintWords
open Go.Proofs.YthifejhdmjoolaaGreatDoor.QX (errW errW_none errW_some)
set_option linter.unusedVariables false
set_option linter.unusedSimpArgs false
theorem var_cell {P : Program} {W : World} {n : String} {g : Nat} {v : Value} (hg : P.globalNamed n = some g) (h : W.var? P n = some #[v]) : W.cell? ⟨g, 0, none⟩ = some v := by
  unfold World.var? at h
  simp only [hg, Option.bind_some] at h
  unfold World.cell?
  split at h <;> simp_all
/-- toError, at ErrSyntax and at ErrRange: an error. -/
theorem toError_any (fn s : ByteArray) (base bits : Int) (c : Int) (hc : c = 1 ∨ c = 2) (hs : s.size ≤ 281474976710656) (w : World) (L : LaidOk w) :
    Calls Tryz.prog 59 #[.string fn, .string s, .int .i64 base, .int .i64 bits, .iface 104 (.int .i64 c)] w fun e w' => ∃ N, e = .returned (.iface 105 (.pointer (some ⟨N, 0, none⟩))) ∧ Below w.heap.size w w' := by
  rcases hc with rfl | rfl
  · obtain ⟨tp, p, hv⟩ := L.rng
    refine (Any.strconv_toError_range (P := Tryz.prog) (ρ := Tryz.laysC174_ren) { Tryz.laysC174 with } fn s base bits (.iface tp p) w hs (var_cell grng hv) (.inr ⟨_, _, rfl⟩)).mono ?_
    rintro e w' ⟨N, rfl, _, _, hB⟩
    exact ⟨N, rfl, hB⟩
  · obtain ⟨tp, p, hv⟩ := L.syn
    refine (Any.strconv_toError_syntax (P := Tryz.prog) (ρ := Tryz.laysC174_ren) { Tryz.laysC174 with } fn s base bits (.iface tp p) w hs (var_cell gsyn hv) (.inr ⟨_, _, rfl⟩)).mono ?_
    rintro e w' ⟨N, rfl, _, _, hB⟩
    exact ⟨N, rfl, hB⟩
set_option maxHeartbeats 1000000 in
set_option maxRecDepth 100000 in
theorem pf_ok (k : Nat) (s : ByteArray) (r : Nat) (h : YthifejhdmjoolaaGreatDoor.QP.strconv_ParseFloat.f k s 64 = some (r, none)) (w : World) (L : LaidOk w) :
    Calls Tryz.prog 33 #[.string s, .int .i64 64] w fun e w' => e = .returned (.tuple #[.float .f64 r, .nilIface]) ∧ Below w.heap.size w w' := by
  have HC : Hid (∀ w', Below w.heap.size w w' → _) := fun w' hb => YthifejhdmjoolaaGreatDoor.QP.strconv_ParseFloat.calls k s 64 r none w' (LaidOk.below hb L) h
  have HB : Hid (Below w.heap.size w w) := Below.refl _ _
  clear h
  go_enter Tryz.func33, Tryz.ntmps33
  go_wp2_with (go_at_call 58; (with_reducible refine Calls.mono (HC.out _ (by repeat (first | exact HB.out | apply pw_below_drewN | apply below_drew1))) ?_); rintro e w1 ⟨rfl, hb1⟩; have HB1 : Hid _ := hb1; clear hb1; simp only [errW_none])
  go_ret2
  exact ⟨rfl, HB1.out⟩
set_option maxHeartbeats 1000000 in
set_option maxRecDepth 100000 in
theorem pf_err (k : Nat) (s : ByteArray) (r : Nat) (c : Int) (hc : c = 1 ∨ c = 2) (hs : s.size ≤ 281474976710656) (h : YthifejhdmjoolaaGreatDoor.QP.strconv_ParseFloat.f k s 64 = some (r, some c)) (w : World) (L : LaidOk w) :
    Calls Tryz.prog 33 #[.string s, .int .i64 64] w fun e w' => ∃ N, e = .returned (.tuple #[.float .f64 r, .iface 105 (.pointer (some ⟨N, 0, none⟩))]) ∧ Below w.heap.size w w' := by
  have HC : Hid (∀ w', Below w.heap.size w w' → _) := fun w' hb => YthifejhdmjoolaaGreatDoor.QP.strconv_ParseFloat.calls k s 64 r (some c) w' (LaidOk.below hb L) h
  have HT : Hid (∀ w', Below w.heap.size w w' → _) := fun w' hb => toError_any ⟨#[80, 97, 114, 115, 101, 70, 108, 111, 97, 116]⟩ s 0 64 c hc hs w' (LaidOk.below hb L)
  have HB : Hid (Below w.heap.size w w) := Below.refl _ _
  clear h hc
  go_enter Tryz.func33, Tryz.ntmps33
  go_wp2_with (first
    | (go_at_call 58; (with_reducible refine Calls.mono (HC.out _ (by repeat (first | exact HB.out | apply pw_below_drewN | apply below_drew1))) ?_); rintro e w1 ⟨rfl, hb1⟩; have HB1 : Hid _ := hb1; clear hb1; simp only [errW_some])
    | (go_at_call 59; (with_reducible refine Calls.mono (HT.out _ (by repeat (first | exact HB1.out | apply pw_below_drewN | apply below_drew1))) ?_); rintro e w2 ⟨N, rfl, hb2⟩; have HB2 : Hid _ := hb2; clear hb2))
  go_ret2
  exact ⟨N, rfl, below_step HB1.out HB2.out⟩
/-- nan's text -/
def nanT : ByteArray := ⟨#[110, 97, 110]⟩
set_option maxHeartbeats 1000000 in
set_option maxRecDepth 100000 in
theorem parse_nan (s : ByteArray) (hn : s.toList = [110, 97, 110]) (w : World) : Calls Tryz.prog 11 #[.string s] w fun e w' => e = .returned (.tuple #[.int .u64 9221120237041090561, .int .i64 0]) ∧ Below w.heap.size w w' := by
  have HB : Hid (Below w.heap.size w w) := Below.refl _ _
  have hnb : (s.toList == ([110, 97, 110] : List UInt8)) = true := beq_iff_eq.mpr hn
  go_enter Tryz.func11, Tryz.ntmps11
  go_wp2
  go_ret2
  exact ⟨rfl, by repeat (first | exact HB.out | apply pw_below_drewN | apply below_drew1)⟩
set_option maxHeartbeats 1000000 in
set_option maxRecDepth 100000 in
theorem parse_err (k : Nat) (s : ByteArray) (hn : s.toList ≠ [110, 97, 110]) (r : Nat) (c : Int) (hc : c = 1 ∨ c = 2) (hs : s.size ≤ 281474976710656) (h : YthifejhdmjoolaaGreatDoor.QP.strconv_ParseFloat.f k s 64 = some (r, some c)) (w : World) (L : LaidOk w) :
    Calls Tryz.prog 11 #[.string s] w fun e w' => e = .returned (.tuple #[.int .u64 0, .int .i64 10]) ∧ Below w.heap.size w w' := by
  have HC : Hid (∀ w', Below w.heap.size w w' → _) := fun w' hb => pf_err k s r c hc hs h w' (LaidOk.below hb L)
  have HB : Hid (Below w.heap.size w w) := Below.refl _ _
  clear h hc
  have hnb : (s.toList == ([110, 97, 110] : List UInt8)) = false := beq_eq_false_iff_ne.mpr hn
  go_enter Tryz.func11, Tryz.ntmps11
  go_wp2_with (go_at_call 33; (with_reducible refine Calls.mono (HC.out _ (by repeat (first | exact HB.out | apply pw_below_drewN | apply below_drew1))) ?_); rintro e w1 ⟨N, rfl, hb1⟩; have HB1 : Hid _ := hb1; clear hb1)
  go_ret2
  exact ⟨rfl, by repeat (first | exact HB1.out | apply pw_below_drewN | apply below_drew1)⟩
set_option maxHeartbeats 1000000 in
set_option maxRecDepth 100000 in
theorem parse_other (k : Nat) (s : ByteArray) (hn : s.toList ≠ [110, 97, 110]) (r : Nat) (h : YthifejhdmjoolaaGreatDoor.QP.strconv_ParseFloat.f k s 64 = some (r, none)) (t : ByteArray) (ht : YthifejhdmjoolaaGreatDoor.QT.floats_Text.f k (canonI r) = some t) (hts : t.toList ≠ s.toList) (w : World) (L : LaidOk w) :
    Calls Tryz.prog 11 #[.string s] w fun e w' => e = .returned (.tuple #[.int .u64 0, .int .i64 10]) ∧ Below w.heap.size w w' := by
  have HC : Hid (∀ w', Below w.heap.size w w' → _) := fun w' hb => pf_ok k s r h w' (LaidOk.below hb L)
  have HT : Hid (∀ w', _) := fun w' => YthifejhdmjoolaaGreatDoor.QT.floats_Text.calls k (canonI r) t w' ht
  have HB : Hid (Below w.heap.size w w) := Below.refl _ _
  clear h ht
  have htb : (t.toList == s.toList) = false := beq_eq_false_iff_ne.mpr hts
  have hnb : (s.toList == ([110, 97, 110] : List UInt8)) = false := beq_eq_false_iff_ne.mpr hn
  go_enter Tryz.func11, Tryz.ntmps11
  go_wp2_with (first
    | (go_at_call 33; (with_reducible refine Calls.mono (HC.out _ (by repeat (first | exact HB.out | apply pw_below_drewN | apply below_drew1))) ?_); rintro e w1 ⟨rfl, hb1⟩; have HB1 : Hid _ := hb1; clear hb1)
    | (go_at_call 34; (with_reducible refine Calls.mono (from_any _ _) ?_); rintro e w5 ⟨rfl, rfl⟩)
    | (go_at_call 12; (with_reducible refine Calls.mono (HT.out _) ?_); rintro e w2 ⟨rfl, hb2⟩; have HB2 : Hid _ := hb2; clear hb2))
  go_ret2
  exact ⟨rfl, below_step HB1.out HB2.out⟩
set_option maxHeartbeats 1000000 in
set_option maxRecDepth 100000 in
theorem parse_same (k : Nat) (s : ByteArray) (hn : s.toList ≠ [110, 97, 110]) (r : Nat) (h : YthifejhdmjoolaaGreatDoor.QP.strconv_ParseFloat.f k s 64 = some (r, none)) (t : ByteArray) (ht : YthifejhdmjoolaaGreatDoor.QT.floats_Text.f k (canonI r) = some t) (hts : t.toList = s.toList) (w : World) (L : LaidOk w) :
    Calls Tryz.prog 11 #[.string s] w fun e w' => e = .returned (.tuple #[.int .u64 (canonI r), .int .i64 0]) ∧ Below w.heap.size w w' := by
  have HC : Hid (∀ w', Below w.heap.size w w' → _) := fun w' hb => pf_ok k s r h w' (LaidOk.below hb L)
  have HT : Hid (∀ w', _) := fun w' => YthifejhdmjoolaaGreatDoor.QT.floats_Text.calls k (canonI r) t w' ht
  have HB : Hid (Below w.heap.size w w) := Below.refl _ _
  clear h ht
  have htb : (t.toList == s.toList) = true := beq_iff_eq.mpr hts
  have hnb : (s.toList == ([110, 97, 110] : List UInt8)) = false := beq_eq_false_iff_ne.mpr hn
  go_enter Tryz.func11, Tryz.ntmps11
  go_wp2_with (first
    | (go_at_call 33; (with_reducible refine Calls.mono (HC.out _ (by repeat (first | exact HB.out | apply pw_below_drewN | apply below_drew1))) ?_); rintro e w1 ⟨rfl, hb1⟩; have HB1 : Hid _ := hb1; clear hb1)
    | (go_at_call 34; (with_reducible refine Calls.mono (from_any _ _) ?_); rintro e w5 ⟨rfl, rfl⟩)
    | (go_at_call 12; (with_reducible refine Calls.mono (HT.out _) ?_); rintro e w2 ⟨rfl, hb2⟩; have HB2 : Hid _ := hb2; clear hb2))
  go_ret2
  exact ⟨rfl, below_step HB1.out HB2.out⟩
def floats_Parse.f (k : Nat) (s : ByteArray) : Option (Int × Int) :=
  if s.toList = [110, 97, 110] then some (9221120237041090561, 0)
  else if s.size ≤ 281474976710656 then (YthifejhdmjoolaaGreatDoor.QP.strconv_ParseFloat.f k s 64).bind fun p =>
    match p.2 with
    | some c => if c = 1 ∨ c = 2 then some (0, 10) else none
    | none => (YthifejhdmjoolaaGreatDoor.QT.floats_Text.f k (canonI p.1)).bind fun t => if t.toList = s.toList then some (canonI p.1, 0) else some (0, 10)
  else none
theorem floats_Parse.mono : ∀ a0 k, LeO (floats_Parse.f k a0) (floats_Parse.f (k + 1) a0) := by
  intro s k
  unfold floats_Parse.f
  refine LeO.ite (LeO.refl _) (LeO.ite (LeO.bind (YthifejhdmjoolaaGreatDoor.QP.strconv_ParseFloat.mono _ _ _) (fun p => ?_)) (LeO.refl _))
  obtain ⟨p, o⟩ := p
  cases o with
  | some c => exact LeO.refl _
  | none => exact LeO.bind (YthifejhdmjoolaaGreatDoor.QT.floats_Text.mono _ _) (fun t => LeO.refl _)
theorem floats_Parse.calls (k : Nat) (a0 : ByteArray) (r1 r2 : Int) (w : World) (hLaid : LaidOk w) (h : floats_Parse.f k a0 = some (r1, r2)) :
  Calls Tryz.prog 11 #[.string a0] w fun e w' => e = .returned (.tuple #[.int .u64 r1, .int .i64 r2]) ∧ Below w.heap.size w w' := by
 unfold floats_Parse.f at h
 by_cases hn : a0.toList = [110, 97, 110]
 ·rw [if_pos hn] at h
  obtain ⟨rfl, rfl⟩ := Prod.mk.inj (Option.some.inj h)
  exact parse_nan a0 hn w
 ·rw [if_neg hn] at h
  by_cases hs : a0.size ≤ 281474976710656
  ·rw [if_pos hs] at h
   obtain ⟨⟨r, o⟩, hp, h⟩ := Option.bind_eq_some_iff.mp h
   cases o with
   | some c =>
    dsimp only at h
    by_cases hc : c = 1 ∨ c = 2
    ·rw [if_pos hc] at h
     obtain ⟨rfl, rfl⟩ := Prod.mk.inj (Option.some.inj h)
     exact parse_err k a0 hn r c hc hs hp w hLaid
    ·rw [if_neg hc] at h; cases h
   | none =>
    dsimp only at h
    obtain ⟨t, ht, h⟩ := Option.bind_eq_some_iff.mp h
    by_cases hts : t.toList = a0.toList
    ·rw [if_pos hts] at h
     obtain ⟨rfl, rfl⟩ := Prod.mk.inj (Option.some.inj h)
     exact parse_same k a0 hn r hp t ht hts w hLaid
    ·rw [if_neg hts] at h
     obtain ⟨rfl, rfl⟩ := Prod.mk.inj (Option.some.inj h)
     exact parse_other k a0 hn r hp t ht hts w hLaid
  ·rw [if_neg hs] at h; cases h
def floats_Text.f (k : Nat) (a0 : Int) : Option ByteArray := YthifejhdmjoolaaGreatDoor.QT.floats_Text.f k a0
theorem floats_Text.mono : ∀ a0 k, LeO (floats_Text.f k a0) (floats_Text.f (k + 1) a0) := YthifejhdmjoolaaGreatDoor.QT.floats_Text.mono
theorem floats_Text.calls (k : Nat) (a0 : Int) (r : ByteArray) (w : World) (h : floats_Text.f k a0 = some r) :
  Calls Tryz.prog 12 #[.int .u64 a0] w fun e w' => e = .returned (.string r) ∧ Below w.heap.size w w' := YthifejhdmjoolaaGreatDoor.QT.floats_Text.calls k a0 r w h
end Go.Proofs.YthifejhdmjoolaaGreatDoorG
