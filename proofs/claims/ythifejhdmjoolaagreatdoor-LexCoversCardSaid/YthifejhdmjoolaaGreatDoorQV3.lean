-- WRITTEN BY A PROGRAM OF THE SESSION (wip/myprint.sh): Lean checks it.
import Derived.Test.YthifejhdmjoolaaGreatDoorQV0
import Derived.Test.YthifejhdmjoolaaGreatDoorQV2
namespace Go.Proofs.YthifejhdmjoolaaGreatDoor.QV
open Go.Proofs.YthifejhdmjoolaaGreatDoorG Go.Proofs.YthifejhdmjoolaaGreatDoor.QR
attribute [local go_sem] Instr.field asAgg
open Go.RowKit Go.Proofs.YthifejhdmjoolaaGreatDoorW.PrintWords Go.Proofs.YthifejhdmjoolaaGreatDoorW.PrintLast Go.Proofs.YthifejhdmjoolaaGreatDoorW.PrintMore
attribute [local go_sem] max2_int min2_int max_two min_two max_three min_three max_four min_four   -- for this text's walks alone
set_option linter.unusedVariables false
set_option linter.unusedSimpArgs false
/-! ### foundrylaw05_alive: function 23 -/
def foundrylaw05_alive.f (k : Nat)  : Option (Bool) := (lex_Lex.f k (⟨#[108, 101, 116, 32, 120, 60, 61, 49, 46, 53, 59, 32, 47, 47, 32, 103, 111]⟩ : ByteArray)).bind fun bt145 => ((lex_Lex.f k (⟨#[97, 32, 38, 32, 98]⟩ : ByteArray)).bind fun bt150 => (if bt145.2.2 = 0 then (if (bt145.1.length : Int) = 5 then (if 0 < (bt145.1.length : Int) then (if ((rd_T44 bt145.1 0).f0) = 2 then (if 2 < (bt145.1.length : Int) then (if ((rd_T44 bt145.1 2).f1).toList = ([60, 61] : List UInt8) then (if 3 < (bt145.1.length : Int) then (if ((rd_T44 bt145.1 3).f2.f1) = 4609434218613702656 then (if bt150.2.2 = 10 then (some (bt150.2.1 == 2)) else (none)) else (none)) else (none)) else (none)) else (none)) else (none)) else (none)) else (none)) else (none)))
theorem foundrylaw05_alive.mono : ∀ k, LeO (foundrylaw05_alive.f k ) (foundrylaw05_alive.f (k + 1) ) := by
  intro  k
  unfold foundrylaw05_alive.f
  repeat' first
      | (with_reducible apply lex_Lex.mono)
      | (with_reducible exact LeO.refl _)
      | (with_reducible exact LeO.none _)
      | (with_reducible refine LeO.ite ?_ ?_)
      | (with_reducible refine LeO.bind ?_ (fun _ => ?_))
      | exact LeO.none _
      | refine LeO.ite ?_ ?_
      | refine LeO.bind ?_ (fun _ => ?_)
set_option maxHeartbeats 8000000 in
set_option maxRecDepth 100000 in
theorem foundrylaw05_alive.calls (k : Nat)  (r : Bool) (w : World) (hLaid : LaidOk w) (h : foundrylaw05_alive.f k  = some r) :
    Calls Tryz.prog 23 #[] w fun e w' => e = .returned (.bool r) ∧ Below w.heap.size w w' := by
 have HLAID := aM hLaid
 clear hLaid
 have HB := aM (Below.refl w.heap.size w)
 have H : ((lex_Lex.f k (⟨#[108, 101, 116, 32, 120, 60, 61, 49, 46, 53, 59, 32, 47, 47, 32, 103, 111]⟩ : ByteArray)).bind fun bt145 => ((lex_Lex.f k (⟨#[97, 32, 38, 32, 98]⟩ : ByteArray)).bind fun bt150 => (if bt145.2.2 = 0 then (if (bt145.1.length : Int) = 5 then (if 0 < (bt145.1.length : Int) then (if ((rd_T44 bt145.1 0).f0) = 2 then (if 2 < (bt145.1.length : Int) then (if ((rd_T44 bt145.1 2).f1).toList = ([60, 61] : List UInt8) then (if 3 < (bt145.1.length : Int) then (if ((rd_T44 bt145.1 3).f2.f1) = 4609434218613702656 then (if bt150.2.2 = 10 then (some (bt150.2.1 == 2)) else (none)) else (none)) else (none)) else (none)) else (none)) else (none)) else (none)) else (none)) else (none)))) = some r := h
 clear h
 replace H := Option.bind_eq_some_iff.mp H
 obtain ⟨⟨t145, t146, t147⟩, A10, H⟩ := H
 replace H : ((lex_Lex.f k (⟨#[97, 32, 38, 32, 98]⟩ : ByteArray)).bind fun bt150 => (if t147 = 0 then (if (t145.length : Int) = 5 then (if 0 < (t145.length : Int) then (if ((rd_T44 t145 0).f0) = 2 then (if 2 < (t145.length : Int) then (if ((rd_T44 t145 2).f1).toList = ([60, 61] : List UInt8) then (if 3 < (t145.length : Int) then (if ((rd_T44 t145 3).f2.f1) = 4609434218613702656 then (if bt150.2.2 = 10 then (some (bt150.2.1 == 2)) else (none)) else (none)) else (none)) else (none)) else (none)) else (none)) else (none)) else (none)) else (none))) = some r := H
 have A1 := aM A10
 clear A10
 replace H := Option.bind_eq_some_iff.mp H
 obtain ⟨⟨t150, t151, t152⟩, A20, H⟩ := H
 replace H : (if t147 = 0 then (if (t145.length : Int) = 5 then (if 0 < (t145.length : Int) then (if ((rd_T44 t145 0).f0) = 2 then (if 2 < (t145.length : Int) then (if ((rd_T44 t145 2).f1).toList = ([60, 61] : List UInt8) then (if 3 < (t145.length : Int) then (if ((rd_T44 t145 3).f2.f1) = 4609434218613702656 then (if t152 = 10 then (some (t151 == 2)) else (none)) else (none)) else (none)) else (none)) else (none)) else (none)) else (none)) else (none)) else (none)) = some r := H
 have A2 := aM A20
 clear A20
 by_cases c3 : t147 = 0
 rotate_left
 ·rw [if_neg c3] at H
  exact absurd H (by simp)
 rw [if_pos c3] at H
 have c3b0 : (t147 == 0) = true := beq_iff_eq.mpr c3
 have c3b1 : (t147 != 0) = false := bne_eq_false_iff_eq.mpr c3
 clear c3
 by_cases c4 : (t145.length : Int) = 5
 rotate_left
 ·rw [if_neg c4] at H
  exact absurd H (by simp)
 rw [if_pos c4] at H
 have c4b0 : ((t145.length : Int) == 5) = true := beq_iff_eq.mpr c4
 have c4b1 : ((t145.length : Int) != 5) = false := bne_eq_false_iff_eq.mpr c4
 clear c4
 by_cases c5 : 0 < (t145.length : Int)
 rotate_left
 ·rw [if_neg c5] at H
  exact absurd H (by simp)
 rw [if_pos c5] at H
 have c5b0 : decide (0 < (t145.length : Int)) = true := decide_eq_true c5
 have c5b1 : decide (0 < t145.length) = true := decide_eq_true (by omega)
 clear c5
 by_cases c6 : ((rd_T44 t145 0).f0) = 2
 rotate_left
 ·rw [if_neg c6] at H
  exact absurd H (by simp)
 rw [if_pos c6] at H
 have c6b0 : (((rd_T44 t145 0).f0) == 2) = true := beq_iff_eq.mpr c6
 have c6b1 : (((rd_T44 t145 0).f0) != 2) = false := bne_eq_false_iff_eq.mpr c6
 clear c6
 by_cases c7 : 2 < (t145.length : Int)
 rotate_left
 ·rw [if_neg c7] at H
  exact absurd H (by simp)
 rw [if_pos c7] at H
 have c7b0 : decide (2 < (t145.length : Int)) = true := decide_eq_true c7
 have c7b1 : decide (2 < t145.length) = true := decide_eq_true (by omega)
 clear c7
 by_cases c8 : ((rd_T44 t145 2).f1).toList = ([60, 61] : List UInt8)
 rotate_left
 ·rw [if_neg c8] at H
  exact absurd H (by simp)
 rw [if_pos c8] at H
 have c8b0 : (((rd_T44 t145 2).f1).toList == ([60, 61] : List UInt8)) = true := beq_iff_eq.mpr c8
 have c8b1 : (((rd_T44 t145 2).f1).toList != ([60, 61] : List UInt8)) = false := bne_eq_false_iff_eq.mpr c8
 clear c8
 by_cases c9 : 3 < (t145.length : Int)
 rotate_left
 ·rw [if_neg c9] at H
  exact absurd H (by simp)
 rw [if_pos c9] at H
 have c9b0 : decide (3 < (t145.length : Int)) = true := decide_eq_true c9
 have c9b1 : decide (3 < t145.length) = true := decide_eq_true (by omega)
 clear c9
 by_cases c10 : ((rd_T44 t145 3).f2.f1) = 4609434218613702656
 rotate_left
 ·rw [if_neg c10] at H
  exact absurd H (by simp)
 rw [if_pos c10] at H
 have c10b0 : (((rd_T44 t145 3).f2.f1) == 4609434218613702656) = true := beq_iff_eq.mpr c10
 have c10b1 : (((rd_T44 t145 3).f2.f1) != 4609434218613702656) = false := bne_eq_false_iff_eq.mpr c10
 clear c10
 by_cases c11 : t152 = 10
 rotate_left
 ·rw [if_neg c11] at H
  exact absurd H (by simp)
 rw [if_pos c11] at H
 have c11b0 : (t152 == 10) = true := beq_iff_eq.mpr c11
 have c11b1 : (t152 != 10) = false := bne_eq_false_iff_eq.mpr c11
 clear c11
 obtain rfl := Option.some.inj H
 go_enter Tryz.func23, Tryz.ntmps23
 go_wp2_with (first | ((with_reducible refine gate_callee (f := 21) rfl ?_); refine goesL_ (some 8) rfl rfl Tryz.func21 (by kernel_rfl) rfl #[.string (⟨#[108, 101, 116, 32, 120, 60, 61, 49, 46, 53, 59, 32, 47, 47, 32, 103, 111]⟩ : ByteArray)] rfl gA ?_; (with_reducible refine (lex_Lex.calls k (⟨#[108, 101, 116, 32, 120, 60, 61, 49, 46, 53, 59, 32, 47, 47, 32, 103, 111]⟩ : ByteArray) t145 t146 t147 _ ?side1 A1.out).mono ?_); (case side1 => exact LaidOk.below (hB) HLAID.out); rintro e w12 ⟨v148, rfl, ho0, hb⟩; refine ⟨_, rfl, ?_⟩; have n0_ := aM (Kd.R_lower ho0 (below_size (hB))); have n1_ := aM (below_step (hB) hb); clear HB; have HO149 := n0_; have HB := n1_; clear n0_ n1_; (try clear hb); (try clear ho0)) | ((with_reducible refine gate_callee (f := 21) rfl ?_); refine goesL_ (some 13) rfl rfl Tryz.func21 (by kernel_rfl) rfl #[.string (⟨#[97, 32, 38, 32, 98]⟩ : ByteArray)] rfl gA ?_; (with_reducible refine (lex_Lex.calls k (⟨#[97, 32, 38, 32, 98]⟩ : ByteArray) t150 t151 t152 _ ?side1 A2.out).mono ?_); (case side1 => exact LaidOk.below (hB) HLAID.out); rintro e w13 ⟨v153, rfl, ho0, hb⟩; refine ⟨_, rfl, ?_⟩; have n0_ := aM (Kd.R_elder' (by (with_reducible repeat (first | apply Kd.R_alloc | apply Kd.R_drewN | apply Kd.R_drew)); exact HO149.out) (Kd.R_base ho0) hb); have n1_ := aM (Kd.R_lower (Kd.R_new' ho0 (Kd.R_lt (by (with_reducible repeat (first | apply Kd.R_alloc | apply Kd.R_drewN | apply Kd.R_drew)); exact HO149.out))) (below_size (hB))); have n2_ := aM (below_step (hB) hb); clear HO149; clear HB; have HO149 := n0_; have HO154 := n1_; have HB := n2_; clear n0_ n1_ n2_; (try clear hb); (try clear ho0); obtain ⟨Ao14, co14, eo14⟩ := Kd.R_slice HO149.out; subst eo14; have p155 : 0 ≤ (0 : Int) := (by omega); have q155 : 0 < (t145.length : Int) := oA; obtain ⟨ad155, e155, hx155_0, hx155_1, hx155_2, hx155_3, hx155_4⟩ := at_T44 (Kd.R_reads' HO149.out).2.2 0 p155 q155; cases e155; have qi155 : (0 < t145.length) = True := eq_true (by omega); (try rw [show ((0 : Int)).toNat = 0 from rfl] at hx155_0); (try rw [show 0 * 5 = 0 from rfl] at hx155_0); (try rw [Addr.add_zero'] at hx155_0); (try rw [show ((0 : Int)).toNat = 0 from rfl] at hx155_1); (try rw [show 0 * 5 = 0 from rfl] at hx155_1); (try rw [Addr.add_zero'] at hx155_1); (try rw [show ((0 : Int)).toNat = 0 from rfl] at hx155_2); (try rw [show 0 * 5 = 0 from rfl] at hx155_2); (try rw [Addr.add_zero'] at hx155_2); (try rw [show ((0 : Int)).toNat = 0 from rfl] at hx155_3); (try rw [show 0 * 5 = 0 from rfl] at hx155_3); (try rw [Addr.add_zero'] at hx155_3); (try rw [show ((0 : Int)).toNat = 0 from rfl] at hx155_4); (try rw [show 0 * 5 = 0 from rfl] at hx155_4); (try rw [Addr.add_zero'] at hx155_4); replace p155 := eq_true p155; replace q155 := eq_true q155; have p156 : 0 ≤ (2 : Int) := (by omega); have q156 : 2 < (t145.length : Int) := oA; obtain ⟨ad156, e156, hx156_0, hx156_1, hx156_2, hx156_3, hx156_4⟩ := at_T44 (Kd.R_reads' HO149.out).2.2 2 p156 q156; obtain rfl : ad155 = ad156 := (by injection e156); (try simp only [show (2 : Int).toNat = 2 from rfl, Nat.reduceMul, Nat.reduceEqDiff, Go.Addr.add, ↓reduceIte] at hx156_0); (try simp only [show (2 : Int).toNat = 2 from rfl, Nat.reduceMul, Nat.reduceEqDiff, Go.Addr.add, ↓reduceIte] at hx156_1); (try simp only [show (2 : Int).toNat = 2 from rfl, Nat.reduceMul, Nat.reduceEqDiff, Go.Addr.add, ↓reduceIte] at hx156_2); (try simp only [show (2 : Int).toNat = 2 from rfl, Nat.reduceMul, Nat.reduceEqDiff, Go.Addr.add, ↓reduceIte] at hx156_3); (try simp only [show (2 : Int).toNat = 2 from rfl, Nat.reduceMul, Nat.reduceEqDiff, Go.Addr.add, ↓reduceIte] at hx156_4); have qi156 : (2 < t145.length) = True := eq_true (by omega); (try rw [show ((2 : Int)).toNat = 2 from rfl] at hx156_0); (try rw [show 2 * 5 = 10 from rfl] at hx156_0); (try rw [show ((2 : Int)).toNat = 2 from rfl] at hx156_1); (try rw [show 2 * 5 = 10 from rfl] at hx156_1); (try rw [show ((2 : Int)).toNat = 2 from rfl] at hx156_2); (try rw [show 2 * 5 = 10 from rfl] at hx156_2); (try rw [show ((2 : Int)).toNat = 2 from rfl] at hx156_3); (try rw [show 2 * 5 = 10 from rfl] at hx156_3); (try rw [show ((2 : Int)).toNat = 2 from rfl] at hx156_4); (try rw [show 2 * 5 = 10 from rfl] at hx156_4); replace p156 := eq_true p156; replace q156 := eq_true q156; have p157 : 0 ≤ (3 : Int) := (by omega); have q157 : 3 < (t145.length : Int) := oA; obtain ⟨ad157, e157, hx157_0, hx157_1, hx157_2, hx157_3, hx157_4⟩ := at_T44 (Kd.R_reads' HO149.out).2.2 3 p157 q157; obtain rfl : ad155 = ad157 := (by injection e157); (try simp only [show (3 : Int).toNat = 3 from rfl, Nat.reduceMul, Nat.reduceEqDiff, Go.Addr.add, ↓reduceIte] at hx157_0); (try simp only [show (3 : Int).toNat = 3 from rfl, Nat.reduceMul, Nat.reduceEqDiff, Go.Addr.add, ↓reduceIte] at hx157_1); (try simp only [show (3 : Int).toNat = 3 from rfl, Nat.reduceMul, Nat.reduceEqDiff, Go.Addr.add, ↓reduceIte] at hx157_2); (try simp only [show (3 : Int).toNat = 3 from rfl, Nat.reduceMul, Nat.reduceEqDiff, Go.Addr.add, ↓reduceIte] at hx157_3); (try simp only [show (3 : Int).toNat = 3 from rfl, Nat.reduceMul, Nat.reduceEqDiff, Go.Addr.add, ↓reduceIte] at hx157_4); have qi157 : (3 < t145.length) = True := eq_true (by omega); (try rw [show ((3 : Int)).toNat = 3 from rfl] at hx157_0); (try rw [show 3 * 5 = 15 from rfl] at hx157_0); (try rw [show ((3 : Int)).toNat = 3 from rfl] at hx157_1); (try rw [show 3 * 5 = 15 from rfl] at hx157_1); (try rw [show ((3 : Int)).toNat = 3 from rfl] at hx157_2); (try rw [show 3 * 5 = 15 from rfl] at hx157_2); (try rw [show ((3 : Int)).toNat = 3 from rfl] at hx157_3); (try rw [show 3 * 5 = 15 from rfl] at hx157_3); (try rw [show ((3 : Int)).toNat = 3 from rfl] at hx157_4); (try rw [show 3 * 5 = 15 from rfl] at hx157_4); replace p157 := eq_true p157; replace q157 := eq_true q157))
 go_ret
 exact ⟨by first | rfl | (simp [errW_none, errW_some] <;> rfl) | (simp [*, errW_none, errW_some] <;> rfl), hB⟩
/-! ### foundrylaw05_blank: function 52 -/
def foundrylaw05_blank.f (a0 : Int) : Option (Bool) := if a0 = 32 then (some true) else (if a0 = 9 then (some true) else (if a0 = 10 then (some true) else (some (a0 == 13))))
set_option maxHeartbeats 8000000 in
set_option maxRecDepth 100000 in
theorem foundrylaw05_blank.calls (a0 : Int) (r : Bool) (w : World) (h : foundrylaw05_blank.f a0 = some r) :
    Calls Tryz.prog 52 #[.int .u8 a0] w fun e w' => e = .returned (.bool r) ∧ Drawn0 w w' := by
 have H : (if a0 = 32 then (some true) else (if a0 = 9 then (some true) else (if a0 = 10 then (some true) else (some (a0 == 13))))) = some r := h
 clear h
 by_cases c2 : a0 = 32
 ·rw [if_pos c2] at H
  have c2b0 : (a0 == 32) = true := beq_iff_eq.mpr c2
  have c2b1 : (a0 != 32) = false := bne_eq_false_iff_eq.mpr c2
  clear c2
  obtain rfl := Option.some.inj H
  go_enter Tryz.func52, Tryz.ntmps52
  go_wp2
  go_ret
  exact ⟨xR, by repeat (first | exact Drawn0.refl _ | apply Drawn0.step)⟩
 rw [if_neg c2] at H
 have c2b0 : (a0 == 32) = false := beq_eq_false_iff_ne.mpr c2
 have c2b1 : (a0 != 32) = true := bne_iff_ne.mpr c2
 by_cases c3 : a0 = 9
 ·rw [if_pos c3] at H
  have c3b0 : (a0 == 9) = true := beq_iff_eq.mpr c3
  have c3b1 : (a0 != 9) = false := bne_eq_false_iff_eq.mpr c3
  clear c3
  obtain rfl := Option.some.inj H
  go_enter Tryz.func52, Tryz.ntmps52
  go_wp2
  go_ret
  exact ⟨xR, by repeat (first | exact Drawn0.refl _ | apply Drawn0.step)⟩
 rw [if_neg c3] at H
 have c3b0 : (a0 == 9) = false := beq_eq_false_iff_ne.mpr c3
 have c3b1 : (a0 != 9) = true := bne_iff_ne.mpr c3
 by_cases c4 : a0 = 10
 rotate_left
 ·rw [if_neg c4] at H
  have c4b0 : (a0 == 10) = false := beq_eq_false_iff_ne.mpr c4
  have c4b1 : (a0 != 10) = true := bne_iff_ne.mpr c4
  obtain rfl := Option.some.inj H
  go_enter Tryz.func52, Tryz.ntmps52
  go_wp2
  go_ret
  exact ⟨xR, by repeat (first | exact Drawn0.refl _ | apply Drawn0.step)⟩
 rw [if_pos c4] at H
 have c4b0 : (a0 == 10) = true := beq_iff_eq.mpr c4
 have c4b1 : (a0 != 10) = false := bne_eq_false_iff_eq.mpr c4
 clear c4
 obtain rfl := Option.some.inj H
 go_enter Tryz.func52, Tryz.ntmps52
 go_wp2
 go_ret
 exact ⟨xR, by repeat (first | exact Drawn0.refl _ | apply Drawn0.step)⟩
/-! ### foundrylaw05_empty: function 25 -/
mutual
def foundrylaw05_empty.l0 : Nat → ByteArray → Int → Option (Bool)
  | 0, _, _ => none
  | k + 1, x0, x3 => if x3 < (x0.size : Int) then (if 0 ≤ x3 then (if (bt x0 x3) = 47 then (if (wrap64 (x3 + 1)) < (x0.size : Int) then (if 0 ≤ (wrap64 (x3 + 1)) then (foundrylaw05_empty.j1 k x0 x3 ((bt x0 (wrap64 (x3 + 1))) == 47)) else (none)) else (foundrylaw05_empty.j1 k x0 x3 false)) else (foundrylaw05_empty.j1 k x0 x3 false)) else (none)) else (some true)
def foundrylaw05_empty.j1 : Nat → ByteArray → Int → Bool → Option (Bool)
  | 0, _, _, _ => none
  | k + 1, x0, x3, x27 => if x27 = true then (foundrylaw05_empty.l1 k x0 x3) else (if 0 ≤ x3 then (if x3 < (x0.size : Int) then ((foundrylaw05_blank.f (bt x0 x3)).bind fun t158 => (if t158 = true then (foundrylaw05_empty.l0 k x0 (wrap64 (x3 + 1))) else (some false))) else (none)) else (none))
def foundrylaw05_empty.l1 : Nat → ByteArray → Int → Option (Bool)
  | 0, _, _ => none
  | k + 1, x0, x3 => if x3 < (x0.size : Int) then (if 0 ≤ x3 then (if (bt x0 x3) = 10 then (foundrylaw05_empty.l0 k x0 (wrap64 (x3 + 1))) else (foundrylaw05_empty.l1 k x0 (wrap64 (x3 + 1)))) else (none)) else (foundrylaw05_empty.l0 k x0 (wrap64 (x3 + 1)))
end
def foundrylaw05_empty.f (k : Nat) (a0 : ByteArray) : Option (Bool) := foundrylaw05_empty.l0 k a0 0
theorem foundrylaw05_empty.mono_l : ∀ k, (∀ y0 y1, LeO (foundrylaw05_empty.l0 k y0 y1) (foundrylaw05_empty.l0 (k + 1) y0 y1)) ∧ (∀ y0 y1 y2, LeO (foundrylaw05_empty.j1 k y0 y1 y2) (foundrylaw05_empty.j1 (k + 1) y0 y1 y2)) ∧ (∀ y0 y1, LeO (foundrylaw05_empty.l1 k y0 y1) (foundrylaw05_empty.l1 (k + 1) y0 y1))
  | 0 => ⟨fun _ _ r h => by simp [foundrylaw05_empty.l0] at h, fun _ _ _ r h => by simp [foundrylaw05_empty.j1] at h, fun _ _ r h => by simp [foundrylaw05_empty.l1] at h⟩
  | k + 1 => by
    obtain ⟨ih0, ih1, ih2⟩ := foundrylaw05_empty.mono_l k
    refine ⟨?_, ?_, ?_⟩
    · intro y0 y1
      unfold foundrylaw05_empty.l0
      repeat' first
      | (with_reducible apply ih0)
      | (with_reducible apply ih1)
      | (with_reducible apply ih2)
      | (with_reducible exact LeO.refl _)
      | (with_reducible exact LeO.none _)
      | (with_reducible refine LeO.ite ?_ ?_)
      | (with_reducible refine LeO.bind ?_ (fun _ => ?_))
      | exact LeO.none _
      | refine LeO.ite ?_ ?_
      | refine LeO.bind ?_ (fun _ => ?_)
    · intro y0 y1 y2
      unfold foundrylaw05_empty.j1
      repeat' first
      | (with_reducible apply ih0)
      | (with_reducible apply ih1)
      | (with_reducible apply ih2)
      | (with_reducible exact LeO.refl _)
      | (with_reducible exact LeO.none _)
      | (with_reducible refine LeO.ite ?_ ?_)
      | (with_reducible refine LeO.bind ?_ (fun _ => ?_))
      | exact LeO.none _
      | refine LeO.ite ?_ ?_
      | refine LeO.bind ?_ (fun _ => ?_)
    · intro y0 y1
      unfold foundrylaw05_empty.l1
      repeat' first
      | (with_reducible apply ih0)
      | (with_reducible apply ih1)
      | (with_reducible apply ih2)
      | (with_reducible exact LeO.refl _)
      | (with_reducible exact LeO.none _)
      | (with_reducible refine LeO.ite ?_ ?_)
      | (with_reducible refine LeO.bind ?_ (fun _ => ?_))
      | exact LeO.none _
      | refine LeO.ite ?_ ?_
      | refine LeO.bind ?_ (fun _ => ?_)
theorem foundrylaw05_empty.mono : ∀ a0 k, LeO (foundrylaw05_empty.f k a0) (foundrylaw05_empty.f (k + 1) a0) := by
  intro a0 k
  obtain ⟨ih0, ih1, ih2⟩ := foundrylaw05_empty.mono_l k
  unfold foundrylaw05_empty.f
  repeat' first
      | (with_reducible apply ih0)
      | (with_reducible apply ih1)
      | (with_reducible apply ih2)
      | (with_reducible exact LeO.refl _)
      | (with_reducible exact LeO.none _)
      | (with_reducible refine LeO.ite ?_ ?_)
      | (with_reducible refine LeO.bind ?_ (fun _ => ?_))
      | exact LeO.none _
      | refine LeO.ite ?_ ?_
      | refine LeO.bind ?_ (fun _ => ?_)
set_option maxHeartbeats 8000000 in
set_option maxRecDepth 100000 in
theorem foundrylaw05_empty.calls (k : Nat) (a0 : ByteArray) (r : Bool) (w : World) (h : foundrylaw05_empty.f k a0 = some r) :
    Calls Tryz.prog 25 #[.string a0] w fun e w' => e = .returned (.bool r) ∧ Drawn0 w w' := by
 have H : (foundrylaw05_empty.l0 k a0 0) = some r := h
 clear h
 have H' := aM H
 clear H
 go_enter Tryz.func25, Tryz.ntmps25
 go_wp2
 go_loopg [3] k (fun kq v3 w' => ∃ (x3_1 : Int), v3 = .int .i64 x3_1 ∧ Aside0 (foundrylaw05_empty.l0 kq a0 x3_1 = some r) ∧ Aside0 (kq ≤ k) ∧ Drawn0 w w')
 case atStart => exact ⟨(0), (xR), H', ⟨Nat.le_refl _⟩, by repeat (first | exact Drawn0.refl _ | apply Drawn0.step)⟩
 case round =>
  clear H'
  obtain ⟨x3_1, rfl, HA, HK1, ⟨m1, rfl⟩⟩ := hrel
  cases gk with
  | zero => exact absurd HA.out (by simp [foundrylaw05_empty.l0])
  | succ k1 =>
   have H := HA.out
   clear HA
   simp only [foundrylaw05_empty.l0] at H
   by_cases c2 : x3_1 < (a0.size : Int)
   rotate_left
   ·rw [if_neg c2] at H
    have c2b0 : decide (x3_1 < (a0.size : Int)) = false := decide_eq_false c2
    clear c2
    obtain rfl := Option.some.inj H
    go_wp2
    go_ret
    exact ⟨xR, by repeat (first | exact Drawn0.refl _ | apply Drawn0.step)⟩
   rw [if_pos c2] at H
   have c2b0 : decide (x3_1 < (a0.size : Int)) = true := decide_eq_true c2
   clear c2
   have HC3 := aM H
   clear H
   go_upto_region 4 with (fail)
   go_cut [27] (fun v27 wc => ∃ (kq : Nat) (x27_2 : Bool), v27 = .bool x27_2 ∧ Aside0 (foundrylaw05_empty.j1 kq a0 x3_1 x27_2 = some r) ∧ Aside0 (kq ≤ k1) ∧ Drawn0 w wc)
   case first =>
    have H := HC3.out
    clear HC3
    by_cases c4 : 0 ≤ x3_1
    rotate_left
    ·rw [if_neg c4] at H
     exact absurd H (by simp)
    rw [if_pos c4] at H
    have c4b0 : decide (0 ≤ x3_1) = true := decide_eq_true c4
    clear c4
    (first | rw [c4b0] | (simp only [i64_w, i32_w]; rw [c4b0]) | skip)
    by_cases c6 : (bt a0 x3_1) = 47
    rotate_left
    ·rw [if_neg c6] at H
     have c6b0 : ((bt a0 x3_1) == 47) = false := beq_eq_false_iff_ne.mpr c6
     have c6b1 : ((bt a0 x3_1) != 47) = true := bne_iff_ne.mpr c6
     have H' := aM H
     clear H
     have p5 : 0 ≤ (x3_1 : Int) := oA
     have q5 : x3_1 < (a0.size : Int) := oA
     have hx5 := bt_at a0 x3_1
     replace p5 := eq_true p5
     replace q5 := eq_true q5
     go_wp2
     go_meet
     case rel => exact ⟨_, (false), (xR), H', ⟨by have := HK1.out; omega⟩, by repeat (first | exact Drawn0.refl _ | apply Drawn0.step)⟩
    rw [if_pos c6] at H
    have c6b0 : ((bt a0 x3_1) == 47) = true := beq_iff_eq.mpr c6
    have c6b1 : ((bt a0 x3_1) != 47) = false := bne_eq_false_iff_eq.mpr c6
    clear c6
    by_cases c7 : (wrap64 (x3_1 + 1)) < (a0.size : Int)
    rotate_left
    ·rw [if_neg c7] at H
     have c7b0 : decide ((wrap64 (x3_1 + 1)) < (a0.size : Int)) = false := decide_eq_false c7
     clear c7
     have H' := aM H
     clear H
     have p5 : 0 ≤ (x3_1 : Int) := oA
     have q5 : x3_1 < (a0.size : Int) := oA
     have hx5 := bt_at a0 x3_1
     replace p5 := eq_true p5
     replace q5 := eq_true q5
     go_wp2
     go_meet
     case rel => exact ⟨_, (false), (xR), H', ⟨by have := HK1.out; omega⟩, by repeat (first | exact Drawn0.refl _ | apply Drawn0.step)⟩
    rw [if_pos c7] at H
    have c7b0 : decide ((wrap64 (x3_1 + 1)) < (a0.size : Int)) = true := decide_eq_true c7
    clear c7
    obtain ⟨ji8, hji8⟩ : ∃ j_ : Int, (wrap64 (x3_1 + 1)) = j_ := ⟨_, rfl⟩
    replace H : (if 0 ≤ (ji8) then (foundrylaw05_empty.j1 k1 a0 x3_1 ((bt a0 (ji8)) == 47)) else (none)) = some r := by first | (rw [hji8] at H; exact H) | (simp only [hji8] at H ⊢; exact H)
    (try rw [hji8] at c7b0)
    have hji8w : (IntKind.i64.wrap (x3_1 + 1)) = ji8 := (i64_w _).trans hji8
    by_cases c9 : 0 ≤ (ji8)
    rotate_left
    ·rw [if_neg c9] at H
     exact absurd H (by simp)
    rw [if_pos c9] at H
    have c9b0 : decide (0 ≤ (ji8)) = true := decide_eq_true c9
    clear c9
    have H' := aM H
    clear H
    have p5 : 0 ≤ (x3_1 : Int) := oA
    have q5 : x3_1 < (a0.size : Int) := oA
    have hx5 := bt_at a0 x3_1
    replace p5 := eq_true p5
    replace q5 := eq_true q5
    have p10 : 0 ≤ ((ji8) : Int) := oA
    have q10 : (ji8) < (a0.size : Int) := oA
    have hx10 := bt_at a0 (ji8)
    replace p10 := eq_true p10
    replace q10 := eq_true q10
    go_wp2
    go_meet
    case rel => exact ⟨_, (((bt a0 (ji8)) == 47)), (by first | rfl | (simp; done) | (simp only [← hji8] <;> (first | rfl | simp)) | (simp [*]; done)), H', ⟨by have := HK1.out; omega⟩, by repeat (first | exact Drawn0.refl _ | apply Drawn0.step)⟩
   case rest =>
    clear HC3
    (try clear p1); (try clear q1); (try clear hx1); (try clear c2); (try clear c2b0); (try clear p2); (try clear c4); (try clear c4b0); (try clear p5); (try clear q5); (try clear hx5); (try clear c6); (try clear c6b0); (try clear c6b1); (try clear p6); (try clear c7); (try clear c7b0); (try clear c9); (try clear c9b0); (try clear p10); (try clear q10); (try clear hx10); (try clear p10); (try clear p5)
    (try clear q10); (try clear q5)
    obtain ⟨kq, x27_2, rfl, HA, HJ2, ⟨mc2, rfl⟩⟩ := hcut
    cases kq with
    | zero => exact absurd HA.out (by simp [foundrylaw05_empty.j1])
    | succ kj2 =>
     have H := HA.out
     clear HA
     simp only [foundrylaw05_empty.j1] at H
     by_cases c11 : x27_2 = true
     rotate_left
     ·replace c11 := Bool.eq_false_iff.mpr c11
      subst c11
      have H1 : (if 0 ≤ x3_1 then (if x3_1 < (a0.size : Int) then ((foundrylaw05_blank.f (bt a0 x3_1)).bind fun t158 => (if t158 = true then (foundrylaw05_empty.l0 kj2 a0 (wrap64 (x3_1 + 1))) else (some false))) else (none)) else (none)) = some r := by rw [if_neg (show ¬ (false = true) by decide)] at H; exact H
      clear H
      have H := H1
      clear H1
      by_cases c16 : 0 ≤ x3_1
      rotate_left
      ·rw [if_neg c16] at H
       exact absurd H (by simp)
      rw [if_pos c16] at H
      have c16b0 : decide (0 ≤ x3_1) = true := decide_eq_true c16
      clear c16
      by_cases c17 : x3_1 < (a0.size : Int)
      rotate_left
      ·rw [if_neg c17] at H
       exact absurd H (by simp)
      rw [if_pos c17] at H
      have c17b0 : decide (x3_1 < (a0.size : Int)) = true := decide_eq_true c17
      clear c17
      replace H := Option.bind_eq_some_iff.mp H
      obtain ⟨t158, A190, H⟩ := H
      replace H : (if t158 = true then (foundrylaw05_empty.l0 kj2 a0 (wrap64 (x3_1 + 1))) else (some false)) = some r := H
      have A19 := aM A190
      clear A190
      by_cases c20 : t158 = true
      rotate_left
      ·replace c20 := Bool.eq_false_iff.mpr c20
       subst c20
       have H1 : (some false) = some r := by rw [if_neg (show ¬ (false = true) by decide)] at H; exact H
       clear H
       have H := H1
       clear H1
       obtain rfl := Option.some.inj H
       have p18 : 0 ≤ (x3_1 : Int) := oA
       have q18 : x3_1 < (a0.size : Int) := oA
       have hx18 := bt_at a0 x3_1
       replace p18 := eq_true p18
       replace q18 := eq_true q18
       go_wp2_with (first | ((with_reducible refine gate_callee (f := 52) rfl ?_); refine goesL_ (some 43) rfl rfl Tryz.func52 (by kernel_rfl) rfl #[.int .u8 (bt a0 x3_1)] rfl gA ?_; (with_reducible refine (foundrylaw05_blank.calls (bt a0 x3_1) false _ A19.out).mono ?_); rintro e w' ⟨rfl, ⟨nd, rfl⟩⟩; refine ⟨_, rfl, ?_⟩))
       go_ret
       exact ⟨xR, by repeat (first | exact Drawn0.refl _ | apply Drawn0.step)⟩
      subst c20
      have H1 : (foundrylaw05_empty.l0 kj2 a0 (wrap64 (x3_1 + 1))) = some r := by rw [if_pos rfl] at H; exact H
      clear H
      have H := H1
      clear H1
      have H' := aM H
      clear H
      have p18 : 0 ≤ (x3_1 : Int) := oA
      have q18 : x3_1 < (a0.size : Int) := oA
      have hx18 := bt_at a0 x3_1
      replace p18 := eq_true p18
      replace q18 := eq_true q18
      go_wp2_with (first | ((with_reducible refine gate_callee (f := 52) rfl ?_); refine goesL_ (some 43) rfl rfl Tryz.func52 (by kernel_rfl) rfl #[.int .u8 (bt a0 x3_1)] rfl gA ?_; (with_reducible refine (foundrylaw05_blank.calls (bt a0 x3_1) true _ A19.out).mono ?_); rintro e w' ⟨rfl, ⟨nd, rfl⟩⟩; refine ⟨_, rfl, ?_⟩))
      go_roundg kj2
      case measure => have := HK1.out; have := HJ2.out; omega
      case rel => exact ⟨(wrap64 (x3_1 + 1)), (xR), H', ⟨by have := HK1.out; have := HJ2.out; omega⟩, by repeat (first | exact Drawn0.refl _ | apply Drawn0.step)⟩
     subst c11
     have H1 : (foundrylaw05_empty.l1 kj2 a0 x3_1) = some r := by rw [if_pos rfl] at H; exact H
     clear H
     have H := H1
     clear H1
     have H' := aM H
     clear H
     go_wp2
     go_loopg [3] kj2 (fun kq v3 w' => ∃ (x3_3 : Int), v3 = .int .i64 x3_3 ∧ Aside0 (foundrylaw05_empty.l1 kq a0 x3_3 = some r) ∧ Aside0 (kq ≤ kj2) ∧ Drawn0 w w')
     case atStart => exact ⟨(x3_1), (xR), H', ⟨Nat.le_refl _⟩, by repeat (first | exact Drawn0.refl _ | apply Drawn0.step)⟩
     case round =>
      clear H'
      (try clear c1); (try clear p1); (try clear q1); (try clear hx1); (try clear c2); (try clear c2b0); (try clear p2); (try clear c4); (try clear c4b0); (try clear p5); (try clear q5); (try clear hx5); (try clear c6); (try clear c6b0); (try clear c6b1); (try clear p6); (try clear c7); (try clear c7b0); (try clear c9); (try clear c9b0); (try clear p10); (try clear q10); (try clear hx10); (try clear c11)
      (try clear p1); (try clear p10); (try clear p2); (try clear p5); (try clear p6); (try clear q1); (try clear q10); (try clear q5)
      obtain ⟨x3_3, rfl, HA, HK3, ⟨m3, rfl⟩⟩ := hrel
      cases gk with
      | zero => exact absurd HA.out (by simp [foundrylaw05_empty.l1])
      | succ k3 =>
       have H := HA.out
       clear HA
       simp only [foundrylaw05_empty.l1] at H
       by_cases c12 : x3_3 < (a0.size : Int)
       rotate_left
       ·rw [if_neg c12] at H
        have c12b0 : decide (x3_3 < (a0.size : Int)) = false := decide_eq_false c12
        clear c12
        have H' := aM H
        clear H
        go_wp2
        go_roundg k3
        case measure => have := HK1.out; have := HJ2.out; have := HK3.out; omega
        case rel => exact ⟨(wrap64 (x3_3 + 1)), (xR), H', ⟨by have := HK1.out; have := HJ2.out; have := HK3.out; omega⟩, by repeat (first | exact Drawn0.refl _ | apply Drawn0.step)⟩
       rw [if_pos c12] at H
       have c12b0 : decide (x3_3 < (a0.size : Int)) = true := decide_eq_true c12
       clear c12
       by_cases c13 : 0 ≤ x3_3
       rotate_left
       ·rw [if_neg c13] at H
        exact absurd H (by simp)
       rw [if_pos c13] at H
       have c13b0 : decide (0 ≤ x3_3) = true := decide_eq_true c13
       clear c13
       by_cases c15 : (bt a0 x3_3) = 10
       rotate_left
       ·rw [if_neg c15] at H
        have c15b0 : ((bt a0 x3_3) == 10) = false := beq_eq_false_iff_ne.mpr c15
        have c15b1 : ((bt a0 x3_3) != 10) = true := bne_iff_ne.mpr c15
        have H' := aM H
        clear H
        have p14 : 0 ≤ (x3_3 : Int) := oA
        have q14 : x3_3 < (a0.size : Int) := oA
        have hx14 := bt_at a0 x3_3
        replace p14 := eq_true p14
        replace q14 := eq_true q14
        go_wp2
        go_roundg k3
        case measure => have := HK1.out; have := HJ2.out; have := HK3.out; omega
        case rel => exact ⟨(wrap64 (x3_3 + 1)), (xR), H', ⟨by have := HK1.out; have := HJ2.out; have := HK3.out; omega⟩, by repeat (first | exact Drawn0.refl _ | apply Drawn0.step)⟩
       rw [if_pos c15] at H
       have c15b0 : ((bt a0 x3_3) == 10) = true := beq_iff_eq.mpr c15
       have c15b1 : ((bt a0 x3_3) != 10) = false := bne_eq_false_iff_eq.mpr c15
       clear c15
       have H' := aM H
       clear H
       have p14 : 0 ≤ (x3_3 : Int) := oA
       have q14 : x3_3 < (a0.size : Int) := oA
       have hx14 := bt_at a0 x3_3
       replace p14 := eq_true p14
       replace q14 := eq_true q14
       go_wp2
       go_roundg k3
       case measure => have := HK1.out; have := HJ2.out; have := HK3.out; omega
       case rel => exact ⟨(wrap64 (x3_3 + 1)), (xR), H', ⟨by have := HK1.out; have := HJ2.out; have := HK3.out; omega⟩, by repeat (first | exact Drawn0.refl _ | apply Drawn0.step)⟩
end Go.Proofs.YthifejhdmjoolaaGreatDoor.QV
