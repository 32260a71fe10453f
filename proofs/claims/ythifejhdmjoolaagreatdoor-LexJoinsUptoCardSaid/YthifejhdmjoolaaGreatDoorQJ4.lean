-- WRITTEN BY A PROGRAM OF THE SESSION (wip/myprint.sh): Lean checks it.
import Derived.Test.YthifejhdmjoolaaGreatDoorQJ0
import Derived.Test.YthifejhdmjoolaaGreatDoorQJ1
import Derived.Test.YthifejhdmjoolaaGreatDoorQJ3
namespace Go.Proofs.YthifejhdmjoolaaGreatDoor.QJ
open Go.Proofs.YthifejhdmjoolaaGreatDoorG Go.Proofs.YthifejhdmjoolaaGreatDoor.QR
attribute [local go_sem] Instr.field asAgg
open Go.RowKit Go.Proofs.YthifejhdmjoolaaGreatDoorW.PrintWords Go.Proofs.YthifejhdmjoolaaGreatDoorW.PrintLast Go.Proofs.YthifejhdmjoolaaGreatDoorW.PrintMore
attribute [local go_sem] max2_int min2_int max_two min_two max_three min_three max_four min_four   -- for this text's walks alone
set_option linter.unusedVariables false
set_option linter.unusedSimpArgs false
attribute [local go_sem high] eqA41
/-! ### foundrylaw05_alive: function 23 -/
def foundrylaw05_alive.f (k : Nat)  : Option (Bool) := (lex_Lex.f k (⟨#[108, 101, 116, 32, 120, 60, 61, 49, 46, 53, 59, 32, 47, 47, 32, 103, 111]⟩ : ByteArray)).bind fun bt145 => ((lex_Lex.f k (⟨#[97, 32, 38, 32, 98]⟩ : ByteArray)).bind fun bt150 => (if bt145.2.2 = 0 then (if (bt145.1.length : Int) = 5 then (if 0 < (bt145.1.length : Int) then (if ((rd_T44 bt145.1 0).f0) = 2 then (if 2 < (bt145.1.length : Int) then (if ((rd_T44 bt145.1 2).f1).toList = ([60, 61] : List UInt8) then (if 3 < (bt145.1.length : Int) then (if ((rd_T44 bt145.1 3).f2.f1) = 4609434218613702656 then (if bt150.2.2 = 10 then (some (bt150.2.1 == 2)) else (none)) else (none)) else (none)) else (none)) else (none)) else (none)) else (none)) else (none)) else (none)))
theorem foundrylaw05_alive.mono : ∀ k, LeO (foundrylaw05_alive.f k ) (foundrylaw05_alive.f (k + 1) ) := by
  intro  k
  unfold foundrylaw05_alive.f
  repeat' first
      | (with_reducible apply lex_Lex.mono)
      | (with_reducible exact LeO.refl _)
      | (with_reducible exact LeO.none _)
      | (with_reducible refine LeO.ite ?_ ?_)
      | (with_reducible refine LeO.bind ?_ (fun _ => ?_))
      | exact LeO.none _
      | refine LeO.ite ?_ ?_
      | refine LeO.bind ?_ (fun _ => ?_)
set_option maxHeartbeats 8000000 in
set_option maxRecDepth 100000 in
theorem foundrylaw05_alive.calls (k : Nat)  (r : Bool) (w : World) (hLaid : LaidOk w) (h : foundrylaw05_alive.f k  = some r) :
    Calls Tryz.prog 23 #[] w fun e w' => e = .returned (.bool r) ∧ Below w.heap.size w w' := by
 have HLAID := aM hLaid
 clear hLaid
 have HB := aM (Below.refl w.heap.size w)
 have H : ((lex_Lex.f k (⟨#[108, 101, 116, 32, 120, 60, 61, 49, 46, 53, 59, 32, 47, 47, 32, 103, 111]⟩ : ByteArray)).bind fun bt145 => ((lex_Lex.f k (⟨#[97, 32, 38, 32, 98]⟩ : ByteArray)).bind fun bt150 => (if bt145.2.2 = 0 then (if (bt145.1.length : Int) = 5 then (if 0 < (bt145.1.length : Int) then (if ((rd_T44 bt145.1 0).f0) = 2 then (if 2 < (bt145.1.length : Int) then (if ((rd_T44 bt145.1 2).f1).toList = ([60, 61] : List UInt8) then (if 3 < (bt145.1.length : Int) then (if ((rd_T44 bt145.1 3).f2.f1) = 4609434218613702656 then (if bt150.2.2 = 10 then (some (bt150.2.1 == 2)) else (none)) else (none)) else (none)) else (none)) else (none)) else (none)) else (none)) else (none)) else (none)))) = some r := h
 clear h
 replace H := Option.bind_eq_some_iff.mp H
 obtain ⟨⟨t145, t146, t147⟩, A10, H⟩ := H
 replace H : ((lex_Lex.f k (⟨#[97, 32, 38, 32, 98]⟩ : ByteArray)).bind fun bt150 => (if t147 = 0 then (if (t145.length : Int) = 5 then (if 0 < (t145.length : Int) then (if ((rd_T44 t145 0).f0) = 2 then (if 2 < (t145.length : Int) then (if ((rd_T44 t145 2).f1).toList = ([60, 61] : List UInt8) then (if 3 < (t145.length : Int) then (if ((rd_T44 t145 3).f2.f1) = 4609434218613702656 then (if bt150.2.2 = 10 then (some (bt150.2.1 == 2)) else (none)) else (none)) else (none)) else (none)) else (none)) else (none)) else (none)) else (none)) else (none))) = some r := H
 have A1 := aM A10
 clear A10
 replace H := Option.bind_eq_some_iff.mp H
 obtain ⟨⟨t150, t151, t152⟩, A20, H⟩ := H
 replace H : (if t147 = 0 then (if (t145.length : Int) = 5 then (if 0 < (t145.length : Int) then (if ((rd_T44 t145 0).f0) = 2 then (if 2 < (t145.length : Int) then (if ((rd_T44 t145 2).f1).toList = ([60, 61] : List UInt8) then (if 3 < (t145.length : Int) then (if ((rd_T44 t145 3).f2.f1) = 4609434218613702656 then (if t152 = 10 then (some (t151 == 2)) else (none)) else (none)) else (none)) else (none)) else (none)) else (none)) else (none)) else (none)) else (none)) = some r := H
 have A2 := aM A20
 clear A20
 by_cases c3 : t147 = 0
 rotate_left
 ·rw [if_neg c3] at H
  exact absurd H (by simp)
 rw [if_pos c3] at H
 have c3b0 : (t147 == 0) = true := beq_iff_eq.mpr c3
 have c3b1 : (t147 != 0) = false := bne_eq_false_iff_eq.mpr c3
 clear c3
 by_cases c4 : (t145.length : Int) = 5
 rotate_left
 ·rw [if_neg c4] at H
  exact absurd H (by simp)
 rw [if_pos c4] at H
 have c4b0 : ((t145.length : Int) == 5) = true := beq_iff_eq.mpr c4
 have c4b1 : ((t145.length : Int) != 5) = false := bne_eq_false_iff_eq.mpr c4
 clear c4
 by_cases c5 : 0 < (t145.length : Int)
 rotate_left
 ·rw [if_neg c5] at H
  exact absurd H (by simp)
 rw [if_pos c5] at H
 have c5b0 : decide (0 < (t145.length : Int)) = true := decide_eq_true c5
 have c5b1 : decide (0 < t145.length) = true := decide_eq_true (by omega)
 clear c5
 by_cases c6 : ((rd_T44 t145 0).f0) = 2
 rotate_left
 ·rw [if_neg c6] at H
  exact absurd H (by simp)
 rw [if_pos c6] at H
 have c6b0 : (((rd_T44 t145 0).f0) == 2) = true := beq_iff_eq.mpr c6
 have c6b1 : (((rd_T44 t145 0).f0) != 2) = false := bne_eq_false_iff_eq.mpr c6
 clear c6
 by_cases c7 : 2 < (t145.length : Int)
 rotate_left
 ·rw [if_neg c7] at H
  exact absurd H (by simp)
 rw [if_pos c7] at H
 have c7b0 : decide (2 < (t145.length : Int)) = true := decide_eq_true c7
 have c7b1 : decide (2 < t145.length) = true := decide_eq_true (by omega)
 clear c7
 by_cases c8 : ((rd_T44 t145 2).f1).toList = ([60, 61] : List UInt8)
 rotate_left
 ·rw [if_neg c8] at H
  exact absurd H (by simp)
 rw [if_pos c8] at H
 have c8b0 : (((rd_T44 t145 2).f1).toList == ([60, 61] : List UInt8)) = true := beq_iff_eq.mpr c8
 have c8b1 : (((rd_T44 t145 2).f1).toList != ([60, 61] : List UInt8)) = false := bne_eq_false_iff_eq.mpr c8
 clear c8
 by_cases c9 : 3 < (t145.length : Int)
 rotate_left
 ·rw [if_neg c9] at H
  exact absurd H (by simp)
 rw [if_pos c9] at H
 have c9b0 : decide (3 < (t145.length : Int)) = true := decide_eq_true c9
 have c9b1 : decide (3 < t145.length) = true := decide_eq_true (by omega)
 clear c9
 by_cases c10 : ((rd_T44 t145 3).f2.f1) = 4609434218613702656
 rotate_left
 ·rw [if_neg c10] at H
  exact absurd H (by simp)
 rw [if_pos c10] at H
 have c10b0 : (((rd_T44 t145 3).f2.f1) == 4609434218613702656) = true := beq_iff_eq.mpr c10
 have c10b1 : (((rd_T44 t145 3).f2.f1) != 4609434218613702656) = false := bne_eq_false_iff_eq.mpr c10
 clear c10
 by_cases c11 : t152 = 10
 rotate_left
 ·rw [if_neg c11] at H
  exact absurd H (by simp)
 rw [if_pos c11] at H
 have c11b0 : (t152 == 10) = true := beq_iff_eq.mpr c11
 have c11b1 : (t152 != 10) = false := bne_eq_false_iff_eq.mpr c11
 clear c11
 obtain rfl := Option.some.inj H
 go_enter Tryz.func23, Tryz.ntmps23
 go_wp2_with (first | ((with_reducible refine gate_callee (f := 21) rfl ?_); refine goesL_ (some 8) rfl rfl Tryz.func21 (by kernel_rfl) rfl #[.string (⟨#[108, 101, 116, 32, 120, 60, 61, 49, 46, 53, 59, 32, 47, 47, 32, 103, 111]⟩ : ByteArray)] rfl gA ?_; (with_reducible refine (lex_Lex.calls k (⟨#[108, 101, 116, 32, 120, 60, 61, 49, 46, 53, 59, 32, 47, 47, 32, 103, 111]⟩ : ByteArray) t145 t146 t147 _ ?side1 A1.out).mono ?_); (case side1 => exact LaidOk.below (hB) HLAID.out); rintro e w12 ⟨v148, rfl, ho0, hb⟩; refine ⟨_, rfl, ?_⟩; have n0_ := aM (Kd.R_lower ho0 (below_size (hB))); have n1_ := aM (below_step (hB) hb); clear HB; have HO149 := n0_; have HB := n1_; clear n0_ n1_; (try clear hb); (try clear ho0)) | ((with_reducible refine gate_callee (f := 21) rfl ?_); refine goesL_ (some 13) rfl rfl Tryz.func21 (by kernel_rfl) rfl #[.string (⟨#[97, 32, 38, 32, 98]⟩ : ByteArray)] rfl gA ?_; (with_reducible refine (lex_Lex.calls k (⟨#[97, 32, 38, 32, 98]⟩ : ByteArray) t150 t151 t152 _ ?side1 A2.out).mono ?_); (case side1 => exact LaidOk.below (hB) HLAID.out); rintro e w13 ⟨v153, rfl, ho0, hb⟩; refine ⟨_, rfl, ?_⟩; have n0_ := aM (Kd.R_elder' (by (with_reducible repeat (first | apply Kd.R_alloc | apply Kd.R_drewN | apply Kd.R_drew)); exact HO149.out) (Kd.R_base ho0) hb); have n1_ := aM (Kd.R_lower (Kd.R_new' ho0 (Kd.R_lt (by (with_reducible repeat (first | apply Kd.R_alloc | apply Kd.R_drewN | apply Kd.R_drew)); exact HO149.out))) (below_size (hB))); have n2_ := aM (below_step (hB) hb); clear HO149; clear HB; have HO149 := n0_; have HO154 := n1_; have HB := n2_; clear n0_ n1_ n2_; (try clear hb); (try clear ho0); obtain ⟨Ao14, co14, eo14⟩ := Kd.R_slice HO149.out; subst eo14; have p155 : 0 ≤ (0 : Int) := (by omega); have q155 : 0 < (t145.length : Int) := oA; obtain ⟨ad155, e155, hx155_0, hx155_1, hx155_2, hx155_3, hx155_4⟩ := at_T44 (Kd.R_reads' HO149.out).2.2 0 p155 q155; cases e155; have qi155 : (0 < t145.length) = True := eq_true (by omega); (try rw [show ((0 : Int)).toNat = 0 from rfl] at hx155_0); (try rw [show 0 * 5 = 0 from rfl] at hx155_0); (try rw [Addr.add_zero'] at hx155_0); (try rw [show ((0 : Int)).toNat = 0 from rfl] at hx155_1); (try rw [show 0 * 5 = 0 from rfl] at hx155_1); (try rw [Addr.add_zero'] at hx155_1); (try rw [show ((0 : Int)).toNat = 0 from rfl] at hx155_2); (try rw [show 0 * 5 = 0 from rfl] at hx155_2); (try rw [Addr.add_zero'] at hx155_2); (try rw [show ((0 : Int)).toNat = 0 from rfl] at hx155_3); (try rw [show 0 * 5 = 0 from rfl] at hx155_3); (try rw [Addr.add_zero'] at hx155_3); (try rw [show ((0 : Int)).toNat = 0 from rfl] at hx155_4); (try rw [show 0 * 5 = 0 from rfl] at hx155_4); (try rw [Addr.add_zero'] at hx155_4); replace p155 := eq_true p155; replace q155 := eq_true q155; have p156 : 0 ≤ (2 : Int) := (by omega); have q156 : 2 < (t145.length : Int) := oA; obtain ⟨ad156, e156, hx156_0, hx156_1, hx156_2, hx156_3, hx156_4⟩ := at_T44 (Kd.R_reads' HO149.out).2.2 2 p156 q156; obtain rfl : ad155 = ad156 := (by injection e156); (try simp only [show (2 : Int).toNat = 2 from rfl, Nat.reduceMul, Nat.reduceEqDiff, Go.Addr.add, ↓reduceIte] at hx156_0); (try simp only [show (2 : Int).toNat = 2 from rfl, Nat.reduceMul, Nat.reduceEqDiff, Go.Addr.add, ↓reduceIte] at hx156_1); (try simp only [show (2 : Int).toNat = 2 from rfl, Nat.reduceMul, Nat.reduceEqDiff, Go.Addr.add, ↓reduceIte] at hx156_2); (try simp only [show (2 : Int).toNat = 2 from rfl, Nat.reduceMul, Nat.reduceEqDiff, Go.Addr.add, ↓reduceIte] at hx156_3); (try simp only [show (2 : Int).toNat = 2 from rfl, Nat.reduceMul, Nat.reduceEqDiff, Go.Addr.add, ↓reduceIte] at hx156_4); have qi156 : (2 < t145.length) = True := eq_true (by omega); (try rw [show ((2 : Int)).toNat = 2 from rfl] at hx156_0); (try rw [show 2 * 5 = 10 from rfl] at hx156_0); (try rw [show ((2 : Int)).toNat = 2 from rfl] at hx156_1); (try rw [show 2 * 5 = 10 from rfl] at hx156_1); (try rw [show ((2 : Int)).toNat = 2 from rfl] at hx156_2); (try rw [show 2 * 5 = 10 from rfl] at hx156_2); (try rw [show ((2 : Int)).toNat = 2 from rfl] at hx156_3); (try rw [show 2 * 5 = 10 from rfl] at hx156_3); (try rw [show ((2 : Int)).toNat = 2 from rfl] at hx156_4); (try rw [show 2 * 5 = 10 from rfl] at hx156_4); replace p156 := eq_true p156; replace q156 := eq_true q156; have p157 : 0 ≤ (3 : Int) := (by omega); have q157 : 3 < (t145.length : Int) := oA; obtain ⟨ad157, e157, hx157_0, hx157_1, hx157_2, hx157_3, hx157_4⟩ := at_T44 (Kd.R_reads' HO149.out).2.2 3 p157 q157; obtain rfl : ad155 = ad157 := (by injection e157); (try simp only [show (3 : Int).toNat = 3 from rfl, Nat.reduceMul, Nat.reduceEqDiff, Go.Addr.add, ↓reduceIte] at hx157_0); (try simp only [show (3 : Int).toNat = 3 from rfl, Nat.reduceMul, Nat.reduceEqDiff, Go.Addr.add, ↓reduceIte] at hx157_1); (try simp only [show (3 : Int).toNat = 3 from rfl, Nat.reduceMul, Nat.reduceEqDiff, Go.Addr.add, ↓reduceIte] at hx157_2); (try simp only [show (3 : Int).toNat = 3 from rfl, Nat.reduceMul, Nat.reduceEqDiff, Go.Addr.add, ↓reduceIte] at hx157_3); (try simp only [show (3 : Int).toNat = 3 from rfl, Nat.reduceMul, Nat.reduceEqDiff, Go.Addr.add, ↓reduceIte] at hx157_4); have qi157 : (3 < t145.length) = True := eq_true (by omega); (try rw [show ((3 : Int)).toNat = 3 from rfl] at hx157_0); (try rw [show 3 * 5 = 15 from rfl] at hx157_0); (try rw [show ((3 : Int)).toNat = 3 from rfl] at hx157_1); (try rw [show 3 * 5 = 15 from rfl] at hx157_1); (try rw [show ((3 : Int)).toNat = 3 from rfl] at hx157_2); (try rw [show 3 * 5 = 15 from rfl] at hx157_2); (try rw [show ((3 : Int)).toNat = 3 from rfl] at hx157_3); (try rw [show 3 * 5 = 15 from rfl] at hx157_3); (try rw [show ((3 : Int)).toNat = 3 from rfl] at hx157_4); (try rw [show 3 * 5 = 15 from rfl] at hx157_4); replace p157 := eq_true p157; replace q157 := eq_true q157))
 go_ret
 exact ⟨by first | rfl | (simp [errW_none, errW_some] <;> rfl) | (simp [*, errW_none, errW_some] <;> rfl), hB⟩
/-! ### lex_Same_1: function 54 -/
def lex_Same_1.f (a0_0 : Int) (a0_1 : ByteArray) (a0_2 : Int) (a0_3 : Int) (a0_4 : Int) (a1_0 : Int) (a1_1 : ByteArray) (a1_2 : Int) (a1_3 : Int) (a1_4 : Int) : Option (Bool) := if a0_0 = a1_0 then (if a0_1.toList = a1_1.toList then (some (a0_2 == a1_2 && (a0_3 == a1_3))) else (some false)) else (some false)
set_option maxHeartbeats 8000000 in
set_option maxRecDepth 100000 in
theorem lex_Same_1.calls (a0_0 : Int) (a0_1 : ByteArray) (a0_2 : Int) (a0_3 : Int) (a0_4 : Int) (a1_0 : Int) (a1_1 : ByteArray) (a1_2 : Int) (a1_3 : Int) (a1_4 : Int) (r : Bool) (w : World) (h : lex_Same_1.f a0_0 a0_1 a0_2 a0_3 a0_4 a1_0 a1_1 a1_2 a1_3 a1_4 = some r) :
    Calls Tryz.prog 54 #[.agg #[.int .i64 a0_0, .string a0_1, .int .i64 a0_2, .int .u64 a0_3, .int .i64 a0_4], .agg #[.int .i64 a1_0, .string a1_1, .int .i64 a1_2, .int .u64 a1_3, .int .i64 a1_4]] w fun e w' => e = .returned (.bool r) ∧ Below w.heap.size w w' := by
 have hu44 := Tryz.underlying44
 have hu41 := Tryz.underlying41
 have HB := aM (Below.refl w.heap.size w)
 have H : (if a0_0 = a1_0 then (if a0_1.toList = a1_1.toList then (some (a0_2 == a1_2 && (a0_3 == a1_3))) else (some false)) else (some false)) = some r := h
 clear h
 by_cases c3 : a0_0 = a1_0
 rotate_left
 ·rw [if_neg c3] at H
  have c3b0 : (a0_0 == a1_0) = false := beq_eq_false_iff_ne.mpr c3
  have c3b1 : (a0_0 != a1_0) = true := bne_iff_ne.mpr c3
  obtain rfl := Option.some.inj H
  go_enter Tryz.func54, Tryz.ntmps54
  go_wp2_with (first | ((with_reducible refine gate_dst (N := 2) rfl ?_); refine box_event ?hg (N := 2) ?hd (cs := #[.int .i64 a0_0, .string a0_1, .int .i64 a0_2, .int .u64 a0_3, .int .i64 a0_4]) (t := 44) ?hr ?_; (case hd => rfl); (case hg => rfl); (case hr => first | (go_simp; done) | (go_simp; rfl)); intro gb158 hg w15 hbox hb; have n0_ := aM (below_step (hB) hb); have n1_ := aM (hbox); have n2_ := aM ((by rw [hg]; exact (below_size (hB)) : w.heap.size ≤ gb158)); have n3_ := aM ((by rw [hg]; exact (below_size (hB)) : w.heap.size ≤ gb158)); clear HB; have HB := n0_; have BK158 := n1_; have GW158 := n2_; have GE158 := n3_; clear n0_ n1_ n2_ n3_; clear hb hbox hg) | ((with_reducible refine gate_dst (N := 3) rfl ?_); refine box_event ?hg (N := 3) ?hd (cs := #[.int .i64 a1_0, .string a1_1, .int .i64 a1_2, .int .u64 a1_3, .int .i64 a1_4]) (t := 44) ?hr ?_; (case hd => rfl); (case hg => rfl); (case hr => first | (go_simp; done) | (go_simp; rfl)); intro gb159 hg w16 hbox hb; have n0_ := aM (blk_below (g := gb158) (o := .cells #[.int .i64 a0_0, .string a0_1, .int .i64 a0_2, .int .u64 a0_3, .int .i64 a0_4] 44 (0, 0)) (by (with_reducible repeat (first | refine zN ?_ _ | refine zD ?_ | refine zA ?_ _)); exact BK158.out) hb); have n1_ := aM (below_step (by repeat (first | (with_reducible first | exact HB.out | apply below_alloc | apply pw_below_drewN | apply below_drew1 | refine below_set ?_ GE158.out) | exact HB.out)) hb); have n2_ := aM (hbox); have n3_ := aM ((by rw [hg]; exact (below_size (by repeat (first | (with_reducible first | exact HB.out | apply below_alloc | apply pw_below_drewN | apply below_drew1 | refine below_set ?_ GE158.out) | exact HB.out))) : w.heap.size ≤ gb159)); have n4_ := aM ((by rw [hg]; exact (below_size (by repeat (first | (with_reducible first | exact HB.out | apply below_alloc | apply pw_below_drewN | apply below_drew1 | refine below_set ?_ GE158.out) | exact HB.out))) : w.heap.size ≤ gb159)); have n5_ := aM ((by rw [hg]; exact Nat.ne_of_lt (blk_lt (g := gb158) (o := .cells #[.int .i64 a0_0, .string a0_1, .int .i64 a0_2, .int .u64 a0_3, .int .i64 a0_4] 44 (0, 0)) (by (with_reducible repeat (first | refine zN ?_ _ | refine zD ?_ | refine zA ?_ _)); exact BK158.out)) : gb158 ≠ gb159)); have n6_ := aM ((by rw [hg]; exact Nat.ne_of_gt (blk_lt (g := gb158) (o := .cells #[.int .i64 a0_0, .string a0_1, .int .i64 a0_2, .int .u64 a0_3, .int .i64 a0_4] 44 (0, 0)) (by (with_reducible repeat (first | refine zN ?_ _ | refine zD ?_ | refine zA ?_ _)); exact BK158.out)) : gb159 ≠ gb158)); clear BK158; clear HB; have BK158 := n0_; have HB := n1_; have BK159 := n2_; have GW159 := n3_; have GE159 := n4_; have NB158_159 := n5_; have NB159_158 := n6_; clear n0_ n1_ n2_ n3_ n4_ n5_ n6_; clear hb hbox hg; have hnb17 := NB158_159.out; have hnc17 := NB159_158.out; have hcz18_0 : w16.cell? ⟨gb158, 0, none⟩ = some (.int .i64 a0_0) := (zC BK158.out 0).trans rfl; have hcz18_1 : w16.cell? ⟨gb158, 1, none⟩ = some (.string a0_1) := (zC BK158.out 1).trans rfl; have hcz18_2 : w16.cell? ⟨gb158, 2, none⟩ = some (.int .i64 a0_2) := (zC BK158.out 2).trans rfl; have hcz18_3 : w16.cell? ⟨gb158, 3, none⟩ = some (.int .u64 a0_3) := (zC BK158.out 3).trans rfl; have hcz18_4 : w16.cell? ⟨gb158, 4, none⟩ = some (.int .i64 a0_4) := (zC BK158.out 4).trans rfl; have hfz18_0 := zF BK158.out 0; have hfz18_1 := zF BK158.out 1; have hfz18_2 := zF BK158.out 2; have hfz18_3 := zF BK158.out 3; have hfz18_4 := zF BK158.out 4; have hcz19_0 : w16.cell? ⟨gb159, 0, none⟩ = some (.int .i64 a1_0) := (zC BK159.out 0).trans rfl; have hcz19_1 : w16.cell? ⟨gb159, 1, none⟩ = some (.string a1_1) := (zC BK159.out 1).trans rfl; have hcz19_2 : w16.cell? ⟨gb159, 2, none⟩ = some (.int .i64 a1_2) := (zC BK159.out 2).trans rfl; have hcz19_3 : w16.cell? ⟨gb159, 3, none⟩ = some (.int .u64 a1_3) := (zC BK159.out 3).trans rfl; have hcz19_4 : w16.cell? ⟨gb159, 4, none⟩ = some (.int .i64 a1_4) := (zC BK159.out 4).trans rfl; have hfz19_0 := zF BK159.out 0; have hfz19_1 := zF BK159.out 1; have hfz19_2 := zF BK159.out 2; have hfz19_3 := zF BK159.out 3; have hfz19_4 := zF BK159.out 4))
  go_ret
  exact ⟨by first | rfl | (simp [errW_none, errW_some] <;> rfl) | (simp [*, errW_none, errW_some] <;> rfl), by repeat (first | (with_reducible first | exact HB.out | apply below_alloc | apply pw_below_drewN | apply below_drew1 | refine below_set ?_ GE158.out | refine below_set ?_ GE159.out) | exact HB.out)⟩
 rw [if_pos c3] at H
 have c3b0 : (a0_0 == a1_0) = true := beq_iff_eq.mpr c3
 have c3b1 : (a0_0 != a1_0) = false := bne_eq_false_iff_eq.mpr c3
 clear c3
 by_cases c4 : a0_1.toList = a1_1.toList
 ·rw [if_pos c4] at H
  have c4b0 : (a0_1.toList == a1_1.toList) = true := beq_iff_eq.mpr c4
  have c4b1 : (a0_1.toList != a1_1.toList) = false := bne_eq_false_iff_eq.mpr c4
  clear c4
  obtain rfl := Option.some.inj H
  go_enter Tryz.func54, Tryz.ntmps54
  go_wp2_with (first | ((with_reducible refine gate_dst (N := 2) rfl ?_); refine box_event ?hg (N := 2) ?hd (cs := #[.int .i64 a0_0, .string a0_1, .int .i64 a0_2, .int .u64 a0_3, .int .i64 a0_4]) (t := 44) ?hr ?_; (case hd => rfl); (case hg => rfl); (case hr => first | (go_simp; done) | (go_simp; rfl)); intro gb158 hg w5 hbox hb; have n0_ := aM (below_step (hB) hb); have n1_ := aM (hbox); have n2_ := aM ((by rw [hg]; exact (below_size (hB)) : w.heap.size ≤ gb158)); have n3_ := aM ((by rw [hg]; exact (below_size (hB)) : w.heap.size ≤ gb158)); clear HB; have HB := n0_; have BK158 := n1_; have GW158 := n2_; have GE158 := n3_; clear n0_ n1_ n2_ n3_; clear hb hbox hg) | ((with_reducible refine gate_dst (N := 3) rfl ?_); refine box_event ?hg (N := 3) ?hd (cs := #[.int .i64 a1_0, .string a1_1, .int .i64 a1_2, .int .u64 a1_3, .int .i64 a1_4]) (t := 44) ?hr ?_; (case hd => rfl); (case hg => rfl); (case hr => first | (go_simp; done) | (go_simp; rfl)); intro gb159 hg w6 hbox hb; have n0_ := aM (blk_below (g := gb158) (o := .cells #[.int .i64 a0_0, .string a0_1, .int .i64 a0_2, .int .u64 a0_3, .int .i64 a0_4] 44 (0, 0)) (by (with_reducible repeat (first | refine zN ?_ _ | refine zD ?_ | refine zA ?_ _)); exact BK158.out) hb); have n1_ := aM (below_step (by repeat (first | (with_reducible first | exact HB.out | apply below_alloc | apply pw_below_drewN | apply below_drew1 | refine below_set ?_ GE158.out) | exact HB.out)) hb); have n2_ := aM (hbox); have n3_ := aM ((by rw [hg]; exact (below_size (by repeat (first | (with_reducible first | exact HB.out | apply below_alloc | apply pw_below_drewN | apply below_drew1 | refine below_set ?_ GE158.out) | exact HB.out))) : w.heap.size ≤ gb159)); have n4_ := aM ((by rw [hg]; exact (below_size (by repeat (first | (with_reducible first | exact HB.out | apply below_alloc | apply pw_below_drewN | apply below_drew1 | refine below_set ?_ GE158.out) | exact HB.out))) : w.heap.size ≤ gb159)); have n5_ := aM ((by rw [hg]; exact Nat.ne_of_lt (blk_lt (g := gb158) (o := .cells #[.int .i64 a0_0, .string a0_1, .int .i64 a0_2, .int .u64 a0_3, .int .i64 a0_4] 44 (0, 0)) (by (with_reducible repeat (first | refine zN ?_ _ | refine zD ?_ | refine zA ?_ _)); exact BK158.out)) : gb158 ≠ gb159)); have n6_ := aM ((by rw [hg]; exact Nat.ne_of_gt (blk_lt (g := gb158) (o := .cells #[.int .i64 a0_0, .string a0_1, .int .i64 a0_2, .int .u64 a0_3, .int .i64 a0_4] 44 (0, 0)) (by (with_reducible repeat (first | refine zN ?_ _ | refine zD ?_ | refine zA ?_ _)); exact BK158.out)) : gb159 ≠ gb158)); clear BK158; clear HB; have BK158 := n0_; have HB := n1_; have BK159 := n2_; have GW159 := n3_; have GE159 := n4_; have NB158_159 := n5_; have NB159_158 := n6_; clear n0_ n1_ n2_ n3_ n4_ n5_ n6_; clear hb hbox hg; have hnb7 := NB158_159.out; have hnc7 := NB159_158.out; have hcz8_0 : w6.cell? ⟨gb158, 0, none⟩ = some (.int .i64 a0_0) := (zC BK158.out 0).trans rfl; have hcz8_1 : w6.cell? ⟨gb158, 1, none⟩ = some (.string a0_1) := (zC BK158.out 1).trans rfl; have hcz8_2 : w6.cell? ⟨gb158, 2, none⟩ = some (.int .i64 a0_2) := (zC BK158.out 2).trans rfl; have hcz8_3 : w6.cell? ⟨gb158, 3, none⟩ = some (.int .u64 a0_3) := (zC BK158.out 3).trans rfl; have hcz8_4 : w6.cell? ⟨gb158, 4, none⟩ = some (.int .i64 a0_4) := (zC BK158.out 4).trans rfl; have hfz8_0 := zF BK158.out 0; have hfz8_1 := zF BK158.out 1; have hfz8_2 := zF BK158.out 2; have hfz8_3 := zF BK158.out 3; have hfz8_4 := zF BK158.out 4; have hcz9_0 : w6.cell? ⟨gb159, 0, none⟩ = some (.int .i64 a1_0) := (zC BK159.out 0).trans rfl; have hcz9_1 : w6.cell? ⟨gb159, 1, none⟩ = some (.string a1_1) := (zC BK159.out 1).trans rfl; have hcz9_2 : w6.cell? ⟨gb159, 2, none⟩ = some (.int .i64 a1_2) := (zC BK159.out 2).trans rfl; have hcz9_3 : w6.cell? ⟨gb159, 3, none⟩ = some (.int .u64 a1_3) := (zC BK159.out 3).trans rfl; have hcz9_4 : w6.cell? ⟨gb159, 4, none⟩ = some (.int .i64 a1_4) := (zC BK159.out 4).trans rfl; have hfz9_0 := zF BK159.out 0; have hfz9_1 := zF BK159.out 1; have hfz9_2 := zF BK159.out 2; have hfz9_3 := zF BK159.out 3; have hfz9_4 := zF BK159.out 4))
  go_ret
  exact ⟨by first | rfl | (simp [errW_none, errW_some] <;> rfl) | (simp [*, errW_none, errW_some] <;> rfl), by repeat (first | (with_reducible first | exact HB.out | apply below_alloc | apply pw_below_drewN | apply below_drew1 | refine below_set ?_ GE158.out | refine below_set ?_ GE159.out) | exact HB.out)⟩
 rw [if_neg c4] at H
 have c4b0 : (a0_1.toList == a1_1.toList) = false := beq_eq_false_iff_ne.mpr c4
 have c4b1 : (a0_1.toList != a1_1.toList) = true := bne_iff_ne.mpr c4
 obtain rfl := Option.some.inj H
 go_enter Tryz.func54, Tryz.ntmps54
 go_wp2_with (first | ((with_reducible refine gate_dst (N := 2) rfl ?_); refine box_event ?hg (N := 2) ?hd (cs := #[.int .i64 a0_0, .string a0_1, .int .i64 a0_2, .int .u64 a0_3, .int .i64 a0_4]) (t := 44) ?hr ?_; (case hd => rfl); (case hg => rfl); (case hr => first | (go_simp; done) | (go_simp; rfl)); intro gb158 hg w10 hbox hb; have n0_ := aM (below_step (hB) hb); have n1_ := aM (hbox); have n2_ := aM ((by rw [hg]; exact (below_size (hB)) : w.heap.size ≤ gb158)); have n3_ := aM ((by rw [hg]; exact (below_size (hB)) : w.heap.size ≤ gb158)); clear HB; have HB := n0_; have BK158 := n1_; have GW158 := n2_; have GE158 := n3_; clear n0_ n1_ n2_ n3_; clear hb hbox hg) | ((with_reducible refine gate_dst (N := 3) rfl ?_); refine box_event ?hg (N := 3) ?hd (cs := #[.int .i64 a1_0, .string a1_1, .int .i64 a1_2, .int .u64 a1_3, .int .i64 a1_4]) (t := 44) ?hr ?_; (case hd => rfl); (case hg => rfl); (case hr => first | (go_simp; done) | (go_simp; rfl)); intro gb159 hg w11 hbox hb; have n0_ := aM (blk_below (g := gb158) (o := .cells #[.int .i64 a0_0, .string a0_1, .int .i64 a0_2, .int .u64 a0_3, .int .i64 a0_4] 44 (0, 0)) (by (with_reducible repeat (first | refine zN ?_ _ | refine zD ?_ | refine zA ?_ _)); exact BK158.out) hb); have n1_ := aM (below_step (by repeat (first | (with_reducible first | exact HB.out | apply below_alloc | apply pw_below_drewN | apply below_drew1 | refine below_set ?_ GE158.out) | exact HB.out)) hb); have n2_ := aM (hbox); have n3_ := aM ((by rw [hg]; exact (below_size (by repeat (first | (with_reducible first | exact HB.out | apply below_alloc | apply pw_below_drewN | apply below_drew1 | refine below_set ?_ GE158.out) | exact HB.out))) : w.heap.size ≤ gb159)); have n4_ := aM ((by rw [hg]; exact (below_size (by repeat (first | (with_reducible first | exact HB.out | apply below_alloc | apply pw_below_drewN | apply below_drew1 | refine below_set ?_ GE158.out) | exact HB.out))) : w.heap.size ≤ gb159)); have n5_ := aM ((by rw [hg]; exact Nat.ne_of_lt (blk_lt (g := gb158) (o := .cells #[.int .i64 a0_0, .string a0_1, .int .i64 a0_2, .int .u64 a0_3, .int .i64 a0_4] 44 (0, 0)) (by (with_reducible repeat (first | refine zN ?_ _ | refine zD ?_ | refine zA ?_ _)); exact BK158.out)) : gb158 ≠ gb159)); have n6_ := aM ((by rw [hg]; exact Nat.ne_of_gt (blk_lt (g := gb158) (o := .cells #[.int .i64 a0_0, .string a0_1, .int .i64 a0_2, .int .u64 a0_3, .int .i64 a0_4] 44 (0, 0)) (by (with_reducible repeat (first | refine zN ?_ _ | refine zD ?_ | refine zA ?_ _)); exact BK158.out)) : gb159 ≠ gb158)); clear BK158; clear HB; have BK158 := n0_; have HB := n1_; have BK159 := n2_; have GW159 := n3_; have GE159 := n4_; have NB158_159 := n5_; have NB159_158 := n6_; clear n0_ n1_ n2_ n3_ n4_ n5_ n6_; clear hb hbox hg; have hnb12 := NB158_159.out; have hnc12 := NB159_158.out; have hcz13_0 : w11.cell? ⟨gb158, 0, none⟩ = some (.int .i64 a0_0) := (zC BK158.out 0).trans rfl; have hcz13_1 : w11.cell? ⟨gb158, 1, none⟩ = some (.string a0_1) := (zC BK158.out 1).trans rfl; have hcz13_2 : w11.cell? ⟨gb158, 2, none⟩ = some (.int .i64 a0_2) := (zC BK158.out 2).trans rfl; have hcz13_3 : w11.cell? ⟨gb158, 3, none⟩ = some (.int .u64 a0_3) := (zC BK158.out 3).trans rfl; have hcz13_4 : w11.cell? ⟨gb158, 4, none⟩ = some (.int .i64 a0_4) := (zC BK158.out 4).trans rfl; have hfz13_0 := zF BK158.out 0; have hfz13_1 := zF BK158.out 1; have hfz13_2 := zF BK158.out 2; have hfz13_3 := zF BK158.out 3; have hfz13_4 := zF BK158.out 4; have hcz14_0 : w11.cell? ⟨gb159, 0, none⟩ = some (.int .i64 a1_0) := (zC BK159.out 0).trans rfl; have hcz14_1 : w11.cell? ⟨gb159, 1, none⟩ = some (.string a1_1) := (zC BK159.out 1).trans rfl; have hcz14_2 : w11.cell? ⟨gb159, 2, none⟩ = some (.int .i64 a1_2) := (zC BK159.out 2).trans rfl; have hcz14_3 : w11.cell? ⟨gb159, 3, none⟩ = some (.int .u64 a1_3) := (zC BK159.out 3).trans rfl; have hcz14_4 : w11.cell? ⟨gb159, 4, none⟩ = some (.int .i64 a1_4) := (zC BK159.out 4).trans rfl; have hfz14_0 := zF BK159.out 0; have hfz14_1 := zF BK159.out 1; have hfz14_2 := zF BK159.out 2; have hfz14_3 := zF BK159.out 3; have hfz14_4 := zF BK159.out 4))
 go_ret
 exact ⟨by first | rfl | (simp [errW_none, errW_some] <;> rfl) | (simp [*, errW_none, errW_some] <;> rfl), by repeat (first | (with_reducible first | exact HB.out | apply below_alloc | apply pw_below_drewN | apply below_drew1 | refine below_set ?_ GE158.out | refine below_set ?_ GE159.out) | exact HB.out)⟩
/-! ### slices_EqualFunc_of_54: function 227 -/
def slices_EqualFunc_of_54.l0 : Nat → List (S44) → List (S44) → Int → Int → Option (Bool)
  | 0, _, _, _, _ => none
  | k + 1, x1, x15, x16, x17 => if x17 < x16 then (if 0 ≤ x17 then (if x17 < (x15.length : Int) then (if x17 < (x1.length : Int) then ((lex_Same_1.f ((rd_T44 x15 x17).f0) ((rd_T44 x15 x17).f1) ((rd_T44 x15 x17).f2.f0) ((rd_T44 x15 x17).f2.f1) ((rd_T44 x15 x17).f3) ((rd_T44 x1 x17).f0) ((rd_T44 x1 x17).f1) ((rd_T44 x1 x17).f2.f0) ((rd_T44 x1 x17).f2.f1) ((rd_T44 x1 x17).f3)).bind fun t164 => (if t164 = true then (slices_EqualFunc_of_54.l0 k x1 x15 x16 (wrap64 (x17 + 1))) else (some false))) else (none)) else (none)) else (none)) else (some true)
def slices_EqualFunc_of_54.f (k : Nat) (l0 : List (S44)) (l1 : List (S44))  : Option (Bool) := if (l0.length : Int) = (l1.length : Int) then (slices_EqualFunc_of_54.l0 k l1 l0 (l0.length : Int) 0) else (some false)
theorem slices_EqualFunc_of_54.mono_l : ∀ k, (∀ y0 y1 y2 y3, LeO (slices_EqualFunc_of_54.l0 k y0 y1 y2 y3) (slices_EqualFunc_of_54.l0 (k + 1) y0 y1 y2 y3))
  | 0 => fun _ _ _ _ r h => by simp [slices_EqualFunc_of_54.l0] at h
  | k + 1 => by
    have ih0 := slices_EqualFunc_of_54.mono_l k
    · intro y0 y1 y2 y3
      unfold slices_EqualFunc_of_54.l0
      repeat' first
      | (with_reducible apply ih0)
      | (with_reducible exact LeO.refl _)
      | (with_reducible exact LeO.none _)
      | (with_reducible refine LeO.ite ?_ ?_)
      | (with_reducible refine LeO.bind ?_ (fun _ => ?_))
      | exact LeO.none _
      | refine LeO.ite ?_ ?_
      | refine LeO.bind ?_ (fun _ => ?_)
theorem slices_EqualFunc_of_54.mono : ∀ a0 a1 k, LeO (slices_EqualFunc_of_54.f k a0 a1) (slices_EqualFunc_of_54.f (k + 1) a0 a1) := by
  intro a0 a1 k
  have ih0 := slices_EqualFunc_of_54.mono_l k
  unfold slices_EqualFunc_of_54.f
  repeat' first
      | (with_reducible apply ih0)
      | (with_reducible exact LeO.refl _)
      | (with_reducible exact LeO.none _)
      | (with_reducible refine LeO.ite ?_ ?_)
      | (with_reducible refine LeO.bind ?_ (fun _ => ?_))
      | exact LeO.none _
      | refine LeO.ite ?_ ?_
      | refine LeO.bind ?_ (fun _ => ?_)
set_option maxHeartbeats 8000000 in
set_option maxRecDepth 100000 in
theorem slices_EqualFunc_of_54.calls (k : Nat) (A0 : Option Addr) (c0 : Nat) (l0 : List (S44)) (A1 : Option Addr) (c1 : Nat) (l1 : List (S44))  (r : Bool) (w : World) (hr0 : Kd.C k44 w A0 l0.length l0) (hc0 : l0.length ≤ c0) (hr1 : Kd.C k44 w A1 l1.length l1) (hc1 : l1.length ≤ c1) (h : slices_EqualFunc_of_54.f k l0 l1 = some r) :
    Calls Tryz.prog 53 #[.slice A0 l0.length c0, .slice A1 l1.length c1, .func (.func 54) #[] #[]] w fun e w' => e = .returned (.bool r) ∧ Below w.heap.size w w' := by
 have hu44 := Tryz.underlying44
 have HR0 := aM hr0
 have HC0 := aM hc0
 clear hr0 hc0
 have HR1 := aM hr1
 have HC1 := aM hc1
 clear hr1 hc1
 have HB := aM (Below.refl w.heap.size w)
 have H : (if (l0.length : Int) = (l1.length : Int) then (slices_EqualFunc_of_54.l0 k l1 l0 (l0.length : Int) 0) else (some false)) = some r := h
 clear h
 by_cases c4 : (l0.length : Int) = (l1.length : Int)
 rotate_left
 ·rw [if_neg c4] at H
  have c4b0 : ((l0.length : Int) == (l1.length : Int)) = false := beq_eq_false_iff_ne.mpr c4
  have c4b1 : ((l0.length : Int) != (l1.length : Int)) = true := bne_iff_ne.mpr c4
  have c4b2 : (l0.length == l1.length) = false := by first | simpa using c4 | (simp at c4 ⊢; omega)
  obtain rfl := Option.some.inj H
  go_enter Tryz.func53, Tryz.ntmps53
  go_wp2
  go_ret
  exact ⟨by first | rfl | (simp [errW_none, errW_some] <;> rfl) | (simp [*, errW_none, errW_some] <;> rfl), hB⟩
 rw [if_pos c4] at H
 have c4b0 : ((l0.length : Int) == (l1.length : Int)) = true := beq_iff_eq.mpr c4
 have c4b1 : ((l0.length : Int) != (l1.length : Int)) = false := bne_eq_false_iff_eq.mpr c4
 have c4b2 : (l0.length == l1.length) = true := by first | simpa using c4 | (simp at c4 ⊢; omega)
 clear c4
 have H' := aM H
 clear H
 go_enter Tryz.func53, Tryz.ntmps53
 go_wp2
 go_loopg [17] k (fun kq v17 w' => ∃ (x17_1 : Int), v17 = .int .i64 x17_1 ∧ Aside0 (slices_EqualFunc_of_54.l0 kq l1 l0 (l0.length : Int) x17_1 = some r) ∧ Aside0 (kq ≤ k) ∧ Aside0 (Below w.heap.size w w'))
 case atStart => exact ⟨(0), (xR), H', ⟨Nat.le_refl _⟩, ⟨hB⟩⟩
 case round =>
  clear H'
  (try clear c1); (try clear c2); (try clear p2); (try clear c4); (try clear c4b0); (try clear c4b1); (try clear c4b2)
  obtain ⟨x17_1, rfl, HA, HK1, HB⟩ := hrel
  cases gk with
  | zero => exact absurd HA.out (by simp [slices_EqualFunc_of_54.l0])
  | succ k1 =>
   have H := HA.out
   clear HA
   simp only [slices_EqualFunc_of_54.l0] at H
   by_cases c5 : x17_1 < (l0.length : Int)
   rotate_left
   ·rw [if_neg c5] at H
    have c5b0 : decide (x17_1 < (l0.length : Int)) = false := decide_eq_false c5
    clear c5
    obtain rfl := Option.some.inj H
    go_wp2
    go_ret
    exact ⟨by first | rfl | (simp [errW_none, errW_some] <;> rfl) | (simp [*, errW_none, errW_some] <;> rfl), hB⟩
   rw [if_pos c5] at H
   have c5b0 : decide (x17_1 < (l0.length : Int)) = true := decide_eq_true c5
   clear c5
   by_cases c6 : 0 ≤ x17_1
   rotate_left
   ·rw [if_neg c6] at H
    exact absurd H (by simp)
   rw [if_pos c6] at H
   have c6b0 : decide (0 ≤ x17_1) = true := decide_eq_true c6
   clear c6
   by_cases c7 : x17_1 < (l0.length : Int)
   rotate_left
   ·rw [if_neg c7] at H
    exact absurd H (by simp)
   rw [if_pos c7] at H
   have c7b0 : decide (x17_1 < (l0.length : Int)) = true := decide_eq_true c7
   clear c7
   by_cases c8 : x17_1 < (l1.length : Int)
   rotate_left
   ·rw [if_neg c8] at H
    exact absurd H (by simp)
   rw [if_pos c8] at H
   have c8b0 : decide (x17_1 < (l1.length : Int)) = true := decide_eq_true c8
   clear c8
   replace H := Option.bind_eq_some_iff.mp H
   obtain ⟨t164, A90, H⟩ := H
   replace H : (if t164 = true then (slices_EqualFunc_of_54.l0 k1 l1 l0 (l0.length : Int) (wrap64 (x17_1 + 1))) else (some false)) = some r := H
   have A9 := aM A90
   clear A90
   by_cases c10 : t164 = true
   rotate_left
   ·replace c10 := Bool.eq_false_iff.mpr c10
    subst c10
    have H1 : (some false) = some r := by rw [if_neg (show ¬ (false = true) by decide)] at H; exact H
    clear H
    have H := H1
    clear H1
    obtain rfl := Option.some.inj H
    have p160 : 0 ≤ (x17_1 : Int) := oA
    have q160 : x17_1 < (l0.length : Int) := oA
    obtain ⟨ad160, e160, hx160_0, hx160_1, hx160_2, hx160_3, hx160_4⟩ := at_T44 HR0.out x17_1 p160 q160
    cases e160
    replace hx160_0 := (HB.out.cell (wB w _ hx160_0)).trans hx160_0
    replace hx160_1 := (HB.out.cell (wB w _ hx160_1)).trans hx160_1
    replace hx160_2 := (HB.out.cell (wB w _ hx160_2)).trans hx160_2
    replace hx160_3 := (HB.out.cell (wB w _ hx160_3)).trans hx160_3
    replace hx160_4 := (HB.out.cell (wB w _ hx160_4)).trans hx160_4
    replace p160 := eq_true p160
    replace q160 := eq_true q160
    go_wp2_with (first | ((with_reducible refine gate_dst (N := 8) rfl ?_); refine box_event ?hg (N := 8) ?hd (cs := #[.int .i64 0, .string (⟨#[]⟩ : ByteArray), .int .i64 0, .int .u64 0, .int .i64 0]) (t := 44) ?hr ?_; (case hd => rfl); (case hg => rfl); (case hr => first | (go_simp; done) | (go_simp; rfl)); intro gb161 hg w18 hbox hb; have n0_ := aM (below_step (hB) hb); have n1_ := aM (hbox); have n2_ := aM ((by rw [hg]; exact (below_size (hB)) : w.heap.size ≤ gb161)); have n3_ := aM ((by rw [hg]; exact (below_size (hB)) : w.heap.size ≤ gb161)); clear HB; have HB := n0_; have BK161 := n1_; have GW161 := n2_; have GE161 := n3_; clear n0_ n1_ n2_ n3_; clear hb hbox hg; have hcz19_0 : w18.cell? ⟨gb161, 0, none⟩ = some (.int .i64 0) := (zC BK161.out 0).trans rfl; have hcz19_1 : w18.cell? ⟨gb161, 1, none⟩ = some (.string (⟨#[]⟩ : ByteArray)) := (zC BK161.out 1).trans rfl; have hcz19_2 : w18.cell? ⟨gb161, 2, none⟩ = some (.int .i64 0) := (zC BK161.out 2).trans rfl; have hcz19_3 : w18.cell? ⟨gb161, 3, none⟩ = some (.int .u64 0) := (zC BK161.out 3).trans rfl; have hcz19_4 : w18.cell? ⟨gb161, 4, none⟩ = some (.int .i64 0) := (zC BK161.out 4).trans rfl; have hfz19_0 := zF BK161.out 0; have hfz19_1 := zF BK161.out 1; have hfz19_2 := zF BK161.out 2; have hfz19_3 := zF BK161.out 3; have hfz19_4 := zF BK161.out 4; have p162 : 0 ≤ (x17_1 : Int) := oA; have q162 : x17_1 < (l1.length : Int) := oA; obtain ⟨ad162, e162, hx162_0, hx162_1, hx162_2, hx162_3, hx162_4⟩ := at_T44 HR1.out x17_1 p162 q162; cases e162; have hn162_0 : ad162.block ≠ gb161 := Nat.ne_of_lt (Nat.lt_of_lt_of_le (by have := wB _ _ hx162_0; first | rwa [add_block] at this | exact this) GW161.out); have hn162_1 : ad162.block ≠ gb161 := Nat.ne_of_lt (Nat.lt_of_lt_of_le (by have := wB _ _ hx162_0; first | rwa [add_block] at this | exact this) GW161.out); have hn162_2 : ad162.block ≠ gb161 := Nat.ne_of_lt (Nat.lt_of_lt_of_le (by have := wB _ _ hx162_0; first | rwa [add_block] at this | exact this) GW161.out); have hn162_3 : ad162.block ≠ gb161 := Nat.ne_of_lt (Nat.lt_of_lt_of_le (by have := wB _ _ hx162_0; first | rwa [add_block] at this | exact this) GW161.out); have hn162_4 : ad162.block ≠ gb161 := Nat.ne_of_lt (Nat.lt_of_lt_of_le (by have := wB _ _ hx162_0; first | rwa [add_block] at this | exact this) GW161.out); replace hx162_0 := (HB.out.cell (wB w _ hx162_0)).trans hx162_0; replace hx162_1 := (HB.out.cell (wB w _ hx162_1)).trans hx162_1; replace hx162_2 := (HB.out.cell (wB w _ hx162_2)).trans hx162_2; replace hx162_3 := (HB.out.cell (wB w _ hx162_3)).trans hx162_3; replace hx162_4 := (HB.out.cell (wB w _ hx162_4)).trans hx162_4; replace hx162_0 := (cell_far (p := ⟨gb161, 0, none⟩) (by first | (rw [add_block]; exact hn162_0) | (show (Addr.add _ _).block ≠ _; rw [add_block]; exact hn162_0) | exact hn162_0) (.int .i64 ((rd_T44 l0 x17_1).f0))).trans hx162_0; replace hx162_1 := (cell_far (p := ⟨gb161, 0, none⟩) (by first | (rw [add_block]; exact hn162_0) | (show (Addr.add _ _).block ≠ _; rw [add_block]; exact hn162_0) | exact hn162_0) (.int .i64 ((rd_T44 l0 x17_1).f0))).trans hx162_1; replace hx162_2 := (cell_far (p := ⟨gb161, 0, none⟩) (by first | (rw [add_block]; exact hn162_0) | (show (Addr.add _ _).block ≠ _; rw [add_block]; exact hn162_0) | exact hn162_0) (.int .i64 ((rd_T44 l0 x17_1).f0))).trans hx162_2; replace hx162_3 := (cell_far (p := ⟨gb161, 0, none⟩) (by first | (rw [add_block]; exact hn162_0) | (show (Addr.add _ _).block ≠ _; rw [add_block]; exact hn162_0) | exact hn162_0) (.int .i64 ((rd_T44 l0 x17_1).f0))).trans hx162_3; replace hx162_4 := (cell_far (p := ⟨gb161, 0, none⟩) (by first | (rw [add_block]; exact hn162_0) | (show (Addr.add _ _).block ≠ _; rw [add_block]; exact hn162_0) | exact hn162_0) (.int .i64 ((rd_T44 l0 x17_1).f0))).trans hx162_4; replace hx162_0 := (cell_far (p := ⟨gb161, 1, none⟩) (by first | (rw [add_block]; exact hn162_1) | (show (Addr.add _ _).block ≠ _; rw [add_block]; exact hn162_1) | exact hn162_1) (.string ((rd_T44 l0 x17_1).f1))).trans hx162_0; replace hx162_1 := (cell_far (p := ⟨gb161, 1, none⟩) (by first | (rw [add_block]; exact hn162_1) | (show (Addr.add _ _).block ≠ _; rw [add_block]; exact hn162_1) | exact hn162_1) (.string ((rd_T44 l0 x17_1).f1))).trans hx162_1; replace hx162_2 := (cell_far (p := ⟨gb161, 1, none⟩) (by first | (rw [add_block]; exact hn162_1) | (show (Addr.add _ _).block ≠ _; rw [add_block]; exact hn162_1) | exact hn162_1) (.string ((rd_T44 l0 x17_1).f1))).trans hx162_2; replace hx162_3 := (cell_far (p := ⟨gb161, 1, none⟩) (by first | (rw [add_block]; exact hn162_1) | (show (Addr.add _ _).block ≠ _; rw [add_block]; exact hn162_1) | exact hn162_1) (.string ((rd_T44 l0 x17_1).f1))).trans hx162_3; replace hx162_4 := (cell_far (p := ⟨gb161, 1, none⟩) (by first | (rw [add_block]; exact hn162_1) | (show (Addr.add _ _).block ≠ _; rw [add_block]; exact hn162_1) | exact hn162_1) (.string ((rd_T44 l0 x17_1).f1))).trans hx162_4; replace hx162_0 := (cell_far (p := ⟨gb161, 2, none⟩) (by first | (rw [add_block]; exact hn162_2) | (show (Addr.add _ _).block ≠ _; rw [add_block]; exact hn162_2) | exact hn162_2) (.int .i64 ((rd_T44 l0 x17_1).f2.f0))).trans hx162_0; replace hx162_1 := (cell_far (p := ⟨gb161, 2, none⟩) (by first | (rw [add_block]; exact hn162_2) | (show (Addr.add _ _).block ≠ _; rw [add_block]; exact hn162_2) | exact hn162_2) (.int .i64 ((rd_T44 l0 x17_1).f2.f0))).trans hx162_1; replace hx162_2 := (cell_far (p := ⟨gb161, 2, none⟩) (by first | (rw [add_block]; exact hn162_2) | (show (Addr.add _ _).block ≠ _; rw [add_block]; exact hn162_2) | exact hn162_2) (.int .i64 ((rd_T44 l0 x17_1).f2.f0))).trans hx162_2; replace hx162_3 := (cell_far (p := ⟨gb161, 2, none⟩) (by first | (rw [add_block]; exact hn162_2) | (show (Addr.add _ _).block ≠ _; rw [add_block]; exact hn162_2) | exact hn162_2) (.int .i64 ((rd_T44 l0 x17_1).f2.f0))).trans hx162_3; replace hx162_4 := (cell_far (p := ⟨gb161, 2, none⟩) (by first | (rw [add_block]; exact hn162_2) | (show (Addr.add _ _).block ≠ _; rw [add_block]; exact hn162_2) | exact hn162_2) (.int .i64 ((rd_T44 l0 x17_1).f2.f0))).trans hx162_4; replace hx162_0 := (cell_far (p := ⟨gb161, 3, none⟩) (by first | (rw [add_block]; exact hn162_3) | (show (Addr.add _ _).block ≠ _; rw [add_block]; exact hn162_3) | exact hn162_3) (.int .u64 ((rd_T44 l0 x17_1).f2.f1))).trans hx162_0; replace hx162_1 := (cell_far (p := ⟨gb161, 3, none⟩) (by first | (rw [add_block]; exact hn162_3) | (show (Addr.add _ _).block ≠ _; rw [add_block]; exact hn162_3) | exact hn162_3) (.int .u64 ((rd_T44 l0 x17_1).f2.f1))).trans hx162_1; replace hx162_2 := (cell_far (p := ⟨gb161, 3, none⟩) (by first | (rw [add_block]; exact hn162_3) | (show (Addr.add _ _).block ≠ _; rw [add_block]; exact hn162_3) | exact hn162_3) (.int .u64 ((rd_T44 l0 x17_1).f2.f1))).trans hx162_2; replace hx162_3 := (cell_far (p := ⟨gb161, 3, none⟩) (by first | (rw [add_block]; exact hn162_3) | (show (Addr.add _ _).block ≠ _; rw [add_block]; exact hn162_3) | exact hn162_3) (.int .u64 ((rd_T44 l0 x17_1).f2.f1))).trans hx162_3; replace hx162_4 := (cell_far (p := ⟨gb161, 3, none⟩) (by first | (rw [add_block]; exact hn162_3) | (show (Addr.add _ _).block ≠ _; rw [add_block]; exact hn162_3) | exact hn162_3) (.int .u64 ((rd_T44 l0 x17_1).f2.f1))).trans hx162_4; replace hx162_0 := (cell_far (p := ⟨gb161, 4, none⟩) (by first | (rw [add_block]; exact hn162_4) | (show (Addr.add _ _).block ≠ _; rw [add_block]; exact hn162_4) | exact hn162_4) (.int .i64 ((rd_T44 l0 x17_1).f3))).trans hx162_0; replace hx162_1 := (cell_far (p := ⟨gb161, 4, none⟩) (by first | (rw [add_block]; exact hn162_4) | (show (Addr.add _ _).block ≠ _; rw [add_block]; exact hn162_4) | exact hn162_4) (.int .i64 ((rd_T44 l0 x17_1).f3))).trans hx162_1; replace hx162_2 := (cell_far (p := ⟨gb161, 4, none⟩) (by first | (rw [add_block]; exact hn162_4) | (show (Addr.add _ _).block ≠ _; rw [add_block]; exact hn162_4) | exact hn162_4) (.int .i64 ((rd_T44 l0 x17_1).f3))).trans hx162_2; replace hx162_3 := (cell_far (p := ⟨gb161, 4, none⟩) (by first | (rw [add_block]; exact hn162_4) | (show (Addr.add _ _).block ≠ _; rw [add_block]; exact hn162_4) | exact hn162_4) (.int .i64 ((rd_T44 l0 x17_1).f3))).trans hx162_3; replace hx162_4 := (cell_far (p := ⟨gb161, 4, none⟩) (by first | (rw [add_block]; exact hn162_4) | (show (Addr.add _ _).block ≠ _; rw [add_block]; exact hn162_4) | exact hn162_4) (.int .i64 ((rd_T44 l0 x17_1).f3))).trans hx162_4; clear hn162_0; clear hn162_1; clear hn162_2; clear hn162_3; clear hn162_4; replace p162 := eq_true p162; replace q162 := eq_true q162) | ((with_reducible refine gate_dst (N := 9) rfl ?_); refine box_event ?hg (N := 9) ?hd (cs := #[.int .i64 0, .string (⟨#[]⟩ : ByteArray), .int .i64 0, .int .u64 0, .int .i64 0]) (t := 44) ?hr ?_; (case hd => rfl); (case hg => rfl); (case hr => first | (go_simp; done) | (go_simp; rfl)); intro gb163 hg w20 hbox hb; have n0_ := aM (blk_below (g := gb161) (o := .cells #[.int .i64 ((rd_T44 l0 x17_1).f0), .string ((rd_T44 l0 x17_1).f1), .int .i64 ((rd_T44 l0 x17_1).f2.f0), .int .u64 ((rd_T44 l0 x17_1).f2.f1), .int .i64 ((rd_T44 l0 x17_1).f3)] 44 (0, 0)) (by (with_reducible repeat (first | refine zN ?_ _ | refine zD ?_ | refine zA ?_ _)); refine blk_put (cs := #[.int .i64 ((rd_T44 l0 x17_1).f0), .string ((rd_T44 l0 x17_1).f1), .int .i64 ((rd_T44 l0 x17_1).f2.f0), .int .u64 ((rd_T44 l0 x17_1).f2.f1), .int .i64 0]) ?_ 4 _ rfl; (with_reducible repeat (first | refine zN ?_ _ | refine zD ?_ | refine zA ?_ _)); refine blk_put (cs := #[.int .i64 ((rd_T44 l0 x17_1).f0), .string ((rd_T44 l0 x17_1).f1), .int .i64 ((rd_T44 l0 x17_1).f2.f0), .int .u64 0, .int .i64 0]) ?_ 3 _ rfl; (with_reducible repeat (first | refine zN ?_ _ | refine zD ?_ | refine zA ?_ _)); refine blk_put (cs := #[.int .i64 ((rd_T44 l0 x17_1).f0), .string ((rd_T44 l0 x17_1).f1), .int .i64 0, .int .u64 0, .int .i64 0]) ?_ 2 _ rfl; (with_reducible repeat (first | refine zN ?_ _ | refine zD ?_ | refine zA ?_ _)); refine blk_put (cs := #[.int .i64 ((rd_T44 l0 x17_1).f0), .string (⟨#[]⟩ : ByteArray), .int .i64 0, .int .u64 0, .int .i64 0]) ?_ 1 _ rfl; (with_reducible repeat (first | refine zN ?_ _ | refine zD ?_ | refine zA ?_ _)); refine blk_put (cs := #[.int .i64 0, .string (⟨#[]⟩ : ByteArray), .int .i64 0, .int .u64 0, .int .i64 0]) ?_ 0 _ rfl; (with_reducible repeat (first | refine zN ?_ _ | refine zD ?_ | refine zA ?_ _)); exact BK161.out) hb); have n1_ := aM (below_step (by repeat (first | (with_reducible first | exact HB.out | apply below_alloc | apply pw_below_drewN | apply below_drew1 | refine below_set ?_ GE161.out) | exact HB.out)) hb); have n2_ := aM (hbox); have n3_ := aM ((by rw [hg]; exact (below_size (by repeat (first | (with_reducible first | exact HB.out | apply below_alloc | apply pw_below_drewN | apply below_drew1 | refine below_set ?_ GE161.out) | exact HB.out))) : w.heap.size ≤ gb163)); have n4_ := aM ((by rw [hg]; exact (below_size (by repeat (first | (with_reducible first | exact HB.out | apply below_alloc | apply pw_below_drewN | apply below_drew1 | refine below_set ?_ GE161.out) | exact HB.out))) : w.heap.size ≤ gb163)); have n5_ := aM ((by rw [hg]; exact Nat.ne_of_lt (blk_lt (g := gb161) (o := .cells #[.int .i64 ((rd_T44 l0 x17_1).f0), .string ((rd_T44 l0 x17_1).f1), .int .i64 ((rd_T44 l0 x17_1).f2.f0), .int .u64 ((rd_T44 l0 x17_1).f2.f1), .int .i64 ((rd_T44 l0 x17_1).f3)] 44 (0, 0)) (by (with_reducible repeat (first | refine zN ?_ _ | refine zD ?_ | refine zA ?_ _)); refine blk_put (cs := #[.int .i64 ((rd_T44 l0 x17_1).f0), .string ((rd_T44 l0 x17_1).f1), .int .i64 ((rd_T44 l0 x17_1).f2.f0), .int .u64 ((rd_T44 l0 x17_1).f2.f1), .int .i64 0]) ?_ 4 _ rfl; (with_reducible repeat (first | refine zN ?_ _ | refine zD ?_ | refine zA ?_ _)); refine blk_put (cs := #[.int .i64 ((rd_T44 l0 x17_1).f0), .string ((rd_T44 l0 x17_1).f1), .int .i64 ((rd_T44 l0 x17_1).f2.f0), .int .u64 0, .int .i64 0]) ?_ 3 _ rfl; (with_reducible repeat (first | refine zN ?_ _ | refine zD ?_ | refine zA ?_ _)); refine blk_put (cs := #[.int .i64 ((rd_T44 l0 x17_1).f0), .string ((rd_T44 l0 x17_1).f1), .int .i64 0, .int .u64 0, .int .i64 0]) ?_ 2 _ rfl; (with_reducible repeat (first | refine zN ?_ _ | refine zD ?_ | refine zA ?_ _)); refine blk_put (cs := #[.int .i64 ((rd_T44 l0 x17_1).f0), .string (⟨#[]⟩ : ByteArray), .int .i64 0, .int .u64 0, .int .i64 0]) ?_ 1 _ rfl; (with_reducible repeat (first | refine zN ?_ _ | refine zD ?_ | refine zA ?_ _)); refine blk_put (cs := #[.int .i64 0, .string (⟨#[]⟩ : ByteArray), .int .i64 0, .int .u64 0, .int .i64 0]) ?_ 0 _ rfl; (with_reducible repeat (first | refine zN ?_ _ | refine zD ?_ | refine zA ?_ _)); exact BK161.out)) : gb161 ≠ gb163)); have n6_ := aM ((by rw [hg]; exact Nat.ne_of_gt (blk_lt (g := gb161) (o := .cells #[.int .i64 ((rd_T44 l0 x17_1).f0), .string ((rd_T44 l0 x17_1).f1), .int .i64 ((rd_T44 l0 x17_1).f2.f0), .int .u64 ((rd_T44 l0 x17_1).f2.f1), .int .i64 ((rd_T44 l0 x17_1).f3)] 44 (0, 0)) (by (with_reducible repeat (first | refine zN ?_ _ | refine zD ?_ | refine zA ?_ _)); refine blk_put (cs := #[.int .i64 ((rd_T44 l0 x17_1).f0), .string ((rd_T44 l0 x17_1).f1), .int .i64 ((rd_T44 l0 x17_1).f2.f0), .int .u64 ((rd_T44 l0 x17_1).f2.f1), .int .i64 0]) ?_ 4 _ rfl; (with_reducible repeat (first | refine zN ?_ _ | refine zD ?_ | refine zA ?_ _)); refine blk_put (cs := #[.int .i64 ((rd_T44 l0 x17_1).f0), .string ((rd_T44 l0 x17_1).f1), .int .i64 ((rd_T44 l0 x17_1).f2.f0), .int .u64 0, .int .i64 0]) ?_ 3 _ rfl; (with_reducible repeat (first | refine zN ?_ _ | refine zD ?_ | refine zA ?_ _)); refine blk_put (cs := #[.int .i64 ((rd_T44 l0 x17_1).f0), .string ((rd_T44 l0 x17_1).f1), .int .i64 0, .int .u64 0, .int .i64 0]) ?_ 2 _ rfl; (with_reducible repeat (first | refine zN ?_ _ | refine zD ?_ | refine zA ?_ _)); refine blk_put (cs := #[.int .i64 ((rd_T44 l0 x17_1).f0), .string (⟨#[]⟩ : ByteArray), .int .i64 0, .int .u64 0, .int .i64 0]) ?_ 1 _ rfl; (with_reducible repeat (first | refine zN ?_ _ | refine zD ?_ | refine zA ?_ _)); refine blk_put (cs := #[.int .i64 0, .string (⟨#[]⟩ : ByteArray), .int .i64 0, .int .u64 0, .int .i64 0]) ?_ 0 _ rfl; (with_reducible repeat (first | refine zN ?_ _ | refine zD ?_ | refine zA ?_ _)); exact BK161.out)) : gb163 ≠ gb161)); clear BK161; clear HB; have BK161 := n0_; have HB := n1_; have BK163 := n2_; have GW163 := n3_; have GE163 := n4_; have NB161_163 := n5_; have NB163_161 := n6_; clear n0_ n1_ n2_ n3_ n4_ n5_ n6_; clear hb hbox hg; have hnb21 := NB163_161.out; have hnc21 := NB161_163.out; have hcz22_0 : w20.cell? ⟨gb163, 0, none⟩ = some (.int .i64 0) := (zC BK163.out 0).trans rfl; have hcz22_1 : w20.cell? ⟨gb163, 1, none⟩ = some (.string (⟨#[]⟩ : ByteArray)) := (zC BK163.out 1).trans rfl; have hcz22_2 : w20.cell? ⟨gb163, 2, none⟩ = some (.int .i64 0) := (zC BK163.out 2).trans rfl; have hcz22_3 : w20.cell? ⟨gb163, 3, none⟩ = some (.int .u64 0) := (zC BK163.out 3).trans rfl; have hcz22_4 : w20.cell? ⟨gb163, 4, none⟩ = some (.int .i64 0) := (zC BK163.out 4).trans rfl; have hfz22_0 := zF BK163.out 0; have hfz22_1 := zF BK163.out 1; have hfz22_2 := zF BK163.out 2; have hfz22_3 := zF BK163.out 3; have hfz22_4 := zF BK163.out 4; have hcz23_0 : w20.cell? ⟨gb161, 0, none⟩ = some (.int .i64 ((rd_T44 l0 x17_1).f0)) := (zC BK161.out 0).trans rfl; have hcz23_1 : w20.cell? ⟨gb161, 1, none⟩ = some (.string ((rd_T44 l0 x17_1).f1)) := (zC BK161.out 1).trans rfl; have hcz23_2 : w20.cell? ⟨gb161, 2, none⟩ = some (.int .i64 ((rd_T44 l0 x17_1).f2.f0)) := (zC BK161.out 2).trans rfl; have hcz23_3 : w20.cell? ⟨gb161, 3, none⟩ = some (.int .u64 ((rd_T44 l0 x17_1).f2.f1)) := (zC BK161.out 3).trans rfl; have hcz23_4 : w20.cell? ⟨gb161, 4, none⟩ = some (.int .i64 ((rd_T44 l0 x17_1).f3)) := (zC BK161.out 4).trans rfl; have hfz23_0 := zF BK161.out 0; have hfz23_1 := zF BK161.out 1; have hfz23_2 := zF BK161.out 2; have hfz23_3 := zF BK161.out 3; have hfz23_4 := zF BK161.out 4) | (go_at_call 54; (with_reducible refine (lex_Same_1.calls ((rd_T44 l0 x17_1).f0) ((rd_T44 l0 x17_1).f1) ((rd_T44 l0 x17_1).f2.f0) ((rd_T44 l0 x17_1).f2.f1) ((rd_T44 l0 x17_1).f3) ((rd_T44 l1 x17_1).f0) ((rd_T44 l1 x17_1).f1) ((rd_T44 l1 x17_1).f2.f0) ((rd_T44 l1 x17_1).f2.f1) ((rd_T44 l1 x17_1).f3) false _ A9.out).mono ?_); rintro e w24 ⟨rfl, hb⟩; have n0_ := aM (blk_below (g := gb161) (o := .cells #[.int .i64 ((rd_T44 l0 x17_1).f0), .string ((rd_T44 l0 x17_1).f1), .int .i64 ((rd_T44 l0 x17_1).f2.f0), .int .u64 ((rd_T44 l0 x17_1).f2.f1), .int .i64 ((rd_T44 l0 x17_1).f3)] 44 (0, 0)) (by (with_reducible repeat (first | refine zN ?_ _ | refine zD ?_ | refine zA ?_ _)); refine blk_far ?_ NB161_163.out _; (with_reducible repeat (first | refine zN ?_ _ | refine zD ?_ | refine zA ?_ _)); refine blk_far ?_ NB161_163.out _; (with_reducible repeat (first | refine zN ?_ _ | refine zD ?_ | refine zA ?_ _)); refine blk_far ?_ NB161_163.out _; (with_reducible repeat (first | refine zN ?_ _ | refine zD ?_ | refine zA ?_ _)); refine blk_far ?_ NB161_163.out _; (with_reducible repeat (first | refine zN ?_ _ | refine zD ?_ | refine zA ?_ _)); refine blk_far ?_ NB161_163.out _; (with_reducible repeat (first | refine zN ?_ _ | refine zD ?_ | refine zA ?_ _)); exact BK161.out) hb); have n1_ := aM (blk_below (g := gb163) (o := .cells #[.int .i64 ((rd_T44 l1 x17_1).f0), .string ((rd_T44 l1 x17_1).f1), .int .i64 ((rd_T44 l1 x17_1).f2.f0), .int .u64 ((rd_T44 l1 x17_1).f2.f1), .int .i64 ((rd_T44 l1 x17_1).f3)] 44 (0, 0)) (by (with_reducible repeat (first | refine zN ?_ _ | refine zD ?_ | refine zA ?_ _)); refine blk_put (cs := #[.int .i64 ((rd_T44 l1 x17_1).f0), .string ((rd_T44 l1 x17_1).f1), .int .i64 ((rd_T44 l1 x17_1).f2.f0), .int .u64 ((rd_T44 l1 x17_1).f2.f1), .int .i64 0]) ?_ 4 _ rfl; (with_reducible repeat (first | refine zN ?_ _ | refine zD ?_ | refine zA ?_ _)); refine blk_put (cs := #[.int .i64 ((rd_T44 l1 x17_1).f0), .string ((rd_T44 l1 x17_1).f1), .int .i64 ((rd_T44 l1 x17_1).f2.f0), .int .u64 0, .int .i64 0]) ?_ 3 _ rfl; (with_reducible repeat (first | refine zN ?_ _ | refine zD ?_ | refine zA ?_ _)); refine blk_put (cs := #[.int .i64 ((rd_T44 l1 x17_1).f0), .string ((rd_T44 l1 x17_1).f1), .int .i64 0, .int .u64 0, .int .i64 0]) ?_ 2 _ rfl; (with_reducible repeat (first | refine zN ?_ _ | refine zD ?_ | refine zA ?_ _)); refine blk_put (cs := #[.int .i64 ((rd_T44 l1 x17_1).f0), .string (⟨#[]⟩ : ByteArray), .int .i64 0, .int .u64 0, .int .i64 0]) ?_ 1 _ rfl; (with_reducible repeat (first | refine zN ?_ _ | refine zD ?_ | refine zA ?_ _)); refine blk_put (cs := #[.int .i64 0, .string (⟨#[]⟩ : ByteArray), .int .i64 0, .int .u64 0, .int .i64 0]) ?_ 0 _ rfl; (with_reducible repeat (first | refine zN ?_ _ | refine zD ?_ | refine zA ?_ _)); exact BK163.out) hb); have n2_ := aM (below_step (by repeat (first | (with_reducible first | exact HB.out | apply below_alloc | apply pw_below_drewN | apply below_drew1 | refine below_set ?_ GE161.out | refine below_set ?_ GE163.out) | exact HB.out)) hb); clear BK161; clear BK163; clear HB; have BK161 := n0_; have BK163 := n1_; have HB := n2_; clear n0_ n1_ n2_; (try clear hb)))
    go_ret
    exact ⟨by first | rfl | (simp [errW_none, errW_some] <;> rfl) | (simp [*, errW_none, errW_some] <;> rfl), by repeat (first | (with_reducible first | exact HB.out | apply below_alloc | apply pw_below_drewN | apply below_drew1 | refine below_set ?_ GE161.out | refine below_set ?_ GE163.out) | exact HB.out)⟩
   subst c10
   have H1 : (slices_EqualFunc_of_54.l0 k1 l1 l0 (l0.length : Int) (wrap64 (x17_1 + 1))) = some r := by rw [if_pos rfl] at H; exact H
   clear H
   have H := H1
   clear H1
   have H' := aM H
   clear H
   have p160 : 0 ≤ (x17_1 : Int) := oA
   have q160 : x17_1 < (l0.length : Int) := oA
   obtain ⟨ad160, e160, hx160_0, hx160_1, hx160_2, hx160_3, hx160_4⟩ := at_T44 HR0.out x17_1 p160 q160
   cases e160
   replace hx160_0 := (HB.out.cell (wB w _ hx160_0)).trans hx160_0
   replace hx160_1 := (HB.out.cell (wB w _ hx160_1)).trans hx160_1
   replace hx160_2 := (HB.out.cell (wB w _ hx160_2)).trans hx160_2
   replace hx160_3 := (HB.out.cell (wB w _ hx160_3)).trans hx160_3
   replace hx160_4 := (HB.out.cell (wB w _ hx160_4)).trans hx160_4
   replace p160 := eq_true p160
   replace q160 := eq_true q160
   go_wp2_with (first | ((with_reducible refine gate_dst (N := 8) rfl ?_); refine box_event ?hg (N := 8) ?hd (cs := #[.int .i64 0, .string (⟨#[]⟩ : ByteArray), .int .i64 0, .int .u64 0, .int .i64 0]) (t := 44) ?hr ?_; (case hd => rfl); (case hg => rfl); (case hr => first | (go_simp; done) | (go_simp; rfl)); intro gb161 hg w11 hbox hb; have n0_ := aM (below_step (hB) hb); have n1_ := aM (hbox); have n2_ := aM ((by rw [hg]; exact (below_size (hB)) : w.heap.size ≤ gb161)); have n3_ := aM ((by rw [hg]; exact (below_size (hB)) : w.heap.size ≤ gb161)); clear HB; have HB := n0_; have BK161 := n1_; have GW161 := n2_; have GE161 := n3_; clear n0_ n1_ n2_ n3_; clear hb hbox hg; have hcz12_0 : w11.cell? ⟨gb161, 0, none⟩ = some (.int .i64 0) := (zC BK161.out 0).trans rfl; have hcz12_1 : w11.cell? ⟨gb161, 1, none⟩ = some (.string (⟨#[]⟩ : ByteArray)) := (zC BK161.out 1).trans rfl; have hcz12_2 : w11.cell? ⟨gb161, 2, none⟩ = some (.int .i64 0) := (zC BK161.out 2).trans rfl; have hcz12_3 : w11.cell? ⟨gb161, 3, none⟩ = some (.int .u64 0) := (zC BK161.out 3).trans rfl; have hcz12_4 : w11.cell? ⟨gb161, 4, none⟩ = some (.int .i64 0) := (zC BK161.out 4).trans rfl; have hfz12_0 := zF BK161.out 0; have hfz12_1 := zF BK161.out 1; have hfz12_2 := zF BK161.out 2; have hfz12_3 := zF BK161.out 3; have hfz12_4 := zF BK161.out 4; have p162 : 0 ≤ (x17_1 : Int) := oA; have q162 : x17_1 < (l1.length : Int) := oA; obtain ⟨ad162, e162, hx162_0, hx162_1, hx162_2, hx162_3, hx162_4⟩ := at_T44 HR1.out x17_1 p162 q162; cases e162; have hn162_0 : ad162.block ≠ gb161 := Nat.ne_of_lt (Nat.lt_of_lt_of_le (by have := wB _ _ hx162_0; first | rwa [add_block] at this | exact this) GW161.out); have hn162_1 : ad162.block ≠ gb161 := Nat.ne_of_lt (Nat.lt_of_lt_of_le (by have := wB _ _ hx162_0; first | rwa [add_block] at this | exact this) GW161.out); have hn162_2 : ad162.block ≠ gb161 := Nat.ne_of_lt (Nat.lt_of_lt_of_le (by have := wB _ _ hx162_0; first | rwa [add_block] at this | exact this) GW161.out); have hn162_3 : ad162.block ≠ gb161 := Nat.ne_of_lt (Nat.lt_of_lt_of_le (by have := wB _ _ hx162_0; first | rwa [add_block] at this | exact this) GW161.out); have hn162_4 : ad162.block ≠ gb161 := Nat.ne_of_lt (Nat.lt_of_lt_of_le (by have := wB _ _ hx162_0; first | rwa [add_block] at this | exact this) GW161.out); replace hx162_0 := (HB.out.cell (wB w _ hx162_0)).trans hx162_0; replace hx162_1 := (HB.out.cell (wB w _ hx162_1)).trans hx162_1; replace hx162_2 := (HB.out.cell (wB w _ hx162_2)).trans hx162_2; replace hx162_3 := (HB.out.cell (wB w _ hx162_3)).trans hx162_3; replace hx162_4 := (HB.out.cell (wB w _ hx162_4)).trans hx162_4; replace hx162_0 := (cell_far (p := ⟨gb161, 0, none⟩) (by first | (rw [add_block]; exact hn162_0) | (show (Addr.add _ _).block ≠ _; rw [add_block]; exact hn162_0) | exact hn162_0) (.int .i64 ((rd_T44 l0 x17_1).f0))).trans hx162_0; replace hx162_1 := (cell_far (p := ⟨gb161, 0, none⟩) (by first | (rw [add_block]; exact hn162_0) | (show (Addr.add _ _).block ≠ _; rw [add_block]; exact hn162_0) | exact hn162_0) (.int .i64 ((rd_T44 l0 x17_1).f0))).trans hx162_1; replace hx162_2 := (cell_far (p := ⟨gb161, 0, none⟩) (by first | (rw [add_block]; exact hn162_0) | (show (Addr.add _ _).block ≠ _; rw [add_block]; exact hn162_0) | exact hn162_0) (.int .i64 ((rd_T44 l0 x17_1).f0))).trans hx162_2; replace hx162_3 := (cell_far (p := ⟨gb161, 0, none⟩) (by first | (rw [add_block]; exact hn162_0) | (show (Addr.add _ _).block ≠ _; rw [add_block]; exact hn162_0) | exact hn162_0) (.int .i64 ((rd_T44 l0 x17_1).f0))).trans hx162_3; replace hx162_4 := (cell_far (p := ⟨gb161, 0, none⟩) (by first | (rw [add_block]; exact hn162_0) | (show (Addr.add _ _).block ≠ _; rw [add_block]; exact hn162_0) | exact hn162_0) (.int .i64 ((rd_T44 l0 x17_1).f0))).trans hx162_4; replace hx162_0 := (cell_far (p := ⟨gb161, 1, none⟩) (by first | (rw [add_block]; exact hn162_1) | (show (Addr.add _ _).block ≠ _; rw [add_block]; exact hn162_1) | exact hn162_1) (.string ((rd_T44 l0 x17_1).f1))).trans hx162_0; replace hx162_1 := (cell_far (p := ⟨gb161, 1, none⟩) (by first | (rw [add_block]; exact hn162_1) | (show (Addr.add _ _).block ≠ _; rw [add_block]; exact hn162_1) | exact hn162_1) (.string ((rd_T44 l0 x17_1).f1))).trans hx162_1; replace hx162_2 := (cell_far (p := ⟨gb161, 1, none⟩) (by first | (rw [add_block]; exact hn162_1) | (show (Addr.add _ _).block ≠ _; rw [add_block]; exact hn162_1) | exact hn162_1) (.string ((rd_T44 l0 x17_1).f1))).trans hx162_2; replace hx162_3 := (cell_far (p := ⟨gb161, 1, none⟩) (by first | (rw [add_block]; exact hn162_1) | (show (Addr.add _ _).block ≠ _; rw [add_block]; exact hn162_1) | exact hn162_1) (.string ((rd_T44 l0 x17_1).f1))).trans hx162_3; replace hx162_4 := (cell_far (p := ⟨gb161, 1, none⟩) (by first | (rw [add_block]; exact hn162_1) | (show (Addr.add _ _).block ≠ _; rw [add_block]; exact hn162_1) | exact hn162_1) (.string ((rd_T44 l0 x17_1).f1))).trans hx162_4; replace hx162_0 := (cell_far (p := ⟨gb161, 2, none⟩) (by first | (rw [add_block]; exact hn162_2) | (show (Addr.add _ _).block ≠ _; rw [add_block]; exact hn162_2) | exact hn162_2) (.int .i64 ((rd_T44 l0 x17_1).f2.f0))).trans hx162_0; replace hx162_1 := (cell_far (p := ⟨gb161, 2, none⟩) (by first | (rw [add_block]; exact hn162_2) | (show (Addr.add _ _).block ≠ _; rw [add_block]; exact hn162_2) | exact hn162_2) (.int .i64 ((rd_T44 l0 x17_1).f2.f0))).trans hx162_1; replace hx162_2 := (cell_far (p := ⟨gb161, 2, none⟩) (by first | (rw [add_block]; exact hn162_2) | (show (Addr.add _ _).block ≠ _; rw [add_block]; exact hn162_2) | exact hn162_2) (.int .i64 ((rd_T44 l0 x17_1).f2.f0))).trans hx162_2; replace hx162_3 := (cell_far (p := ⟨gb161, 2, none⟩) (by first | (rw [add_block]; exact hn162_2) | (show (Addr.add _ _).block ≠ _; rw [add_block]; exact hn162_2) | exact hn162_2) (.int .i64 ((rd_T44 l0 x17_1).f2.f0))).trans hx162_3; replace hx162_4 := (cell_far (p := ⟨gb161, 2, none⟩) (by first | (rw [add_block]; exact hn162_2) | (show (Addr.add _ _).block ≠ _; rw [add_block]; exact hn162_2) | exact hn162_2) (.int .i64 ((rd_T44 l0 x17_1).f2.f0))).trans hx162_4; replace hx162_0 := (cell_far (p := ⟨gb161, 3, none⟩) (by first | (rw [add_block]; exact hn162_3) | (show (Addr.add _ _).block ≠ _; rw [add_block]; exact hn162_3) | exact hn162_3) (.int .u64 ((rd_T44 l0 x17_1).f2.f1))).trans hx162_0; replace hx162_1 := (cell_far (p := ⟨gb161, 3, none⟩) (by first | (rw [add_block]; exact hn162_3) | (show (Addr.add _ _).block ≠ _; rw [add_block]; exact hn162_3) | exact hn162_3) (.int .u64 ((rd_T44 l0 x17_1).f2.f1))).trans hx162_1; replace hx162_2 := (cell_far (p := ⟨gb161, 3, none⟩) (by first | (rw [add_block]; exact hn162_3) | (show (Addr.add _ _).block ≠ _; rw [add_block]; exact hn162_3) | exact hn162_3) (.int .u64 ((rd_T44 l0 x17_1).f2.f1))).trans hx162_2; replace hx162_3 := (cell_far (p := ⟨gb161, 3, none⟩) (by first | (rw [add_block]; exact hn162_3) | (show (Addr.add _ _).block ≠ _; rw [add_block]; exact hn162_3) | exact hn162_3) (.int .u64 ((rd_T44 l0 x17_1).f2.f1))).trans hx162_3; replace hx162_4 := (cell_far (p := ⟨gb161, 3, none⟩) (by first | (rw [add_block]; exact hn162_3) | (show (Addr.add _ _).block ≠ _; rw [add_block]; exact hn162_3) | exact hn162_3) (.int .u64 ((rd_T44 l0 x17_1).f2.f1))).trans hx162_4; replace hx162_0 := (cell_far (p := ⟨gb161, 4, none⟩) (by first | (rw [add_block]; exact hn162_4) | (show (Addr.add _ _).block ≠ _; rw [add_block]; exact hn162_4) | exact hn162_4) (.int .i64 ((rd_T44 l0 x17_1).f3))).trans hx162_0; replace hx162_1 := (cell_far (p := ⟨gb161, 4, none⟩) (by first | (rw [add_block]; exact hn162_4) | (show (Addr.add _ _).block ≠ _; rw [add_block]; exact hn162_4) | exact hn162_4) (.int .i64 ((rd_T44 l0 x17_1).f3))).trans hx162_1; replace hx162_2 := (cell_far (p := ⟨gb161, 4, none⟩) (by first | (rw [add_block]; exact hn162_4) | (show (Addr.add _ _).block ≠ _; rw [add_block]; exact hn162_4) | exact hn162_4) (.int .i64 ((rd_T44 l0 x17_1).f3))).trans hx162_2; replace hx162_3 := (cell_far (p := ⟨gb161, 4, none⟩) (by first | (rw [add_block]; exact hn162_4) | (show (Addr.add _ _).block ≠ _; rw [add_block]; exact hn162_4) | exact hn162_4) (.int .i64 ((rd_T44 l0 x17_1).f3))).trans hx162_3; replace hx162_4 := (cell_far (p := ⟨gb161, 4, none⟩) (by first | (rw [add_block]; exact hn162_4) | (show (Addr.add _ _).block ≠ _; rw [add_block]; exact hn162_4) | exact hn162_4) (.int .i64 ((rd_T44 l0 x17_1).f3))).trans hx162_4; clear hn162_0; clear hn162_1; clear hn162_2; clear hn162_3; clear hn162_4; replace p162 := eq_true p162; replace q162 := eq_true q162) | ((with_reducible refine gate_dst (N := 9) rfl ?_); refine box_event ?hg (N := 9) ?hd (cs := #[.int .i64 0, .string (⟨#[]⟩ : ByteArray), .int .i64 0, .int .u64 0, .int .i64 0]) (t := 44) ?hr ?_; (case hd => rfl); (case hg => rfl); (case hr => first | (go_simp; done) | (go_simp; rfl)); intro gb163 hg w13 hbox hb; have n0_ := aM (blk_below (g := gb161) (o := .cells #[.int .i64 ((rd_T44 l0 x17_1).f0), .string ((rd_T44 l0 x17_1).f1), .int .i64 ((rd_T44 l0 x17_1).f2.f0), .int .u64 ((rd_T44 l0 x17_1).f2.f1), .int .i64 ((rd_T44 l0 x17_1).f3)] 44 (0, 0)) (by (with_reducible repeat (first | refine zN ?_ _ | refine zD ?_ | refine zA ?_ _)); refine blk_put (cs := #[.int .i64 ((rd_T44 l0 x17_1).f0), .string ((rd_T44 l0 x17_1).f1), .int .i64 ((rd_T44 l0 x17_1).f2.f0), .int .u64 ((rd_T44 l0 x17_1).f2.f1), .int .i64 0]) ?_ 4 _ rfl; (with_reducible repeat (first | refine zN ?_ _ | refine zD ?_ | refine zA ?_ _)); refine blk_put (cs := #[.int .i64 ((rd_T44 l0 x17_1).f0), .string ((rd_T44 l0 x17_1).f1), .int .i64 ((rd_T44 l0 x17_1).f2.f0), .int .u64 0, .int .i64 0]) ?_ 3 _ rfl; (with_reducible repeat (first | refine zN ?_ _ | refine zD ?_ | refine zA ?_ _)); refine blk_put (cs := #[.int .i64 ((rd_T44 l0 x17_1).f0), .string ((rd_T44 l0 x17_1).f1), .int .i64 0, .int .u64 0, .int .i64 0]) ?_ 2 _ rfl; (with_reducible repeat (first | refine zN ?_ _ | refine zD ?_ | refine zA ?_ _)); refine blk_put (cs := #[.int .i64 ((rd_T44 l0 x17_1).f0), .string (⟨#[]⟩ : ByteArray), .int .i64 0, .int .u64 0, .int .i64 0]) ?_ 1 _ rfl; (with_reducible repeat (first | refine zN ?_ _ | refine zD ?_ | refine zA ?_ _)); refine blk_put (cs := #[.int .i64 0, .string (⟨#[]⟩ : ByteArray), .int .i64 0, .int .u64 0, .int .i64 0]) ?_ 0 _ rfl; (with_reducible repeat (first | refine zN ?_ _ | refine zD ?_ | refine zA ?_ _)); exact BK161.out) hb); have n1_ := aM (below_step (by repeat (first | (with_reducible first | exact HB.out | apply below_alloc | apply pw_below_drewN | apply below_drew1 | refine below_set ?_ GE161.out) | exact HB.out)) hb); have n2_ := aM (hbox); have n3_ := aM ((by rw [hg]; exact (below_size (by repeat (first | (with_reducible first | exact HB.out | apply below_alloc | apply pw_below_drewN | apply below_drew1 | refine below_set ?_ GE161.out) | exact HB.out))) : w.heap.size ≤ gb163)); have n4_ := aM ((by rw [hg]; exact (below_size (by repeat (first | (with_reducible first | exact HB.out | apply below_alloc | apply pw_below_drewN | apply below_drew1 | refine below_set ?_ GE161.out) | exact HB.out))) : w.heap.size ≤ gb163)); have n5_ := aM ((by rw [hg]; exact Nat.ne_of_lt (blk_lt (g := gb161) (o := .cells #[.int .i64 ((rd_T44 l0 x17_1).f0), .string ((rd_T44 l0 x17_1).f1), .int .i64 ((rd_T44 l0 x17_1).f2.f0), .int .u64 ((rd_T44 l0 x17_1).f2.f1), .int .i64 ((rd_T44 l0 x17_1).f3)] 44 (0, 0)) (by (with_reducible repeat (first | refine zN ?_ _ | refine zD ?_ | refine zA ?_ _)); refine blk_put (cs := #[.int .i64 ((rd_T44 l0 x17_1).f0), .string ((rd_T44 l0 x17_1).f1), .int .i64 ((rd_T44 l0 x17_1).f2.f0), .int .u64 ((rd_T44 l0 x17_1).f2.f1), .int .i64 0]) ?_ 4 _ rfl; (with_reducible repeat (first | refine zN ?_ _ | refine zD ?_ | refine zA ?_ _)); refine blk_put (cs := #[.int .i64 ((rd_T44 l0 x17_1).f0), .string ((rd_T44 l0 x17_1).f1), .int .i64 ((rd_T44 l0 x17_1).f2.f0), .int .u64 0, .int .i64 0]) ?_ 3 _ rfl; (with_reducible repeat (first | refine zN ?_ _ | refine zD ?_ | refine zA ?_ _)); refine blk_put (cs := #[.int .i64 ((rd_T44 l0 x17_1).f0), .string ((rd_T44 l0 x17_1).f1), .int .i64 0, .int .u64 0, .int .i64 0]) ?_ 2 _ rfl; (with_reducible repeat (first | refine zN ?_ _ | refine zD ?_ | refine zA ?_ _)); refine blk_put (cs := #[.int .i64 ((rd_T44 l0 x17_1).f0), .string (⟨#[]⟩ : ByteArray), .int .i64 0, .int .u64 0, .int .i64 0]) ?_ 1 _ rfl; (with_reducible repeat (first | refine zN ?_ _ | refine zD ?_ | refine zA ?_ _)); refine blk_put (cs := #[.int .i64 0, .string (⟨#[]⟩ : ByteArray), .int .i64 0, .int .u64 0, .int .i64 0]) ?_ 0 _ rfl; (with_reducible repeat (first | refine zN ?_ _ | refine zD ?_ | refine zA ?_ _)); exact BK161.out)) : gb161 ≠ gb163)); have n6_ := aM ((by rw [hg]; exact Nat.ne_of_gt (blk_lt (g := gb161) (o := .cells #[.int .i64 ((rd_T44 l0 x17_1).f0), .string ((rd_T44 l0 x17_1).f1), .int .i64 ((rd_T44 l0 x17_1).f2.f0), .int .u64 ((rd_T44 l0 x17_1).f2.f1), .int .i64 ((rd_T44 l0 x17_1).f3)] 44 (0, 0)) (by (with_reducible repeat (first | refine zN ?_ _ | refine zD ?_ | refine zA ?_ _)); refine blk_put (cs := #[.int .i64 ((rd_T44 l0 x17_1).f0), .string ((rd_T44 l0 x17_1).f1), .int .i64 ((rd_T44 l0 x17_1).f2.f0), .int .u64 ((rd_T44 l0 x17_1).f2.f1), .int .i64 0]) ?_ 4 _ rfl; (with_reducible repeat (first | refine zN ?_ _ | refine zD ?_ | refine zA ?_ _)); refine blk_put (cs := #[.int .i64 ((rd_T44 l0 x17_1).f0), .string ((rd_T44 l0 x17_1).f1), .int .i64 ((rd_T44 l0 x17_1).f2.f0), .int .u64 0, .int .i64 0]) ?_ 3 _ rfl; (with_reducible repeat (first | refine zN ?_ _ | refine zD ?_ | refine zA ?_ _)); refine blk_put (cs := #[.int .i64 ((rd_T44 l0 x17_1).f0), .string ((rd_T44 l0 x17_1).f1), .int .i64 0, .int .u64 0, .int .i64 0]) ?_ 2 _ rfl; (with_reducible repeat (first | refine zN ?_ _ | refine zD ?_ | refine zA ?_ _)); refine blk_put (cs := #[.int .i64 ((rd_T44 l0 x17_1).f0), .string (⟨#[]⟩ : ByteArray), .int .i64 0, .int .u64 0, .int .i64 0]) ?_ 1 _ rfl; (with_reducible repeat (first | refine zN ?_ _ | refine zD ?_ | refine zA ?_ _)); refine blk_put (cs := #[.int .i64 0, .string (⟨#[]⟩ : ByteArray), .int .i64 0, .int .u64 0, .int .i64 0]) ?_ 0 _ rfl; (with_reducible repeat (first | refine zN ?_ _ | refine zD ?_ | refine zA ?_ _)); exact BK161.out)) : gb163 ≠ gb161)); clear BK161; clear HB; have BK161 := n0_; have HB := n1_; have BK163 := n2_; have GW163 := n3_; have GE163 := n4_; have NB161_163 := n5_; have NB163_161 := n6_; clear n0_ n1_ n2_ n3_ n4_ n5_ n6_; clear hb hbox hg; have hnb14 := NB163_161.out; have hnc14 := NB161_163.out; have hcz15_0 : w13.cell? ⟨gb163, 0, none⟩ = some (.int .i64 0) := (zC BK163.out 0).trans rfl; have hcz15_1 : w13.cell? ⟨gb163, 1, none⟩ = some (.string (⟨#[]⟩ : ByteArray)) := (zC BK163.out 1).trans rfl; have hcz15_2 : w13.cell? ⟨gb163, 2, none⟩ = some (.int .i64 0) := (zC BK163.out 2).trans rfl; have hcz15_3 : w13.cell? ⟨gb163, 3, none⟩ = some (.int .u64 0) := (zC BK163.out 3).trans rfl; have hcz15_4 : w13.cell? ⟨gb163, 4, none⟩ = some (.int .i64 0) := (zC BK163.out 4).trans rfl; have hfz15_0 := zF BK163.out 0; have hfz15_1 := zF BK163.out 1; have hfz15_2 := zF BK163.out 2; have hfz15_3 := zF BK163.out 3; have hfz15_4 := zF BK163.out 4; have hcz16_0 : w13.cell? ⟨gb161, 0, none⟩ = some (.int .i64 ((rd_T44 l0 x17_1).f0)) := (zC BK161.out 0).trans rfl; have hcz16_1 : w13.cell? ⟨gb161, 1, none⟩ = some (.string ((rd_T44 l0 x17_1).f1)) := (zC BK161.out 1).trans rfl; have hcz16_2 : w13.cell? ⟨gb161, 2, none⟩ = some (.int .i64 ((rd_T44 l0 x17_1).f2.f0)) := (zC BK161.out 2).trans rfl; have hcz16_3 : w13.cell? ⟨gb161, 3, none⟩ = some (.int .u64 ((rd_T44 l0 x17_1).f2.f1)) := (zC BK161.out 3).trans rfl; have hcz16_4 : w13.cell? ⟨gb161, 4, none⟩ = some (.int .i64 ((rd_T44 l0 x17_1).f3)) := (zC BK161.out 4).trans rfl; have hfz16_0 := zF BK161.out 0; have hfz16_1 := zF BK161.out 1; have hfz16_2 := zF BK161.out 2; have hfz16_3 := zF BK161.out 3; have hfz16_4 := zF BK161.out 4) | (go_at_call 54; (with_reducible refine (lex_Same_1.calls ((rd_T44 l0 x17_1).f0) ((rd_T44 l0 x17_1).f1) ((rd_T44 l0 x17_1).f2.f0) ((rd_T44 l0 x17_1).f2.f1) ((rd_T44 l0 x17_1).f3) ((rd_T44 l1 x17_1).f0) ((rd_T44 l1 x17_1).f1) ((rd_T44 l1 x17_1).f2.f0) ((rd_T44 l1 x17_1).f2.f1) ((rd_T44 l1 x17_1).f3) true _ A9.out).mono ?_); rintro e w17 ⟨rfl, hb⟩; have n0_ := aM (blk_below (g := gb161) (o := .cells #[.int .i64 ((rd_T44 l0 x17_1).f0), .string ((rd_T44 l0 x17_1).f1), .int .i64 ((rd_T44 l0 x17_1).f2.f0), .int .u64 ((rd_T44 l0 x17_1).f2.f1), .int .i64 ((rd_T44 l0 x17_1).f3)] 44 (0, 0)) (by (with_reducible repeat (first | refine zN ?_ _ | refine zD ?_ | refine zA ?_ _)); refine blk_far ?_ NB161_163.out _; (with_reducible repeat (first | refine zN ?_ _ | refine zD ?_ | refine zA ?_ _)); refine blk_far ?_ NB161_163.out _; (with_reducible repeat (first | refine zN ?_ _ | refine zD ?_ | refine zA ?_ _)); refine blk_far ?_ NB161_163.out _; (with_reducible repeat (first | refine zN ?_ _ | refine zD ?_ | refine zA ?_ _)); refine blk_far ?_ NB161_163.out _; (with_reducible repeat (first | refine zN ?_ _ | refine zD ?_ | refine zA ?_ _)); refine blk_far ?_ NB161_163.out _; (with_reducible repeat (first | refine zN ?_ _ | refine zD ?_ | refine zA ?_ _)); exact BK161.out) hb); have n1_ := aM (blk_below (g := gb163) (o := .cells #[.int .i64 ((rd_T44 l1 x17_1).f0), .string ((rd_T44 l1 x17_1).f1), .int .i64 ((rd_T44 l1 x17_1).f2.f0), .int .u64 ((rd_T44 l1 x17_1).f2.f1), .int .i64 ((rd_T44 l1 x17_1).f3)] 44 (0, 0)) (by (with_reducible repeat (first | refine zN ?_ _ | refine zD ?_ | refine zA ?_ _)); refine blk_put (cs := #[.int .i64 ((rd_T44 l1 x17_1).f0), .string ((rd_T44 l1 x17_1).f1), .int .i64 ((rd_T44 l1 x17_1).f2.f0), .int .u64 ((rd_T44 l1 x17_1).f2.f1), .int .i64 0]) ?_ 4 _ rfl; (with_reducible repeat (first | refine zN ?_ _ | refine zD ?_ | refine zA ?_ _)); refine blk_put (cs := #[.int .i64 ((rd_T44 l1 x17_1).f0), .string ((rd_T44 l1 x17_1).f1), .int .i64 ((rd_T44 l1 x17_1).f2.f0), .int .u64 0, .int .i64 0]) ?_ 3 _ rfl; (with_reducible repeat (first | refine zN ?_ _ | refine zD ?_ | refine zA ?_ _)); refine blk_put (cs := #[.int .i64 ((rd_T44 l1 x17_1).f0), .string ((rd_T44 l1 x17_1).f1), .int .i64 0, .int .u64 0, .int .i64 0]) ?_ 2 _ rfl; (with_reducible repeat (first | refine zN ?_ _ | refine zD ?_ | refine zA ?_ _)); refine blk_put (cs := #[.int .i64 ((rd_T44 l1 x17_1).f0), .string (⟨#[]⟩ : ByteArray), .int .i64 0, .int .u64 0, .int .i64 0]) ?_ 1 _ rfl; (with_reducible repeat (first | refine zN ?_ _ | refine zD ?_ | refine zA ?_ _)); refine blk_put (cs := #[.int .i64 0, .string (⟨#[]⟩ : ByteArray), .int .i64 0, .int .u64 0, .int .i64 0]) ?_ 0 _ rfl; (with_reducible repeat (first | refine zN ?_ _ | refine zD ?_ | refine zA ?_ _)); exact BK163.out) hb); have n2_ := aM (below_step (by repeat (first | (with_reducible first | exact HB.out | apply below_alloc | apply pw_below_drewN | apply below_drew1 | refine below_set ?_ GE161.out | refine below_set ?_ GE163.out) | exact HB.out)) hb); clear BK161; clear BK163; clear HB; have BK161 := n0_; have BK163 := n1_; have HB := n2_; clear n0_ n1_ n2_; (try clear hb)))
   go_roundg k1
   case measure => have := HK1.out; omega
   case rel => exact ⟨(wrap64 (x17_1 + 1)), (xR), H', ⟨by have := HK1.out; omega⟩, ⟨by repeat (first | (with_reducible first | exact HB.out | apply below_alloc | apply pw_below_drewN | apply below_drew1 | refine below_set ?_ GE161.out | refine below_set ?_ GE163.out) | exact HB.out)⟩⟩
/-! ### lex_Same: function 26 -/
def lex_Same.f (k : Nat) (l0 : List (S44)) (l1 : List (S44)) : Option (Bool) := (slices_EqualFunc_of_54.f k l0 l1).bind fun t165 => (some t165)
theorem lex_Same.mono : ∀ a0 a1 k, LeO (lex_Same.f k a0 a1) (lex_Same.f (k + 1) a0 a1) := by
  intro a0 a1 k
  unfold lex_Same.f
  repeat' first
      | (with_reducible apply slices_EqualFunc_of_54.mono)
      | (with_reducible exact LeO.refl _)
      | (with_reducible exact LeO.none _)
      | (with_reducible refine LeO.ite ?_ ?_)
      | (with_reducible refine LeO.bind ?_ (fun _ => ?_))
      | exact LeO.none _
      | refine LeO.ite ?_ ?_
      | refine LeO.bind ?_ (fun _ => ?_)
set_option maxHeartbeats 8000000 in
set_option maxRecDepth 100000 in
theorem lex_Same.calls (k : Nat) (A0 : Option Addr) (c0 : Nat) (l0 : List (S44)) (A1 : Option Addr) (c1 : Nat) (l1 : List (S44)) (r : Bool) (w : World) (hr0 : Kd.C k44 w A0 l0.length l0) (hc0 : l0.length ≤ c0) (hr1 : Kd.C k44 w A1 l1.length l1) (hc1 : l1.length ≤ c1) (h : lex_Same.f k l0 l1 = some r) :
    Calls Tryz.prog 26 #[.slice A0 l0.length c0, .slice A1 l1.length c1] w fun e w' => e = .returned (.bool r) ∧ Below w.heap.size w w' := by
 have HR0 := aM hr0
 have HC0 := aM hc0
 clear hr0 hc0
 have HR1 := aM hr1
 have HC1 := aM hc1
 clear hr1 hc1
 have HB := aM (Below.refl w.heap.size w)
 have H : ((slices_EqualFunc_of_54.f k l0 l1).bind fun t165 => (some t165)) = some r := h
 clear h
 replace H := Option.bind_eq_some_iff.mp H
 obtain ⟨t165, A30, H⟩ := H
 replace H : (some t165) = some r := H
 have A3 := aM A30
 clear A30
 obtain rfl := Option.some.inj H
 go_enter Tryz.func26, Tryz.ntmps26
 go_wp2_with (first | ((with_reducible refine gate_callee (f := 53) rfl ?_); refine goesL_ (some 7) rfl rfl Tryz.func53 (by kernel_rfl) rfl #[.slice A0 l0.length c0, .slice A1 l1.length c1, .func (.func 54) #[] #[]] rfl gA ?_; (with_reducible refine (slices_EqualFunc_of_54.calls k _ _ l0 _ _ l1  t165 _ ?side1 ?side2 ?side3 ?side4 A3.out).mono ?_); (case side1 => repeat (first | exact HR0.out | (with_reducible refine Kd.C_alloc ?_ _) | (with_reducible refine Kd.C_drewN ?_ _) | (with_reducible refine Kd.C_drew ?_))); (case side2 => exact HC0.out); (case side3 => repeat (first | exact HR1.out | (with_reducible refine Kd.C_alloc ?_ _) | (with_reducible refine Kd.C_drewN ?_ _) | (with_reducible refine Kd.C_drew ?_))); (case side4 => exact HC1.out); rintro e w4 ⟨rfl, hb⟩; refine ⟨_, rfl, ?_⟩; have n0_ := aM (below_step (hB) hb); clear HB; have HB := n0_; clear n0_; (try clear hb)))
 go_ret
 exact ⟨by first | rfl | (simp [errW_none, errW_some] <;> rfl) | (simp [*, errW_none, errW_some] <;> rfl), hB⟩
/-! ### lex_Join: function 29 -/
def lex_Join.l0 : Nat → List ByteArray → List (S44) → Int → Int → Option (ByteArray)
  | 0, _, _, _, _ => none
  | k + 1, x3, x6, x7, x8 => if x8 < x7 then (if 0 ≤ x8 then (if x8 < (x6.length : Int) then (if x3.length < 8796093022208 then (lex_Join.l0 k (x3 ++ [(rd_T44 x6 x8).f1]) x6 x7 (wrap64 (x8 + 1))) else (none)) else (none)) else (none)) else ((strings_Join.f x3 (⟨#[32]⟩ : ByteArray)).bind fun t171 => (some t171))
def lex_Join.f (k : Nat) (l0 : List (S44)) : Option (ByteArray) := lex_Join.l0 k ([] : List ByteArray) l0 (l0.length : Int) 0
theorem lex_Join.mono_l : ∀ k, (∀ y0 y1 y2 y3, LeO (lex_Join.l0 k y0 y1 y2 y3) (lex_Join.l0 (k + 1) y0 y1 y2 y3))
  | 0 => fun _ _ _ _ r h => by simp [lex_Join.l0] at h
  | k + 1 => by
    have ih0 := lex_Join.mono_l k
    · intro y0 y1 y2 y3
      unfold lex_Join.l0
      repeat' first
      | (with_reducible apply ih0)
      | (with_reducible exact LeO.refl _)
      | (with_reducible exact LeO.none _)
      | (with_reducible refine LeO.ite ?_ ?_)
      | (with_reducible refine LeO.bind ?_ (fun _ => ?_))
      | exact LeO.none _
      | refine LeO.ite ?_ ?_
      | refine LeO.bind ?_ (fun _ => ?_)
theorem lex_Join.mono : ∀ a0 k, LeO (lex_Join.f k a0) (lex_Join.f (k + 1) a0) := by
  intro a0 k
  have ih0 := lex_Join.mono_l k
  unfold lex_Join.f
  repeat' first
      | (with_reducible apply ih0)
      | (with_reducible exact LeO.refl _)
      | (with_reducible exact LeO.none _)
      | (with_reducible refine LeO.ite ?_ ?_)
      | (with_reducible refine LeO.bind ?_ (fun _ => ?_))
      | exact LeO.none _
      | refine LeO.ite ?_ ?_
      | refine LeO.bind ?_ (fun _ => ?_)
set_option maxHeartbeats 8000000 in
set_option maxRecDepth 100000 in
theorem lex_Join.calls (k : Nat) (A0 : Option Addr) (c0 : Nat) (l0 : List (S44)) (r : ByteArray) (w : World) (hr0 : Kd.C k44 w A0 l0.length l0) (hc0 : l0.length ≤ c0) (h : lex_Join.f k l0 = some r) :
    Calls Tryz.prog 29 #[.slice A0 l0.length c0] w fun e w' => e = .returned (.string r) ∧ Below w.heap.size w w' := by
 have hu44 := Tryz.underlying44
 have HR0 := aM hr0
 have HC0 := aM hc0
 clear hr0 hc0
 have HB := aM (Below.refl w.heap.size w)
 have H : (lex_Join.l0 k ([] : List ByteArray) l0 (l0.length : Int) 0) = some r := h
 clear h
 have H' := aM H
 clear H
 go_enter Tryz.func29, Tryz.ntmps29
 go_wp2
 go_loopg [3, 8] k (fun kq v3 v8 w' => ∃ (x3_1 : List ByteArray) (x8_1 : Int), v8 = .int .i64 x8_1 ∧ Aside0 (lex_Join.l0 kq x3_1 l0 (l0.length : Int) x8_1 = some r) ∧ Aside0 (kq ≤ k) ∧ Aside0 (Kd.R Kd.string 9 w' w.heap.size (fun _ => True) v3 x3_1) ∧ Aside0 (Below w.heap.size w w'))
 case atStart => exact ⟨(([] : List ByteArray)), (0), (xR), H', ⟨Nat.le_refl _⟩, ⟨by first | exact Kd.R_nil _ _ _ _ _ | exact Kd.N_nil _ _ _ _ _ | exact Kd.V_nil _ _ _ _ _ | exact Kd.Q_nil _ _ _ _ _ | exact Kd.S_nil _ _ _ _ _⟩, ⟨hB⟩⟩
 case round =>
  clear H'
  obtain ⟨x3_1, x8_1, rfl, HA, HK1, HO_3, HB⟩ := hrel
  cases gk with
  | zero => exact absurd HA.out (by simp [lex_Join.l0])
  | succ k1 =>
   have H := HA.out
   clear HA
   simp only [lex_Join.l0] at H
   by_cases c2 : x8_1 < (l0.length : Int)
   rotate_left
   ·rw [if_neg c2] at H
    have c2b0 : decide (x8_1 < (l0.length : Int)) = false := decide_eq_false c2
    clear c2
    replace H := Option.bind_eq_some_iff.mp H
    obtain ⟨t171, A90, H⟩ := H
    replace H : (some t171) = some r := H
    have A9 := aM A90
    clear A90
    obtain rfl := Option.some.inj H
    obtain ⟨Ao10, co10, eo10⟩ := Kd.R_slice HO_3.out
    subst eo10
    go_wp2_with (first | ((with_reducible refine gate_callee (f := 57) rfl ?_); refine goesL_ (some 19) rfl rfl Tryz.func57 (by kernel_rfl) rfl #[.slice Ao10 x3_1.length co10, .string (⟨#[32]⟩ : ByteArray)] rfl gA ?_; (with_reducible refine (strings_Join.calls _ _ x3_1 (⟨#[32]⟩ : ByteArray) t171 _ ?side1 ?side2 A9.out).mono ?_); (case side1 => repeat (first | exact (Kd.R_reads' HO_3.out).2.2 | (with_reducible refine Kd.C_alloc ?_ _) | (with_reducible refine Kd.C_drewN ?_ _) | (with_reducible refine Kd.C_drew ?_))); (case side2 => exact (Kd.R_reads' HO_3.out).2.1); rintro e w11 ⟨rfl, hb⟩; refine ⟨_, rfl, ?_⟩; have n0_ := aM (Kd.R_below (by (with_reducible repeat (first | apply Kd.R_alloc | apply Kd.R_drewN | apply Kd.R_drew)); exact HO_3.out) hb); have n1_ := aM (below_step (hB) hb); clear HO_3; clear HB; have HO_3 := n0_; have HB := n1_; clear n0_ n1_; (try clear hb)))
    go_ret
    exact ⟨by first | rfl | (simp [errW_none, errW_some] <;> rfl) | (simp [*, errW_none, errW_some] <;> rfl), hB⟩
   rw [if_pos c2] at H
   have c2b0 : decide (x8_1 < (l0.length : Int)) = true := decide_eq_true c2
   clear c2
   by_cases c3 : 0 ≤ x8_1
   rotate_left
   ·rw [if_neg c3] at H
    exact absurd H (by simp)
   rw [if_pos c3] at H
   have c3b0 : decide (0 ≤ x8_1) = true := decide_eq_true c3
   clear c3
   by_cases c4 : x8_1 < (l0.length : Int)
   rotate_left
   ·rw [if_neg c4] at H
    exact absurd H (by simp)
   rw [if_pos c4] at H
   have c4b0 : decide (x8_1 < (l0.length : Int)) = true := decide_eq_true c4
   clear c4
   by_cases c5 : x3_1.length < 8796093022208
   rotate_left
   ·rw [if_neg c5] at H
    exact absurd H (by simp)
   rw [if_pos c5] at H
   have LMc5 := aM c5
   clear c5
   obtain ⟨y168, hy168⟩ : ∃ y_ : List ByteArray, y_ = (x3_1 ++ [(rd_T44 l0 x8_1).f1]) := ⟨_, rfl⟩
   replace H : (lex_Join.l0 k1 y168 l0 (l0.length : Int) (wrap64 (x8_1 + 1))) = some r := by first | (rw [hy168]; with_reducible exact H) | (have H2_ := (Option.bind_some _ _).symm.trans H; rw [hy168]; with_reducible exact H2_) | (have H2_ := (Option.bind_some _ _).symm.trans H; with_reducible exact H2_) | with_reducible exact H | (rw [hy168]; exact H) | exact H
   have Ny168 := aM hy168
   clear hy168
   have H' := aM H
   clear H
   have p166 : 0 ≤ (x8_1 : Int) := oA
   have q166 : x8_1 < (l0.length : Int) := oA
   obtain ⟨ad166, e166, hx166_0, hx166_1, hx166_2, hx166_3, hx166_4⟩ := at_T44 HR0.out x8_1 p166 q166
   cases e166
   replace hx166_0 := (HB.out.cell (wB w _ hx166_0)).trans hx166_0
   replace hx166_1 := (HB.out.cell (wB w _ hx166_1)).trans hx166_1
   replace hx166_2 := (HB.out.cell (wB w _ hx166_2)).trans hx166_2
   replace hx166_3 := (HB.out.cell (wB w _ hx166_3)).trans hx166_3
   replace hx166_4 := (HB.out.cell (wB w _ hx166_4)).trans hx166_4
   replace p166 := eq_true p166
   replace q166 := eq_true q166
   go_wp2_with (first | ((with_reducible refine gate_dst (N := 5) rfl ?_); refine box_event ?hg (N := 5) ?hd (cs := #[.int .i64 0, .string (⟨#[]⟩ : ByteArray), .int .i64 0, .int .u64 0, .int .i64 0]) (t := 44) ?hr ?_; (case hd => rfl); (case hg => rfl); (case hr => first | (go_simp; done) | (go_simp; rfl)); intro gb167 hg w6 hbox hb; have n0_ := aM (Kd.R_below (by (with_reducible repeat (first | apply Kd.R_alloc | apply Kd.R_drewN | apply Kd.R_drew)); exact HO_3.out) hb); have n1_ := aM (below_step (hB) hb); have n2_ := aM (hbox); have n3_ := aM ((by rw [hg]; exact (below_size (hB)) : w.heap.size ≤ gb167)); have n4_ := aM ((by rw [hg]; exact (below_size (hB)) : w.heap.size ≤ gb167)); clear HO_3; clear HB; have HO_3 := n0_; have HB := n1_; have BK167 := n2_; have GW167 := n3_; have GE167 := n4_; clear n0_ n1_ n2_ n3_ n4_; clear hb hbox hg; have hcz7_0 : w6.cell? ⟨gb167, 0, none⟩ = some (.int .i64 0) := (zC BK167.out 0).trans rfl; have hcz7_1 : w6.cell? ⟨gb167, 1, none⟩ = some (.string (⟨#[]⟩ : ByteArray)) := (zC BK167.out 1).trans rfl; have hcz7_2 : w6.cell? ⟨gb167, 2, none⟩ = some (.int .i64 0) := (zC BK167.out 2).trans rfl; have hcz7_3 : w6.cell? ⟨gb167, 3, none⟩ = some (.int .u64 0) := (zC BK167.out 3).trans rfl; have hcz7_4 : w6.cell? ⟨gb167, 4, none⟩ = some (.int .i64 0) := (zC BK167.out 4).trans rfl; have hfz7_0 := zF BK167.out 0; have hfz7_1 := zF BK167.out 1; have hfz7_2 := zF BK167.out 2; have hfz7_3 := zF BK167.out 3; have hfz7_4 := zF BK167.out 4) | ((with_reducible refine gate_builtin (b := .append) (xs := #[.tmp 12, .tmp 15]) rfl ?_); at_builtin; refine Kd.R_append Kd.string (w0 := w) w.heap.size rfl (.tmp 12) (.tmp 15) 80 9 (.string ⟨#[]⟩) 16 rfl Tryz.underlying80 info9 rfl (by decide) (by omega) u3 x3_1 ((rd_T44 l0 x8_1).f1) [.string ((rd_T44 l0 x8_1).f1)] (fun _ => True) (fun _ => False) rfl (by first | (go_simp; done) | (go_simp; rfl)) ?aP (fun _ hk => hk.elim) ?aF ?aO ?aB ?aS ?aL ?_; (case aP => exact rfl); (case aB => exact (by repeat (first | (with_reducible first | exact HB.out | apply below_alloc | apply pw_below_drewN | apply below_drew1 | refine below_set ?_ GE167.out) | exact HB.out))); (case aF => exact (fun _ _ => trivial)); (case aO => exact (by (with_reducible repeat (first | apply Kd.R_alloc | apply Kd.R_drewN | apply Kd.R_drew)); exact Kd.R_mono (Kd.R_far (p := ⟨gb167, 4, none⟩) (Kd.R_far (p := ⟨gb167, 3, none⟩) (Kd.R_far (p := ⟨gb167, 2, none⟩) (Kd.R_far (p := ⟨gb167, 1, none⟩) (Kd.R_far (p := ⟨gb167, 0, none⟩) (Kd.R_types HO_3.out BK167.out (by decide)) (fun _ hk => hk.2) (.int .i64 ((rd_T44 l0 x8_1).f0))) (fun _ hk => hk.2) (.string ((rd_T44 l0 x8_1).f1))) (fun _ hk => hk.2) (.int .i64 ((rd_T44 l0 x8_1).f2.f0))) (fun _ hk => hk.2) (.int .u64 ((rd_T44 l0 x8_1).f2.f1))) (fun _ hk => hk.2) (.int .i64 ((rd_T44 l0 x8_1).f3))) (fun _ hk => trivial))); (case aS => exact (below_size (by repeat (first | (with_reducible first | exact HB.out | apply below_alloc | apply pw_below_drewN | apply below_drew1 | refine below_set ?_ GE167.out) | exact HB.out)))); (case aL => have := LMc5.out; omega); intro v169 w8 ho hb hg hat; rw [← Ny168.out] at ho; have n0_ := aM (blk_grown (g := gb167) (o := .cells #[.int .i64 ((rd_T44 l0 x8_1).f0), .string ((rd_T44 l0 x8_1).f1), .int .i64 ((rd_T44 l0 x8_1).f2.f0), .int .u64 ((rd_T44 l0 x8_1).f2.f1), .int .i64 ((rd_T44 l0 x8_1).f3)] 44 (0, 0)) (by (with_reducible repeat (first | refine zN ?_ _ | refine zD ?_ | refine zA ?_ _)); refine blk_put (cs := #[.int .i64 ((rd_T44 l0 x8_1).f0), .string ((rd_T44 l0 x8_1).f1), .int .i64 ((rd_T44 l0 x8_1).f2.f0), .int .u64 ((rd_T44 l0 x8_1).f2.f1), .int .i64 0]) ?_ 4 _ rfl; (with_reducible repeat (first | refine zN ?_ _ | refine zD ?_ | refine zA ?_ _)); refine blk_put (cs := #[.int .i64 ((rd_T44 l0 x8_1).f0), .string ((rd_T44 l0 x8_1).f1), .int .i64 ((rd_T44 l0 x8_1).f2.f0), .int .u64 0, .int .i64 0]) ?_ 3 _ rfl; (with_reducible repeat (first | refine zN ?_ _ | refine zD ?_ | refine zA ?_ _)); refine blk_put (cs := #[.int .i64 ((rd_T44 l0 x8_1).f0), .string ((rd_T44 l0 x8_1).f1), .int .i64 0, .int .u64 0, .int .i64 0]) ?_ 2 _ rfl; (with_reducible repeat (first | refine zN ?_ _ | refine zD ?_ | refine zA ?_ _)); refine blk_put (cs := #[.int .i64 ((rd_T44 l0 x8_1).f0), .string (⟨#[]⟩ : ByteArray), .int .i64 0, .int .u64 0, .int .i64 0]) ?_ 1 _ rfl; (with_reducible repeat (first | refine zN ?_ _ | refine zD ?_ | refine zA ?_ _)); refine blk_put (cs := #[.int .i64 0, .string (⟨#[]⟩ : ByteArray), .int .i64 0, .int .u64 0, .int .i64 0]) ?_ 0 _ rfl; (with_reducible repeat (first | refine zN ?_ _ | refine zD ?_ | refine zA ?_ _)); exact BK167.out) hg (Kd.R_ne HO_3.out BK167.out (by decide))); have n1_ := aM (hb); have n2_ := aM (ho); clear BK167; clear HB; clear HO_3; have BK167 := n0_; have HB := n1_; have HO170 := n2_; clear n0_ n1_ n2_; clear ho hb hg hat))
   go_roundg k1
   case measure => have := HK1.out; omega
   case rel => exact ⟨(y168), (wrap64 (x8_1 + 1)), (xR), H', ⟨by have := HK1.out; omega⟩, ⟨by (with_reducible repeat (first | apply Kd.R_alloc | apply Kd.R_drewN | apply Kd.R_drew)); exact HO170.out⟩, ⟨by repeat (first | (with_reducible first | exact HB.out | apply below_alloc | apply pw_below_drewN | apply below_drew1 | refine below_set ?_ GE167.out) | exact HB.out)⟩⟩
/-! ### foundrylaw05_own: function 30 -/
def foundrylaw05_own.l0 : Nat → List (S43) → List (S44) → Int → Option ((List (S44)))
  | 0, _, _, _ => none
  | k + 1, x0, x3, x4 => if x4 < (x0.length : Int) then (if 0 ≤ x4 then (if x3.length < 2932031007402 then (foundrylaw05_own.l0 k x0 (x3 ++ [(⟨(rd_T43 x0 x4).f0, (rd_T43 x0 x4).f1, (⟨(rd_T43 x0 x4).f2.f0, (rd_T43 x0 x4).f2.f1⟩ : S41), (rd_T43 x0 x4).f3⟩ : S44)]) (wrap64 (x4 + 1))) else (none)) else (none)) else (some x3)
def foundrylaw05_own.f (k : Nat) (l0 : List (S43)) : Option ((List (S44))) := foundrylaw05_own.l0 k l0 ([] : List (S44)) 0
theorem foundrylaw05_own.mono_l : ∀ k, (∀ y0 y1 y2, LeO (foundrylaw05_own.l0 k y0 y1 y2) (foundrylaw05_own.l0 (k + 1) y0 y1 y2))
  | 0 => fun _ _ _ r h => by simp [foundrylaw05_own.l0] at h
  | k + 1 => by
    have ih0 := foundrylaw05_own.mono_l k
    · intro y0 y1 y2
      unfold foundrylaw05_own.l0
      repeat' first
      | (with_reducible apply ih0)
      | (with_reducible exact LeO.refl _)
      | (with_reducible exact LeO.none _)
      | (with_reducible refine LeO.ite ?_ ?_)
      | (with_reducible refine LeO.bind ?_ (fun _ => ?_))
      | exact LeO.none _
      | refine LeO.ite ?_ ?_
      | refine LeO.bind ?_ (fun _ => ?_)
theorem foundrylaw05_own.mono : ∀ a0 k, LeO (foundrylaw05_own.f k a0) (foundrylaw05_own.f (k + 1) a0) := by
  intro a0 k
  have ih0 := foundrylaw05_own.mono_l k
  unfold foundrylaw05_own.f
  repeat' first
      | (with_reducible apply ih0)
      | (with_reducible exact LeO.refl _)
      | (with_reducible exact LeO.none _)
      | (with_reducible refine LeO.ite ?_ ?_)
      | (with_reducible refine LeO.bind ?_ (fun _ => ?_))
      | exact LeO.none _
      | refine LeO.ite ?_ ?_
      | refine LeO.bind ?_ (fun _ => ?_)
def foundrylaw05_own.T5 : Bool × List (List Nat × List Nat) := (true, [([], []), ([], []), ([], []), ([1, 2], [1, 2]), ([3], [3]), ([4], [4]), ([], []), ([], []), ([6, 7], [6, 7]), ([8], [8]), ([9], [9]), ([], []), ([], []), ([11, 12], [11, 12]), ([13], [13]), ([14], [14]), ([], []), ([], []), ([16, 17], [16, 17]), ([18], [18]), ([19], [19]), ([5, 10, 15, 20], [5, 10, 15, 20]), ([21], [21]), ([0, 22], [0, 22]), ([23, 23, 0, 1, 2, 3, 4, 5, 6, 7, 8, 9, 10, 11, 12, 13, 14, 15, 16, 17, 18, 19, 20, 21, 22, 23], [0, 23])])
def foundrylaw05_own.B5 : List Nat := [0, 0, 0, 6, 14, 30, 0, 0, 192, 448, 960, 0, 0, 6144, 14336, 30720, 0, 0, 196608, 458752, 983040, 2097150, 4194302, 8388607, 16777215]
theorem foundrylaw05_own.tab5 : rtab .any (opsOf Tryz.f30 5) = foundrylaw05_own.T5 := by kernel_rfl
theorem foundrylaw05_own.bits5 : waitsOk foundrylaw05_own.T5.2 foundrylaw05_own.B5 = true := by kernel_rfl
set_option maxHeartbeats 8000000 in
set_option maxRecDepth 100000 in
theorem foundrylaw05_own.calls (k : Nat) (A0 : Option Addr) (c0 : Nat) (l0 : List (S43)) (r : List (S44)) (w : World) (hr0 : Kd.C k43 w A0 l0.length l0) (hc0 : l0.length ≤ c0) (h : foundrylaw05_own.f k l0 = some r) :
    Calls Tryz.prog 30 #[.slice A0 l0.length c0] w fun e w' => ∃ v0_ : Value, e = .returned (v0_) ∧ Kd.R k44 44 w' w.heap.size (fun _ => True) v0_ r ∧ Below w.heap.size w w' := by
 have hu41 := Tryz.underlying41
 have hu44 := Tryz.underlying44
 have HR0 := aM hr0
 have HC0 := aM hc0
 clear hr0 hc0
 have HB := aM (Below.refl w.heap.size w)
 have H : (foundrylaw05_own.l0 k l0 ([] : List (S44)) 0) = some r := h
 clear h
 have H' := aM H
 clear H
 go_enter Tryz.func30, Tryz.ntmps30
 go_wp2
 go_loopg [3, 4] k (fun kq v3 v4 w' => ∃ (x3_1 : List (S44)) (x4_1 : Int), v4 = .int .i64 x4_1 ∧ Aside0 (foundrylaw05_own.l0 kq l0 x3_1 x4_1 = some r) ∧ Aside0 (kq ≤ k) ∧ Aside0 (Kd.R k44 44 w' w.heap.size (fun _ => True) v3 x3_1) ∧ Aside0 (Below w.heap.size w w'))
 case atStart => exact ⟨(([] : List (S44))), (0), (xR), H', ⟨Nat.le_refl _⟩, ⟨by first | exact Kd.R_nil _ _ _ _ _ | exact Kd.N_nil _ _ _ _ _ | exact Kd.V_nil _ _ _ _ _ | exact Kd.Q_nil _ _ _ _ _ | exact Kd.S_nil _ _ _ _ _⟩, ⟨hB⟩⟩
 case round =>
  clear H'
  obtain ⟨x3_1, x4_1, rfl, HA, HK1, HO_3, HB⟩ := hrel
  cases gk with
  | zero => exact absurd HA.out (by simp [foundrylaw05_own.l0])
  | succ k1 =>
   have H := HA.out
   clear HA
   simp only [foundrylaw05_own.l0] at H
   by_cases c2 : x4_1 < (l0.length : Int)
   rotate_left
   ·rw [if_neg c2] at H
    have c2b0 : decide (x4_1 < (l0.length : Int)) = false := decide_eq_false c2
    clear c2
    obtain rfl := Option.some.inj H
    go_wp2
    go_ret
    exact ⟨_, by first | rfl | (simp [errW_none, errW_some] <;> rfl) | (simp [*, errW_none, errW_some] <;> rfl), by (with_reducible repeat (first | apply Kd.R_alloc | apply Kd.R_drewN | apply Kd.R_drew)); exact HO_3.out, hB⟩
   rw [if_pos c2] at H
   have c2b0 : decide (x4_1 < (l0.length : Int)) = true := decide_eq_true c2
   clear c2
   by_cases c3 : 0 ≤ x4_1
   rotate_left
   ·rw [if_neg c3] at H
    exact absurd H (by simp)
   rw [if_pos c3] at H
   have c3b0 : decide (0 ≤ x4_1) = true := decide_eq_true c3
   clear c3
   by_cases c4 : x3_1.length < 2932031007402
   rotate_left
   ·rw [if_neg c4] at H
    exact absurd H (by simp)
   rw [if_pos c4] at H
   have LMc4 := aM c4
   clear c4
   obtain ⟨y176, hy176⟩ : ∃ y_ : List (S44), y_ = (x3_1 ++ [(⟨(rd_T43 l0 x4_1).f0, (rd_T43 l0 x4_1).f1, (⟨(rd_T43 l0 x4_1).f2.f0, (rd_T43 l0 x4_1).f2.f1⟩ : S41), (rd_T43 l0 x4_1).f3⟩ : S44)]) := ⟨_, rfl⟩
   replace H : (foundrylaw05_own.l0 k1 l0 y176 (wrap64 (x4_1 + 1))) = some r := by first | (rw [hy176]; with_reducible exact H) | (have H2_ := (Option.bind_some _ _).symm.trans H; rw [hy176]; with_reducible exact H2_) | (have H2_ := (Option.bind_some _ _).symm.trans H; with_reducible exact H2_) | with_reducible exact H | (rw [hy176]; exact H) | exact H
   have Ny176 := aM hy176
   clear hy176
   have H' := aM H
   clear H
   try go_wp2
   have n0_ := aM (Kd.R_drew HO_3.out)
   have n1_ := aM (below_drew1 HB.out)
   clear HO_3
   clear HB
   have HO_3 := n0_
   have HB := n1_
   clear n0_ n1_
   have p172 : 0 ≤ (x4_1 : Int) := oA
   have q172 : x4_1 < (l0.length : Int) := oA
   obtain ⟨ad172, e172, hx172_0, hx172_1, hx172_2, hx172_3, hx172_4⟩ := at_T43 HR0.out x4_1 p172 q172
   have hw172_4 := hx172_4
   have hw172_3 := hx172_3
   have hw172_2 := hx172_2
   have hw172_1 := hx172_1
   have hw172_0 := hx172_0
   cases e172
   replace hx172_0 := (HB.out.cell (wB w _ hx172_0)).trans hx172_0
   replace hx172_1 := (HB.out.cell (wB w _ hx172_1)).trans hx172_1
   replace hx172_2 := (HB.out.cell (wB w _ hx172_2)).trans hx172_2
   replace hx172_3 := (HB.out.cell (wB w _ hx172_3)).trans hx172_3
   replace hx172_4 := (HB.out.cell (wB w _ hx172_4)).trans hx172_4
   replace p172 := eq_true p172
   replace q172 := eq_true q172
   have p173 : 0 ≤ (x4_1 : Int) := oA
   have q173 : x4_1 < (l0.length : Int) := oA
   obtain ⟨ad173, e173, hx173_0, hx173_1, hx173_2, hx173_3, hx173_4⟩ := at_T43 HR0.out x4_1 p173 q173
   have hw173_4 := hx173_4
   have hw173_3 := hx173_3
   have hw173_2 := hx173_2
   have hw173_1 := hx173_1
   have hw173_0 := hx173_0
   obtain rfl : ad172 = ad173 := (by injection e173)
   replace hx173_0 := (HB.out.cell (wB w _ hx173_0)).trans hx173_0
   replace hx173_1 := (HB.out.cell (wB w _ hx173_1)).trans hx173_1
   replace hx173_2 := (HB.out.cell (wB w _ hx173_2)).trans hx173_2
   replace hx173_3 := (HB.out.cell (wB w _ hx173_3)).trans hx173_3
   replace hx173_4 := (HB.out.cell (wB w _ hx173_4)).trans hx173_4
   replace p173 := eq_true p173
   replace q173 := eq_true q173
   have p174 : 0 ≤ (x4_1 : Int) := oA
   have q174 : x4_1 < (l0.length : Int) := oA
   obtain ⟨ad174, e174, hx174_0, hx174_1, hx174_2, hx174_3, hx174_4⟩ := at_T43 HR0.out x4_1 p174 q174
   have hw174_4 := hx174_4
   have hw174_3 := hx174_3
   have hw174_2 := hx174_2
   have hw174_1 := hx174_1
   have hw174_0 := hx174_0
   obtain rfl : ad172 = ad174 := (by injection e174)
   replace hx174_0 := (HB.out.cell (wB w _ hx174_0)).trans hx174_0
   replace hx174_1 := (HB.out.cell (wB w _ hx174_1)).trans hx174_1
   replace hx174_2 := (HB.out.cell (wB w _ hx174_2)).trans hx174_2
   replace hx174_3 := (HB.out.cell (wB w _ hx174_3)).trans hx174_3
   replace hx174_4 := (HB.out.cell (wB w _ hx174_4)).trans hx174_4
   replace p174 := eq_true p174
   replace q174 := eq_true q174
   have p175 : 0 ≤ (x4_1 : Int) := oA
   have q175 : x4_1 < (l0.length : Int) := oA
   obtain ⟨ad175, e175, hx175_0, hx175_1, hx175_2, hx175_3, hx175_4⟩ := at_T43 HR0.out x4_1 p175 q175
   have hw175_4 := hx175_4
   have hw175_3 := hx175_3
   have hw175_2 := hx175_2
   have hw175_1 := hx175_1
   have hw175_0 := hx175_0
   obtain rfl : ad172 = ad175 := (by injection e175)
   replace hx175_0 := (HB.out.cell (wB w _ hx175_0)).trans hx175_0
   replace hx175_1 := (HB.out.cell (wB w _ hx175_1)).trans hx175_1
   replace hx175_2 := (HB.out.cell (wB w _ hx175_2)).trans hx175_2
   replace hx175_3 := (HB.out.cell (wB w _ hx175_3)).trans hx175_3
   replace hx175_4 := (HB.out.cell (wB w _ hx175_4)).trans hx175_4
   replace p175 := eq_true p175
   replace q175 := eq_true q175
   refine start_ (n := 25) (S := fun w' => w'.cell? (ad172.add ((x4_1).toNat * 5)) = some (.int .i64 ((rd_T43 l0 x4_1).f0)) ∧ w'.cell? ⟨(ad172.add ((x4_1).toNat * 5)).block, (ad172.add ((x4_1).toNat * 5)).off + 1, none⟩ = some (.string ((rd_T43 l0 x4_1).f1)) ∧ w'.cell? ⟨(ad172.add ((x4_1).toNat * 5)).block, (ad172.add ((x4_1).toNat * 5)).off + 2, none⟩ = some (.int .i64 ((rd_T43 l0 x4_1).f2.f0)) ∧ w'.cell? ⟨(ad172.add ((x4_1).toNat * 5)).block, (ad172.add ((x4_1).toNat * 5)).off + 3, none⟩ = some (.int .u64 ((rd_T43 l0 x4_1).f2.f1)) ∧ w'.cell? ⟨(ad172.add ((x4_1).toNat * 5)).block, (ad172.add ((x4_1).toNat * 5)).off + 4, none⟩ = some (.int .i64 ((rd_T43 l0 x4_1).f3)) ∧ w'.cell? (ad172.add ((x4_1).toNat * 5)) = some (.int .i64 ((rd_T43 l0 x4_1).f0)) ∧ w'.cell? ⟨(ad172.add ((x4_1).toNat * 5)).block, (ad172.add ((x4_1).toNat * 5)).off + 1, none⟩ = some (.string ((rd_T43 l0 x4_1).f1)) ∧ w'.cell? ⟨(ad172.add ((x4_1).toNat * 5)).block, (ad172.add ((x4_1).toNat * 5)).off + 2, none⟩ = some (.int .i64 ((rd_T43 l0 x4_1).f2.f0)) ∧ w'.cell? ⟨(ad172.add ((x4_1).toNat * 5)).block, (ad172.add ((x4_1).toNat * 5)).off + 3, none⟩ = some (.int .u64 ((rd_T43 l0 x4_1).f2.f1)) ∧ w'.cell? ⟨(ad172.add ((x4_1).toNat * 5)).block, (ad172.add ((x4_1).toNat * 5)).off + 4, none⟩ = some (.int .i64 ((rd_T43 l0 x4_1).f3)) ∧ w'.cell? (ad172.add ((x4_1).toNat * 5)) = some (.int .i64 ((rd_T43 l0 x4_1).f0)) ∧ w'.cell? ⟨(ad172.add ((x4_1).toNat * 5)).block, (ad172.add ((x4_1).toNat * 5)).off + 1, none⟩ = some (.string ((rd_T43 l0 x4_1).f1)) ∧ w'.cell? ⟨(ad172.add ((x4_1).toNat * 5)).block, (ad172.add ((x4_1).toNat * 5)).off + 2, none⟩ = some (.int .i64 ((rd_T43 l0 x4_1).f2.f0)) ∧ w'.cell? ⟨(ad172.add ((x4_1).toNat * 5)).block, (ad172.add ((x4_1).toNat * 5)).off + 3, none⟩ = some (.int .u64 ((rd_T43 l0 x4_1).f2.f1)) ∧ w'.cell? ⟨(ad172.add ((x4_1).toNat * 5)).block, (ad172.add ((x4_1).toNat * 5)).off + 4, none⟩ = some (.int .i64 ((rd_T43 l0 x4_1).f3)) ∧ w'.cell? (ad172.add ((x4_1).toNat * 5)) = some (.int .i64 ((rd_T43 l0 x4_1).f0)) ∧ w'.cell? ⟨(ad172.add ((x4_1).toNat * 5)).block, (ad172.add ((x4_1).toNat * 5)).off + 1, none⟩ = some (.string ((rd_T43 l0 x4_1).f1)) ∧ w'.cell? ⟨(ad172.add ((x4_1).toNat * 5)).block, (ad172.add ((x4_1).toNat * 5)).off + 2, none⟩ = some (.int .i64 ((rd_T43 l0 x4_1).f2.f0)) ∧ w'.cell? ⟨(ad172.add ((x4_1).toNat * 5)).block, (ad172.add ((x4_1).toNat * 5)).off + 3, none⟩ = some (.int .u64 ((rd_T43 l0 x4_1).f2.f1)) ∧ w'.cell? ⟨(ad172.add ((x4_1).toNat * 5)).block, (ad172.add ((x4_1).toNat * 5)).off + 4, none⟩ = some (.int .i64 ((rd_T43 l0 x4_1).f3))) (ds := []) #[false, false, false, false, false, false, false, false, false, false, false, false, false, false, false, false, false, false, false, false, false, false, false, false, false] (by kernel_rfl) rfl rfl ⟨((HB.out.cell (wB w _ hw172_0)).trans hw172_0), ((HB.out.cell (wB w _ hw172_1)).trans hw172_1), ((HB.out.cell (wB w _ hw172_2)).trans hw172_2), ((HB.out.cell (wB w _ hw172_3)).trans hw172_3), ((HB.out.cell (wB w _ hw172_4)).trans hw172_4), ((HB.out.cell (wB w _ hw173_0)).trans hw173_0), ((HB.out.cell (wB w _ hw173_1)).trans hw173_1), ((HB.out.cell (wB w _ hw173_2)).trans hw173_2), ((HB.out.cell (wB w _ hw173_3)).trans hw173_3), ((HB.out.cell (wB w _ hw173_4)).trans hw173_4), ((HB.out.cell (wB w _ hw174_0)).trans hw174_0), ((HB.out.cell (wB w _ hw174_1)).trans hw174_1), ((HB.out.cell (wB w _ hw174_2)).trans hw174_2), ((HB.out.cell (wB w _ hw174_3)).trans hw174_3), ((HB.out.cell (wB w _ hw174_4)).trans hw174_4), ((HB.out.cell (wB w _ hw175_0)).trans hw175_0), ((HB.out.cell (wB w _ hw175_1)).trans hw175_1), ((HB.out.cell (wB w _ hw175_2)).trans hw175_2), ((HB.out.cell (wB w _ hw175_3)).trans hw175_3), ((HB.out.cell (wB w _ hw175_4)).trans hw175_4)⟩ (fun hHeld => ?_); refine with_tabW foundrylaw05_own.tab5 foundrylaw05_own.bits5 (fun HT_ HW_ => ?_)
   generalize wr.drew = w5 at HO_3 HB hx172_0 hx172_1 hx172_2 hx172_3 hx172_4 hx173_0 hx173_1 hx173_2 hx173_3 hx173_4 hx174_0 hx174_1 hx174_2 hx174_3 hx174_4 hx175_0 hx175_1 hx175_2 hx175_3 hx175_4 hHeld ⊢
   refine pure_ (i := 0) (N := some 11) (v := ?_) (a' := ?_) #[true, false, false, false, false, false, false, false, false, false, false, false, false, false, false, false, false, false, false, false, false, false, false, false, false] rfl rfl (any_of HT_.out (by kernel_rfl)) (fun _ _ _ h => h) (Or.inl ⟨by rfl, ?_⟩) ?_ ?_
   rotate_left
   ·intro w'
    go_simp
    with_reducible rfl
   rotate_left
   ·simp only [Act.put, List.setIfInBounds_toArray, List.set_cons_zero, List.set_cons_succ, i64_w, i32_w]
    rfl
   refine pure_ (i := 1) (N := some 12) (v := ?_) (a' := ?_) #[true, true, false, false, false, false, false, false, false, false, false, false, false, false, false, false, false, false, false, false, false, false, false, false, false] rfl rfl (any_of HT_.out (by kernel_rfl)) (fun _ _ _ h => h) (Or.inl ⟨by rfl, ?_⟩) ?_ ?_
   rotate_left
   ·intro w'
    go_simp
    with_reducible rfl
   rotate_left
   ·simp only [Act.put, List.setIfInBounds_toArray, List.set_cons_zero, List.set_cons_succ, i64_w, i32_w]
    rfl
   refine pure_ (i := 2) (N := some 13) (v := ?_) (a' := ?_) #[true, true, true, false, false, false, false, false, false, false, false, false, false, false, false, false, false, false, false, false, false, false, false, false, false] rfl rfl (any_of HT_.out (by kernel_rfl)) (fun _ _ _ h => h) (Or.inl ⟨by rfl, ?_⟩) ?_ ?_
   rotate_left
   ·intro w'
    go_simp
    with_reducible rfl
   rotate_left
   ·simp only [Act.put, List.setIfInBounds_toArray, List.set_cons_zero, List.set_cons_succ, i64_w, i32_w]
    rfl
   refine pure_ (i := 3) (N := some 14) (v := ?_) (a' := ?_) #[true, true, true, true, false, false, false, false, false, false, false, false, false, false, false, false, false, false, false, false, false, false, false, false, false] rfl rfl (any_of HT_.out (by kernel_rfl)) (fun _ _ _ h => h) (Or.inl ⟨by rfl, ?_⟩) ?_ ?_
   rotate_left
   ·intro w'
    go_simp
    with_reducible rfl
   rotate_left
   ·simp only [Act.put, List.setIfInBounds_toArray, List.set_cons_zero, List.set_cons_succ, i64_w, i32_w]
    rfl
   refine pure_ (i := 4) (N := some 15) (v := ?_) (a' := ?_) #[true, true, true, true, true, false, false, false, false, false, false, false, false, false, false, false, false, false, false, false, false, false, false, false, false] rfl rfl (any_of HT_.out (by kernel_rfl)) (fun _ _ _ h => h) (Or.inl ⟨by rfl, ?_⟩) ?_ ?_
   rotate_left
   ·intro w'
    go_simp
    with_reducible rfl
   rotate_left
   ·simp only [Act.put, List.setIfInBounds_toArray, List.set_cons_zero, List.set_cons_succ, i64_w, i32_w]
    rfl
   refine pure_ (i := 6) (N := some 17) (v := ?_) (a' := ?_) #[true, true, true, true, true, false, true, false, false, false, false, false, false, false, false, false, false, false, false, false, false, false, false, false, false] rfl rfl (any_of HT_.out (by kernel_rfl)) (fun _ _ _ h => h) (Or.inl ⟨by rfl, ?_⟩) ?_ ?_
   rotate_left
   ·intro w'
    go_simp
    with_reducible rfl
   rotate_left
   ·simp only [Act.put, List.setIfInBounds_toArray, List.set_cons_zero, List.set_cons_succ, i64_w, i32_w]
    rfl
   refine pure_ (i := 7) (N := some 18) (v := ?_) (a' := ?_) #[true, true, true, true, true, false, true, true, false, false, false, false, false, false, false, false, false, false, false, false, false, false, false, false, false] rfl rfl (any_of HT_.out (by kernel_rfl)) (fun _ _ _ h => h) (Or.inl ⟨by rfl, ?_⟩) ?_ ?_
   rotate_left
   ·intro w'
    go_simp
    with_reducible rfl
   rotate_left
   ·simp only [Act.put, List.setIfInBounds_toArray, List.set_cons_zero, List.set_cons_succ, i64_w, i32_w]
    rfl
   refine pure_ (i := 8) (N := some 19) (v := ?_) (a' := ?_) #[true, true, true, true, true, false, true, true, true, false, false, false, false, false, false, false, false, false, false, false, false, false, false, false, false] rfl rfl (any_of HT_.out (by kernel_rfl)) (fun _ _ _ h => h) (Or.inl ⟨by rfl, ?_⟩) ?_ ?_
   rotate_left
   ·intro w'
    go_simp
    with_reducible rfl
   rotate_left
   ·simp only [Act.put, List.setIfInBounds_toArray, List.set_cons_zero, List.set_cons_succ, i64_w, i32_w]
    rfl
   refine pure_ (i := 9) (N := some 20) (v := ?_) (a' := ?_) #[true, true, true, true, true, false, true, true, true, true, false, false, false, false, false, false, false, false, false, false, false, false, false, false, false] rfl rfl (any_of HT_.out (by kernel_rfl)) (fun _ _ _ h => h) (Or.inl ⟨by rfl, ?_⟩) ?_ ?_
   rotate_left
   ·intro w'
    go_simp
    with_reducible rfl
   rotate_left
   ·simp only [Act.put, List.setIfInBounds_toArray, List.set_cons_zero, List.set_cons_succ, i64_w, i32_w]
    rfl
   refine pure_ (i := 11) (N := some 22) (v := ?_) (a' := ?_) #[true, true, true, true, true, false, true, true, true, true, false, true, false, false, false, false, false, false, false, false, false, false, false, false, false] rfl rfl (any_of HT_.out (by kernel_rfl)) (fun _ _ _ h => h) (Or.inl ⟨by rfl, ?_⟩) ?_ ?_
   rotate_left
   ·intro w'
    go_simp
    with_reducible rfl
   rotate_left
   ·simp only [Act.put, List.setIfInBounds_toArray, List.set_cons_zero, List.set_cons_succ, i64_w, i32_w]
    rfl
   refine pure_ (i := 12) (N := some 23) (v := ?_) (a' := ?_) #[true, true, true, true, true, false, true, true, true, true, false, true, true, false, false, false, false, false, false, false, false, false, false, false, false] rfl rfl (any_of HT_.out (by kernel_rfl)) (fun _ _ _ h => h) (Or.inl ⟨by rfl, ?_⟩) ?_ ?_
   rotate_left
   ·intro w'
    go_simp
    with_reducible rfl
   rotate_left
   ·simp only [Act.put, List.setIfInBounds_toArray, List.set_cons_zero, List.set_cons_succ, i64_w, i32_w]
    rfl
   refine pure_ (i := 13) (N := some 24) (v := ?_) (a' := ?_) #[true, true, true, true, true, false, true, true, true, true, false, true, true, true, false, false, false, false, false, false, false, false, false, false, false] rfl rfl (any_of HT_.out (by kernel_rfl)) (fun _ _ _ h => h) (Or.inl ⟨by rfl, ?_⟩) ?_ ?_
   rotate_left
   ·intro w'
    go_simp
    with_reducible rfl
   rotate_left
   ·simp only [Act.put, List.setIfInBounds_toArray, List.set_cons_zero, List.set_cons_succ, i64_w, i32_w]
    rfl
   refine pure_ (i := 14) (N := some 25) (v := ?_) (a' := ?_) #[true, true, true, true, true, false, true, true, true, true, false, true, true, true, true, false, false, false, false, false, false, false, false, false, false] rfl rfl (any_of HT_.out (by kernel_rfl)) (fun _ _ _ h => h) (Or.inl ⟨by rfl, ?_⟩) ?_ ?_
   rotate_left
   ·intro w'
    go_simp
    with_reducible rfl
   rotate_left
   ·simp only [Act.put, List.setIfInBounds_toArray, List.set_cons_zero, List.set_cons_succ, i64_w, i32_w]
    rfl
   refine pure_ (i := 16) (N := some 27) (v := ?_) (a' := ?_) #[true, true, true, true, true, false, true, true, true, true, false, true, true, true, true, false, true, false, false, false, false, false, false, false, false] rfl rfl (any_of HT_.out (by kernel_rfl)) (fun _ _ _ h => h) (Or.inl ⟨by rfl, ?_⟩) ?_ ?_
   rotate_left
   ·intro w'
    go_simp
    with_reducible rfl
   rotate_left
   ·simp only [Act.put, List.setIfInBounds_toArray, List.set_cons_zero, List.set_cons_succ, i64_w, i32_w]
    rfl
   refine pure_ (i := 17) (N := some 28) (v := ?_) (a' := ?_) #[true, true, true, true, true, false, true, true, true, true, false, true, true, true, true, false, true, true, false, false, false, false, false, false, false] rfl rfl (any_of HT_.out (by kernel_rfl)) (fun _ _ _ h => h) (Or.inl ⟨by rfl, ?_⟩) ?_ ?_
   rotate_left
   ·intro w'
    go_simp
    with_reducible rfl
   rotate_left
   ·simp only [Act.put, List.setIfInBounds_toArray, List.set_cons_zero, List.set_cons_succ, i64_w, i32_w]
    rfl
   refine pure_ (i := 18) (N := some 29) (v := ?_) (a' := ?_) #[true, true, true, true, true, false, true, true, true, true, false, true, true, true, true, false, true, true, true, false, false, false, false, false, false] rfl rfl (any_of HT_.out (by kernel_rfl)) (fun _ _ _ h => h) (Or.inl ⟨by rfl, ?_⟩) ?_ ?_
   rotate_left
   ·intro w'
    go_simp
    with_reducible rfl
   rotate_left
   ·simp only [Act.put, List.setIfInBounds_toArray, List.set_cons_zero, List.set_cons_succ, i64_w, i32_w]
    rfl
   refine pure_ (i := 19) (N := some 30) (v := ?_) (a' := ?_) #[true, true, true, true, true, false, true, true, true, true, false, true, true, true, true, false, true, true, true, true, false, false, false, false, false] rfl rfl (any_of HT_.out (by kernel_rfl)) (fun _ _ _ h => h) (Or.inl ⟨by rfl, ?_⟩) ?_ ?_
   rotate_left
   ·intro w'
    go_simp
    with_reducible rfl
   rotate_left
   ·simp only [Act.put, List.setIfInBounds_toArray, List.set_cons_zero, List.set_cons_succ, i64_w, i32_w]
    rfl
   refine take_ (i := 5) (N := some 16) (v := ?_) (a' := ?_) #[true, true, true, true, true, true, true, true, true, true, false, true, true, true, true, false, true, true, true, true, false, false, false, false, false] rfl rfl (take_ofW HT_.out HW_.out (by kernel_rfl)) (fun _ _ _ h => h) (Or.inl ⟨by rfl, ?_⟩) hHeld ?_ ?_
   rotate_left
   ·rintro w' ⟨s0, s1, s2, s3, s4, s5, s6, s7, s8, s9, s10, s11, s12, s13, s14, s15, s16, s17, s18, s19⟩
    go_simp
    with_reducible rfl
   rotate_left
   ·simp only [Act.put, List.setIfInBounds_toArray, List.set_cons_zero, List.set_cons_succ, i64_w, i32_w]
    rfl
   refine take_ (i := 10) (N := some 21) (v := ?_) (a' := ?_) #[true, true, true, true, true, true, true, true, true, true, true, true, true, true, true, false, true, true, true, true, false, false, false, false, false] rfl rfl (take_ofW HT_.out HW_.out (by kernel_rfl)) (fun _ _ _ h => h) (Or.inl ⟨by rfl, ?_⟩) hHeld ?_ ?_
   rotate_left
   ·rintro w' ⟨s0, s1, s2, s3, s4, s5, s6, s7, s8, s9, s10, s11, s12, s13, s14, s15, s16, s17, s18, s19⟩
    go_simp
    with_reducible rfl
   rotate_left
   ·simp only [Act.put, List.setIfInBounds_toArray, List.set_cons_zero, List.set_cons_succ, i64_w, i32_w]
    rfl
   refine take_ (i := 15) (N := some 26) (v := ?_) (a' := ?_) #[true, true, true, true, true, true, true, true, true, true, true, true, true, true, true, true, true, true, true, true, false, false, false, false, false] rfl rfl (take_ofW HT_.out HW_.out (by kernel_rfl)) (fun _ _ _ h => h) (Or.inl ⟨by rfl, ?_⟩) hHeld ?_ ?_
   rotate_left
   ·rintro w' ⟨s0, s1, s2, s3, s4, s5, s6, s7, s8, s9, s10, s11, s12, s13, s14, s15, s16, s17, s18, s19⟩
    go_simp
    with_reducible rfl
   rotate_left
   ·simp only [Act.put, List.setIfInBounds_toArray, List.set_cons_zero, List.set_cons_succ, i64_w, i32_w]
    rfl
   refine take_ (i := 20) (N := some 31) (v := ?_) (a' := ?_) #[true, true, true, true, true, true, true, true, true, true, true, true, true, true, true, true, true, true, true, true, true, false, false, false, false] rfl rfl (take_ofW HT_.out HW_.out (by kernel_rfl)) (fun _ _ _ h => h) (Or.inl ⟨by rfl, ?_⟩) hHeld ?_ ?_
   rotate_left
   ·rintro w' ⟨s0, s1, s2, s3, s4, s5, s6, s7, s8, s9, s10, s11, s12, s13, s14, s15, s16, s17, s18, s19⟩
    go_simp
    with_reducible rfl
   rotate_left
   ·simp only [Act.put, List.setIfInBounds_toArray, List.set_cons_zero, List.set_cons_succ, i64_w, i32_w]
    rfl
   refine pure_ (i := 21) (N := some 32) (v := ?_) (a' := ?_) #[true, true, true, true, true, true, true, true, true, true, true, true, true, true, true, true, true, true, true, true, true, true, false, false, false] rfl rfl (any_of HT_.out (by kernel_rfl)) (fun _ _ _ h => h) (Or.inl ⟨by rfl, ?_⟩) ?_ ?_
   rotate_left
   ·intro w'
    go_simp
    with_reducible rfl
   rotate_left
   ·simp only [Act.put, List.setIfInBounds_toArray, List.set_cons_zero, List.set_cons_succ, i64_w, i32_w]
    rfl
   refine one_ (i := 22) (N := some 33) #[true, true, true, true, true, true, true, true, true, true, true, true, true, true, true, true, true, true, true, true, true, true, true, false, false] rfl rfl (one_of HT_.out (by kernel_rfl)) (by decide) (fun K hK => ?_)
   refine value_ (w1 := ?_) (v := ?_) (by rfl) rfl ?_ ?_
   rotate_left 2
   ·go_simp
    constructor
    ·rfl
    ·rfl
   refine hK.out _ _ ⟨(World.cell?_alloc_lt _ _ _ (wB _ _ (((HB.out.cell (wB w _ hw172_0)).trans hw172_0)))).trans (((HB.out.cell (wB w _ hw172_0)).trans hw172_0)), (World.cell?_alloc_lt _ _ _ (wB _ _ (((HB.out.cell (wB w _ hw172_1)).trans hw172_1)))).trans (((HB.out.cell (wB w _ hw172_1)).trans hw172_1)), (World.cell?_alloc_lt _ _ _ (wB _ _ (((HB.out.cell (wB w _ hw172_2)).trans hw172_2)))).trans (((HB.out.cell (wB w _ hw172_2)).trans hw172_2)), (World.cell?_alloc_lt _ _ _ (wB _ _ (((HB.out.cell (wB w _ hw172_3)).trans hw172_3)))).trans (((HB.out.cell (wB w _ hw172_3)).trans hw172_3)), (World.cell?_alloc_lt _ _ _ (wB _ _ (((HB.out.cell (wB w _ hw172_4)).trans hw172_4)))).trans (((HB.out.cell (wB w _ hw172_4)).trans hw172_4)), (World.cell?_alloc_lt _ _ _ (wB _ _ (((HB.out.cell (wB w _ hw173_0)).trans hw173_0)))).trans (((HB.out.cell (wB w _ hw173_0)).trans hw173_0)), (World.cell?_alloc_lt _ _ _ (wB _ _ (((HB.out.cell (wB w _ hw173_1)).trans hw173_1)))).trans (((HB.out.cell (wB w _ hw173_1)).trans hw173_1)), (World.cell?_alloc_lt _ _ _ (wB _ _ (((HB.out.cell (wB w _ hw173_2)).trans hw173_2)))).trans (((HB.out.cell (wB w _ hw173_2)).trans hw173_2)), (World.cell?_alloc_lt _ _ _ (wB _ _ (((HB.out.cell (wB w _ hw173_3)).trans hw173_3)))).trans (((HB.out.cell (wB w _ hw173_3)).trans hw173_3)), (World.cell?_alloc_lt _ _ _ (wB _ _ (((HB.out.cell (wB w _ hw173_4)).trans hw173_4)))).trans (((HB.out.cell (wB w _ hw173_4)).trans hw173_4)), (World.cell?_alloc_lt _ _ _ (wB _ _ (((HB.out.cell (wB w _ hw174_0)).trans hw174_0)))).trans (((HB.out.cell (wB w _ hw174_0)).trans hw174_0)), (World.cell?_alloc_lt _ _ _ (wB _ _ (((HB.out.cell (wB w _ hw174_1)).trans hw174_1)))).trans (((HB.out.cell (wB w _ hw174_1)).trans hw174_1)), (World.cell?_alloc_lt _ _ _ (wB _ _ (((HB.out.cell (wB w _ hw174_2)).trans hw174_2)))).trans (((HB.out.cell (wB w _ hw174_2)).trans hw174_2)), (World.cell?_alloc_lt _ _ _ (wB _ _ (((HB.out.cell (wB w _ hw174_3)).trans hw174_3)))).trans (((HB.out.cell (wB w _ hw174_3)).trans hw174_3)), (World.cell?_alloc_lt _ _ _ (wB _ _ (((HB.out.cell (wB w _ hw174_4)).trans hw174_4)))).trans (((HB.out.cell (wB w _ hw174_4)).trans hw174_4)), (World.cell?_alloc_lt _ _ _ (wB _ _ (((HB.out.cell (wB w _ hw175_0)).trans hw175_0)))).trans (((HB.out.cell (wB w _ hw175_0)).trans hw175_0)), (World.cell?_alloc_lt _ _ _ (wB _ _ (((HB.out.cell (wB w _ hw175_1)).trans hw175_1)))).trans (((HB.out.cell (wB w _ hw175_1)).trans hw175_1)), (World.cell?_alloc_lt _ _ _ (wB _ _ (((HB.out.cell (wB w _ hw175_2)).trans hw175_2)))).trans (((HB.out.cell (wB w _ hw175_2)).trans hw175_2)), (World.cell?_alloc_lt _ _ _ (wB _ _ (((HB.out.cell (wB w _ hw175_3)).trans hw175_3)))).trans (((HB.out.cell (wB w _ hw175_3)).trans hw175_3)), (World.cell?_alloc_lt _ _ _ (wB _ _ (((HB.out.cell (wB w _ hw175_4)).trans hw175_4)))).trans (((HB.out.cell (wB w _ hw175_4)).trans hw175_4))⟩ (fun hHeld => ?_)
   clear hK K
   refine norm_ (a' := ?_) ?_ ?_
   rotate_left
   ·show Act.put _ (some 33) _ = _
    simp only [Act.put, List.setIfInBounds_toArray, List.set_cons_zero, List.set_cons_succ, i64_w, i32_w]
    rfl
   refine one_ (i := 23) (N := some 34) #[true, true, true, true, true, true, true, true, true, true, true, true, true, true, true, true, true, true, true, true, true, true, true, true, false] rfl rfl (one_of HT_.out (by kernel_rfl)) (by decide) (fun K hK => ?_)
   refine Kd.R_append_step k44 (w0 := w) w.heap.size (by rfl) (.tmp 11) (.tmp 33) 33 44 (.agg #[(.int .i64 0), (.string ⟨#[]⟩), (.int .i64 0), (.int .u64 0), (.int .i64 0)]) 48 rfl Tryz.underlying33 info44 rfl (by decide) (by omega) u3 x3_1 (⟨(rd_T43 l0 x4_1).f0, (rd_T43 l0 x4_1).f1, (⟨(rd_T43 l0 x4_1).f2.f0, (rd_T43 l0 x4_1).f2.f1⟩ : S41), (rd_T43 l0 x4_1).f3⟩ : S44) [.int .i64 ((rd_T43 l0 x4_1).f0), .string ((rd_T43 l0 x4_1).f1), .int .i64 ((rd_T43 l0 x4_1).f2.f0), .int .u64 ((rd_T43 l0 x4_1).f2.f1), .int .i64 ((rd_T43 l0 x4_1).f3)] (fun _ => True) (fun _ => False) rfl rfl ?aP (fun _ hk => hk.elim) ?aF ?aO ?aB ?aS ?aL ?_
   (case aP => exact k44_mkM _ _ _ (⟨(rd_T43 l0 x4_1).f0, (rd_T43 l0 x4_1).f1, (⟨(rd_T43 l0 x4_1).f2.f0, (rd_T43 l0 x4_1).f2.f1⟩ : S41), (rd_T43 l0 x4_1).f3⟩ : S44))
   (case aB => exact (hB))
   (case aF => exact (fun _ _ => trivial))
   (case aO => exact (by (with_reducible repeat (first | apply Kd.R_alloc | apply Kd.R_drewN | apply Kd.R_drew)); exact HO_3.out))
   (case aS => exact (below_size (hB)))
   (case aL => have := LMc4.out; omega)
   intro v177 w6 ho hb hg hat
   rw [← Ny176.out] at ho
   have n0_ := aM (hb)
   have n1_ := aM (ho)
   clear HB
   clear HO_3
   have HB := n0_
   have HO178 := n1_
   clear n0_ n1_
   clear ho hb hg hat
   refine hK.out _ _ ⟨((HB.out.cell (wB w _ hw172_0)).trans hw172_0), ((HB.out.cell (wB w _ hw172_1)).trans hw172_1), ((HB.out.cell (wB w _ hw172_2)).trans hw172_2), ((HB.out.cell (wB w _ hw172_3)).trans hw172_3), ((HB.out.cell (wB w _ hw172_4)).trans hw172_4), ((HB.out.cell (wB w _ hw173_0)).trans hw173_0), ((HB.out.cell (wB w _ hw173_1)).trans hw173_1), ((HB.out.cell (wB w _ hw173_2)).trans hw173_2), ((HB.out.cell (wB w _ hw173_3)).trans hw173_3), ((HB.out.cell (wB w _ hw173_4)).trans hw173_4), ((HB.out.cell (wB w _ hw174_0)).trans hw174_0), ((HB.out.cell (wB w _ hw174_1)).trans hw174_1), ((HB.out.cell (wB w _ hw174_2)).trans hw174_2), ((HB.out.cell (wB w _ hw174_3)).trans hw174_3), ((HB.out.cell (wB w _ hw174_4)).trans hw174_4), ((HB.out.cell (wB w _ hw175_0)).trans hw175_0), ((HB.out.cell (wB w _ hw175_1)).trans hw175_1), ((HB.out.cell (wB w _ hw175_2)).trans hw175_2), ((HB.out.cell (wB w _ hw175_3)).trans hw175_3), ((HB.out.cell (wB w _ hw175_4)).trans hw175_4)⟩ (fun hHeld => ?_)
   clear hK K
   refine norm_ (a' := ?_) ?_ ?_
   rotate_left
   ·show Act.put _ (some 34) _ = _
    simp only [Act.put, List.setIfInBounds_toArray, List.set_cons_zero, List.set_cons_succ, i64_w, i32_w]
    rfl
   refine pure_ (i := 24) (N := some 3) (v := ?_) (a' := ?_) #[true, true, true, true, true, true, true, true, true, true, true, true, true, true, true, true, true, true, true, true, true, true, true, true, true] rfl rfl (any_of HT_.out (by kernel_rfl)) (fun _ _ _ h => h) (Or.inl ⟨by rfl, ?_⟩) ?_ ?_
   rotate_left
   ·intro w'
    go_simp
    with_reducible rfl
   rotate_left
   ·simp only [Act.put, List.setIfInBounds_toArray, List.set_cons_zero, List.set_cons_succ, i64_w, i32_w]
    rfl
   refine done_ (done_of HT_.out (by kernel_rfl)) ?_
   try go_wp2
   go_roundg k1
   case measure => have := HK1.out; omega
   case rel => exact ⟨(y176), (wrap64 (x4_1 + 1)), (xR), H', ⟨by have := HK1.out; omega⟩, ⟨by (with_reducible repeat (first | apply Kd.R_alloc | apply Kd.R_drewN | apply Kd.R_drew)); exact HO178.out⟩, ⟨hB⟩⟩
end Go.Proofs.YthifejhdmjoolaaGreatDoor.QJ
