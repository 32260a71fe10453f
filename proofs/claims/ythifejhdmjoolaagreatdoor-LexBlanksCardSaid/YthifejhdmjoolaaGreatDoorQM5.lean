-- WRITTEN BY A PROGRAM OF THE SESSION (wip/myprint.sh): Lean checks it.
import Derived.Test.YthifejhdmjoolaaGreatDoorQM0
import Derived.Test.YthifejhdmjoolaaGreatDoorQM3
import Derived.Test.YthifejhdmjoolaaGreatDoorQM4
namespace Go.Proofs.YthifejhdmjoolaaGreatDoor.QM
open Go.Proofs.YthifejhdmjoolaaGreatDoorG Go.Proofs.YthifejhdmjoolaaGreatDoor.QR
attribute [local go_sem] Instr.field asAgg
open Go.RowKit Go.Proofs.YthifejhdmjoolaaGreatDoorW.PrintWords Go.Proofs.YthifejhdmjoolaaGreatDoorW.PrintLast Go.Proofs.YthifejhdmjoolaaGreatDoorW.PrintMore
attribute [local go_sem] max2_int min2_int max_two min_two max_three min_three max_four min_four   -- for this text's walks alone
set_option linter.unusedVariables false
set_option linter.unusedSimpArgs false
/-! ### foundrylaw05_LexBlanks: function 7 -/
mutual
def foundrylaw05_LexBlanks.j0 : Nat → ByteArray → Int → Int → ByteArray → List (S44) → Bool → Option (Bool)
  | 0, _, _, _, _, _, _ => none
  | k + 1, x0, x1, x2, x3, x9, x45 => if x45 = true then ((foundrylaw05_alive.f k).bind fun t172 => (some t172)) else (foundrylaw05_LexBlanks.l0 k x0 x1 x2 x3 x9 0)
def foundrylaw05_LexBlanks.l0 : Nat → ByteArray → Int → Int → ByteArray → List (S44) → Int → Option (Bool)
  | 0, _, _, _, _, _, _ => none
  | k + 1, x0, x1, x2, x3, x9, x12 => if x12 < (x3.size : Int) then (if 0 ≤ x12 then (if (bt x3 x12) = 10 then (some true) else (foundrylaw05_LexBlanks.l0 k x0 x1 x2 x3 x9 (wrap64 (x12 + 1)))) else (none)) else (if x2 = 1 then (foundrylaw05_LexBlanks.j2 k x0 x1 x2 x3 x9 (⟨#[10, 9]⟩ : ByteArray)) else (if x2 = 2 then (if 4 + x3.size ≤ 9223372036854775807 then (if ((⟨#[32, 47, 47, 32]⟩ : ByteArray) ++ x3).size + 1 ≤ 9223372036854775807 then (foundrylaw05_LexBlanks.j2 k x0 x1 x2 x3 x9 (((⟨#[32, 47, 47, 32]⟩ : ByteArray) ++ x3) ++ (⟨#[10]⟩ : ByteArray))) else (none)) else (none)) else (foundrylaw05_LexBlanks.j2 k x0 x1 x2 x3 x9 (⟨#[32]⟩ : ByteArray))))
def foundrylaw05_LexBlanks.j2 : Nat → ByteArray → Int → Int → ByteArray → List (S44) → ByteArray → Option (Bool)
  | 0, _, _, _, _, _, _ => none
  | k + 1, x0, x1, x2, x3, x9, x13 => if 0 ≤ x1 then (if x1 < (x9.length : Int) then (if 0 ≤ ((rd_T44 x9 x1).f3) then (if ((rd_T44 x9 x1).f3) ≤ (x0.size : Int) then (if (x0.extract 0 (((rd_T44 x9 x1).f3) : Int).toNat).size + x13.size ≤ 9223372036854775807 then (if ((x0.extract 0 (((rd_T44 x9 x1).f3) : Int).toNat) ++ x13).size + (x0.extract (((rd_T44 x9 x1).f3) : Int).toNat x0.size).size ≤ 9223372036854775807 then (if (((x0.extract 0 (((rd_T44 x9 x1).f3) : Int).toNat) ++ x13) ++ (x0.extract (((rd_T44 x9 x1).f3) : Int).toNat x0.size)).size + 1 ≤ 9223372036854775807 then (if x2 = 3 then (if x0.size + 3 ≤ 9223372036854775807 then (if (x0 ++ (⟨#[10, 47, 47]⟩ : ByteArray)).size + x3.size ≤ 9223372036854775807 then (foundrylaw05_LexBlanks.j3 k x9 ((x0 ++ (⟨#[10, 47, 47]⟩ : ByteArray)) ++ x3)) else (none)) else (none)) else (foundrylaw05_LexBlanks.j3 k x9 ((((x0.extract 0 (((rd_T44 x9 x1).f3) : Int).toNat) ++ x13) ++ (x0.extract (((rd_T44 x9 x1).f3) : Int).toNat x0.size)) ++ (⟨#[32]⟩ : ByteArray)))) else (none)) else (none)) else (none)) else (none)) else (none)) else (none)) else (none)
def foundrylaw05_LexBlanks.j3 : Nat → List (S44) → ByteArray → Option (Bool)
  | 0, _, _ => none
  | k + 1, x9, x15 => if (x15.size : Int) > 4096 then (some true) else ((lex_Lex.f k x15).bind fun bt174 => (if bt174.2.2 = 0 then ((lex_Same.f k x9 bt174.1).bind fun t179 => (some t179)) else (some false)))
end
def foundrylaw05_LexBlanks.f (k : Nat) (a0 : ByteArray) (a1 : Int) (a2 : Int) (a3 : ByteArray) : Option (Bool) := (lex_Lex.f k a0).bind fun bt166 => (if bt166.2.2 = 0 then (if (bt166.1.length : Int) = 0 then (foundrylaw05_LexBlanks.j0 k a0 a1 a2 a3 bt166.1 true) else (if a1 < 0 then (foundrylaw05_LexBlanks.j0 k a0 a1 a2 a3 bt166.1 true) else (if a1 ≥ (bt166.1.length : Int) then (foundrylaw05_LexBlanks.j0 k a0 a1 a2 a3 bt166.1 true) else ((foundrylaw05_alive.f k).bind fun t171 => (foundrylaw05_LexBlanks.j0 k a0 a1 a2 a3 bt166.1 (!t171)))))) else (foundrylaw05_LexBlanks.j0 k a0 a1 a2 a3 bt166.1 true))
theorem foundrylaw05_LexBlanks.mono_l : ∀ k, (∀ y0 y1 y2 y3 y4 y5, LeO (foundrylaw05_LexBlanks.j0 k y0 y1 y2 y3 y4 y5) (foundrylaw05_LexBlanks.j0 (k + 1) y0 y1 y2 y3 y4 y5)) ∧ (∀ y0 y1 y2 y3 y4 y5, LeO (foundrylaw05_LexBlanks.l0 k y0 y1 y2 y3 y4 y5) (foundrylaw05_LexBlanks.l0 (k + 1) y0 y1 y2 y3 y4 y5)) ∧ (∀ y0 y1 y2 y3 y4 y5, LeO (foundrylaw05_LexBlanks.j2 k y0 y1 y2 y3 y4 y5) (foundrylaw05_LexBlanks.j2 (k + 1) y0 y1 y2 y3 y4 y5)) ∧ (∀ y0 y1, LeO (foundrylaw05_LexBlanks.j3 k y0 y1) (foundrylaw05_LexBlanks.j3 (k + 1) y0 y1))
  | 0 => ⟨fun _ _ _ _ _ _ r h => by simp [foundrylaw05_LexBlanks.j0] at h, fun _ _ _ _ _ _ r h => by simp [foundrylaw05_LexBlanks.l0] at h, fun _ _ _ _ _ _ r h => by simp [foundrylaw05_LexBlanks.j2] at h, fun _ _ r h => by simp [foundrylaw05_LexBlanks.j3] at h⟩
  | k + 1 => by
    obtain ⟨ih0, ih1, ih2, ih3⟩ := foundrylaw05_LexBlanks.mono_l k
    refine ⟨?_, ?_, ?_, ?_⟩
    · intro y0 y1 y2 y3 y4 y5
      unfold foundrylaw05_LexBlanks.j0
      repeat' first
      | (with_reducible apply ih0)
      | (with_reducible apply ih1)
      | (with_reducible apply ih2)
      | (with_reducible apply ih3)
      | (with_reducible apply foundrylaw05_alive.mono)
      | (with_reducible apply lex_Lex.mono)
      | (with_reducible apply lex_Same.mono)
      | (with_reducible exact LeO.refl _)
      | (with_reducible exact LeO.none _)
      | (with_reducible refine LeO.ite ?_ ?_)
      | (with_reducible refine LeO.bind ?_ (fun _ => ?_))
      | exact LeO.none _
      | refine LeO.ite ?_ ?_
      | refine LeO.bind ?_ (fun _ => ?_)
    · intro y0 y1 y2 y3 y4 y5
      unfold foundrylaw05_LexBlanks.l0
      repeat' first
      | (with_reducible apply ih0)
      | (with_reducible apply ih1)
      | (with_reducible apply ih2)
      | (with_reducible apply ih3)
      | (with_reducible apply foundrylaw05_alive.mono)
      | (with_reducible apply lex_Lex.mono)
      | (with_reducible apply lex_Same.mono)
      | (with_reducible exact LeO.refl _)
      | (with_reducible exact LeO.none _)
      | (with_reducible refine LeO.ite ?_ ?_)
      | (with_reducible refine LeO.bind ?_ (fun _ => ?_))
      | exact LeO.none _
      | refine LeO.ite ?_ ?_
      | refine LeO.bind ?_ (fun _ => ?_)
    · intro y0 y1 y2 y3 y4 y5
      unfold foundrylaw05_LexBlanks.j2
      repeat' first
      | (with_reducible apply ih0)
      | (with_reducible apply ih1)
      | (with_reducible apply ih2)
      | (with_reducible apply ih3)
      | (with_reducible apply foundrylaw05_alive.mono)
      | (with_reducible apply lex_Lex.mono)
      | (with_reducible apply lex_Same.mono)
      | (with_reducible exact LeO.refl _)
      | (with_reducible exact LeO.none _)
      | (with_reducible refine LeO.ite ?_ ?_)
      | (with_reducible refine LeO.bind ?_ (fun _ => ?_))
      | exact LeO.none _
      | refine LeO.ite ?_ ?_
      | refine LeO.bind ?_ (fun _ => ?_)
    · intro y0 y1
      unfold foundrylaw05_LexBlanks.j3
      repeat' first
      | (with_reducible apply ih0)
      | (with_reducible apply ih1)
      | (with_reducible apply ih2)
      | (with_reducible apply ih3)
      | (with_reducible apply foundrylaw05_alive.mono)
      | (with_reducible apply lex_Lex.mono)
      | (with_reducible apply lex_Same.mono)
      | (with_reducible exact LeO.refl _)
      | (with_reducible exact LeO.none _)
      | (with_reducible refine LeO.ite ?_ ?_)
      | (with_reducible refine LeO.bind ?_ (fun _ => ?_))
      | exact LeO.none _
      | refine LeO.ite ?_ ?_
      | refine LeO.bind ?_ (fun _ => ?_)
theorem foundrylaw05_LexBlanks.mono : ∀ a0 a1 a2 a3 k, LeO (foundrylaw05_LexBlanks.f k a0 a1 a2 a3) (foundrylaw05_LexBlanks.f (k + 1) a0 a1 a2 a3) := by
  intro a0 a1 a2 a3 k
  obtain ⟨ih0, ih1, ih2, ih3⟩ := foundrylaw05_LexBlanks.mono_l k
  unfold foundrylaw05_LexBlanks.f
  repeat' first
      | (with_reducible apply ih0)
      | (with_reducible apply ih1)
      | (with_reducible apply ih2)
      | (with_reducible apply ih3)
      | (with_reducible apply foundrylaw05_alive.mono)
      | (with_reducible apply lex_Lex.mono)
      | (with_reducible apply lex_Same.mono)
      | (with_reducible exact LeO.refl _)
      | (with_reducible exact LeO.none _)
      | (with_reducible refine LeO.ite ?_ ?_)
      | (with_reducible refine LeO.bind ?_ (fun _ => ?_))
      | exact LeO.none _
      | refine LeO.ite ?_ ?_
      | refine LeO.bind ?_ (fun _ => ?_)
set_option maxHeartbeats 8000000 in
set_option maxRecDepth 100000 in
theorem foundrylaw05_LexBlanks.calls (k : Nat) (a0 : ByteArray) (a1 : Int) (a2 : Int) (a3 : ByteArray) (r : Bool) (w : World) (hLaid : LaidOk w) (h : foundrylaw05_LexBlanks.f k a0 a1 a2 a3 = some r) :
    Calls Tryz.prog 7 #[.string a0, .int .i64 a1, .int .i64 a2, .string a3] w fun e w' => e = .returned (.bool r) ∧ Below w.heap.size w w' := by
 have HLAID := aM hLaid
 clear hLaid
 have HB := aM (Below.refl w.heap.size w)
 have H : ((lex_Lex.f k a0).bind fun bt166 => (if bt166.2.2 = 0 then (if (bt166.1.length : Int) = 0 then (foundrylaw05_LexBlanks.j0 k a0 a1 a2 a3 bt166.1 true) else (if a1 < 0 then (foundrylaw05_LexBlanks.j0 k a0 a1 a2 a3 bt166.1 true) else (if a1 ≥ (bt166.1.length : Int) then (foundrylaw05_LexBlanks.j0 k a0 a1 a2 a3 bt166.1 true) else ((foundrylaw05_alive.f k).bind fun t171 => (foundrylaw05_LexBlanks.j0 k a0 a1 a2 a3 bt166.1 (!t171)))))) else (foundrylaw05_LexBlanks.j0 k a0 a1 a2 a3 bt166.1 true))) = some r := h
 clear h
 replace H := Option.bind_eq_some_iff.mp H
 obtain ⟨⟨t166, t167, t168⟩, A50, H⟩ := H
 replace H : (if t168 = 0 then (if (t166.length : Int) = 0 then (foundrylaw05_LexBlanks.j0 k a0 a1 a2 a3 t166 true) else (if a1 < 0 then (foundrylaw05_LexBlanks.j0 k a0 a1 a2 a3 t166 true) else (if a1 ≥ (t166.length : Int) then (foundrylaw05_LexBlanks.j0 k a0 a1 a2 a3 t166 true) else ((foundrylaw05_alive.f k).bind fun t171 => (foundrylaw05_LexBlanks.j0 k a0 a1 a2 a3 t166 (!t171)))))) else (foundrylaw05_LexBlanks.j0 k a0 a1 a2 a3 t166 true)) = some r := H
 have A5 := aM A50
 clear A50
 have HC6 := aM H
 clear H
 go_enter Tryz.func7, Tryz.ntmps7
 go_upto_region 2 with (first | (go_at_call 21; (with_reducible refine (lex_Lex.calls k a0 t166 t167 t168 _ ?side1 A5.out).mono ?_); (case side1 => exact LaidOk.below (hB) HLAID.out); rintro e w7 ⟨v169, rfl, ho0, hb⟩; have n0_ := aM (Kd.R_lower ho0 (below_size (hB))); have n1_ := aM (below_step (hB) hb); clear HB; have HO170 := n0_; have HB := n1_; clear n0_ n1_; (try clear hb); (try clear ho0)))
 repeat (go_quiet (first | (go_at_call 21; (with_reducible refine (lex_Lex.calls k a0 t166 t167 t168 _ ?side1 A5.out).mono ?_); (case side1 => exact LaidOk.below (hB) HLAID.out); rintro e w7 ⟨v169, rfl, ho0, hb⟩; have n0_ := aM (Kd.R_lower ho0 (below_size (hB))); have n1_ := aM (below_step (hB) hb); clear HB; have HO170 := n0_; have HB := n1_; clear n0_ n1_; (try clear hb); (try clear ho0))); go_upto_region 2 with (first | (go_at_call 21; (with_reducible refine (lex_Lex.calls k a0 t166 t167 t168 _ ?side1 A5.out).mono ?_); (case side1 => exact LaidOk.below (hB) HLAID.out); rintro e w7 ⟨v169, rfl, ho0, hb⟩; have n0_ := aM (Kd.R_lower ho0 (below_size (hB))); have n1_ := aM (below_step (hB) hb); clear HB; have HO170 := n0_; have HB := n1_; clear n0_ n1_; (try clear hb); (try clear ho0))))
 (try simp only [Act.put, List.setIfInBounds_toArray, List.set_cons_zero, List.set_cons_succ])
 go_cut [45] (fun v45 wc => ∃ (kq : Nat) (x45_5 : Bool), v45 = .bool x45_5 ∧ Aside0 (foundrylaw05_LexBlanks.j0 kq a0 a1 a2 a3 t166 x45_5 = some r) ∧ Aside0 (kq ≤ k) ∧ Aside0 (Kd.R k44 44 wc w.heap.size (fun _ => True) v169 t166) ∧ Aside0 (Below w.heap.size w wc))
 case first =>
  have H := HC6.out
  clear HC6
  by_cases c8 : t168 = 0
  rotate_left
  ·rw [if_neg c8] at H
   have c8b0 : (t168 == 0) = false := beq_eq_false_iff_ne.mpr c8
   have c8b1 : (t168 != 0) = true := bne_iff_ne.mpr c8
   (first | rw [c8b0] | (simp only [i64_w, i32_w]; rw [c8b0]) | skip)
   have H' := aM H
   clear H
   go_wp2
   repeat (go_quiet (fail); try go_wp2)
   go_meet
   case rel => exact ⟨_, (true), (xR), H', ⟨by first | omega | exact Nat.le_refl _⟩, ⟨by (with_reducible repeat (first | apply Kd.R_alloc | apply Kd.R_drewN | apply Kd.R_drew)); exact HO170.out⟩, ⟨hB⟩⟩
  rw [if_pos c8] at H
  have c8b0 : (t168 == 0) = true := beq_iff_eq.mpr c8
  have c8b1 : (t168 != 0) = false := bne_eq_false_iff_eq.mpr c8
  clear c8
  (first | rw [c8b0] | (simp only [i64_w, i32_w]; rw [c8b0]) | skip)
  by_cases c9 : (t166.length : Int) = 0
  ·rw [if_pos c9] at H
   have c9b0 : ((t166.length : Int) == 0) = true := beq_iff_eq.mpr c9
   have c9b1 : ((t166.length : Int) != 0) = false := bne_eq_false_iff_eq.mpr c9
   clear c9
   have H' := aM H
   clear H
   obtain ⟨Ao10, co10, eo10⟩ := Kd.R_slice HO170.out
   subst eo10
   go_wp2
   repeat (go_quiet (fail); try go_wp2)
   go_meet
   case rel => exact ⟨_, (true), (xR), H', ⟨by first | omega | exact Nat.le_refl _⟩, ⟨by (with_reducible repeat (first | apply Kd.R_alloc | apply Kd.R_drewN | apply Kd.R_drew)); exact HO170.out⟩, ⟨hB⟩⟩
  rw [if_neg c9] at H
  have c9b0 : ((t166.length : Int) == 0) = false := beq_eq_false_iff_ne.mpr c9
  have c9b1 : ((t166.length : Int) != 0) = true := bne_iff_ne.mpr c9
  have c9b2 : ¬ (t166 = []) := fun h_ => c9 (by rw [h_]; rfl)
  by_cases c11 : a1 < 0
  ·rw [if_pos c11] at H
   have c11b0 : decide (a1 < 0) = true := decide_eq_true c11
   clear c11
   have H' := aM H
   clear H
   obtain ⟨Ao12, co12, eo12⟩ := Kd.R_slice HO170.out
   subst eo12
   go_wp2
   repeat (go_quiet (fail); try go_wp2)
   go_meet
   case rel => exact ⟨_, (true), (xR), H', ⟨by first | omega | exact Nat.le_refl _⟩, ⟨by (with_reducible repeat (first | apply Kd.R_alloc | apply Kd.R_drewN | apply Kd.R_drew)); exact HO170.out⟩, ⟨hB⟩⟩
  rw [if_neg c11] at H
  have c11b0 : decide (a1 < 0) = false := decide_eq_false c11
  clear c11
  by_cases c13 : a1 ≥ (t166.length : Int)
  ·rw [if_pos c13] at H
   have c13b0 : decide ((t166.length : Int) ≤ a1) = true := decide_eq_true c13
   clear c13
   have H' := aM H
   clear H
   obtain ⟨Ao14, co14, eo14⟩ := Kd.R_slice HO170.out
   subst eo14
   go_wp2
   repeat (go_quiet (fail); try go_wp2)
   go_meet
   case rel => exact ⟨_, (true), (xR), H', ⟨by first | omega | exact Nat.le_refl _⟩, ⟨by (with_reducible repeat (first | apply Kd.R_alloc | apply Kd.R_drewN | apply Kd.R_drew)); exact HO170.out⟩, ⟨hB⟩⟩
  rw [if_neg c13] at H
  have c13b0 : decide ((t166.length : Int) ≤ a1) = false := decide_eq_false c13
  clear c13
  replace H := Option.bind_eq_some_iff.mp H
  obtain ⟨t171, A150, H⟩ := H
  replace H : (foundrylaw05_LexBlanks.j0 k a0 a1 a2 a3 t166 (!t171)) = some r := H
  have A15 := aM A150
  clear A150
  have H' := aM H
  clear H
  obtain ⟨Ao16, co16, eo16⟩ := Kd.R_slice HO170.out
  subst eo16
  go_wp2_with (first | (go_at_call 23; (with_reducible refine (foundrylaw05_alive.calls k  t171 _ ?side1 A15.out).mono ?_); (case side1 => exact LaidOk.below (hB) HLAID.out); rintro e w17 ⟨rfl, hb⟩; have n0_ := aM (Kd.R_below (by (with_reducible repeat (first | apply Kd.R_alloc | apply Kd.R_drewN | apply Kd.R_drew)); exact HO170.out) hb); have n1_ := aM (below_step (hB) hb); clear HO170; clear HB; have HO170 := n0_; have HB := n1_; clear n0_ n1_; (try clear hb)))
  repeat (go_quiet (first | (go_at_call 23; (with_reducible refine (foundrylaw05_alive.calls k  t171 _ ?side1 A15.out).mono ?_); (case side1 => exact LaidOk.below (hB) HLAID.out); rintro e w17 ⟨rfl, hb⟩; have n0_ := aM (Kd.R_below (by (with_reducible repeat (first | apply Kd.R_alloc | apply Kd.R_drewN | apply Kd.R_drew)); exact HO170.out) hb); have n1_ := aM (below_step (hB) hb); clear HO170; clear HB; have HO170 := n0_; have HB := n1_; clear n0_ n1_; (try clear hb))); try go_wp2_with (first | (go_at_call 23; (with_reducible refine (foundrylaw05_alive.calls k  t171 _ ?side1 A15.out).mono ?_); (case side1 => exact LaidOk.below (hB) HLAID.out); rintro e w17 ⟨rfl, hb⟩; have n0_ := aM (Kd.R_below (by (with_reducible repeat (first | apply Kd.R_alloc | apply Kd.R_drewN | apply Kd.R_drew)); exact HO170.out) hb); have n1_ := aM (below_step (hB) hb); clear HO170; clear HB; have HO170 := n0_; have HB := n1_; clear n0_ n1_; (try clear hb))))
  go_meet
  case rel => exact ⟨_, (!t171), (xR), H', ⟨by first | omega | exact Nat.le_refl _⟩, ⟨by (with_reducible repeat (first | apply Kd.R_alloc | apply Kd.R_drewN | apply Kd.R_drew)); exact HO170.out⟩, ⟨hB⟩⟩
 case rest =>
  clear HC6
  (try clear c1); (try clear p2); (try clear c7); (try clear c8); (try clear c8b0); (try clear c8b1); (try clear c9); (try clear c9b0); (try clear c9b1); (try clear c9b2); (try clear c11); (try clear c11b0); (try clear c13); (try clear c13b0)
  obtain ⟨kq, x45_5, rfl, HA, HJ5, HO_9, HB⟩ := hcut
  cases kq with
  | zero => exact absurd HA.out (by simp [foundrylaw05_LexBlanks.j0])
  | succ kj5 =>
   have H := HA.out
   clear HA
   simp only [foundrylaw05_LexBlanks.j0] at H
   by_cases c18 : x45_5 = true
   ·subst c18
    have H1 : ((foundrylaw05_alive.f kj5).bind fun t172 => (some t172)) = some r := by rw [if_pos rfl] at H; exact H
    clear H
    have H := H1
    clear H1
    replace H := Option.bind_eq_some_iff.mp H
    obtain ⟨t172, A190, H⟩ := H
    replace H : (some t172) = some r := H
    have A19 := aM A190
    clear A190
    obtain rfl := Option.some.inj H
    go_wp2_with (first | (go_at_call 23; (with_reducible refine (foundrylaw05_alive.calls kj5  t172 _ ?side1 A19.out).mono ?_); (case side1 => exact LaidOk.below (hB) HLAID.out); rintro e w20 ⟨rfl, hb⟩; have n0_ := aM (Kd.R_below (by (with_reducible repeat (first | apply Kd.R_alloc | apply Kd.R_drewN | apply Kd.R_drew)); exact HO_9.out) hb); have n1_ := aM (below_step (hB) hb); clear HO_9; clear HB; have HO_9 := n0_; have HB := n1_; clear n0_ n1_; (try clear hb)))
    repeat (go_quiet (first | (go_at_call 23; (with_reducible refine (foundrylaw05_alive.calls kj5  t172 _ ?side1 A19.out).mono ?_); (case side1 => exact LaidOk.below (hB) HLAID.out); rintro e w20 ⟨rfl, hb⟩; have n0_ := aM (Kd.R_below (by (with_reducible repeat (first | apply Kd.R_alloc | apply Kd.R_drewN | apply Kd.R_drew)); exact HO_9.out) hb); have n1_ := aM (below_step (hB) hb); clear HO_9; clear HB; have HO_9 := n0_; have HB := n1_; clear n0_ n1_; (try clear hb))); try go_wp2_with (first | (go_at_call 23; (with_reducible refine (foundrylaw05_alive.calls kj5  t172 _ ?side1 A19.out).mono ?_); (case side1 => exact LaidOk.below (hB) HLAID.out); rintro e w20 ⟨rfl, hb⟩; have n0_ := aM (Kd.R_below (by (with_reducible repeat (first | apply Kd.R_alloc | apply Kd.R_drewN | apply Kd.R_drew)); exact HO_9.out) hb); have n1_ := aM (below_step (hB) hb); clear HO_9; clear HB; have HO_9 := n0_; have HB := n1_; clear n0_ n1_; (try clear hb))))
    go_ret
    exact ⟨by first | rfl | (simp [errW_none, errW_some] <;> rfl) | (simp [*, errW_none, errW_some] <;> rfl), hB⟩
   replace c18 := Bool.eq_false_iff.mpr c18
   subst c18
   have H1 : (foundrylaw05_LexBlanks.l0 kj5 a0 a1 a2 a3 t166 0) = some r := by rw [if_neg (show ¬ (false = true) by decide)] at H; exact H
   clear H
   have H := H1
   clear H1
   have H' := aM H
   clear H
   go_wp2
   repeat (go_quiet (fail); try go_wp2)
   go_loopg [12] kj5 (fun kq v12 w' => ∃ (x12_2 : Int), v12 = .int .i64 x12_2 ∧ Aside0 (foundrylaw05_LexBlanks.l0 kq a0 a1 a2 a3 t166 x12_2 = some r) ∧ Aside0 (kq ≤ kj5) ∧ Aside0 (Kd.R k44 44 w' w.heap.size (fun _ => True) v169 t166) ∧ Aside0 (Below w.heap.size w w'))
   case atStart => exact ⟨(0), (xR), H', ⟨Nat.le_refl _⟩, ⟨by (with_reducible repeat (first | apply Kd.R_alloc | apply Kd.R_drewN | apply Kd.R_drew)); exact HO_9.out⟩, ⟨hB⟩⟩
   case round =>
    clear H'
    (try clear c1); (try clear p2); (try clear c7); (try clear c8); (try clear c8b0); (try clear c8b1); (try clear c9); (try clear c9b0); (try clear c9b1); (try clear c9b2); (try clear c11); (try clear c11b0); (try clear c13); (try clear c13b0); (try clear c18); (try clear p2)
    obtain ⟨x12_2, rfl, HA, HK2, HO_9, HB⟩ := hrel
    cases gk with
    | zero => exact absurd HA.out (by simp [foundrylaw05_LexBlanks.l0])
    | succ k2 =>
     have H := HA.out
     clear HA
     simp only [foundrylaw05_LexBlanks.l0] at H
     by_cases c21 : x12_2 < (a3.size : Int)
     ·rw [if_pos c21] at H
      have c21b0 : decide (x12_2 < (a3.size : Int)) = true := decide_eq_true c21
      clear c21
      by_cases c22 : 0 ≤ x12_2
      rotate_left
      ·rw [if_neg c22] at H
       exact absurd H (by simp)
      rw [if_pos c22] at H
      have c22b0 : decide (0 ≤ x12_2) = true := decide_eq_true c22
      clear c22
      by_cases c24 : (bt a3 x12_2) = 10
      ·rw [if_pos c24] at H
       have c24b0 : ((bt a3 x12_2) == 10) = true := beq_iff_eq.mpr c24
       have c24b1 : ((bt a3 x12_2) != 10) = false := bne_eq_false_iff_eq.mpr c24
       clear c24
       obtain rfl := Option.some.inj H
       have p23 : 0 ≤ (x12_2 : Int) := oA
       have q23 : x12_2 < (a3.size : Int) := oA
       have hx23 := bt_at a3 x12_2
       replace p23 := eq_true p23
       replace q23 := eq_true q23
       go_wp2
       repeat (go_quiet (fail); try go_wp2)
       go_ret
       exact ⟨by first | rfl | (simp [errW_none, errW_some] <;> rfl) | (simp [*, errW_none, errW_some] <;> rfl), hB⟩
      rw [if_neg c24] at H
      have c24b0 : ((bt a3 x12_2) == 10) = false := beq_eq_false_iff_ne.mpr c24
      have c24b1 : ((bt a3 x12_2) != 10) = true := bne_iff_ne.mpr c24
      have H' := aM H
      clear H
      have p23 : 0 ≤ (x12_2 : Int) := oA
      have q23 : x12_2 < (a3.size : Int) := oA
      have hx23 := bt_at a3 x12_2
      replace p23 := eq_true p23
      replace q23 := eq_true q23
      go_wp2
      repeat (go_quiet (fail); try go_wp2)
      go_roundg k2
      case measure => have := HJ5.out; have := HK2.out; omega
      case rel => exact ⟨(wrap64 (x12_2 + 1)), (xR), H', ⟨by have := HJ5.out; have := HK2.out; omega⟩, ⟨by (with_reducible repeat (first | apply Kd.R_alloc | apply Kd.R_drewN | apply Kd.R_drew)); exact HO_9.out⟩, ⟨hB⟩⟩
     rw [if_neg c21] at H
     have c21b0 : decide (x12_2 < (a3.size : Int)) = false := decide_eq_false c21
     clear c21
     have HC25 := aM H
     clear H
     go_upto_block 2 with (fail)
     repeat (go_quiet (fail); go_upto_block 2 with (fail))
     go_cut [13] (fun v13 wc => ∃ (kq : Nat) (x13_24 : ByteArray), v13 = .string x13_24 ∧ Aside0 (foundrylaw05_LexBlanks.j2 kq a0 a1 a2 a3 t166 x13_24 = some r) ∧ Aside0 (kq ≤ k2) ∧ Aside0 (Kd.R k44 44 wc w.heap.size (fun _ => True) v169 t166) ∧ Aside0 (Below w.heap.size w wc))
     case first =>
      have H := HC25.out
      clear HC25
      by_cases c26 : a2 = 1
      ·rw [if_pos c26] at H
       have c26b0 : (a2 == 1) = true := beq_iff_eq.mpr c26
       have c26b1 : (a2 != 1) = false := bne_eq_false_iff_eq.mpr c26
       clear c26
       (first | rw [c26b0] | (simp only [i64_w, i32_w]; rw [c26b0]) | skip)
       have H' := aM H
       clear H
       go_wp2
       repeat (go_quiet (fail); try go_wp2)
       go_meet
       case rel => exact ⟨_, ((⟨#[10, 9]⟩ : ByteArray)), (xR), H', ⟨by have := HJ5.out; have := HK2.out; omega⟩, ⟨by (with_reducible repeat (first | apply Kd.R_alloc | apply Kd.R_drewN | apply Kd.R_drew)); exact HO_9.out⟩, ⟨hB⟩⟩
      rw [if_neg c26] at H
      have c26b0 : (a2 == 1) = false := beq_eq_false_iff_ne.mpr c26
      have c26b1 : (a2 != 1) = true := bne_iff_ne.mpr c26
      (first | rw [c26b0] | (simp only [i64_w, i32_w]; rw [c26b0]) | skip)
      by_cases c27 : a2 = 2
      rotate_left
      ·rw [if_neg c27] at H
       have c27b0 : (a2 == 2) = false := beq_eq_false_iff_ne.mpr c27
       have c27b1 : (a2 != 2) = true := bne_iff_ne.mpr c27
       have H' := aM H
       clear H
       go_wp2
       repeat (go_quiet (fail); try go_wp2)
       go_meet
       case rel => exact ⟨_, ((⟨#[32]⟩ : ByteArray)), (xR), H', ⟨by have := HJ5.out; have := HK2.out; omega⟩, ⟨by (with_reducible repeat (first | apply Kd.R_alloc | apply Kd.R_drewN | apply Kd.R_drew)); exact HO_9.out⟩, ⟨hB⟩⟩
      rw [if_pos c27] at H
      have c27b0 : (a2 == 2) = true := beq_iff_eq.mpr c27
      have c27b1 : (a2 != 2) = false := bne_eq_false_iff_eq.mpr c27
      clear c27
      by_cases c28 : 4 + a3.size ≤ 9223372036854775807
      rotate_left
      ·rw [if_neg c28] at H
       exact absurd H (by simp)
      rw [if_pos c28] at H
      have c28b0 := eq_true c28
      have c28b1 : decide (4 + a3.size ≤ 9223372036854775807) = true := decide_eq_true c28
      try have c28b2 : (9223372036854775807 < 4 + a3.size) = False := eq_false (Nat.not_lt.2 c28)
      by_cases c29 : ((⟨#[32, 47, 47, 32]⟩ : ByteArray) ++ a3).size + 1 ≤ 9223372036854775807
      rotate_left
      ·rw [if_neg c29] at H
       exact absurd H (by simp)
      rw [if_pos c29] at H
      have c29b0 := eq_true c29
      have c29b1 : decide (((⟨#[32, 47, 47, 32]⟩ : ByteArray) ++ a3).size + 1 ≤ 9223372036854775807) = true := decide_eq_true c29
      try have c29b2 : (9223372036854775807 < ((⟨#[32, 47, 47, 32]⟩ : ByteArray) ++ a3).size + 1) = False := eq_false (Nat.not_lt.2 c29)
      have c29n := c29
      simp only [ByteArray.size_append'] at c29n
      try rw [show (⟨#[32, 47, 47, 32]⟩ : ByteArray).size = 4 from rfl] at c29n
      have c29n0 := eq_true c29n
      have c29n1 := decide_eq_true c29n
      have c29n2 := eq_false (Nat.not_lt.2 c29n)
      clear c29n
      have H' := aM H
      clear H
      go_wp2
      repeat (go_quiet (fail); try go_wp2)
      go_meet
      case rel => exact ⟨_, (((⟨#[32, 47, 47, 32]⟩ : ByteArray) ++ a3) ++ (⟨#[10]⟩ : ByteArray)), (xR), H', ⟨by have := HJ5.out; have := HK2.out; omega⟩, ⟨by (with_reducible repeat (first | apply Kd.R_alloc | apply Kd.R_drewN | apply Kd.R_drew)); exact HO_9.out⟩, ⟨hB⟩⟩
     case rest =>
      clear HC25
      (try clear c1); (try clear c2); (try clear p2); (try clear q2); (try clear hx2); (try clear p6); (try clear c7); (try clear c8); (try clear c8b0); (try clear c8b1); (try clear c9); (try clear c9b0); (try clear c9b1); (try clear c9b2); (try clear c11); (try clear c11b0); (try clear c13); (try clear c13b0); (try clear c18); (try clear c21); (try clear c21b0); (try clear c22); (try clear c22b0)
      (try clear p23); (try clear q23); (try clear hx23); (try clear c24); (try clear c24b0); (try clear c24b1); (try clear c26); (try clear c26b0); (try clear c26b1); (try clear c27); (try clear c27b0); (try clear c27b1); (try clear c28); (try clear c28b0); (try clear c28b1); (try clear c28b2); (try clear c29); (try clear c29b0); (try clear c29b1); (try clear c29b2); (try clear p2); (try clear p23)
      try clear q23
      obtain ⟨kq, x13_24, rfl, HA, HJ24, HO_9, HB⟩ := hcut
      cases kq with
      | zero => exact absurd HA.out (by simp [foundrylaw05_LexBlanks.j2])
      | succ kj24 =>
       have H := HA.out
       clear HA
       simp only [foundrylaw05_LexBlanks.j2] at H
       by_cases c30 : 0 ≤ a1
       rotate_left
       ·rw [if_neg c30] at H
        exact absurd H (by simp)
       rw [if_pos c30] at H
       have c30b0 : decide (0 ≤ a1) = true := decide_eq_true c30
       clear c30
       by_cases c31 : a1 < (t166.length : Int)
       rotate_left
       ·rw [if_neg c31] at H
        exact absurd H (by simp)
       rw [if_pos c31] at H
       have c31b0 : decide (a1 < (t166.length : Int)) = true := decide_eq_true c31
       clear c31
       by_cases c32 : 0 ≤ ((rd_T44 t166 a1).f3)
       rotate_left
       ·rw [if_neg c32] at H
        exact absurd H (by simp)
       rw [if_pos c32] at H
       have c32b0 := eq_true c32
       have c32b1 : decide (0 ≤ ((rd_T44 t166 a1).f3)) = true := decide_eq_true c32
       clear c32
       by_cases c33 : ((rd_T44 t166 a1).f3) ≤ (a0.size : Int)
       rotate_left
       ·rw [if_neg c33] at H
        exact absurd H (by simp)
       rw [if_pos c33] at H
       have c33b0 := eq_true c33
       have c33b1 : decide (((rd_T44 t166 a1).f3) ≤ (a0.size : Int)) = true := decide_eq_true c33
       clear c33
       by_cases c34 : (a0.extract 0 (((rd_T44 t166 a1).f3) : Int).toNat).size + x13_24.size ≤ 9223372036854775807
       rotate_left
       ·rw [if_neg c34] at H
        exact absurd H (by simp)
       rw [if_pos c34] at H
       have c34b0 := eq_true c34
       have c34b1 : decide ((a0.extract 0 (((rd_T44 t166 a1).f3) : Int).toNat).size + x13_24.size ≤ 9223372036854775807) = true := decide_eq_true c34
       try have c34b2 : (9223372036854775807 < (a0.extract 0 (((rd_T44 t166 a1).f3) : Int).toNat).size + x13_24.size) = False := eq_false (Nat.not_lt.2 c34)
       have c34n := c34
       have hx_ : (a0.extract 0 (((rd_T44 t166 a1).f3) : Int).toNat).size = (((rd_T44 t166 a1).f3) : Int).toNat := by
        have h_ : (((rd_T44 t166 a1).f3) : Int).toNat ≤ a0.size := by first | omega | (simp [*]; done)
        rw [ByteArray.size_extract]; omega
       rw [hx_] at c34n
       clear hx_
       have c34n0 := eq_true c34n
       have c34n1 := decide_eq_true c34n
       have c34n2 := eq_false (Nat.not_lt.2 c34n)
       clear c34n
       have c35b0 := eq_true (oA : 0 ≤ ((rd_T44 t166 a1).f3))
       have c36b0 := eq_true (oA : ((rd_T44 t166 a1).f3) ≤ (a0.size : Int))
       by_cases c37 : ((a0.extract 0 (((rd_T44 t166 a1).f3) : Int).toNat) ++ x13_24).size + (a0.extract (((rd_T44 t166 a1).f3) : Int).toNat a0.size).size ≤ 9223372036854775807
       rotate_left
       ·rw [if_neg c37] at H
        exact absurd H (by simp)
       rw [if_pos c37] at H
       have c37b0 := eq_true c37
       have c37b1 : decide (((a0.extract 0 (((rd_T44 t166 a1).f3) : Int).toNat) ++ x13_24).size + (a0.extract (((rd_T44 t166 a1).f3) : Int).toNat a0.size).size ≤ 9223372036854775807) = true := decide_eq_true c37
       try have c37b2 : (9223372036854775807 < ((a0.extract 0 (((rd_T44 t166 a1).f3) : Int).toNat) ++ x13_24).size + (a0.extract (((rd_T44 t166 a1).f3) : Int).toNat a0.size).size) = False := eq_false (Nat.not_lt.2 c37)
       have c37n := c37
       simp only [ByteArray.size_append'] at c37n
       have hx_ : (a0.extract 0 (((rd_T44 t166 a1).f3) : Int).toNat).size = (((rd_T44 t166 a1).f3) : Int).toNat := by
        have h_ : (((rd_T44 t166 a1).f3) : Int).toNat ≤ a0.size := by first | omega | (simp [*]; done)
        rw [ByteArray.size_extract]; omega
       rw [hx_] at c37n
       clear hx_
       rw [show (a0.extract (((rd_T44 t166 a1).f3) : Int).toNat a0.size).size = a0.size - (((rd_T44 t166 a1).f3) : Int).toNat by rw [ByteArray.size_extract, Nat.min_self]] at c37n
       have c37n0 := eq_true c37n
       have c37n1 := decide_eq_true c37n
       have c37n2 := eq_false (Nat.not_lt.2 c37n)
       clear c37n
       by_cases c38 : (((a0.extract 0 (((rd_T44 t166 a1).f3) : Int).toNat) ++ x13_24) ++ (a0.extract (((rd_T44 t166 a1).f3) : Int).toNat a0.size)).size + 1 ≤ 9223372036854775807
       rotate_left
       ·rw [if_neg c38] at H
        exact absurd H (by simp)
       rw [if_pos c38] at H
       have c38b0 := eq_true c38
       have c38b1 : decide ((((a0.extract 0 (((rd_T44 t166 a1).f3) : Int).toNat) ++ x13_24) ++ (a0.extract (((rd_T44 t166 a1).f3) : Int).toNat a0.size)).size + 1 ≤ 9223372036854775807) = true := decide_eq_true c38
       try have c38b2 : (9223372036854775807 < (((a0.extract 0 (((rd_T44 t166 a1).f3) : Int).toNat) ++ x13_24) ++ (a0.extract (((rd_T44 t166 a1).f3) : Int).toNat a0.size)).size + 1) = False := eq_false (Nat.not_lt.2 c38)
       have c38n := c38
       simp only [ByteArray.size_append'] at c38n
       have hx_ : (a0.extract 0 (((rd_T44 t166 a1).f3) : Int).toNat).size = (((rd_T44 t166 a1).f3) : Int).toNat := by
        have h_ : (((rd_T44 t166 a1).f3) : Int).toNat ≤ a0.size := by first | omega | (simp [*]; done)
        rw [ByteArray.size_extract]; omega
       rw [hx_] at c38n
       clear hx_
       rw [show (a0.extract (((rd_T44 t166 a1).f3) : Int).toNat a0.size).size = a0.size - (((rd_T44 t166 a1).f3) : Int).toNat by rw [ByteArray.size_extract, Nat.min_self]] at c38n
       have c38n0 := eq_true c38n
       have c38n1 := decide_eq_true c38n
       have c38n2 := eq_false (Nat.not_lt.2 c38n)
       clear c38n
       have HC39 := aM H
       clear H
       obtain ⟨Ao40, co40, eo40⟩ := Kd.R_slice HO_9.out
       subst eo40
       have p173 : 0 ≤ (a1 : Int) := oA
       have q173 : a1 < (t166.length : Int) := oA
       obtain ⟨ad173, e173, hx173_0, hx173_1, hx173_2, hx173_3, hx173_4⟩ := at_T44 (Kd.R_reads' HO_9.out).2.2 a1 p173 q173
       cases e173
       replace p173 := eq_true p173
       replace q173 := eq_true q173
       go_upto_if 81 with (fail)
       repeat (go_quiet (fail); go_upto_if 81 with (fail))
       go_cut [15] (fun v15 wc => ∃ (kq : Nat) (x15_38 : ByteArray), v15 = .string x15_38 ∧ Aside0 (foundrylaw05_LexBlanks.j3 kq t166 x15_38 = some r) ∧ Aside0 (kq ≤ kj24) ∧ Aside0 (Kd.R k44 44 wc w.heap.size (fun _ => True) (.slice (some ad173) t166.length co40) t166) ∧ Aside0 (Below w.heap.size w wc))
       case first =>
        have H := HC39.out
        clear HC39
        by_cases c41 : a2 = 3
        rotate_left
        ·rw [if_neg c41] at H
         have c41b0 : (a2 == 3) = false := beq_eq_false_iff_ne.mpr c41
         have c41b1 : (a2 != 3) = true := bne_iff_ne.mpr c41
         (first | rw [c41b0] | (simp only [i64_w, i32_w]; rw [c41b0]) | skip)
         have H' := aM H
         clear H
         go_wp2
         repeat (go_quiet (fail); try go_wp2)
         go_meet
         case rel => exact ⟨_, ((((a0.extract 0 (((rd_T44 t166 a1).f3) : Int).toNat) ++ x13_24) ++ (a0.extract (((rd_T44 t166 a1).f3) : Int).toNat a0.size)) ++ (⟨#[32]⟩ : ByteArray)), (xR), H', ⟨by have := HJ5.out; have := HK2.out; have := HJ24.out; omega⟩, ⟨by (with_reducible repeat (first | apply Kd.R_alloc | apply Kd.R_drewN | apply Kd.R_drew)); exact HO_9.out⟩, ⟨hB⟩⟩
        rw [if_pos c41] at H
        have c41b0 : (a2 == 3) = true := beq_iff_eq.mpr c41
        have c41b1 : (a2 != 3) = false := bne_eq_false_iff_eq.mpr c41
        clear c41
        (first | rw [c41b0] | (simp only [i64_w, i32_w]; rw [c41b0]) | skip)
        by_cases c42 : a0.size + 3 ≤ 9223372036854775807
        rotate_left
        ·rw [if_neg c42] at H
         exact absurd H (by simp)
        rw [if_pos c42] at H
        have c42b0 := eq_true c42
        have c42b1 : decide (a0.size + 3 ≤ 9223372036854775807) = true := decide_eq_true c42
        try have c42b2 : (9223372036854775807 < a0.size + 3) = False := eq_false (Nat.not_lt.2 c42)
        by_cases c43 : (a0 ++ (⟨#[10, 47, 47]⟩ : ByteArray)).size + a3.size ≤ 9223372036854775807
        rotate_left
        ·rw [if_neg c43] at H
         exact absurd H (by simp)
        rw [if_pos c43] at H
        have c43b0 := eq_true c43
        have c43b1 : decide ((a0 ++ (⟨#[10, 47, 47]⟩ : ByteArray)).size + a3.size ≤ 9223372036854775807) = true := decide_eq_true c43
        try have c43b2 : (9223372036854775807 < (a0 ++ (⟨#[10, 47, 47]⟩ : ByteArray)).size + a3.size) = False := eq_false (Nat.not_lt.2 c43)
        have c43n := c43
        simp only [ByteArray.size_append'] at c43n
        try rw [show (⟨#[10, 47, 47]⟩ : ByteArray).size = 3 from rfl] at c43n
        have c43n0 := eq_true c43n
        have c43n1 := decide_eq_true c43n
        have c43n2 := eq_false (Nat.not_lt.2 c43n)
        clear c43n
        have H' := aM H
        clear H
        go_wp2
        repeat (go_quiet (fail); try go_wp2)
        go_meet
        case rel => exact ⟨_, ((a0 ++ (⟨#[10, 47, 47]⟩ : ByteArray)) ++ a3), (xR), H', ⟨by have := HJ5.out; have := HK2.out; have := HJ24.out; omega⟩, ⟨by (with_reducible repeat (first | apply Kd.R_alloc | apply Kd.R_drewN | apply Kd.R_drew)); exact HO_9.out⟩, ⟨hB⟩⟩
       case rest =>
        clear HC39
        (try clear c1); (try clear p1); (try clear q1); (try clear hx1); (try clear c2); (try clear p2); (try clear q2); (try clear hx2); (try clear c3); (try clear c4); (try clear p6); (try clear c7); (try clear c8); (try clear c8b0); (try clear c8b1); (try clear c9); (try clear c9b0); (try clear c9b1); (try clear c9b2); (try clear c11); (try clear c11b0); (try clear c13); (try clear c13b0); (try clear p17)
        (try clear q17); (try clear hx17); (try clear c18); (try clear c21); (try clear c21b0); (try clear c22); (try clear c22b0); (try clear p23); (try clear q23); (try clear hx23); (try clear c24); (try clear c24b0); (try clear c24b1); (try clear c26); (try clear c26b0); (try clear c26b1); (try clear c27); (try clear c27b0); (try clear c27b1); (try clear c28); (try clear c28b0); (try clear c28b1)
        (try clear c28b2); (try clear c29); (try clear c29b0); (try clear c29b1); (try clear c29b2); (try clear c30); (try clear c30b0); (try clear c31); (try clear c31b0); (try clear c32); (try clear c32b0); (try clear c32b1); (try clear c33); (try clear c33b0); (try clear c33b1); (try clear c34); (try clear c34b0); (try clear c34b1); (try clear c34b2); (try clear c35); (try clear c35b0); (try clear c36)
        (try clear c36b0); (try clear c37); (try clear c37b0); (try clear c37b1); (try clear c37b2); (try clear c38); (try clear c38b0); (try clear c38b1); (try clear c38b2); (try clear c41); (try clear c41b0); (try clear c41b1); (try clear c42); (try clear c42b0); (try clear c42b1); (try clear c42b2); (try clear c43); (try clear c43b0); (try clear c43b1); (try clear c43b2); (try clear hx173_0); (try clear hx173_1)
        (try clear hx173_2); (try clear hx173_3); (try clear hx173_4); (try clear p173); (try clear p2); (try clear p23); (try clear p6); (try clear q173); (try clear q2); (try clear q23)
        obtain ⟨kq, x15_38, rfl, HA, HJ38, HO_9, HB⟩ := hcut
        cases kq with
        | zero => exact absurd HA.out (by simp [foundrylaw05_LexBlanks.j3])
        | succ kj38 =>
         have H := HA.out
         clear HA
         simp only [foundrylaw05_LexBlanks.j3] at H
         by_cases c44 : (x15_38.size : Int) > 4096
         ·rw [if_pos c44] at H
          have c44b0 : decide (4096 < (x15_38.size : Int)) = true := decide_eq_true c44
          have c44b1 : decide (4096 < x15_38.size) = true := decide_eq_true (by omega)
          clear c44
          obtain rfl := Option.some.inj H
          go_wp2
          repeat (go_quiet (fail); try go_wp2)
          go_ret
          exact ⟨by first | rfl | (simp [errW_none, errW_some] <;> rfl) | (simp [*, errW_none, errW_some] <;> rfl), hB⟩
         rw [if_neg c44] at H
         have c44b0 : decide (4096 < (x15_38.size : Int)) = false := decide_eq_false c44
         have c44b1 : decide (4096 < x15_38.size) = false := decide_eq_false (by omega)
         clear c44
         replace H := Option.bind_eq_some_iff.mp H
         obtain ⟨⟨t174, t175, t176⟩, A450, H⟩ := H
         replace H : (if t176 = 0 then ((lex_Same.f kj38 t166 t174).bind fun t179 => (some t179)) else (some false)) = some r := H
         have A45 := aM A450
         clear A450
         by_cases c46 : t176 = 0
         rotate_left
         ·rw [if_neg c46] at H
          have c46b0 : (t176 == 0) = false := beq_eq_false_iff_ne.mpr c46
          have c46b1 : (t176 != 0) = true := bne_iff_ne.mpr c46
          obtain rfl := Option.some.inj H
          go_wp2_with (first | (go_at_call 21; (with_reducible refine (lex_Lex.calls kj38 x15_38 t174 t175 t176 _ ?side1 A45.out).mono ?_); (case side1 => exact LaidOk.below (hB) HLAID.out); rintro e w51 ⟨v177, rfl, ho0, hb⟩; have n0_ := aM (Kd.R_elder' (by (with_reducible repeat (first | apply Kd.R_alloc | apply Kd.R_drewN | apply Kd.R_drew)); exact HO_9.out) (Kd.R_base ho0) hb); have n1_ := aM (Kd.R_lower (Kd.R_new' ho0 (Kd.R_lt (by (with_reducible repeat (first | apply Kd.R_alloc | apply Kd.R_drewN | apply Kd.R_drew)); exact HO_9.out))) (below_size (hB))); have n2_ := aM (below_step (hB) hb); clear HO_9; clear HB; have HO_9 := n0_; have HO178 := n1_; have HB := n2_; clear n0_ n1_ n2_; (try clear hb); (try clear ho0)))
          repeat (go_quiet (first | (go_at_call 21; (with_reducible refine (lex_Lex.calls kj38 x15_38 t174 t175 t176 _ ?side1 A45.out).mono ?_); (case side1 => exact LaidOk.below (hB) HLAID.out); rintro e w51 ⟨v177, rfl, ho0, hb⟩; have n0_ := aM (Kd.R_elder' (by (with_reducible repeat (first | apply Kd.R_alloc | apply Kd.R_drewN | apply Kd.R_drew)); exact HO_9.out) (Kd.R_base ho0) hb); have n1_ := aM (Kd.R_lower (Kd.R_new' ho0 (Kd.R_lt (by (with_reducible repeat (first | apply Kd.R_alloc | apply Kd.R_drewN | apply Kd.R_drew)); exact HO_9.out))) (below_size (hB))); have n2_ := aM (below_step (hB) hb); clear HO_9; clear HB; have HO_9 := n0_; have HO178 := n1_; have HB := n2_; clear n0_ n1_ n2_; (try clear hb); (try clear ho0))); try go_wp2_with (first | (go_at_call 21; (with_reducible refine (lex_Lex.calls kj38 x15_38 t174 t175 t176 _ ?side1 A45.out).mono ?_); (case side1 => exact LaidOk.below (hB) HLAID.out); rintro e w51 ⟨v177, rfl, ho0, hb⟩; have n0_ := aM (Kd.R_elder' (by (with_reducible repeat (first | apply Kd.R_alloc | apply Kd.R_drewN | apply Kd.R_drew)); exact HO_9.out) (Kd.R_base ho0) hb); have n1_ := aM (Kd.R_lower (Kd.R_new' ho0 (Kd.R_lt (by (with_reducible repeat (first | apply Kd.R_alloc | apply Kd.R_drewN | apply Kd.R_drew)); exact HO_9.out))) (below_size (hB))); have n2_ := aM (below_step (hB) hb); clear HO_9; clear HB; have HO_9 := n0_; have HO178 := n1_; have HB := n2_; clear n0_ n1_ n2_; (try clear hb); (try clear ho0))))
          go_ret
          exact ⟨by first | rfl | (simp [errW_none, errW_some] <;> rfl) | (simp [*, errW_none, errW_some] <;> rfl), hB⟩
         rw [if_pos c46] at H
         have c46b0 : (t176 == 0) = true := beq_iff_eq.mpr c46
         have c46b1 : (t176 != 0) = false := bne_eq_false_iff_eq.mpr c46
         clear c46
         replace H := Option.bind_eq_some_iff.mp H
         obtain ⟨t179, A470, H⟩ := H
         replace H : (some t179) = some r := H
         have A47 := aM A470
         clear A470
         obtain rfl := Option.some.inj H
         go_wp2_with (first | (go_at_call 21; (with_reducible refine (lex_Lex.calls kj38 x15_38 t174 t175 t176 _ ?side1 A45.out).mono ?_); (case side1 => exact LaidOk.below (hB) HLAID.out); rintro e w48 ⟨v177, rfl, ho0, hb⟩; have n0_ := aM (Kd.R_elder' (by (with_reducible repeat (first | apply Kd.R_alloc | apply Kd.R_drewN | apply Kd.R_drew)); exact HO_9.out) (Kd.R_base ho0) hb); have n1_ := aM (Kd.R_lower (Kd.R_new' ho0 (Kd.R_lt (by (with_reducible repeat (first | apply Kd.R_alloc | apply Kd.R_drewN | apply Kd.R_drew)); exact HO_9.out))) (below_size (hB))); have n2_ := aM (below_step (hB) hb); clear HO_9; clear HB; have HO_9 := n0_; have HO178 := n1_; have HB := n2_; clear n0_ n1_ n2_; (try clear hb); (try clear ho0); obtain ⟨Ao49, co49, eo49⟩ := Kd.R_slice HO178.out; subst eo49) | (go_at_call 26; (with_reducible refine (lex_Same.calls kj38 _ _ t166 _ _ t174 t179 _ ?side1 ?side2 ?side3 ?side4 A47.out).mono ?_); (case side1 => repeat (first | exact (Kd.R_reads' HO_9.out).2.2 | (with_reducible refine Kd.C_alloc ?_ _) | (with_reducible refine Kd.C_drewN ?_ _) | (with_reducible refine Kd.C_drew ?_))); (case side2 => exact (Kd.R_reads' HO_9.out).2.1); (case side3 => repeat (first | exact (Kd.R_reads' HO178.out).2.2 | (with_reducible refine Kd.C_alloc ?_ _) | (with_reducible refine Kd.C_drewN ?_ _) | (with_reducible refine Kd.C_drew ?_))); (case side4 => exact (Kd.R_reads' HO178.out).2.1); rintro e w50 ⟨rfl, hb⟩; have n0_ := aM (Kd.R_below (by (with_reducible repeat (first | apply Kd.R_alloc | apply Kd.R_drewN | apply Kd.R_drew)); exact HO_9.out) hb); have n1_ := aM (Kd.R_below (by (with_reducible repeat (first | apply Kd.R_alloc | apply Kd.R_drewN | apply Kd.R_drew)); exact HO178.out) hb); have n2_ := aM (below_step (hB) hb); clear HO_9; clear HO178; clear HB; have HO_9 := n0_; have HO178 := n1_; have HB := n2_; clear n0_ n1_ n2_; (try clear hb)))
         repeat (go_quiet (first | (go_at_call 21; (with_reducible refine (lex_Lex.calls kj38 x15_38 t174 t175 t176 _ ?side1 A45.out).mono ?_); (case side1 => exact LaidOk.below (hB) HLAID.out); rintro e w48 ⟨v177, rfl, ho0, hb⟩; have n0_ := aM (Kd.R_elder' (by (with_reducible repeat (first | apply Kd.R_alloc | apply Kd.R_drewN | apply Kd.R_drew)); exact HO_9.out) (Kd.R_base ho0) hb); have n1_ := aM (Kd.R_lower (Kd.R_new' ho0 (Kd.R_lt (by (with_reducible repeat (first | apply Kd.R_alloc | apply Kd.R_drewN | apply Kd.R_drew)); exact HO_9.out))) (below_size (hB))); have n2_ := aM (below_step (hB) hb); clear HO_9; clear HB; have HO_9 := n0_; have HO178 := n1_; have HB := n2_; clear n0_ n1_ n2_; (try clear hb); (try clear ho0); obtain ⟨Ao49, co49, eo49⟩ := Kd.R_slice HO178.out; subst eo49) | (go_at_call 26; (with_reducible refine (lex_Same.calls kj38 _ _ t166 _ _ t174 t179 _ ?side1 ?side2 ?side3 ?side4 A47.out).mono ?_); (case side1 => repeat (first | exact (Kd.R_reads' HO_9.out).2.2 | (with_reducible refine Kd.C_alloc ?_ _) | (with_reducible refine Kd.C_drewN ?_ _) | (with_reducible refine Kd.C_drew ?_))); (case side2 => exact (Kd.R_reads' HO_9.out).2.1); (case side3 => repeat (first | exact (Kd.R_reads' HO178.out).2.2 | (with_reducible refine Kd.C_alloc ?_ _) | (with_reducible refine Kd.C_drewN ?_ _) | (with_reducible refine Kd.C_drew ?_))); (case side4 => exact (Kd.R_reads' HO178.out).2.1); rintro e w50 ⟨rfl, hb⟩; have n0_ := aM (Kd.R_below (by (with_reducible repeat (first | apply Kd.R_alloc | apply Kd.R_drewN | apply Kd.R_drew)); exact HO_9.out) hb); have n1_ := aM (Kd.R_below (by (with_reducible repeat (first | apply Kd.R_alloc | apply Kd.R_drewN | apply Kd.R_drew)); exact HO178.out) hb); have n2_ := aM (below_step (hB) hb); clear HO_9; clear HO178; clear HB; have HO_9 := n0_; have HO178 := n1_; have HB := n2_; clear n0_ n1_ n2_; (try clear hb))); try go_wp2_with (first | (go_at_call 21; (with_reducible refine (lex_Lex.calls kj38 x15_38 t174 t175 t176 _ ?side1 A45.out).mono ?_); (case side1 => exact LaidOk.below (hB) HLAID.out); rintro e w48 ⟨v177, rfl, ho0, hb⟩; have n0_ := aM (Kd.R_elder' (by (with_reducible repeat (first | apply Kd.R_alloc | apply Kd.R_drewN | apply Kd.R_drew)); exact HO_9.out) (Kd.R_base ho0) hb); have n1_ := aM (Kd.R_lower (Kd.R_new' ho0 (Kd.R_lt (by (with_reducible repeat (first | apply Kd.R_alloc | apply Kd.R_drewN | apply Kd.R_drew)); exact HO_9.out))) (below_size (hB))); have n2_ := aM (below_step (hB) hb); clear HO_9; clear HB; have HO_9 := n0_; have HO178 := n1_; have HB := n2_; clear n0_ n1_ n2_; (try clear hb); (try clear ho0); obtain ⟨Ao49, co49, eo49⟩ := Kd.R_slice HO178.out; subst eo49) | (go_at_call 26; (with_reducible refine (lex_Same.calls kj38 _ _ t166 _ _ t174 t179 _ ?side1 ?side2 ?side3 ?side4 A47.out).mono ?_); (case side1 => repeat (first | exact (Kd.R_reads' HO_9.out).2.2 | (with_reducible refine Kd.C_alloc ?_ _) | (with_reducible refine Kd.C_drewN ?_ _) | (with_reducible refine Kd.C_drew ?_))); (case side2 => exact (Kd.R_reads' HO_9.out).2.1); (case side3 => repeat (first | exact (Kd.R_reads' HO178.out).2.2 | (with_reducible refine Kd.C_alloc ?_ _) | (with_reducible refine Kd.C_drewN ?_ _) | (with_reducible refine Kd.C_drew ?_))); (case side4 => exact (Kd.R_reads' HO178.out).2.1); rintro e w50 ⟨rfl, hb⟩; have n0_ := aM (Kd.R_below (by (with_reducible repeat (first | apply Kd.R_alloc | apply Kd.R_drewN | apply Kd.R_drew)); exact HO_9.out) hb); have n1_ := aM (Kd.R_below (by (with_reducible repeat (first | apply Kd.R_alloc | apply Kd.R_drewN | apply Kd.R_drew)); exact HO178.out) hb); have n2_ := aM (below_step (hB) hb); clear HO_9; clear HO178; clear HB; have HO_9 := n0_; have HO178 := n1_; have HB := n2_; clear n0_ n1_ n2_; (try clear hb))))
         go_ret
         exact ⟨by first | rfl | (simp [errW_none, errW_some] <;> rfl) | (simp [*, errW_none, errW_some] <;> rfl), hB⟩
/-- THE ONE PURE STATEMENT of foundrylaw05_LexBlanks: yours. -/
def foundrylaw05_LexBlanks.Pure : Prop := ∀ (a0 : ByteArray) (a1 : Int) (a2 : Int) (a3 : ByteArray), a0.size ≤ 140737488351232 → (Lit.int .i64 a1).wf = true → (Lit.int .i64 a2).wf = true → a3.size ≤ 140737488351232 → ∃ k, foundrylaw05_LexBlanks.f k a0 a1 a2 a3 = some true
theorem foundrylaw05_LexBlanks.walk (P : foundrylaw05_LexBlanks.Pure) (a0 : ByteArray) (a1 : Int) (a2 : Int) (a3 : ByteArray) (w : World) (hLaid : LaidOk w) (w0 : a0.size ≤ 140737488351232) (w1 : (Lit.int .i64 a1).wf = true) (w2 : (Lit.int .i64 a2).wf = true) (w3 : a3.size ≤ 140737488351232) :
    Calls Tryz.prog 7 #[.string a0, .int .i64 a1, .int .i64 a2, .string a3] w fun e w' => e = .returned (.bool true) ∧ Below w.heap.size w w' := by
  obtain ⟨k, h⟩ := P a0 a1 a2 a3 w0 w1 w2 w3
  refine (foundrylaw05_LexBlanks.calls k a0 a1 a2 a3 true w hLaid h).mono ?_
  rintro e w' ⟨rfl, hd⟩
  exact ⟨rfl, hd⟩
end Go.Proofs.YthifejhdmjoolaaGreatDoor.QM
