-- WRITTEN BY A PROGRAM OF THE SESSION (wip/myprint.sh): Lean checks it.
import Derived.Test.YthifejhdmjoolaaGreatDoorQE0
import Derived.Test.YthifejhdmjoolaaGreatDoorQE4
import Derived.Test.YthifejhdmjoolaaGreatDoorQE8
import Derived.Test.YthifejhdmjoolaaGreatDoorQE9
namespace Go.Proofs.YthifejhdmjoolaaGreatDoor.QE
open Go.Proofs.YthifejhdmjoolaaGreatDoorG Go.Proofs.YthifejhdmjoolaaGreatDoor.QR
attribute [local go_sem] Instr.field asAgg ext47
open Go.RowKit Go.Proofs.YthifejhdmjoolaaGreatDoorW.PrintWords Go.Proofs.YthifejhdmjoolaaGreatDoorW.PrintLast Go.Proofs.YthifejhdmjoolaaGreatDoorW.PrintMore
attribute [local go_sem] max2_int min2_int max_two min_two max_three min_three max_four min_four   -- for this text's walks alone
set_option linter.unusedVariables false
set_option linter.unusedSimpArgs false
namespace foundryref05_numeral
mutual
def j0 : Nat → ByteArray → Int → Int → Bool → Int → ByteArray → Int → Int → Int → Option (Int × ByteArray × Int × Int × Int × Int)
  | 0, _, _, _, _, _, _, _, _, _ => none
  | k + 1, x0, x1, x7, x34, x177000, x177001, x177002, x177003, x177004 => if x34 = true then (l0 k x0 x1 (wrap64 (x1 + 2)) x177000 x177001 x177002 x177003 x177004) else (l1 k x0 x1 x7 x177000 x177001 x177002 x177003 x177004)
def l0 : Nat → ByteArray → Int → Int → Int → ByteArray → Int → Int → Int → Option (Int × ByteArray × Int × Int × Int × Int)
  | 0, _, _, _, _, _, _, _, _ => none
  | k + 1, x0, x1, x7, x177000, x177001, x177002, x177003, x177004 => if x7 < (x0.size : Int) then (if 0 ≤ x7 then ((foundryref05_hex.f (bt x0 x7)).bind fun t177 => (if t177 = true then (l0 k x0 x1 (wrap64 (x7 + 1)) x177000 x177001 x177002 x177003 x177004) else (if 0 ≤ x1 then (if x1 ≤ x7 then (if x7 ≤ (x0.size : Int) then ((foundryref01_Parse.f k (x0.extract (x1 : Int).toNat (x7 : Int).toNat)).bind fun bt178 => (if bt178.2 = 0 then (some (4, x0.extract (x1 : Int).toNat (x7 : Int).toNat, 2, bt178.1, x177004, 0)) else (some (4, x0.extract (x1 : Int).toNat (x7 : Int).toNat, x177002, x177003, x177004, 10)))) else (none)) else (none)) else (none)))) else (none)) else (if 0 ≤ x1 then (if x1 ≤ x7 then (if x7 ≤ (x0.size : Int) then ((foundryref01_Parse.f k (x0.extract (x1 : Int).toNat (x7 : Int).toNat)).bind fun bt180 => (if bt180.2 = 0 then (some (4, x0.extract (x1 : Int).toNat (x7 : Int).toNat, 2, bt180.1, x177004, 0)) else (some (4, x0.extract (x1 : Int).toNat (x7 : Int).toNat, x177002, x177003, x177004, 10)))) else (none)) else (none)) else (none))
def j3 : Nat → ByteArray → Int → Int → Int → ByteArray → Int → Int → Int → Option (Int × ByteArray × Int × Int × Int × Int)
  | 0, _, _, _, _, _, _, _, _ => none
  | k + 1, x0, x1, x7, x177000, x177001, x177002, x177003, x177004 => if (wrap64 (x7 + 1)) < (x0.size : Int) then (if 0 ≤ x7 then (if x7 < (x0.size : Int) then (if (bt x0 x7) = 46 then (if 0 ≤ (wrap64 (x7 + 1)) then ((foundryref05_digit.f (bt x0 (wrap64 (x7 + 1)))).bind fun t183 => (j4 k x0 x1 x7 t183 x177000 x177001 x177002 x177003 x177004)) else (none)) else (j4 k x0 x1 x7 false x177000 x177001 x177002 x177003 x177004)) else (none)) else (none)) else (j4 k x0 x1 x7 false x177000 x177001 x177002 x177003 x177004)
def j4 : Nat → ByteArray → Int → Int → Bool → Int → ByteArray → Int → Int → Int → Option (Int × ByteArray × Int × Int × Int × Int)
  | 0, _, _, _, _, _, _, _, _, _ => none
  | k + 1, x0, x1, x7, x97, x177000, x177001, x177002, x177003, x177004 => if x97 = true then (l2 k x0 x1 (wrap64 (x7 + 1)) x177000 x177001 x177002 x177003 x177004) else (if 0 ≤ x1 then (if x1 ≤ x7 then (if x7 ≤ (x0.size : Int) then ((foundryref05_number.f k (x0.extract (x1 : Int).toNat (x7 : Int).toNat)).bind fun bt187 => (if bt187.2 = true then (some (x177000, x0.extract (x1 : Int).toNat (x7 : Int).toNat, 1, bt187.1, x177004, 0)) else (some (x177000, x0.extract (x1 : Int).toNat (x7 : Int).toNat, x177002, x177003, x177004, 80)))) else (none)) else (none)) else (none))
def j6 : Nat → ByteArray → Int → Int → Int → ByteArray → Int → Int → Int → Option (Int × ByteArray × Int × Int × Int × Int)
  | 0, _, _, _, _, _, _, _, _ => none
  | k + 1, x0, x1, x7, x177000, x177001, x177002, x177003, x177004 => if 0 ≤ x1 then (if x1 ≤ x7 then (if x7 ≤ (x0.size : Int) then ((foundryref01_Literal.f k (x0.extract (x1 : Int).toNat (x7 : Int).toNat)).bind fun bt185 => (some (4, x0.extract (x1 : Int).toNat (x7 : Int).toNat, 2, bt185.1, x177004, bt185.2))) else (none)) else (none)) else (none)
def l2 : Nat → ByteArray → Int → Int → Int → ByteArray → Int → Int → Int → Option (Int × ByteArray × Int × Int × Int × Int)
  | 0, _, _, _, _, _, _, _, _ => none
  | k + 1, x0, x1, x7, x177000, x177001, x177002, x177003, x177004 => if x7 < (x0.size : Int) then (if 0 ≤ x7 then ((foundryref05_digit.f (bt x0 x7)).bind fun t184 => (if t184 = true then (l2 k x0 x1 (wrap64 (x7 + 1)) x177000 x177001 x177002 x177003 x177004) else (j6 k x0 x1 x7 x177000 x177001 x177002 x177003 x177004))) else (none)) else (j6 k x0 x1 x7 x177000 x177001 x177002 x177003 x177004)
def l1 : Nat → ByteArray → Int → Int → Int → ByteArray → Int → Int → Int → Option (Int × ByteArray × Int × Int × Int × Int)
  | 0, _, _, _, _, _, _, _, _ => none
  | k + 1, x0, x1, x7, x177000, x177001, x177002, x177003, x177004 => if x7 < (x0.size : Int) then (if 0 ≤ x7 then ((foundryref05_digit.f (bt x0 x7)).bind fun t182 => (if t182 = true then (l1 k x0 x1 (wrap64 (x7 + 1)) x177000 x177001 x177002 x177003 x177004) else (j3 k x0 x1 x7 x177000 x177001 x177002 x177003 x177004))) else (none)) else (j3 k x0 x1 x7 x177000 x177001 x177002 x177003 x177004)
end
def f (k : Nat) (a0 : ByteArray) (a1 : Int) : Option (Int × ByteArray × Int × Int × Int × Int) := if 0 ≤ a1 then (if a1 < (a0.size : Int) then (if (bt a0 a1) = 48 then (if (wrap64 (a1 + 1)) < (a0.size : Int) then (if 0 ≤ (wrap64 (a1 + 1)) then (j0 k a0 a1 a1 ((bt a0 (wrap64 (a1 + 1))) == 120) 3 (⟨#[]⟩ : ByteArray) 0 0 a1) else (none)) else (j0 k a0 a1 a1 false 3 (⟨#[]⟩ : ByteArray) 0 0 a1)) else (j0 k a0 a1 a1 false 3 (⟨#[]⟩ : ByteArray) 0 0 a1)) else (none)) else (none)
theorem mono_l : ∀ k, (∀ y0 y1 y2 y3 y4 y5 y6 y7 y8, LeO (j0 k y0 y1 y2 y3 y4 y5 y6 y7 y8) (j0 (k + 1) y0 y1 y2 y3 y4 y5 y6 y7 y8)) ∧ (∀ y0 y1 y2 y3 y4 y5 y6 y7, LeO (l0 k y0 y1 y2 y3 y4 y5 y6 y7) (l0 (k + 1) y0 y1 y2 y3 y4 y5 y6 y7)) ∧ (∀ y0 y1 y2 y3 y4 y5 y6 y7, LeO (j3 k y0 y1 y2 y3 y4 y5 y6 y7) (j3 (k + 1) y0 y1 y2 y3 y4 y5 y6 y7)) ∧ (∀ y0 y1 y2 y3 y4 y5 y6 y7 y8, LeO (j4 k y0 y1 y2 y3 y4 y5 y6 y7 y8) (j4 (k + 1) y0 y1 y2 y3 y4 y5 y6 y7 y8)) ∧ (∀ y0 y1 y2 y3 y4 y5 y6 y7, LeO (j6 k y0 y1 y2 y3 y4 y5 y6 y7) (j6 (k + 1) y0 y1 y2 y3 y4 y5 y6 y7)) ∧ (∀ y0 y1 y2 y3 y4 y5 y6 y7, LeO (l2 k y0 y1 y2 y3 y4 y5 y6 y7) (l2 (k + 1) y0 y1 y2 y3 y4 y5 y6 y7)) ∧ (∀ y0 y1 y2 y3 y4 y5 y6 y7, LeO (l1 k y0 y1 y2 y3 y4 y5 y6 y7) (l1 (k + 1) y0 y1 y2 y3 y4 y5 y6 y7))
  | 0 => by refine ⟨?_, ?_, ?_, ?_, ?_, ?_, ?_⟩ <;> (intros; exact LeO.none _)
  | k + 1 => by
    obtain ⟨ih0, ih1, ih2, ih3, ih4, ih5, ih6⟩ := mono_l k
    refine ⟨?_, ?_, ?_, ?_, ?_, ?_, ?_⟩ <;> intros <;> first | unfold j0 | unfold l0 | unfold j3 | unfold j4 | unfold j6 | unfold l2 | unfold l1
    all_goals repeat' first
    | (with_reducible first | apply ih0 | apply ih1 | apply ih2 | apply ih3 | apply ih4 | apply ih5 | apply ih6 | apply foundryref01_Literal.mono | apply foundryref01_Parse.mono | apply foundryref05_number.mono | exact LeO.refl _ | exact LeO.none _ | refine LeO.ite ?_ ?_ | refine LeO.bind ?_ (fun _ => ?_))
    | exact LeO.none _ | refine LeO.ite ?_ ?_ | refine LeO.bind ?_ (fun _ => ?_)
theorem mono : ∀ a0 a1 k, LeO (f k a0 a1) (f (k + 1) a0 a1) := by
  intro a0 a1 k
  obtain ⟨ih0, ih1, ih2, ih3, ih4, ih5, ih6⟩ := mono_l k
  unfold f
  repeat' first
      | (with_reducible first | apply ih0 | apply ih1 | apply ih2 | apply ih3 | apply ih4 | apply ih5 | apply ih6 | apply foundryref01_Literal.mono | apply foundryref01_Parse.mono | apply foundryref05_number.mono | exact LeO.refl _ | exact LeO.none _ | refine LeO.ite ?_ ?_ | refine LeO.bind ?_ (fun _ => ?_))
      | exact LeO.none _ | refine LeO.ite ?_ ?_ | refine LeO.bind ?_ (fun _ => ?_)
set_option maxHeartbeats 8000000 in
set_option maxRecDepth 100000 in
theorem calls (k : Nat) (a0 : ByteArray) (a1 : Int) (r1 : Int) (r2 : ByteArray) (r3 : Int) (r4 : Int) (r5 : Int) (r6 : Int) (w : World) (h : f k a0 a1 = some (r1, r2, r3, r4, r5, r6)) :
    Calls Tryz.prog 78 #[.string a0, .int .i64 a1] w fun e w' => e = .returned (.tuple #[.agg #[.int .i64 r1, .string r2, .int .i64 r3, .int .u64 r4, .int .i64 r5], .int .i64 r6]) ∧ Below w.heap.size w w' := by
 have hu43 := Tryz.underlying43
 have hu41 := Tryz.underlying41
 have HB := aM (Below.refl w.heap.size w)
 have H : (if 0 ≤ a1 then (if a1 < (a0.size : Int) then (if (bt a0 a1) = 48 then (if (wrap64 (a1 + 1)) < (a0.size : Int) then (if 0 ≤ (wrap64 (a1 + 1)) then (j0 k a0 a1 a1 ((bt a0 (wrap64 (a1 + 1))) == 120) 3 (⟨#[]⟩ : ByteArray) 0 0 a1) else (none)) else (j0 k a0 a1 a1 false 3 (⟨#[]⟩ : ByteArray) 0 0 a1)) else (j0 k a0 a1 a1 false 3 (⟨#[]⟩ : ByteArray) 0 0 a1)) else (none)) else (none)) = some (r1, r2, r3, r4, r5, r6) := h
 clear h
 have HC3 := aM H
 clear H
 go_enter Tryz.func78, Tryz.ntmps78
 go_upto_region 3 with (first | ((with_reducible refine gate_dst (N := 4) rfl ?_); (try (refine gate_guard (by rfl) ?_; dsimp only)); refine box_event ?hg (N := 4) ?hd (cs := #[.int .i64 0, .string (⟨#[]⟩ : ByteArray), .int .i64 0, .int .u64 0, .int .i64 0]) (t := 43) ?hr ?_; (case hd => rfl); (case hg => rfl); (case hr => first | (go_simp; done) | (go_simp; rfl)); intro gb175 hg w4 hbox hb; have n0_ := aM (below_step (hB) hb); have n1_ := aM (hbox); have n2_ := aM ((by rw [hg]; exact (below_size (hB)) : w.heap.size ≤ gb175)); have n3_ := aM ((by rw [hg]; exact (below_size (hB)) : w.heap.size ≤ gb175)); clear HB; have HB := n0_; have BK175 := n1_; have GW175 := n2_; have GE175 := n3_; clear n0_ n1_ n2_ n3_; clear hb hbox hg) | ((with_reducible refine gate_dst (N := 6) rfl ?_); (try (refine gate_guard (by rfl) ?_; dsimp only)); refine box_event ?hg (N := 6) ?hd (cs := #[.int .i64 0, .string (⟨#[]⟩ : ByteArray), .int .i64 0, .int .u64 0, .int .i64 0]) (t := 43) ?hr ?_; (case hd => rfl); (case hg => rfl); (case hr => first | (go_simp; done) | (go_simp; rfl)); intro gb176 hg w5 hbox hb; have n0_ := aM (blk_below (bK BK175) hb); have n1_ := aM (below_step (hS) hb); have n2_ := aM (hbox); have n3_ := aM ((by rw [hg]; exact (below_size (hS)) : w.heap.size ≤ gb176)); have n4_ := aM ((by rw [hg]; exact (below_size (hS)) : w.heap.size ≤ gb176)); have n5_ := aM ((by rw [hg]; exact Nat.ne_of_lt (blk_lt (bK BK175)) : gb175 ≠ gb176)); have n6_ := aM ((by rw [hg]; exact Nat.ne_of_gt (blk_lt (bK BK175)) : gb176 ≠ gb175)); clear BK175; clear HB; have BK175 := n0_; have HB := n1_; have BK176 := n2_; have GW176 := n3_; have GE176 := n4_; have NB175_176 := n5_; have NB176_175 := n6_; clear n0_ n1_ n2_ n3_ n4_ n5_ n6_; clear hb hbox hg; have hnb6 := NB176_175.out; have hnc6 := NB175_176.out; have hcz7_0 : w5.cell? ⟨gb176, 0, none⟩ = some (.int .i64 0) := (zC BK176.out 0).trans rfl; have hcz7_1 : w5.cell? ⟨gb176, 1, none⟩ = some (.string (⟨#[]⟩ : ByteArray)) := (zC BK176.out 1).trans rfl; have hcz7_2 : w5.cell? ⟨gb176, 2, none⟩ = some (.int .i64 0) := (zC BK176.out 2).trans rfl; have hcz7_3 : w5.cell? ⟨gb176, 3, none⟩ = some (.int .u64 0) := (zC BK176.out 3).trans rfl; have hcz7_4 : w5.cell? ⟨gb176, 4, none⟩ = some (.int .i64 0) := (zC BK176.out 4).trans rfl; have hfz7_0 := zF BK176.out 0; have hfz7_1 := zF BK176.out 1; have hfz7_2 := zF BK176.out 2; have hfz7_3 := zF BK176.out 3; have hfz7_4 := zF BK176.out 4))
 (try simp only [Act.put, List.setIfInBounds_toArray, List.set_cons_zero, List.set_cons_succ])
 go_cut [34] (fun v34 wc => ∃ (kq : Nat) (x34_2 : Bool), v34 = .bool x34_2 ∧ Aside0 (j0 kq a0 a1 a1 x34_2 3 (⟨#[]⟩ : ByteArray) 0 0 a1 = some (r1, r2, r3, r4, r5, r6)) ∧ Aside0 (kq ≤ k) ∧ Aside0 (wc.heap[gb175]? = some (.cells #[.int .i64 0, .string (⟨#[]⟩ : ByteArray), .int .i64 0, .int .u64 0, .int .i64 0] 43 (0, 0))) ∧ Aside0 (wc.heap[gb176]? = some (.cells #[.int .i64 3, .string (⟨#[]⟩ : ByteArray), .int .i64 0, .int .u64 0, .int .i64 a1] 43 (0, 0))) ∧ Aside0 (Below w.heap.size w wc))
 case first =>
  have H := HC3.out
  clear HC3
  replace H := nI H
  obtain ⟨c8, H⟩ := H
  have c8b0 := dT c8
  clear c8
  (first | rw [c8b0] | (simp only [i64_w, i32_w]; rw [c8b0]) | skip)
  replace H := nI H
  obtain ⟨c9, H⟩ := H
  have c9b0 := dT c9
  clear c9
  by_cases c11 : (bt a0 a1) = 48
  rotate_left
  ·rw [if_neg c11] at H
   have c11b0 := bF c11
   have c11b1 := mT c11
   have H' := aM H
   clear H
   have p10 : (0 ≤ a1) = True := eT
   have q10 : (a1 < (a0.size : Int)) = True := eT
   have hx10 := bt_at a0 a1
   go_wp2
   go_meet
   case rel => exact ⟨_, false, xR, H', ⟨jO⟩, ⟨bK BK175⟩, ⟨bP BK176⟩, ⟨hS⟩⟩
  rw [if_pos c11] at H
  have c11b0 := bT c11
  have c11b1 := mF c11
  clear c11
  by_cases c12 : (wrap64 (a1 + 1)) < (a0.size : Int)
  rotate_left
  ·rw [if_neg c12] at H
   have c12b0 := dF c12
   clear c12
   have H' := aM H
   clear H
   have p10 : (0 ≤ a1) = True := eT
   have q10 : (a1 < (a0.size : Int)) = True := eT
   have hx10 := bt_at a0 a1
   go_wp2
   go_meet
   case rel => exact ⟨_, false, xR, H', ⟨jO⟩, ⟨bK BK175⟩, ⟨bP BK176⟩, ⟨hS⟩⟩
  rw [if_pos c12] at H
  have c12b0 := dT c12
  clear c12
  obtain ⟨ji13, hji13⟩ : ∃ j_ : Int, (wrap64 (a1 + 1)) = j_ := ⟨_, rfl⟩
  replace H : (if 0 ≤ (ji13) then (j0 k a0 a1 a1 ((bt a0 (ji13)) == 120) 3 (⟨#[]⟩ : ByteArray) 0 0 a1) else (none)) = some (r1, r2, r3, r4, r5, r6) := by first | (rw [hji13] at H; exact H) | (simp only [hji13] at H ⊢; exact H)
  (try rw [hji13] at c12b0)
  have hji13w : (IntKind.i64.wrap (a1 + 1)) = ji13 := (i64_w _).trans hji13
  replace H := nI H
  obtain ⟨c14, H⟩ := H
  have c14b0 := dT c14
  clear c14
  have H' := aM H
  clear H
  have p10 : (0 ≤ a1) = True := eT
  have q10 : (a1 < (a0.size : Int)) = True := eT
  have hx10 := bt_at a0 a1
  have p15 : (0 ≤ ji13) = True := eT
  have q15 : ((ji13) < (a0.size : Int)) = True := eT
  have hx15 := bt_at a0 (ji13)
  go_wp2
  go_meet
  case rel => exact ⟨_, (((bt a0 (ji13)) == 120)), (by first | rfl | (simp; done) | (simp only [← hji13] <;> (first | rfl | simp)) | (simp [*]; done)), H', ⟨jO⟩, ⟨bK BK175⟩, ⟨bP BK176⟩, ⟨hS⟩⟩
 case rest =>
  clear HC3
  obtain ⟨kq, x34_2, rfl, HA, HJ2, BK175, BK176, HB⟩ := hcut
  cases kq with
  | zero => exact absurd HA.out (by simp [j0])
  | succ kj2 =>
   have H := HA.out
   clear HA
   simp only [j0] at H
   by_cases c16 : x34_2 = true
   ·subst c16
    replace H := iT H
    have H' := aM H
    clear H
    go_wp2
    go_loopg [7] kj2 (fun kq v7 w' => ∃ (x7_2 : Int), v7 = .int .i64 x7_2 ∧ Aside0 (l0 kq a0 a1 x7_2 3 (⟨#[]⟩ : ByteArray) 0 0 a1 = some (r1, r2, r3, r4, r5, r6)) ∧ Aside0 (kq ≤ kj2) ∧ Aside0 (w'.heap[gb175]? = some (.cells #[.int .i64 0, .string (⟨#[]⟩ : ByteArray), .int .i64 0, .int .u64 0, .int .i64 0] 43 (0, 0))) ∧ Aside0 (w'.heap[gb176]? = some (.cells #[.int .i64 3, .string (⟨#[]⟩ : ByteArray), .int .i64 0, .int .u64 0, .int .i64 a1] 43 (0, 0))) ∧ Aside0 (Below w.heap.size w w'))
    case atStart => exact ⟨(wrap64 (a1 + 2)), xR, H', ⟨Nat.le_refl _⟩, ⟨bK BK175⟩, ⟨bK BK176⟩, ⟨hS⟩⟩
    case round =>
     clear H'
     obtain ⟨x7_2, rfl, HA, HK2, BK175, BK176, HB⟩ := hrel
     cases gk with
     | zero => exact absurd HA.out (by simp [l0])
     | succ k2 =>
      have H := HA.out
      clear HA
      simp only [l0] at H
      by_cases c17 : x7_2 < (a0.size : Int)
      rotate_left
      ·rw [if_neg c17] at H
       have c17b0 := dF c17
       clear c17
       replace H := nI H
       obtain ⟨c37, H⟩ := H
       have c37b0 := eq_true c37
       have c37b1 := dT c37
       clear c37
       replace H := nI H
       obtain ⟨c38, H⟩ := H
       have c38b0 := eq_true c38
       have c38b1 := dT c38
       clear c38
       replace H := nI H
       obtain ⟨c39, H⟩ := H
       have c39b0 := eq_true c39
       have c39b1 := dT c39
       clear c39
       replace H := Option.bind_eq_some_iff.mp H
       obtain ⟨⟨t180, t181⟩, A400, H⟩ := H
       replace H : (if t181 = 0 then (some (4, a0.extract (a1 : Int).toNat (x7_2 : Int).toNat, 2, t180, a1, 0)) else (some (4, a0.extract (a1 : Int).toNat (x7_2 : Int).toNat, 0, 0, a1, 10))) = some (r1, r2, r3, r4, r5, r6) := H
       have A40 := aM A400
       clear A400
       by_cases c41 : t181 = 0
       rotate_left
       ·rw [if_neg c41] at H
        have c41b0 := bF c41
        have c41b1 := mT c41
        simp only [Option.some.injEq, Prod.mk.injEq] at H
        obtain ⟨rfl, rfl, rfl, rfl, rfl, rfl⟩ := H
        have hnb47 := NB176_175.out
        have hnc47 := NB175_176.out
        have hcz48_0 : wr.cell? ⟨gb176, 0, none⟩ = some (.int .i64 3) := (zC BK176.out 0).trans rfl
        have hcz48_1 : wr.cell? ⟨gb176, 1, none⟩ = some (.string (⟨#[]⟩ : ByteArray)) := (zC BK176.out 1).trans rfl
        have hcz48_2 : wr.cell? ⟨gb176, 2, none⟩ = some (.int .i64 0) := (zC BK176.out 2).trans rfl
        have hcz48_3 : wr.cell? ⟨gb176, 3, none⟩ = some (.int .u64 0) := (zC BK176.out 3).trans rfl
        have hcz48_4 : wr.cell? ⟨gb176, 4, none⟩ = some (.int .i64 a1) := (zC BK176.out 4).trans rfl
        have hfz48_0 := zF BK176.out 0
        have hfz48_1 := zF BK176.out 1
        have hfz48_2 := zF BK176.out 2
        have hfz48_3 := zF BK176.out 3
        have hfz48_4 := zF BK176.out 4
        go_wp2_with (first | ((with_reducible refine gate_callee (f := 18) rfl ?_); refine goesL_ (some 58) rfl rfl Tryz.func18 (by kernel_rfl) rfl #[.string (a0.extract (a1 : Int).toNat (x7_2 : Int).toNat)] rfl gA ?_; (with_reducible refine (foundryref01_Parse.calls k2 (a0.extract (a1 : Int).toNat (x7_2 : Int).toNat) t180 t181 _ A40.out).mono ?_); rintro e w49 ⟨rfl, hb⟩; refine ⟨_, rfl, ?_⟩; have n0_ := aM (blk_below (bK BK175) hb); have n1_ := aM (blk_below (g := gb176) (o := .cells #[.int .i64 4, .string (a0.extract (a1 : Int).toNat (x7_2 : Int).toNat), .int .i64 0, .int .u64 0, .int .i64 a1] 43 (0, 0)) (bP BK176) hb); have n2_ := aM (below_step (hS) hb); clear BK175; clear BK176; clear HB; have BK175 := n0_; have BK176 := n1_; have HB := n2_; clear n0_ n1_ n2_; have hcz50_0 : w49.cell? ⟨gb176, 0, none⟩ = some (.int .i64 4) := (zC BK176.out 0).trans rfl; have hcz50_1 : w49.cell? ⟨gb176, 1, none⟩ = some (.string (a0.extract (a1 : Int).toNat (x7_2 : Int).toNat)) := (zC BK176.out 1).trans rfl; have hcz50_2 : w49.cell? ⟨gb176, 2, none⟩ = some (.int .i64 0) := (zC BK176.out 2).trans rfl; have hcz50_3 : w49.cell? ⟨gb176, 3, none⟩ = some (.int .u64 0) := (zC BK176.out 3).trans rfl; have hcz50_4 : w49.cell? ⟨gb176, 4, none⟩ = some (.int .i64 a1) := (zC BK176.out 4).trans rfl; have hfz50_0 := zF BK176.out 0; have hfz50_1 := zF BK176.out 1; have hfz50_2 := zF BK176.out 2; have hfz50_3 := zF BK176.out 3; have hfz50_4 := zF BK176.out 4; have hcz51_0 : w49.cell? ⟨gb175, 0, none⟩ = some (.int .i64 0) := (zC BK175.out 0).trans rfl; have hcz51_1 : w49.cell? ⟨gb175, 1, none⟩ = some (.string (⟨#[]⟩ : ByteArray)) := (zC BK175.out 1).trans rfl; have hcz51_2 : w49.cell? ⟨gb175, 2, none⟩ = some (.int .i64 0) := (zC BK175.out 2).trans rfl; have hcz51_3 : w49.cell? ⟨gb175, 3, none⟩ = some (.int .u64 0) := (zC BK175.out 3).trans rfl; have hcz51_4 : w49.cell? ⟨gb175, 4, none⟩ = some (.int .i64 0) := (zC BK175.out 4).trans rfl; have hfz51_0 := zF BK175.out 0; have hfz51_1 := zF BK175.out 1; have hfz51_2 := zF BK175.out 2; have hfz51_3 := zF BK175.out 3; have hfz51_4 := zF BK175.out 4))
        refine bodyPost_ret (results_ct rfl _ _ gb175 43 #[.int .i64 4, .string (a0.extract (a1 : Int).toNat (x7_2 : Int).toNat), .int .i64 0, .int .u64 0, .int .i64 a1] (0, 0) _ rfl (bP BK175) Tryz.underlying43 rfl (by kernel_rfl)) rfl ?_
        exact ⟨eR, hS⟩
       rw [if_pos c41] at H
       have c41b0 := bT c41
       have c41b1 := mF c41
       clear c41
       simp only [Option.some.injEq, Prod.mk.injEq] at H
       obtain ⟨rfl, rfl, rfl, rfl, rfl, rfl⟩ := H
       have hnb42 := NB176_175.out
       have hnc42 := NB175_176.out
       have hcz43_0 : wr.cell? ⟨gb176, 0, none⟩ = some (.int .i64 3) := (zC BK176.out 0).trans rfl
       have hcz43_1 : wr.cell? ⟨gb176, 1, none⟩ = some (.string (⟨#[]⟩ : ByteArray)) := (zC BK176.out 1).trans rfl
       have hcz43_2 : wr.cell? ⟨gb176, 2, none⟩ = some (.int .i64 0) := (zC BK176.out 2).trans rfl
       have hcz43_3 : wr.cell? ⟨gb176, 3, none⟩ = some (.int .u64 0) := (zC BK176.out 3).trans rfl
       have hcz43_4 : wr.cell? ⟨gb176, 4, none⟩ = some (.int .i64 a1) := (zC BK176.out 4).trans rfl
       have hfz43_0 := zF BK176.out 0
       have hfz43_1 := zF BK176.out 1
       have hfz43_2 := zF BK176.out 2
       have hfz43_3 := zF BK176.out 3
       have hfz43_4 := zF BK176.out 4
       go_wp2_with (first | ((with_reducible refine gate_callee (f := 18) rfl ?_); refine goesL_ (some 58) rfl rfl Tryz.func18 (by kernel_rfl) rfl #[.string (a0.extract (a1 : Int).toNat (x7_2 : Int).toNat)] rfl gA ?_; (with_reducible refine (foundryref01_Parse.calls k2 (a0.extract (a1 : Int).toNat (x7_2 : Int).toNat) t180 t181 _ A40.out).mono ?_); rintro e w44 ⟨rfl, hb⟩; refine ⟨_, rfl, ?_⟩; have n0_ := aM (blk_below (bK BK175) hb); have n1_ := aM (blk_below (g := gb176) (o := .cells #[.int .i64 4, .string (a0.extract (a1 : Int).toNat (x7_2 : Int).toNat), .int .i64 0, .int .u64 0, .int .i64 a1] 43 (0, 0)) (bP BK176) hb); have n2_ := aM (below_step (hS) hb); clear BK175; clear BK176; clear HB; have BK175 := n0_; have BK176 := n1_; have HB := n2_; clear n0_ n1_ n2_; have hcz45_0 : w44.cell? ⟨gb176, 0, none⟩ = some (.int .i64 4) := (zC BK176.out 0).trans rfl; have hcz45_1 : w44.cell? ⟨gb176, 1, none⟩ = some (.string (a0.extract (a1 : Int).toNat (x7_2 : Int).toNat)) := (zC BK176.out 1).trans rfl; have hcz45_2 : w44.cell? ⟨gb176, 2, none⟩ = some (.int .i64 0) := (zC BK176.out 2).trans rfl; have hcz45_3 : w44.cell? ⟨gb176, 3, none⟩ = some (.int .u64 0) := (zC BK176.out 3).trans rfl; have hcz45_4 : w44.cell? ⟨gb176, 4, none⟩ = some (.int .i64 a1) := (zC BK176.out 4).trans rfl; have hfz45_0 := zF BK176.out 0; have hfz45_1 := zF BK176.out 1; have hfz45_2 := zF BK176.out 2; have hfz45_3 := zF BK176.out 3; have hfz45_4 := zF BK176.out 4; have hcz46_0 : w44.cell? ⟨gb175, 0, none⟩ = some (.int .i64 0) := (zC BK175.out 0).trans rfl; have hcz46_1 : w44.cell? ⟨gb175, 1, none⟩ = some (.string (⟨#[]⟩ : ByteArray)) := (zC BK175.out 1).trans rfl; have hcz46_2 : w44.cell? ⟨gb175, 2, none⟩ = some (.int .i64 0) := (zC BK175.out 2).trans rfl; have hcz46_3 : w44.cell? ⟨gb175, 3, none⟩ = some (.int .u64 0) := (zC BK175.out 3).trans rfl; have hcz46_4 : w44.cell? ⟨gb175, 4, none⟩ = some (.int .i64 0) := (zC BK175.out 4).trans rfl; have hfz46_0 := zF BK175.out 0; have hfz46_1 := zF BK175.out 1; have hfz46_2 := zF BK175.out 2; have hfz46_3 := zF BK175.out 3; have hfz46_4 := zF BK175.out 4))
       refine bodyPost_ret (results_ct rfl _ _ gb175 43 #[.int .i64 4, .string (a0.extract (a1 : Int).toNat (x7_2 : Int).toNat), .int .i64 2, .int .u64 t180, .int .i64 a1] (0, 0) _ rfl (bP BK175) Tryz.underlying43 rfl (by kernel_rfl)) rfl ?_
       exact ⟨eR, hS⟩
      rw [if_pos c17] at H
      have c17b0 := dT c17
      clear c17
      replace H := nI H
      obtain ⟨c18, H⟩ := H
      have c18b0 := dT c18
      clear c18
      replace H := Option.bind_eq_some_iff.mp H
      obtain ⟨t177, A200, H⟩ := H
      replace H : (if t177 = true then (l0 k2 a0 a1 (wrap64 (x7_2 + 1)) 3 (⟨#[]⟩ : ByteArray) 0 0 a1) else (if 0 ≤ a1 then (if a1 ≤ x7_2 then (if x7_2 ≤ (a0.size : Int) then ((foundryref01_Parse.f k2 (a0.extract (a1 : Int).toNat (x7_2 : Int).toNat)).bind fun bt178 => (if bt178.2 = 0 then (some (4, a0.extract (a1 : Int).toNat (x7_2 : Int).toNat, 2, bt178.1, a1, 0)) else (some (4, a0.extract (a1 : Int).toNat (x7_2 : Int).toNat, 0, 0, a1, 10)))) else (none)) else (none)) else (none))) = some (r1, r2, r3, r4, r5, r6) := H
      have A20 := aM A200
      clear A200
      by_cases c21 : t177 = true
      ·subst c21
       replace H := iT H
       have H' := aM H
       clear H
       have p19 : (0 ≤ x7_2) = True := eT
       have q19 : (x7_2 < (a0.size : Int)) = True := eT
       have hx19 := bt_at a0 x7_2
       go_wp2_with (first | (go_at_call 103; (with_reducible refine (foundryref05_hex.calls (bt a0 x7_2) true _ A20.out).mono ?_); rintro e w' ⟨rfl, ⟨nd, rfl⟩⟩))
       go_roundg k2
       case measure => exact jC
       case rel => exact ⟨(wrap64 (x7_2 + 1)), xR, H', ⟨jC⟩, ⟨bK BK175⟩, ⟨bK BK176⟩, ⟨hS⟩⟩
      replace c21 := nF c21
      subst c21
      replace H := iF H
      replace H := nI H
      obtain ⟨c22, H⟩ := H
      have c22b0 := eq_true c22
      have c22b1 := dT c22
      clear c22
      replace H := nI H
      obtain ⟨c23, H⟩ := H
      have c23b0 := eq_true c23
      have c23b1 := dT c23
      clear c23
      replace H := nI H
      obtain ⟨c24, H⟩ := H
      have c24b0 := eq_true c24
      have c24b1 := dT c24
      clear c24
      replace H := Option.bind_eq_some_iff.mp H
      obtain ⟨⟨t178, t179⟩, A250, H⟩ := H
      replace H : (if t179 = 0 then (some (4, a0.extract (a1 : Int).toNat (x7_2 : Int).toNat, 2, t178, a1, 0)) else (some (4, a0.extract (a1 : Int).toNat (x7_2 : Int).toNat, 0, 0, a1, 10))) = some (r1, r2, r3, r4, r5, r6) := H
      have A25 := aM A250
      clear A250
      by_cases c26 : t179 = 0
      rotate_left
      ·rw [if_neg c26] at H
       have c26b0 := bF c26
       have c26b1 := mT c26
       simp only [Option.some.injEq, Prod.mk.injEq] at H
       obtain ⟨rfl, rfl, rfl, rfl, rfl, rfl⟩ := H
       have p19 : (0 ≤ x7_2) = True := eT
       have q19 : (x7_2 < (a0.size : Int)) = True := eT
       have hx19 := bt_at a0 x7_2
       go_wp2_with (first | (go_at_call 103; (with_reducible refine (foundryref05_hex.calls (bt a0 x7_2) false _ A20.out).mono ?_); rintro e w' ⟨rfl, ⟨nd, rfl⟩⟩; (try (rw [drewN_self wr]; generalize hq_ : World.drewN wr _ = wr; have n0_ : Aside0 (wr.heap[gb175]? = some (.cells #[.int .i64 0, .string (⟨#[]⟩ : ByteArray), .int .i64 0, .int .u64 0, .int .i64 0] 43 (0, 0))) := ⟨by rw [← hq_]; exact (bK BK175)⟩; have n1_ : Aside0 (wr.heap[gb176]? = some (.cells #[.int .i64 3, .string (⟨#[]⟩ : ByteArray), .int .i64 0, .int .u64 0, .int .i64 a1] 43 (0, 0))) := ⟨by rw [← hq_]; exact (bK BK176)⟩; have n2_ : Aside0 (Below w.heap.size w wr) := ⟨by rw [← hq_]; exact hS⟩; clear BK175 BK176 HB hq_; have BK175 := n0_; have BK176 := n1_; have HB := n2_; clear n0_ n1_ n2_)); have hnb32 := NB176_175.out; have hnc32 := NB175_176.out; have hcz33_0 : wr.cell? ⟨gb176, 0, none⟩ = some (.int .i64 3) := (zC BK176.out 0).trans rfl; have hcz33_1 : wr.cell? ⟨gb176, 1, none⟩ = some (.string (⟨#[]⟩ : ByteArray)) := (zC BK176.out 1).trans rfl; have hcz33_2 : wr.cell? ⟨gb176, 2, none⟩ = some (.int .i64 0) := (zC BK176.out 2).trans rfl; have hcz33_3 : wr.cell? ⟨gb176, 3, none⟩ = some (.int .u64 0) := (zC BK176.out 3).trans rfl; have hcz33_4 : wr.cell? ⟨gb176, 4, none⟩ = some (.int .i64 a1) := (zC BK176.out 4).trans rfl; have hfz33_0 := zF BK176.out 0; have hfz33_1 := zF BK176.out 1; have hfz33_2 := zF BK176.out 2; have hfz33_3 := zF BK176.out 3; have hfz33_4 := zF BK176.out 4) | ((with_reducible refine gate_callee (f := 18) rfl ?_); refine goesL_ (some 58) rfl rfl Tryz.func18 (by kernel_rfl) rfl #[.string (a0.extract (a1 : Int).toNat (x7_2 : Int).toNat)] rfl gA ?_; (with_reducible refine (foundryref01_Parse.calls k2 (a0.extract (a1 : Int).toNat (x7_2 : Int).toNat) t178 t179 _ A25.out).mono ?_); rintro e w34 ⟨rfl, hb⟩; refine ⟨_, rfl, ?_⟩; have n0_ := aM (blk_below (bK BK175) hb); have n1_ := aM (blk_below (g := gb176) (o := .cells #[.int .i64 4, .string (a0.extract (a1 : Int).toNat (x7_2 : Int).toNat), .int .i64 0, .int .u64 0, .int .i64 a1] 43 (0, 0)) (bP BK176) hb); have n2_ := aM (below_step (hS) hb); clear BK175; clear BK176; clear HB; have BK175 := n0_; have BK176 := n1_; have HB := n2_; clear n0_ n1_ n2_; have hcz35_0 : w34.cell? ⟨gb176, 0, none⟩ = some (.int .i64 4) := (zC BK176.out 0).trans rfl; have hcz35_1 : w34.cell? ⟨gb176, 1, none⟩ = some (.string (a0.extract (a1 : Int).toNat (x7_2 : Int).toNat)) := (zC BK176.out 1).trans rfl; have hcz35_2 : w34.cell? ⟨gb176, 2, none⟩ = some (.int .i64 0) := (zC BK176.out 2).trans rfl; have hcz35_3 : w34.cell? ⟨gb176, 3, none⟩ = some (.int .u64 0) := (zC BK176.out 3).trans rfl; have hcz35_4 : w34.cell? ⟨gb176, 4, none⟩ = some (.int .i64 a1) := (zC BK176.out 4).trans rfl; have hfz35_0 := zF BK176.out 0; have hfz35_1 := zF BK176.out 1; have hfz35_2 := zF BK176.out 2; have hfz35_3 := zF BK176.out 3; have hfz35_4 := zF BK176.out 4; have hcz36_0 : w34.cell? ⟨gb175, 0, none⟩ = some (.int .i64 0) := (zC BK175.out 0).trans rfl; have hcz36_1 : w34.cell? ⟨gb175, 1, none⟩ = some (.string (⟨#[]⟩ : ByteArray)) := (zC BK175.out 1).trans rfl; have hcz36_2 : w34.cell? ⟨gb175, 2, none⟩ = some (.int .i64 0) := (zC BK175.out 2).trans rfl; have hcz36_3 : w34.cell? ⟨gb175, 3, none⟩ = some (.int .u64 0) := (zC BK175.out 3).trans rfl; have hcz36_4 : w34.cell? ⟨gb175, 4, none⟩ = some (.int .i64 0) := (zC BK175.out 4).trans rfl; have hfz36_0 := zF BK175.out 0; have hfz36_1 := zF BK175.out 1; have hfz36_2 := zF BK175.out 2; have hfz36_3 := zF BK175.out 3; have hfz36_4 := zF BK175.out 4))
       refine bodyPost_ret (results_ct rfl _ _ gb175 43 #[.int .i64 4, .string (a0.extract (a1 : Int).toNat (x7_2 : Int).toNat), .int .i64 0, .int .u64 0, .int .i64 a1] (0, 0) _ rfl (bP BK175) Tryz.underlying43 rfl (by kernel_rfl)) rfl ?_
       exact ⟨eR, hS⟩
      rw [if_pos c26] at H
      have c26b0 := bT c26
      have c26b1 := mF c26
      clear c26
      simp only [Option.some.injEq, Prod.mk.injEq] at H
      obtain ⟨rfl, rfl, rfl, rfl, rfl, rfl⟩ := H
      have p19 : (0 ≤ x7_2) = True := eT
      have q19 : (x7_2 < (a0.size : Int)) = True := eT
      have hx19 := bt_at a0 x7_2
      go_wp2_with (first | (go_at_call 103; (with_reducible refine (foundryref05_hex.calls (bt a0 x7_2) false _ A20.out).mono ?_); rintro e w' ⟨rfl, ⟨nd, rfl⟩⟩; (try (rw [drewN_self wr]; generalize hq_ : World.drewN wr _ = wr; have n0_ : Aside0 (wr.heap[gb175]? = some (.cells #[.int .i64 0, .string (⟨#[]⟩ : ByteArray), .int .i64 0, .int .u64 0, .int .i64 0] 43 (0, 0))) := ⟨by rw [← hq_]; exact (bK BK175)⟩; have n1_ : Aside0 (wr.heap[gb176]? = some (.cells #[.int .i64 3, .string (⟨#[]⟩ : ByteArray), .int .i64 0, .int .u64 0, .int .i64 a1] 43 (0, 0))) := ⟨by rw [← hq_]; exact (bK BK176)⟩; have n2_ : Aside0 (Below w.heap.size w wr) := ⟨by rw [← hq_]; exact hS⟩; clear BK175 BK176 HB hq_; have BK175 := n0_; have BK176 := n1_; have HB := n2_; clear n0_ n1_ n2_)); have hnb27 := NB176_175.out; have hnc27 := NB175_176.out; have hcz28_0 : wr.cell? ⟨gb176, 0, none⟩ = some (.int .i64 3) := (zC BK176.out 0).trans rfl; have hcz28_1 : wr.cell? ⟨gb176, 1, none⟩ = some (.string (⟨#[]⟩ : ByteArray)) := (zC BK176.out 1).trans rfl; have hcz28_2 : wr.cell? ⟨gb176, 2, none⟩ = some (.int .i64 0) := (zC BK176.out 2).trans rfl; have hcz28_3 : wr.cell? ⟨gb176, 3, none⟩ = some (.int .u64 0) := (zC BK176.out 3).trans rfl; have hcz28_4 : wr.cell? ⟨gb176, 4, none⟩ = some (.int .i64 a1) := (zC BK176.out 4).trans rfl; have hfz28_0 := zF BK176.out 0; have hfz28_1 := zF BK176.out 1; have hfz28_2 := zF BK176.out 2; have hfz28_3 := zF BK176.out 3; have hfz28_4 := zF BK176.out 4) | ((with_reducible refine gate_callee (f := 18) rfl ?_); refine goesL_ (some 58) rfl rfl Tryz.func18 (by kernel_rfl) rfl #[.string (a0.extract (a1 : Int).toNat (x7_2 : Int).toNat)] rfl gA ?_; (with_reducible refine (foundryref01_Parse.calls k2 (a0.extract (a1 : Int).toNat (x7_2 : Int).toNat) t178 t179 _ A25.out).mono ?_); rintro e w29 ⟨rfl, hb⟩; refine ⟨_, rfl, ?_⟩; have n0_ := aM (blk_below (bK BK175) hb); have n1_ := aM (blk_below (g := gb176) (o := .cells #[.int .i64 4, .string (a0.extract (a1 : Int).toNat (x7_2 : Int).toNat), .int .i64 0, .int .u64 0, .int .i64 a1] 43 (0, 0)) (bP BK176) hb); have n2_ := aM (below_step (hS) hb); clear BK175; clear BK176; clear HB; have BK175 := n0_; have BK176 := n1_; have HB := n2_; clear n0_ n1_ n2_; have hcz30_0 : w29.cell? ⟨gb176, 0, none⟩ = some (.int .i64 4) := (zC BK176.out 0).trans rfl; have hcz30_1 : w29.cell? ⟨gb176, 1, none⟩ = some (.string (a0.extract (a1 : Int).toNat (x7_2 : Int).toNat)) := (zC BK176.out 1).trans rfl; have hcz30_2 : w29.cell? ⟨gb176, 2, none⟩ = some (.int .i64 0) := (zC BK176.out 2).trans rfl; have hcz30_3 : w29.cell? ⟨gb176, 3, none⟩ = some (.int .u64 0) := (zC BK176.out 3).trans rfl; have hcz30_4 : w29.cell? ⟨gb176, 4, none⟩ = some (.int .i64 a1) := (zC BK176.out 4).trans rfl; have hfz30_0 := zF BK176.out 0; have hfz30_1 := zF BK176.out 1; have hfz30_2 := zF BK176.out 2; have hfz30_3 := zF BK176.out 3; have hfz30_4 := zF BK176.out 4; have hcz31_0 : w29.cell? ⟨gb175, 0, none⟩ = some (.int .i64 0) := (zC BK175.out 0).trans rfl; have hcz31_1 : w29.cell? ⟨gb175, 1, none⟩ = some (.string (⟨#[]⟩ : ByteArray)) := (zC BK175.out 1).trans rfl; have hcz31_2 : w29.cell? ⟨gb175, 2, none⟩ = some (.int .i64 0) := (zC BK175.out 2).trans rfl; have hcz31_3 : w29.cell? ⟨gb175, 3, none⟩ = some (.int .u64 0) := (zC BK175.out 3).trans rfl; have hcz31_4 : w29.cell? ⟨gb175, 4, none⟩ = some (.int .i64 0) := (zC BK175.out 4).trans rfl; have hfz31_0 := zF BK175.out 0; have hfz31_1 := zF BK175.out 1; have hfz31_2 := zF BK175.out 2; have hfz31_3 := zF BK175.out 3; have hfz31_4 := zF BK175.out 4))
      refine bodyPost_ret (results_ct rfl _ _ gb175 43 #[.int .i64 4, .string (a0.extract (a1 : Int).toNat (x7_2 : Int).toNat), .int .i64 2, .int .u64 t178, .int .i64 a1] (0, 0) _ rfl (bP BK175) Tryz.underlying43 rfl (by kernel_rfl)) rfl ?_
      exact ⟨eR, hS⟩
   replace c16 := nF c16
   subst c16
   replace H := iF H
   have HC52 := aM H
   clear H
   go_upto_block 2 with (fail)
   go_cut [7] (fun v7 wc => ∃ (kq : Nat) (x7_51 : Int), v7 = .int .i64 x7_51 ∧ Aside0 (j3 kq a0 a1 x7_51 3 (⟨#[]⟩ : ByteArray) 0 0 a1 = some (r1, r2, r3, r4, r5, r6)) ∧ Aside0 (kq ≤ kj2) ∧ Aside0 (wc.heap[gb175]? = some (.cells #[.int .i64 0, .string (⟨#[]⟩ : ByteArray), .int .i64 0, .int .u64 0, .int .i64 0] 43 (0, 0))) ∧ Aside0 (wc.heap[gb176]? = some (.cells #[.int .i64 3, .string (⟨#[]⟩ : ByteArray), .int .i64 0, .int .u64 0, .int .i64 a1] 43 (0, 0))) ∧ Aside0 (Below w.heap.size w wc))
   case first =>
    have H := HC52.out
    clear HC52
    have H' := aM H
    clear H
    go_wp2
    go_loopg [7] kj2 (fun kq v7 w' => ∃ (x7_2 : Int), v7 = .int .i64 x7_2 ∧ Aside0 (l1 kq a0 a1 x7_2 3 (⟨#[]⟩ : ByteArray) 0 0 a1 = some (r1, r2, r3, r4, r5, r6)) ∧ Aside0 (kq ≤ kj2) ∧ Aside0 (w'.heap[gb175]? = some (.cells #[.int .i64 0, .string (⟨#[]⟩ : ByteArray), .int .i64 0, .int .u64 0, .int .i64 0] 43 (0, 0))) ∧ Aside0 (w'.heap[gb176]? = some (.cells #[.int .i64 3, .string (⟨#[]⟩ : ByteArray), .int .i64 0, .int .u64 0, .int .i64 a1] 43 (0, 0))) ∧ Aside0 (Below w.heap.size w w'))
    case atStart => exact ⟨a1, xR, H', ⟨Nat.le_refl _⟩, ⟨bK BK175⟩, ⟨bK BK176⟩, ⟨hS⟩⟩
    case round =>
     clear H'
     obtain ⟨x7_2, rfl, HA, HK2, BK175, BK176, HB⟩ := hrel
     cases gk with
     | zero => exact absurd HA.out (by simp [l1])
     | succ k2 =>
      have H := HA.out
      clear HA
      simp only [l1] at H
      by_cases c53 : x7_2 < (a0.size : Int)
      rotate_left
      ·rw [if_neg c53] at H
       have c53b0 := dF c53
       clear c53
       (first | rw [c53b0] | (simp only [i64_w, i32_w]; rw [c53b0]) | skip)
       have H' := aM H
       clear H
       go_wp2
       go_meet
       case rel => exact ⟨_, x7_2, xR, H', ⟨jC⟩, ⟨bK BK175⟩, ⟨bK BK176⟩, ⟨hS⟩⟩
      rw [if_pos c53] at H
      have c53b0 := dT c53
      clear c53
      (first | rw [c53b0] | (simp only [i64_w, i32_w]; rw [c53b0]) | skip)
      replace H := nI H
      obtain ⟨c54, H⟩ := H
      have c54b0 := dT c54
      clear c54
      replace H := Option.bind_eq_some_iff.mp H
      obtain ⟨t182, A560, H⟩ := H
      replace H : (if t182 = true then (l1 k2 a0 a1 (wrap64 (x7_2 + 1)) 3 (⟨#[]⟩ : ByteArray) 0 0 a1) else (j3 k2 a0 a1 x7_2 3 (⟨#[]⟩ : ByteArray) 0 0 a1)) = some (r1, r2, r3, r4, r5, r6) := H
      have A56 := aM A560
      clear A560
      by_cases c57 : t182 = true
      ·subst c57
       replace H := iT H
       have H' := aM H
       clear H
       have p55 : (0 ≤ x7_2) = True := eT
       have q55 : (x7_2 < (a0.size : Int)) = True := eT
       have hx55 := bt_at a0 x7_2
       go_wp2_with (first | (go_at_call 76; (with_reducible refine (foundryref05_digit.calls (bt a0 x7_2) true _ A56.out).mono ?_); rintro e w' ⟨rfl, ⟨nd, rfl⟩⟩))
       go_roundg k2
       case measure => exact jC
       case rel => exact ⟨(wrap64 (x7_2 + 1)), xR, H', ⟨jC⟩, ⟨bK BK175⟩, ⟨bK BK176⟩, ⟨hS⟩⟩
      replace c57 := nF c57
      subst c57
      replace H := iF H
      have H' := aM H
      clear H
      have p55 : (0 ≤ x7_2) = True := eT
      have q55 : (x7_2 < (a0.size : Int)) = True := eT
      have hx55 := bt_at a0 x7_2
      go_wp2_with (first | (go_at_call 76; (with_reducible refine (foundryref05_digit.calls (bt a0 x7_2) false _ A56.out).mono ?_); rintro e w' ⟨rfl, ⟨nd, rfl⟩⟩))
      go_meet
      case rel => exact ⟨_, x7_2, xR, H', ⟨jC⟩, ⟨bK BK175⟩, ⟨bK BK176⟩, ⟨hS⟩⟩
   case rest =>
    clear HC52
    obtain ⟨kq, x7_51, rfl, HA, HJ51, BK175, BK176, HB⟩ := hcut
    cases kq with
    | zero => exact absurd HA.out (by simp [j3])
    | succ kj51 =>
     have H := HA.out
     clear HA
     simp only [j3] at H
     have HC58 := aM H
     clear H
     go_upto_region 16 with (fail)
     go_cut [97] (fun v97 wc => ∃ (kq : Nat) (x97_57 : Bool), v97 = .bool x97_57 ∧ Aside0 (j4 kq a0 a1 x7_51 x97_57 3 (⟨#[]⟩ : ByteArray) 0 0 a1 = some (r1, r2, r3, r4, r5, r6)) ∧ Aside0 (kq ≤ kj51) ∧ Aside0 (wc.heap[gb175]? = some (.cells #[.int .i64 0, .string (⟨#[]⟩ : ByteArray), .int .i64 0, .int .u64 0, .int .i64 0] 43 (0, 0))) ∧ Aside0 (wc.heap[gb176]? = some (.cells #[.int .i64 3, .string (⟨#[]⟩ : ByteArray), .int .i64 0, .int .u64 0, .int .i64 a1] 43 (0, 0))) ∧ Aside0 (Below w.heap.size w wc))
     case first =>
      have H := HC58.out
      clear HC58
      by_cases c59 : (wrap64 (x7_51 + 1)) < (a0.size : Int)
      rotate_left
      ·rw [if_neg c59] at H
       have c59b0 := dF c59
       clear c59
       (first | rw [c59b0] | (simp only [i64_w, i32_w]; rw [c59b0]) | skip)
       have H' := aM H
       clear H
       go_wp2
       go_meet
       case rel => exact ⟨_, false, xR, H', ⟨jC⟩, ⟨bK BK175⟩, ⟨bK BK176⟩, ⟨hS⟩⟩
      rw [if_pos c59] at H
      have c59b0 := dT c59
      clear c59
      (first | rw [c59b0] | (simp only [i64_w, i32_w]; rw [c59b0]) | skip)
      replace H := nI H
      obtain ⟨c60, H⟩ := H
      have c60b0 := dT c60
      clear c60
      replace H := nI H
      obtain ⟨c61, H⟩ := H
      have c61b0 := dT c61
      clear c61
      by_cases c63 : (bt a0 x7_51) = 46
      rotate_left
      ·rw [if_neg c63] at H
       have c63b0 := bF c63
       have c63b1 := mT c63
       have H' := aM H
       clear H
       have p62 : (0 ≤ x7_51) = True := eT
       have q62 : (x7_51 < (a0.size : Int)) = True := eT
       have hx62 := bt_at a0 x7_51
       go_wp2
       go_meet
       case rel => exact ⟨_, false, xR, H', ⟨jC⟩, ⟨bK BK175⟩, ⟨bK BK176⟩, ⟨hS⟩⟩
      rw [if_pos c63] at H
      have c63b0 := bT c63
      have c63b1 := mF c63
      clear c63
      obtain ⟨ji64, hji64⟩ : ∃ j_ : Int, (wrap64 (x7_51 + 1)) = j_ := ⟨_, rfl⟩
      replace H : (if 0 ≤ (ji64) then ((foundryref05_digit.f (bt a0 (ji64))).bind fun t183 => (j4 kj51 a0 a1 x7_51 t183 3 (⟨#[]⟩ : ByteArray) 0 0 a1)) else (none)) = some (r1, r2, r3, r4, r5, r6) := by first | (rw [hji64] at H; exact H) | (simp only [hji64] at H ⊢; exact H)
      (try rw [hji64] at c59b0)
      have hji64w : (IntKind.i64.wrap (x7_51 + 1)) = ji64 := (i64_w _).trans hji64
      replace H := nI H
      obtain ⟨c65, H⟩ := H
      have c65b0 := dT c65
      clear c65
      replace H := Option.bind_eq_some_iff.mp H
      obtain ⟨t183, A670, H⟩ := H
      replace H : (j4 kj51 a0 a1 x7_51 t183 3 (⟨#[]⟩ : ByteArray) 0 0 a1) = some (r1, r2, r3, r4, r5, r6) := H
      have A67 := aM A670
      clear A670
      have H' := aM H
      clear H
      have p62 : (0 ≤ x7_51) = True := eT
      have q62 : (x7_51 < (a0.size : Int)) = True := eT
      have hx62 := bt_at a0 x7_51
      have p66 : (0 ≤ ji64) = True := eT
      have q66 : ((ji64) < (a0.size : Int)) = True := eT
      have hx66 := bt_at a0 (ji64)
      go_wp2_with (first | (go_at_call 76; (with_reducible refine (foundryref05_digit.calls (bt a0 (ji64)) t183 _ A67.out).mono ?_); rintro e w' ⟨rfl, ⟨nd, rfl⟩⟩))
      go_meet
      case rel => exact ⟨_, t183, xR, H', ⟨jC⟩, ⟨bK BK175⟩, ⟨bK BK176⟩, ⟨hS⟩⟩
     case rest =>
      clear HC58
      obtain ⟨kq, x97_57, rfl, HA, HJ57, BK175, BK176, HB⟩ := hcut
      cases kq with
      | zero => exact absurd HA.out (by simp [j4])
      | succ kj57 =>
       have H := HA.out
       clear HA
       simp only [j4] at H
       by_cases c68 : x97_57 = true
       rotate_left
       ·replace c68 := nF c68
        subst c68
        replace H := iF H
        replace H := nI H
        obtain ⟨c82, H⟩ := H
        have c82b0 := eq_true c82
        have c82b1 := dT c82
        clear c82
        replace H := nI H
        obtain ⟨c83, H⟩ := H
        have c83b0 := eq_true c83
        have c83b1 := dT c83
        clear c83
        replace H := nI H
        obtain ⟨c84, H⟩ := H
        have c84b0 := eq_true c84
        have c84b1 := dT c84
        clear c84
        replace H := Option.bind_eq_some_iff.mp H
        obtain ⟨⟨t187, t188⟩, A850, H⟩ := H
        replace H : (if t188 = true then (some (3, a0.extract (a1 : Int).toNat (x7_51 : Int).toNat, 1, t187, a1, 0)) else (some (3, a0.extract (a1 : Int).toNat (x7_51 : Int).toNat, 0, 0, a1, 80))) = some (r1, r2, r3, r4, r5, r6) := H
        have A85 := aM A850
        clear A850
        by_cases c86 : t188 = true
        rotate_left
        ·replace c86 := nF c86
         subst c86
         replace H := iF H
         simp only [Option.some.injEq, Prod.mk.injEq] at H
         obtain ⟨rfl, rfl, rfl, rfl, rfl, rfl⟩ := H
         have hnb90 := NB176_175.out
         have hnc90 := NB175_176.out
         have hcz91_0 : wc.cell? ⟨gb176, 0, none⟩ = some (.int .i64 3) := (zC BK176.out 0).trans rfl
         have hcz91_1 : wc.cell? ⟨gb176, 1, none⟩ = some (.string (⟨#[]⟩ : ByteArray)) := (zC BK176.out 1).trans rfl
         have hcz91_2 : wc.cell? ⟨gb176, 2, none⟩ = some (.int .i64 0) := (zC BK176.out 2).trans rfl
         have hcz91_3 : wc.cell? ⟨gb176, 3, none⟩ = some (.int .u64 0) := (zC BK176.out 3).trans rfl
         have hcz91_4 : wc.cell? ⟨gb176, 4, none⟩ = some (.int .i64 a1) := (zC BK176.out 4).trans rfl
         have hfz91_0 := zF BK176.out 0
         have hfz91_1 := zF BK176.out 1
         have hfz91_2 := zF BK176.out 2
         have hfz91_3 := zF BK176.out 3
         have hfz91_4 := zF BK176.out 4
         go_wp2_with (first | ((with_reducible refine gate_callee (f := 104) rfl ?_); refine goesL_ (some 137) rfl rfl Tryz.func104 (by kernel_rfl) rfl #[.string (a0.extract (a1 : Int).toNat (x7_51 : Int).toNat)] rfl gA ?_; (with_reducible refine (foundryref05_number.calls kj57 (a0.extract (a1 : Int).toNat (x7_51 : Int).toNat) t187 false _ A85.out).mono ?_); rintro e w' ⟨rfl, ⟨nd, rfl⟩⟩; refine ⟨_, rfl, ?_⟩; have hcz92_0 : wc.cell? ⟨gb175, 0, none⟩ = some (.int .i64 0) := (zC BK175.out 0).trans rfl; have hcz92_1 : wc.cell? ⟨gb175, 1, none⟩ = some (.string (⟨#[]⟩ : ByteArray)) := (zC BK175.out 1).trans rfl; have hcz92_2 : wc.cell? ⟨gb175, 2, none⟩ = some (.int .i64 0) := (zC BK175.out 2).trans rfl; have hcz92_3 : wc.cell? ⟨gb175, 3, none⟩ = some (.int .u64 0) := (zC BK175.out 3).trans rfl; have hcz92_4 : wc.cell? ⟨gb175, 4, none⟩ = some (.int .i64 0) := (zC BK175.out 4).trans rfl; have hfz92_0 := zF BK175.out 0; have hfz92_1 := zF BK175.out 1; have hfz92_2 := zF BK175.out 2; have hfz92_3 := zF BK175.out 3; have hfz92_4 := zF BK175.out 4))
         refine bodyPost_ret (results_ct rfl _ _ gb175 43 #[.int .i64 3, .string (a0.extract (a1 : Int).toNat (x7_51 : Int).toNat), .int .i64 0, .int .u64 0, .int .i64 a1] (0, 0) _ rfl (bP BK175) Tryz.underlying43 rfl (by kernel_rfl)) rfl ?_
         exact ⟨eR, hS⟩
        subst c86
        replace H := iT H
        simp only [Option.some.injEq, Prod.mk.injEq] at H
        obtain ⟨rfl, rfl, rfl, rfl, rfl, rfl⟩ := H
        have hnb87 := NB176_175.out
        have hnc87 := NB175_176.out
        have hcz88_0 : wc.cell? ⟨gb176, 0, none⟩ = some (.int .i64 3) := (zC BK176.out 0).trans rfl
        have hcz88_1 : wc.cell? ⟨gb176, 1, none⟩ = some (.string (⟨#[]⟩ : ByteArray)) := (zC BK176.out 1).trans rfl
        have hcz88_2 : wc.cell? ⟨gb176, 2, none⟩ = some (.int .i64 0) := (zC BK176.out 2).trans rfl
        have hcz88_3 : wc.cell? ⟨gb176, 3, none⟩ = some (.int .u64 0) := (zC BK176.out 3).trans rfl
        have hcz88_4 : wc.cell? ⟨gb176, 4, none⟩ = some (.int .i64 a1) := (zC BK176.out 4).trans rfl
        have hfz88_0 := zF BK176.out 0
        have hfz88_1 := zF BK176.out 1
        have hfz88_2 := zF BK176.out 2
        have hfz88_3 := zF BK176.out 3
        have hfz88_4 := zF BK176.out 4
        go_wp2_with (first | ((with_reducible refine gate_callee (f := 104) rfl ?_); refine goesL_ (some 137) rfl rfl Tryz.func104 (by kernel_rfl) rfl #[.string (a0.extract (a1 : Int).toNat (x7_51 : Int).toNat)] rfl gA ?_; (with_reducible refine (foundryref05_number.calls kj57 (a0.extract (a1 : Int).toNat (x7_51 : Int).toNat) t187 true _ A85.out).mono ?_); rintro e w' ⟨rfl, ⟨nd, rfl⟩⟩; refine ⟨_, rfl, ?_⟩; have hcz89_0 : wc.cell? ⟨gb175, 0, none⟩ = some (.int .i64 0) := (zC BK175.out 0).trans rfl; have hcz89_1 : wc.cell? ⟨gb175, 1, none⟩ = some (.string (⟨#[]⟩ : ByteArray)) := (zC BK175.out 1).trans rfl; have hcz89_2 : wc.cell? ⟨gb175, 2, none⟩ = some (.int .i64 0) := (zC BK175.out 2).trans rfl; have hcz89_3 : wc.cell? ⟨gb175, 3, none⟩ = some (.int .u64 0) := (zC BK175.out 3).trans rfl; have hcz89_4 : wc.cell? ⟨gb175, 4, none⟩ = some (.int .i64 0) := (zC BK175.out 4).trans rfl; have hfz89_0 := zF BK175.out 0; have hfz89_1 := zF BK175.out 1; have hfz89_2 := zF BK175.out 2; have hfz89_3 := zF BK175.out 3; have hfz89_4 := zF BK175.out 4))
        refine bodyPost_ret (results_ct rfl _ _ gb175 43 #[.int .i64 3, .string (a0.extract (a1 : Int).toNat (x7_51 : Int).toNat), .int .i64 1, .int .u64 t187, .int .i64 a1] (0, 0) _ rfl (bP BK175) Tryz.underlying43 rfl (by kernel_rfl)) rfl ?_
        exact ⟨eR, hS⟩
       subst c68
       replace H := iT H
       have HC69 := aM H
       clear H
       go_upto_block 4 with (fail)
       go_cut [7] (fun v7 wc => ∃ (kq : Nat) (x7_68 : Int), v7 = .int .i64 x7_68 ∧ Aside0 (j6 kq a0 a1 x7_68 3 (⟨#[]⟩ : ByteArray) 0 0 a1 = some (r1, r2, r3, r4, r5, r6)) ∧ Aside0 (kq ≤ kj57) ∧ Aside0 (wc.heap[gb175]? = some (.cells #[.int .i64 0, .string (⟨#[]⟩ : ByteArray), .int .i64 0, .int .u64 0, .int .i64 0] 43 (0, 0))) ∧ Aside0 (wc.heap[gb176]? = some (.cells #[.int .i64 3, .string (⟨#[]⟩ : ByteArray), .int .i64 0, .int .u64 0, .int .i64 a1] 43 (0, 0))) ∧ Aside0 (Below w.heap.size w wc))
       case first =>
        have H := HC69.out
        clear HC69
        have H' := aM H
        clear H
        go_wp2
        go_loopg [7] kj57 (fun kq v7 w' => ∃ (x7_4 : Int), v7 = .int .i64 x7_4 ∧ Aside0 (l2 kq a0 a1 x7_4 3 (⟨#[]⟩ : ByteArray) 0 0 a1 = some (r1, r2, r3, r4, r5, r6)) ∧ Aside0 (kq ≤ kj57) ∧ Aside0 (w'.heap[gb175]? = some (.cells #[.int .i64 0, .string (⟨#[]⟩ : ByteArray), .int .i64 0, .int .u64 0, .int .i64 0] 43 (0, 0))) ∧ Aside0 (w'.heap[gb176]? = some (.cells #[.int .i64 3, .string (⟨#[]⟩ : ByteArray), .int .i64 0, .int .u64 0, .int .i64 a1] 43 (0, 0))) ∧ Aside0 (Below w.heap.size w w'))
        case atStart => exact ⟨(wrap64 (x7_51 + 1)), xR, H', ⟨Nat.le_refl _⟩, ⟨bK BK175⟩, ⟨bK BK176⟩, ⟨hS⟩⟩
        case round =>
         clear H'
         obtain ⟨x7_4, rfl, HA, HK4, BK175, BK176, HB⟩ := hrel
         cases gk with
         | zero => exact absurd HA.out (by simp [l2])
         | succ k4 =>
          have H := HA.out
          clear HA
          simp only [l2] at H
          by_cases c70 : x7_4 < (a0.size : Int)
          rotate_left
          ·rw [if_neg c70] at H
           have c70b0 := dF c70
           clear c70
           (first | rw [c70b0] | (simp only [i64_w, i32_w]; rw [c70b0]) | skip)
           have H' := aM H
           clear H
           go_wp2
           go_meet
           case rel => exact ⟨_, x7_4, xR, H', ⟨jC⟩, ⟨bK BK175⟩, ⟨bK BK176⟩, ⟨hS⟩⟩
          rw [if_pos c70] at H
          have c70b0 := dT c70
          clear c70
          (first | rw [c70b0] | (simp only [i64_w, i32_w]; rw [c70b0]) | skip)
          replace H := nI H
          obtain ⟨c71, H⟩ := H
          have c71b0 := dT c71
          clear c71
          replace H := Option.bind_eq_some_iff.mp H
          obtain ⟨t184, A730, H⟩ := H
          replace H : (if t184 = true then (l2 k4 a0 a1 (wrap64 (x7_4 + 1)) 3 (⟨#[]⟩ : ByteArray) 0 0 a1) else (j6 k4 a0 a1 x7_4 3 (⟨#[]⟩ : ByteArray) 0 0 a1)) = some (r1, r2, r3, r4, r5, r6) := H
          have A73 := aM A730
          clear A730
          by_cases c74 : t184 = true
          rotate_left
          ·replace c74 := nF c74
           subst c74
           replace H := iF H
           have H' := aM H
           clear H
           have p72 : (0 ≤ x7_4) = True := eT
           have q72 : (x7_4 < (a0.size : Int)) = True := eT
           have hx72 := bt_at a0 x7_4
           go_wp2_with (first | (go_at_call 76; (with_reducible refine (foundryref05_digit.calls (bt a0 x7_4) false _ A73.out).mono ?_); rintro e w' ⟨rfl, ⟨nd, rfl⟩⟩))
           go_meet
           case rel => exact ⟨_, x7_4, xR, H', ⟨jC⟩, ⟨bK BK175⟩, ⟨bK BK176⟩, ⟨hS⟩⟩
          subst c74
          replace H := iT H
          have H' := aM H
          clear H
          have p72 : (0 ≤ x7_4) = True := eT
          have q72 : (x7_4 < (a0.size : Int)) = True := eT
          have hx72 := bt_at a0 x7_4
          go_wp2_with (first | (go_at_call 76; (with_reducible refine (foundryref05_digit.calls (bt a0 x7_4) true _ A73.out).mono ?_); rintro e w' ⟨rfl, ⟨nd, rfl⟩⟩))
          go_roundg k4
          case measure => exact jC
          case rel => exact ⟨(wrap64 (x7_4 + 1)), xR, H', ⟨jC⟩, ⟨bK BK175⟩, ⟨bK BK176⟩, ⟨hS⟩⟩
       case rest =>
        clear HC69
        obtain ⟨kq, x7_68, rfl, HA, HJ68, BK175, BK176, HB⟩ := hcut
        cases kq with
        | zero => exact absurd HA.out (by simp [j6])
        | succ kj68 =>
         have H := HA.out
         clear HA
         simp only [j6] at H
         replace H := nI H
         obtain ⟨c75, H⟩ := H
         have c75b0 := eq_true c75
         have c75b1 := dT c75
         clear c75
         replace H := nI H
         obtain ⟨c76, H⟩ := H
         have c76b0 := eq_true c76
         have c76b1 := dT c76
         clear c76
         replace H := nI H
         obtain ⟨c77, H⟩ := H
         have c77b0 := eq_true c77
         have c77b1 := dT c77
         clear c77
         replace H := Option.bind_eq_some_iff.mp H
         obtain ⟨⟨t185, t186⟩, A780, H⟩ := H
         replace H : (some (4, a0.extract (a1 : Int).toNat (x7_68 : Int).toNat, 2, t185, a1, t186)) = some (r1, r2, r3, r4, r5, r6) := H
         have A78 := aM A780
         clear A780
         simp only [Option.some.injEq, Prod.mk.injEq] at H
         obtain ⟨rfl, rfl, rfl, rfl, rfl, rfl⟩ := H
         have hnb79 := NB176_175.out
         have hnc79 := NB175_176.out
         have hcz80_0 : wc.cell? ⟨gb176, 0, none⟩ = some (.int .i64 3) := (zC BK176.out 0).trans rfl
         have hcz80_1 : wc.cell? ⟨gb176, 1, none⟩ = some (.string (⟨#[]⟩ : ByteArray)) := (zC BK176.out 1).trans rfl
         have hcz80_2 : wc.cell? ⟨gb176, 2, none⟩ = some (.int .i64 0) := (zC BK176.out 2).trans rfl
         have hcz80_3 : wc.cell? ⟨gb176, 3, none⟩ = some (.int .u64 0) := (zC BK176.out 3).trans rfl
         have hcz80_4 : wc.cell? ⟨gb176, 4, none⟩ = some (.int .i64 a1) := (zC BK176.out 4).trans rfl
         have hfz80_0 := zF BK176.out 0
         have hfz80_1 := zF BK176.out 1
         have hfz80_2 := zF BK176.out 2
         have hfz80_3 := zF BK176.out 3
         have hfz80_4 := zF BK176.out 4
         go_wp2_with (first | ((with_reducible refine gate_callee (f := 20) rfl ?_); refine goesL_ (some 121) rfl rfl Tryz.func20 (by kernel_rfl) rfl #[.string (a0.extract (a1 : Int).toNat (x7_68 : Int).toNat)] rfl gA ?_; (with_reducible refine (foundryref01_Literal.calls kj68 (a0.extract (a1 : Int).toNat (x7_68 : Int).toNat) t185 t186 _ A78.out).mono ?_); rintro e w' ⟨rfl, ⟨nd, rfl⟩⟩; refine ⟨_, rfl, ?_⟩; have hcz81_0 : wc.cell? ⟨gb175, 0, none⟩ = some (.int .i64 0) := (zC BK175.out 0).trans rfl; have hcz81_1 : wc.cell? ⟨gb175, 1, none⟩ = some (.string (⟨#[]⟩ : ByteArray)) := (zC BK175.out 1).trans rfl; have hcz81_2 : wc.cell? ⟨gb175, 2, none⟩ = some (.int .i64 0) := (zC BK175.out 2).trans rfl; have hcz81_3 : wc.cell? ⟨gb175, 3, none⟩ = some (.int .u64 0) := (zC BK175.out 3).trans rfl; have hcz81_4 : wc.cell? ⟨gb175, 4, none⟩ = some (.int .i64 0) := (zC BK175.out 4).trans rfl; have hfz81_0 := zF BK175.out 0; have hfz81_1 := zF BK175.out 1; have hfz81_2 := zF BK175.out 2; have hfz81_3 := zF BK175.out 3; have hfz81_4 := zF BK175.out 4))
         refine bodyPost_ret (results_ct rfl _ _ gb175 43 #[.int .i64 4, .string (a0.extract (a1 : Int).toNat (x7_68 : Int).toNat), .int .i64 2, .int .u64 t185, .int .i64 a1] (0, 0) _ rfl (bP BK175) Tryz.underlying43 rfl (by kernel_rfl)) rfl ?_
         exact ⟨eR, hS⟩
end foundryref05_numeral
end Go.Proofs.YthifejhdmjoolaaGreatDoor.QE
