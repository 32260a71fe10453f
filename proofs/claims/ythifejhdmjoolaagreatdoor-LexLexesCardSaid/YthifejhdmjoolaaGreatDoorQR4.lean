-- WRITTEN BY A PROGRAM OF THE SESSION (wip/myprint.sh): Lean checks it.
import Derived.Test.YthifejhdmjoolaaGreatDoorQR0
namespace Go.Proofs.YthifejhdmjoolaaGreatDoor.QR
open Go.Proofs.YthifejhdmjoolaaGreatDoorG
open Go.RowKit Go.Proofs.YthifejhdmjoolaaGreatDoorW.PrintWords Go.Proofs.YthifejhdmjoolaaGreatDoorW.PrintLast Go.Proofs.YthifejhdmjoolaaGreatDoorW.PrintMore
attribute [local go_sem] max2_int min2_int max_two min_two max_three min_three max_four min_four   -- for this text's walks alone
set_option linter.unusedVariables false
set_option linter.unusedSimpArgs false
namespace lex_kind
mutual
def j0 : Nat → Int → Bool → Bool → Bool → Bool → Bool → Option (Bool × Bool × Bool × Bool)
  | 0, _, _, _, _, _, _ => none
  | k + 1, x0, x5, x137000, x137001, x137002, x137003 => if x5 = true then (some (true, x137001, x137002, x137003)) else (if x0 ≥ 48 then (j1 k x0 (decide (x0 ≤ 57)) x137000 x137001 x137002 x137003) else (j1 k x0 false x137000 x137001 x137002 x137003))
def j1 : Nat → Int → Bool → Bool → Bool → Bool → Bool → Option (Bool × Bool × Bool × Bool)
  | 0, _, _, _, _, _, _ => none
  | k + 1, x0, x14, x137000, x137001, x137002, x137003 => if x14 = true then (some (x137000, x137001, true, true)) else (if x0 = 46 then (j2 k x0 (x0 == 46) x137000 x137001 x137002 x137003) else (if x0 = 43 then (j2 k x0 (x0 == 43) x137000 x137001 x137002 x137003) else (j2 k x0 (x0 == 45) x137000 x137001 x137002 x137003)))
def j2 : Nat → Int → Bool → Bool → Bool → Bool → Bool → Option (Bool × Bool × Bool × Bool)
  | 0, _, _, _, _, _, _ => none
  | k + 1, x0, x21, x137000, x137001, x137002, x137003 => if x21 = true then (some (x137000, x137001, x137002, true)) else (if x0 = 112 then (j3 k x0 (x0 == 112) x137000 x137001 x137002 x137003) else (if x0 ≥ 97 then (j3 k x0 (decide (x0 ≤ 102)) x137000 x137001 x137002 x137003) else (j3 k x0 false x137000 x137001 x137002 x137003)))
def j3 : Nat → Int → Bool → Bool → Bool → Bool → Bool → Option (Bool × Bool × Bool × Bool)
  | 0, _, _, _, _, _, _ => none
  | k + 1, x0, x28, x137000, x137001, x137002, x137003 => if x28 = true then (some (x137000, true, x137002, true)) else (if x0 ≥ 97 then (j4 k x0 (decide (x0 ≤ 122)) x137000 x137001 x137002 x137003) else (j4 k x0 false x137000 x137001 x137002 x137003))
def j4 : Nat → Int → Bool → Bool → Bool → Bool → Bool → Option (Bool × Bool × Bool × Bool)
  | 0, _, _, _, _, _, _ => none
  | k + 1, x0, x37, x137000, x137001, x137002, x137003 => if x37 = true then (some (x137000, true, x137002, x137003)) else (if x0 ≥ 65 then (j5 k x0 (decide (x0 ≤ 90)) x137000 x137001 x137002 x137003) else (j5 k x0 false x137000 x137001 x137002 x137003))
def j5 : Nat → Int → Bool → Bool → Bool → Bool → Bool → Option (Bool × Bool × Bool × Bool)
  | 0, _, _, _, _, _, _ => none
  | k + 1, x0, x37, x137000, x137001, x137002, x137003 => if x37 = true then (some (x137000, true, x137002, x137003)) else (if x0 = 95 then (some (x137000, true, x137002, x137003)) else (some (x137000, x137001, x137002, x137003)))
end
def f (k : Nat) (a0 : Int) : Option (Bool × Bool × Bool × Bool) := if a0 = 32 then (j0 k a0 (a0 == 32) false false false false) else (if a0 = 9 then (j0 k a0 (a0 == 9) false false false false) else (if a0 = 10 then (j0 k a0 (a0 == 10) false false false false) else (j0 k a0 (a0 == 13) false false false false)))
theorem mono_l : ∀ k, (∀ y0 y1 y2 y3 y4 y5, LeO (j0 k y0 y1 y2 y3 y4 y5) (j0 (k + 1) y0 y1 y2 y3 y4 y5)) ∧ (∀ y0 y1 y2 y3 y4 y5, LeO (j1 k y0 y1 y2 y3 y4 y5) (j1 (k + 1) y0 y1 y2 y3 y4 y5)) ∧ (∀ y0 y1 y2 y3 y4 y5, LeO (j2 k y0 y1 y2 y3 y4 y5) (j2 (k + 1) y0 y1 y2 y3 y4 y5)) ∧ (∀ y0 y1 y2 y3 y4 y5, LeO (j3 k y0 y1 y2 y3 y4 y5) (j3 (k + 1) y0 y1 y2 y3 y4 y5)) ∧ (∀ y0 y1 y2 y3 y4 y5, LeO (j4 k y0 y1 y2 y3 y4 y5) (j4 (k + 1) y0 y1 y2 y3 y4 y5)) ∧ (∀ y0 y1 y2 y3 y4 y5, LeO (j5 k y0 y1 y2 y3 y4 y5) (j5 (k + 1) y0 y1 y2 y3 y4 y5))
  | 0 => by refine ⟨?_, ?_, ?_, ?_, ?_, ?_⟩ <;> (intros; exact LeO.none _)
  | k + 1 => by
    obtain ⟨ih0, ih1, ih2, ih3, ih4, ih5⟩ := mono_l k
    refine ⟨?_, ?_, ?_, ?_, ?_, ?_⟩ <;> intros <;> first | unfold j0 | unfold j1 | unfold j2 | unfold j3 | unfold j4 | unfold j5
    all_goals repeat' first
    | (with_reducible first | apply ih0 | apply ih1 | apply ih2 | apply ih3 | apply ih4 | apply ih5 | exact LeO.refl _ | exact LeO.none _ | refine LeO.ite ?_ ?_ | refine LeO.bind ?_ (fun _ => ?_))
    | exact LeO.none _ | refine LeO.ite ?_ ?_ | refine LeO.bind ?_ (fun _ => ?_)
theorem mono : ∀ a0 k, LeO (f k a0) (f (k + 1) a0) := by
  intro a0 k
  obtain ⟨ih0, ih1, ih2, ih3, ih4, ih5⟩ := mono_l k
  unfold f
  repeat' first
      | (with_reducible first | apply ih0 | apply ih1 | apply ih2 | apply ih3 | apply ih4 | apply ih5 | exact LeO.refl _ | exact LeO.none _ | refine LeO.ite ?_ ?_ | refine LeO.bind ?_ (fun _ => ?_))
      | exact LeO.none _ | refine LeO.ite ?_ ?_ | refine LeO.bind ?_ (fun _ => ?_)
set_option maxHeartbeats 8000000 in
set_option maxRecDepth 100000 in
theorem calls (k : Nat) (a0 : Int) (r1 : Bool) (r2 : Bool) (r3 : Bool) (r4 : Bool) (w : World) (h : f k a0 = some (r1, r2, r3, r4)) :
    Calls Tryz.prog 68 #[.int .u8 a0] w fun e w' => e = .returned (.agg #[.bool r1, .bool r2, .bool r3, .bool r4]) ∧ Below w.heap.size w w' := by
 have hu89 := Tryz.underlying89
 have HB := aM (Below.refl w.heap.size w)
 have H : (if a0 = 32 then (j0 k a0 (a0 == 32) false false false false) else (if a0 = 9 then (j0 k a0 (a0 == 9) false false false false) else (if a0 = 10 then (j0 k a0 (a0 == 10) false false false false) else (j0 k a0 (a0 == 13) false false false false)))) = some (r1, r2, r3, r4) := h
 clear h
 have HC2 := aM H
 clear H
 go_enter Tryz.func68, Tryz.ntmps68
 go_upto_if 5 with (first | ((with_reducible refine gate_dst (N := 2) rfl ?_); refine box_event ?hg (N := 2) ?hd (cs := #[.bool false, .bool false, .bool false, .bool false]) (t := 89) ?hr ?_; (case hd => rfl); (case hg => rfl); (case hr => first | (go_simp; done) | (go_simp; rfl)); intro gb135 hg w3 hbox hb; have n0_ := aM (below_step (hB) hb); have n1_ := aM (hbox); have n2_ := aM ((by rw [hg]; exact (below_size (hB)) : w.heap.size ≤ gb135)); have n3_ := aM ((by rw [hg]; exact (below_size (hB)) : w.heap.size ≤ gb135)); clear HB; have HB := n0_; have BK135 := n1_; have GW135 := n2_; have GE135 := n3_; clear n0_ n1_ n2_ n3_; clear hb hbox hg) | ((with_reducible refine gate_dst (N := 3) rfl ?_); refine box_event ?hg (N := 3) ?hd (cs := #[.bool false, .bool false, .bool false, .bool false]) (t := 89) ?hr ?_; (case hd => rfl); (case hg => rfl); (case hr => first | (go_simp; done) | (go_simp; rfl)); intro gb136 hg w4 hbox hb; have n0_ := aM (blk_below (bK BK135) hb); have n1_ := aM (below_step (hS) hb); have n2_ := aM (hbox); have n3_ := aM ((by rw [hg]; exact (below_size (hS)) : w.heap.size ≤ gb136)); have n4_ := aM ((by rw [hg]; exact (below_size (hS)) : w.heap.size ≤ gb136)); have n5_ := aM ((by rw [hg]; exact Nat.ne_of_lt (blk_lt (bK BK135)) : gb135 ≠ gb136)); have n6_ := aM ((by rw [hg]; exact Nat.ne_of_gt (blk_lt (bK BK135)) : gb136 ≠ gb135)); clear BK135; clear HB; have BK135 := n0_; have HB := n1_; have BK136 := n2_; have GW136 := n3_; have GE136 := n4_; have NB135_136 := n5_; have NB136_135 := n6_; clear n0_ n1_ n2_ n3_ n4_ n5_ n6_; clear hb hbox hg; have hnb5 := NB136_135.out; have hnc5 := NB135_136.out; have hcz6_0 : w4.cell? ⟨gb136, 0, none⟩ = some (.bool false) := (zC BK136.out 0).trans rfl; have hcz6_1 : w4.cell? ⟨gb136, 1, none⟩ = some (.bool false) := (zC BK136.out 1).trans rfl; have hcz6_2 : w4.cell? ⟨gb136, 2, none⟩ = some (.bool false) := (zC BK136.out 2).trans rfl; have hcz6_3 : w4.cell? ⟨gb136, 3, none⟩ = some (.bool false) := (zC BK136.out 3).trans rfl; have hfz6_0 := zF BK136.out 0; have hfz6_1 := zF BK136.out 1; have hfz6_2 := zF BK136.out 2; have hfz6_3 := zF BK136.out 3))
 (try simp only [Act.put, List.setIfInBounds_toArray, List.set_cons_zero, List.set_cons_succ])
 go_cut [5] (fun v5 wc => ∃ (kq : Nat) (x5_1 : Bool), v5 = .bool x5_1 ∧ Aside0 (j0 kq a0 x5_1 false false false false = some (r1, r2, r3, r4)) ∧ Aside0 (kq ≤ k) ∧ Aside0 (wc.heap[gb135]? = some (.cells #[.bool false, .bool false, .bool false, .bool false] 89 (0, 0))) ∧ Aside0 (wc.heap[gb136]? = some (.cells #[.bool false, .bool false, .bool false, .bool false] 89 (0, 0))) ∧ Aside0 (Below w.heap.size w wc))
 case first =>
  have H := HC2.out
  clear HC2
  by_cases c7 : a0 = 32
  ·rw [if_pos c7] at H
   have c7b0 := bT c7
   have c7b1 := mF c7
   clear c7
   (first | rw [c7b0] | (simp only [i64_w, i32_w]; rw [c7b0]) | skip)
   have H' := aM H
   clear H
   go_wp2
   go_meet
   case rel => exact ⟨_, ((a0 == 32)), xR, H', ⟨jO⟩, ⟨bK BK135⟩, ⟨bP BK136⟩, ⟨hS⟩⟩
  rw [if_neg c7] at H
  have c7b0 := bF c7
  have c7b1 := mT c7
  (first | rw [c7b0] | (simp only [i64_w, i32_w]; rw [c7b0]) | skip)
  by_cases c8 : a0 = 9
  ·rw [if_pos c8] at H
   have c8b0 := bT c8
   have c8b1 := mF c8
   clear c8
   have H' := aM H
   clear H
   go_wp2
   go_meet
   case rel => exact ⟨_, ((a0 == 9)), xR, H', ⟨jO⟩, ⟨bK BK135⟩, ⟨bP BK136⟩, ⟨hS⟩⟩
  rw [if_neg c8] at H
  have c8b0 := bF c8
  have c8b1 := mT c8
  by_cases c9 : a0 = 10
  rotate_left
  ·rw [if_neg c9] at H
   have c9b0 := bF c9
   have c9b1 := mT c9
   have H' := aM H
   clear H
   go_wp2
   go_meet
   case rel => exact ⟨_, ((a0 == 13)), xR, H', ⟨jO⟩, ⟨bK BK135⟩, ⟨bP BK136⟩, ⟨hS⟩⟩
  rw [if_pos c9] at H
  have c9b0 := bT c9
  have c9b1 := mF c9
  clear c9
  have H' := aM H
  clear H
  go_wp2
  go_meet
  case rel => exact ⟨_, ((a0 == 10)), xR, H', ⟨jO⟩, ⟨bK BK135⟩, ⟨bP BK136⟩, ⟨hS⟩⟩
 case rest =>
  clear HC2
  obtain ⟨kq, x5_1, rfl, HA, HJ1, BK135, BK136, HB⟩ := hcut
  cases kq with
  | zero => exact absurd HA.out (by simp [j0])
  | succ kj1 =>
   have H := HA.out
   clear HA
   simp only [j0] at H
   by_cases c10 : x5_1 = true
   ·subst c10
    replace H := iT H
    simp only [Option.some.injEq, Prod.mk.injEq] at H
    obtain ⟨rfl, rfl, rfl, rfl⟩ := H
    have hnb11 := NB136_135.out
    have hnc11 := NB135_136.out
    have hcz12_0 : wc.cell? ⟨gb136, 0, none⟩ = some (.bool false) := (zC BK136.out 0).trans rfl
    have hcz12_1 : wc.cell? ⟨gb136, 1, none⟩ = some (.bool false) := (zC BK136.out 1).trans rfl
    have hcz12_2 : wc.cell? ⟨gb136, 2, none⟩ = some (.bool false) := (zC BK136.out 2).trans rfl
    have hcz12_3 : wc.cell? ⟨gb136, 3, none⟩ = some (.bool false) := (zC BK136.out 3).trans rfl
    have hfz12_0 := zF BK136.out 0
    have hfz12_1 := zF BK136.out 1
    have hfz12_2 := zF BK136.out 2
    have hfz12_3 := zF BK136.out 3
    have hcz13_0 : wc.cell? ⟨gb135, 0, none⟩ = some (.bool false) := (zC BK135.out 0).trans rfl
    have hcz13_1 : wc.cell? ⟨gb135, 1, none⟩ = some (.bool false) := (zC BK135.out 1).trans rfl
    have hcz13_2 : wc.cell? ⟨gb135, 2, none⟩ = some (.bool false) := (zC BK135.out 2).trans rfl
    have hcz13_3 : wc.cell? ⟨gb135, 3, none⟩ = some (.bool false) := (zC BK135.out 3).trans rfl
    have hfz13_0 := zF BK135.out 0
    have hfz13_1 := zF BK135.out 1
    have hfz13_2 := zF BK135.out 2
    have hfz13_3 := zF BK135.out 3
    go_wp2
    refine bodyPost_ret (results_cell_row rfl _ _ gb135 89 #[.bool true, .bool false, .bool false, .bool false] (0, 0) _ rfl (bP BK135) Tryz.underlying89 rfl (by kernel_rfl)) rfl ?_
    exact ⟨eR, hS⟩
   replace c10 := nF c10
   subst c10
   replace H := iF H
   have HC14 := aM H
   clear H
   go_upto_region 6 with (fail)
   go_cut [14] (fun v14 wc => ∃ (kq : Nat) (x14_13 : Bool), v14 = .bool x14_13 ∧ Aside0 (j1 kq a0 x14_13 false false false false = some (r1, r2, r3, r4)) ∧ Aside0 (kq ≤ kj1) ∧ Aside0 (wc.heap[gb135]? = some (.cells #[.bool false, .bool false, .bool false, .bool false] 89 (0, 0))) ∧ Aside0 (wc.heap[gb136]? = some (.cells #[.bool false, .bool false, .bool false, .bool false] 89 (0, 0))) ∧ Aside0 (Below w.heap.size w wc))
   case first =>
    have H := HC14.out
    clear HC14
    by_cases c15 : a0 ≥ 48
    rotate_left
    ·rw [if_neg c15] at H
     have c15b0 : decide (48 ≤ a0) = false := decide_eq_false c15
     clear c15
     (first | rw [c15b0] | (simp only [i64_w, i32_w]; rw [c15b0]) | skip)
     have H' := aM H
     clear H
     go_wp2
     go_meet
     case rel => exact ⟨_, false, xR, H', ⟨jC⟩, ⟨bK BK135⟩, ⟨bK BK136⟩, ⟨hS⟩⟩
    rw [if_pos c15] at H
    have c15b0 : decide (48 ≤ a0) = true := decide_eq_true c15
    clear c15
    (first | rw [c15b0] | (simp only [i64_w, i32_w]; rw [c15b0]) | skip)
    have H' := aM H
    clear H
    go_wp2
    go_meet
    case rel => exact ⟨_, (decide (a0 ≤ 57)), xR, H', ⟨jC⟩, ⟨bK BK135⟩, ⟨bK BK136⟩, ⟨hS⟩⟩
   case rest =>
    clear HC14
    obtain ⟨kq, x14_13, rfl, HA, HJ13, BK135, BK136, HB⟩ := hcut
    cases kq with
    | zero => exact absurd HA.out (by simp [j1])
    | succ kj13 =>
     have H := HA.out
     clear HA
     simp only [j1] at H
     by_cases c16 : x14_13 = true
     ·subst c16
      replace H := iT H
      simp only [Option.some.injEq, Prod.mk.injEq] at H
      obtain ⟨rfl, rfl, rfl, rfl⟩ := H
      have hnb17 := NB136_135.out
      have hnc17 := NB135_136.out
      have hcz18_0 : wc.cell? ⟨gb136, 0, none⟩ = some (.bool false) := (zC BK136.out 0).trans rfl
      have hcz18_1 : wc.cell? ⟨gb136, 1, none⟩ = some (.bool false) := (zC BK136.out 1).trans rfl
      have hcz18_2 : wc.cell? ⟨gb136, 2, none⟩ = some (.bool false) := (zC BK136.out 2).trans rfl
      have hcz18_3 : wc.cell? ⟨gb136, 3, none⟩ = some (.bool false) := (zC BK136.out 3).trans rfl
      have hfz18_0 := zF BK136.out 0
      have hfz18_1 := zF BK136.out 1
      have hfz18_2 := zF BK136.out 2
      have hfz18_3 := zF BK136.out 3
      have hcz19_0 : wc.cell? ⟨gb135, 0, none⟩ = some (.bool false) := (zC BK135.out 0).trans rfl
      have hcz19_1 : wc.cell? ⟨gb135, 1, none⟩ = some (.bool false) := (zC BK135.out 1).trans rfl
      have hcz19_2 : wc.cell? ⟨gb135, 2, none⟩ = some (.bool false) := (zC BK135.out 2).trans rfl
      have hcz19_3 : wc.cell? ⟨gb135, 3, none⟩ = some (.bool false) := (zC BK135.out 3).trans rfl
      have hfz19_0 := zF BK135.out 0
      have hfz19_1 := zF BK135.out 1
      have hfz19_2 := zF BK135.out 2
      have hfz19_3 := zF BK135.out 3
      go_wp2
      refine bodyPost_ret (results_cell_row rfl _ _ gb135 89 #[.bool false, .bool false, .bool true, .bool true] (0, 0) _ rfl (bP BK135) Tryz.underlying89 rfl (by kernel_rfl)) rfl ?_
      exact ⟨eR, hS⟩
     replace c16 := nF c16
     subst c16
     replace H := iF H
     have HC20 := aM H
     clear H
     go_upto_if 21 with (fail)
     go_cut [21] (fun v21 wc => ∃ (kq : Nat) (x21_19 : Bool), v21 = .bool x21_19 ∧ Aside0 (j2 kq a0 x21_19 false false false false = some (r1, r2, r3, r4)) ∧ Aside0 (kq ≤ kj13) ∧ Aside0 (wc.heap[gb135]? = some (.cells #[.bool false, .bool false, .bool false, .bool false] 89 (0, 0))) ∧ Aside0 (wc.heap[gb136]? = some (.cells #[.bool false, .bool false, .bool false, .bool false] 89 (0, 0))) ∧ Aside0 (Below w.heap.size w wc))
     case first =>
      have H := HC20.out
      clear HC20
      by_cases c21 : a0 = 46
      ·rw [if_pos c21] at H
       have c21b0 := bT c21
       have c21b1 := mF c21
       clear c21
       (first | rw [c21b0] | (simp only [i64_w, i32_w]; rw [c21b0]) | skip)
       have H' := aM H
       clear H
       go_wp2
       go_meet
       case rel => exact ⟨_, ((a0 == 46)), xR, H', ⟨jC⟩, ⟨bK BK135⟩, ⟨bK BK136⟩, ⟨hS⟩⟩
      rw [if_neg c21] at H
      have c21b0 := bF c21
      have c21b1 := mT c21
      (first | rw [c21b0] | (simp only [i64_w, i32_w]; rw [c21b0]) | skip)
      by_cases c22 : a0 = 43
      rotate_left
      ·rw [if_neg c22] at H
       have c22b0 := bF c22
       have c22b1 := mT c22
       have H' := aM H
       clear H
       go_wp2
       go_meet
       case rel => exact ⟨_, ((a0 == 45)), xR, H', ⟨jC⟩, ⟨bK BK135⟩, ⟨bK BK136⟩, ⟨hS⟩⟩
      rw [if_pos c22] at H
      have c22b0 := bT c22
      have c22b1 := mF c22
      clear c22
      have H' := aM H
      clear H
      go_wp2
      go_meet
      case rel => exact ⟨_, ((a0 == 43)), xR, H', ⟨jC⟩, ⟨bK BK135⟩, ⟨bK BK136⟩, ⟨hS⟩⟩
     case rest =>
      clear HC20
      obtain ⟨kq, x21_19, rfl, HA, HJ19, BK135, BK136, HB⟩ := hcut
      cases kq with
      | zero => exact absurd HA.out (by simp [j2])
      | succ kj19 =>
       have H := HA.out
       clear HA
       simp only [j2] at H
       by_cases c23 : x21_19 = true
       ·subst c23
        replace H := iT H
        simp only [Option.some.injEq, Prod.mk.injEq] at H
        obtain ⟨rfl, rfl, rfl, rfl⟩ := H
        have hnb24 := NB136_135.out
        have hnc24 := NB135_136.out
        have hcz25_0 : wc.cell? ⟨gb136, 0, none⟩ = some (.bool false) := (zC BK136.out 0).trans rfl
        have hcz25_1 : wc.cell? ⟨gb136, 1, none⟩ = some (.bool false) := (zC BK136.out 1).trans rfl
        have hcz25_2 : wc.cell? ⟨gb136, 2, none⟩ = some (.bool false) := (zC BK136.out 2).trans rfl
        have hcz25_3 : wc.cell? ⟨gb136, 3, none⟩ = some (.bool false) := (zC BK136.out 3).trans rfl
        have hfz25_0 := zF BK136.out 0
        have hfz25_1 := zF BK136.out 1
        have hfz25_2 := zF BK136.out 2
        have hfz25_3 := zF BK136.out 3
        have hcz26_0 : wc.cell? ⟨gb135, 0, none⟩ = some (.bool false) := (zC BK135.out 0).trans rfl
        have hcz26_1 : wc.cell? ⟨gb135, 1, none⟩ = some (.bool false) := (zC BK135.out 1).trans rfl
        have hcz26_2 : wc.cell? ⟨gb135, 2, none⟩ = some (.bool false) := (zC BK135.out 2).trans rfl
        have hcz26_3 : wc.cell? ⟨gb135, 3, none⟩ = some (.bool false) := (zC BK135.out 3).trans rfl
        have hfz26_0 := zF BK135.out 0
        have hfz26_1 := zF BK135.out 1
        have hfz26_2 := zF BK135.out 2
        have hfz26_3 := zF BK135.out 3
        go_wp2
        refine bodyPost_ret (results_cell_row rfl _ _ gb135 89 #[.bool false, .bool false, .bool false, .bool true] (0, 0) _ rfl (bP BK135) Tryz.underlying89 rfl (by kernel_rfl)) rfl ?_
        exact ⟨eR, hS⟩
       replace c23 := nF c23
       subst c23
       replace H := iF H
       have HC27 := aM H
       clear H
       go_upto_if 28 with (fail)
       go_cut [28] (fun v28 wc => ∃ (kq : Nat) (x28_26 : Bool), v28 = .bool x28_26 ∧ Aside0 (j3 kq a0 x28_26 false false false false = some (r1, r2, r3, r4)) ∧ Aside0 (kq ≤ kj19) ∧ Aside0 (wc.heap[gb135]? = some (.cells #[.bool false, .bool false, .bool false, .bool false] 89 (0, 0))) ∧ Aside0 (wc.heap[gb136]? = some (.cells #[.bool false, .bool false, .bool false, .bool false] 89 (0, 0))) ∧ Aside0 (Below w.heap.size w wc))
       case first =>
        have H := HC27.out
        clear HC27
        by_cases c28 : a0 = 112
        ·rw [if_pos c28] at H
         have c28b0 := bT c28
         have c28b1 := mF c28
         clear c28
         (first | rw [c28b0] | (simp only [i64_w, i32_w]; rw [c28b0]) | skip)
         have H' := aM H
         clear H
         go_wp2
         go_meet
         case rel => exact ⟨_, ((a0 == 112)), xR, H', ⟨jC⟩, ⟨bK BK135⟩, ⟨bK BK136⟩, ⟨hS⟩⟩
        rw [if_neg c28] at H
        have c28b0 := bF c28
        have c28b1 := mT c28
        (first | rw [c28b0] | (simp only [i64_w, i32_w]; rw [c28b0]) | skip)
        by_cases c29 : a0 ≥ 97
        rotate_left
        ·rw [if_neg c29] at H
         have c29b0 : decide (97 ≤ a0) = false := decide_eq_false c29
         clear c29
         have H' := aM H
         clear H
         go_wp2
         go_meet
         case rel => exact ⟨_, false, xR, H', ⟨jC⟩, ⟨bK BK135⟩, ⟨bK BK136⟩, ⟨hS⟩⟩
        rw [if_pos c29] at H
        have c29b0 : decide (97 ≤ a0) = true := decide_eq_true c29
        clear c29
        have H' := aM H
        clear H
        go_wp2
        go_meet
        case rel => exact ⟨_, (decide (a0 ≤ 102)), xR, H', ⟨jC⟩, ⟨bK BK135⟩, ⟨bK BK136⟩, ⟨hS⟩⟩
       case rest =>
        clear HC27
        obtain ⟨kq, x28_26, rfl, HA, HJ26, BK135, BK136, HB⟩ := hcut
        cases kq with
        | zero => exact absurd HA.out (by simp [j3])
        | succ kj26 =>
         have H := HA.out
         clear HA
         simp only [j3] at H
         by_cases c30 : x28_26 = true
         ·subst c30
          replace H := iT H
          simp only [Option.some.injEq, Prod.mk.injEq] at H
          obtain ⟨rfl, rfl, rfl, rfl⟩ := H
          have hnb31 := NB136_135.out
          have hnc31 := NB135_136.out
          have hcz32_0 : wc.cell? ⟨gb136, 0, none⟩ = some (.bool false) := (zC BK136.out 0).trans rfl
          have hcz32_1 : wc.cell? ⟨gb136, 1, none⟩ = some (.bool false) := (zC BK136.out 1).trans rfl
          have hcz32_2 : wc.cell? ⟨gb136, 2, none⟩ = some (.bool false) := (zC BK136.out 2).trans rfl
          have hcz32_3 : wc.cell? ⟨gb136, 3, none⟩ = some (.bool false) := (zC BK136.out 3).trans rfl
          have hfz32_0 := zF BK136.out 0
          have hfz32_1 := zF BK136.out 1
          have hfz32_2 := zF BK136.out 2
          have hfz32_3 := zF BK136.out 3
          have hcz33_0 : wc.cell? ⟨gb135, 0, none⟩ = some (.bool false) := (zC BK135.out 0).trans rfl
          have hcz33_1 : wc.cell? ⟨gb135, 1, none⟩ = some (.bool false) := (zC BK135.out 1).trans rfl
          have hcz33_2 : wc.cell? ⟨gb135, 2, none⟩ = some (.bool false) := (zC BK135.out 2).trans rfl
          have hcz33_3 : wc.cell? ⟨gb135, 3, none⟩ = some (.bool false) := (zC BK135.out 3).trans rfl
          have hfz33_0 := zF BK135.out 0
          have hfz33_1 := zF BK135.out 1
          have hfz33_2 := zF BK135.out 2
          have hfz33_3 := zF BK135.out 3
          go_wp2
          refine bodyPost_ret (results_cell_row rfl _ _ gb135 89 #[.bool false, .bool true, .bool false, .bool true] (0, 0) _ rfl (bP BK135) Tryz.underlying89 rfl (by kernel_rfl)) rfl ?_
          exact ⟨eR, hS⟩
         replace c30 := nF c30
         subst c30
         replace H := iF H
         have HC34 := aM H
         clear H
         go_upto_region 12 with (fail)
         go_cut [37] (fun v37 wc => ∃ (kq : Nat) (x37_33 : Bool), v37 = .bool x37_33 ∧ Aside0 (j4 kq a0 x37_33 false false false false = some (r1, r2, r3, r4)) ∧ Aside0 (kq ≤ kj26) ∧ Aside0 (wc.heap[gb135]? = some (.cells #[.bool false, .bool false, .bool false, .bool false] 89 (0, 0))) ∧ Aside0 (wc.heap[gb136]? = some (.cells #[.bool false, .bool false, .bool false, .bool false] 89 (0, 0))) ∧ Aside0 (Below w.heap.size w wc))
         case first =>
          have H := HC34.out
          clear HC34
          by_cases c35 : a0 ≥ 97
          rotate_left
          ·rw [if_neg c35] at H
           have c35b0 : decide (97 ≤ a0) = false := decide_eq_false c35
           clear c35
           (first | rw [c35b0] | (simp only [i64_w, i32_w]; rw [c35b0]) | skip)
           have H' := aM H
           clear H
           go_wp2
           go_meet
           case rel => exact ⟨_, false, xR, H', ⟨jC⟩, ⟨bK BK135⟩, ⟨bK BK136⟩, ⟨hS⟩⟩
          rw [if_pos c35] at H
          have c35b0 : decide (97 ≤ a0) = true := decide_eq_true c35
          clear c35
          (first | rw [c35b0] | (simp only [i64_w, i32_w]; rw [c35b0]) | skip)
          have H' := aM H
          clear H
          go_wp2
          go_meet
          case rel => exact ⟨_, (decide (a0 ≤ 122)), xR, H', ⟨jC⟩, ⟨bK BK135⟩, ⟨bK BK136⟩, ⟨hS⟩⟩
         case rest =>
          clear HC34
          obtain ⟨kq, x37_33, rfl, HA, HJ33, BK135, BK136, HB⟩ := hcut
          cases kq with
          | zero => exact absurd HA.out (by simp [j4])
          | succ kj33 =>
           have H := HA.out
           clear HA
           simp only [j4] at H
           by_cases c36 : x37_33 = true
           ·subst c36
            replace H := iT H
            simp only [Option.some.injEq, Prod.mk.injEq] at H
            obtain ⟨rfl, rfl, rfl, rfl⟩ := H
            have hnb37 := NB136_135.out
            have hnc37 := NB135_136.out
            have hcz38_0 : wc.cell? ⟨gb136, 0, none⟩ = some (.bool false) := (zC BK136.out 0).trans rfl
            have hcz38_1 : wc.cell? ⟨gb136, 1, none⟩ = some (.bool false) := (zC BK136.out 1).trans rfl
            have hcz38_2 : wc.cell? ⟨gb136, 2, none⟩ = some (.bool false) := (zC BK136.out 2).trans rfl
            have hcz38_3 : wc.cell? ⟨gb136, 3, none⟩ = some (.bool false) := (zC BK136.out 3).trans rfl
            have hfz38_0 := zF BK136.out 0
            have hfz38_1 := zF BK136.out 1
            have hfz38_2 := zF BK136.out 2
            have hfz38_3 := zF BK136.out 3
            have hcz39_0 : wc.cell? ⟨gb135, 0, none⟩ = some (.bool false) := (zC BK135.out 0).trans rfl
            have hcz39_1 : wc.cell? ⟨gb135, 1, none⟩ = some (.bool false) := (zC BK135.out 1).trans rfl
            have hcz39_2 : wc.cell? ⟨gb135, 2, none⟩ = some (.bool false) := (zC BK135.out 2).trans rfl
            have hcz39_3 : wc.cell? ⟨gb135, 3, none⟩ = some (.bool false) := (zC BK135.out 3).trans rfl
            have hfz39_0 := zF BK135.out 0
            have hfz39_1 := zF BK135.out 1
            have hfz39_2 := zF BK135.out 2
            have hfz39_3 := zF BK135.out 3
            go_wp2
            refine bodyPost_ret (results_cell_row rfl _ _ gb135 89 #[.bool false, .bool true, .bool false, .bool false] (0, 0) _ rfl (bP BK135) Tryz.underlying89 rfl (by kernel_rfl)) rfl ?_
            exact ⟨eR, hS⟩
           replace c36 := nF c36
           subst c36
           replace H := iF H
           have HC40 := aM H
           clear H
           go_upto_region 13 with (fail)
           go_cut [37] (fun v37 wc => ∃ (kq : Nat) (x37_39 : Bool), v37 = .bool x37_39 ∧ Aside0 (j5 kq a0 x37_39 false false false false = some (r1, r2, r3, r4)) ∧ Aside0 (kq ≤ kj33) ∧ Aside0 (wc.heap[gb135]? = some (.cells #[.bool false, .bool false, .bool false, .bool false] 89 (0, 0))) ∧ Aside0 (wc.heap[gb136]? = some (.cells #[.bool false, .bool false, .bool false, .bool false] 89 (0, 0))) ∧ Aside0 (Below w.heap.size w wc))
           case first =>
            have H := HC40.out
            clear HC40
            by_cases c41 : a0 ≥ 65
            rotate_left
            ·rw [if_neg c41] at H
             have c41b0 : decide (65 ≤ a0) = false := decide_eq_false c41
             clear c41
             (first | rw [c41b0] | (simp only [i64_w, i32_w]; rw [c41b0]) | skip)
             have H' := aM H
             clear H
             go_wp2
             go_meet
             case rel => exact ⟨_, false, xR, H', ⟨jC⟩, ⟨bK BK135⟩, ⟨bK BK136⟩, ⟨hS⟩⟩
            rw [if_pos c41] at H
            have c41b0 : decide (65 ≤ a0) = true := decide_eq_true c41
            clear c41
            (first | rw [c41b0] | (simp only [i64_w, i32_w]; rw [c41b0]) | skip)
            have H' := aM H
            clear H
            go_wp2
            go_meet
            case rel => exact ⟨_, (decide (a0 ≤ 90)), xR, H', ⟨jC⟩, ⟨bK BK135⟩, ⟨bK BK136⟩, ⟨hS⟩⟩
           case rest =>
            clear HC40
            obtain ⟨kq, x37_39, rfl, HA, HJ39, BK135, BK136, HB⟩ := hcut
            cases kq with
            | zero => exact absurd HA.out (by simp [j5])
            | succ kj39 =>
             have H := HA.out
             clear HA
             simp only [j5] at H
             by_cases c42 : x37_39 = true
             ·subst c42
              replace H := iT H
              simp only [Option.some.injEq, Prod.mk.injEq] at H
              obtain ⟨rfl, rfl, rfl, rfl⟩ := H
              have hnb43 := NB136_135.out
              have hnc43 := NB135_136.out
              have hcz44_0 : wc.cell? ⟨gb136, 0, none⟩ = some (.bool false) := (zC BK136.out 0).trans rfl
              have hcz44_1 : wc.cell? ⟨gb136, 1, none⟩ = some (.bool false) := (zC BK136.out 1).trans rfl
              have hcz44_2 : wc.cell? ⟨gb136, 2, none⟩ = some (.bool false) := (zC BK136.out 2).trans rfl
              have hcz44_3 : wc.cell? ⟨gb136, 3, none⟩ = some (.bool false) := (zC BK136.out 3).trans rfl
              have hfz44_0 := zF BK136.out 0
              have hfz44_1 := zF BK136.out 1
              have hfz44_2 := zF BK136.out 2
              have hfz44_3 := zF BK136.out 3
              have hcz45_0 : wc.cell? ⟨gb135, 0, none⟩ = some (.bool false) := (zC BK135.out 0).trans rfl
              have hcz45_1 : wc.cell? ⟨gb135, 1, none⟩ = some (.bool false) := (zC BK135.out 1).trans rfl
              have hcz45_2 : wc.cell? ⟨gb135, 2, none⟩ = some (.bool false) := (zC BK135.out 2).trans rfl
              have hcz45_3 : wc.cell? ⟨gb135, 3, none⟩ = some (.bool false) := (zC BK135.out 3).trans rfl
              have hfz45_0 := zF BK135.out 0
              have hfz45_1 := zF BK135.out 1
              have hfz45_2 := zF BK135.out 2
              have hfz45_3 := zF BK135.out 3
              go_wp2
              refine bodyPost_ret (results_cell_row rfl _ _ gb135 89 #[.bool false, .bool true, .bool false, .bool false] (0, 0) _ rfl (bP BK135) Tryz.underlying89 rfl (by kernel_rfl)) rfl ?_
              exact ⟨eR, hS⟩
             replace c42 := nF c42
             subst c42
             replace H := iF H
             by_cases c46 : a0 = 95
             rotate_left
             ·rw [if_neg c46] at H
              have c46b0 := bF c46
              have c46b1 := mT c46
              simp only [Option.some.injEq, Prod.mk.injEq] at H
              obtain ⟨rfl, rfl, rfl, rfl⟩ := H
              have hnb50 := NB136_135.out
              have hnc50 := NB135_136.out
              have hcz51_0 : wc.cell? ⟨gb136, 0, none⟩ = some (.bool false) := (zC BK136.out 0).trans rfl
              have hcz51_1 : wc.cell? ⟨gb136, 1, none⟩ = some (.bool false) := (zC BK136.out 1).trans rfl
              have hcz51_2 : wc.cell? ⟨gb136, 2, none⟩ = some (.bool false) := (zC BK136.out 2).trans rfl
              have hcz51_3 : wc.cell? ⟨gb136, 3, none⟩ = some (.bool false) := (zC BK136.out 3).trans rfl
              have hfz51_0 := zF BK136.out 0
              have hfz51_1 := zF BK136.out 1
              have hfz51_2 := zF BK136.out 2
              have hfz51_3 := zF BK136.out 3
              have hcz52_0 : wc.cell? ⟨gb135, 0, none⟩ = some (.bool false) := (zC BK135.out 0).trans rfl
              have hcz52_1 : wc.cell? ⟨gb135, 1, none⟩ = some (.bool false) := (zC BK135.out 1).trans rfl
              have hcz52_2 : wc.cell? ⟨gb135, 2, none⟩ = some (.bool false) := (zC BK135.out 2).trans rfl
              have hcz52_3 : wc.cell? ⟨gb135, 3, none⟩ = some (.bool false) := (zC BK135.out 3).trans rfl
              have hfz52_0 := zF BK135.out 0
              have hfz52_1 := zF BK135.out 1
              have hfz52_2 := zF BK135.out 2
              have hfz52_3 := zF BK135.out 3
              go_wp2
              refine bodyPost_ret (results_cell_row rfl _ _ gb135 89 #[.bool false, .bool false, .bool false, .bool false] (0, 0) _ rfl (bP BK135) Tryz.underlying89 rfl (by kernel_rfl)) rfl ?_
              exact ⟨eR, hS⟩
             rw [if_pos c46] at H
             have c46b0 := bT c46
             have c46b1 := mF c46
             clear c46
             simp only [Option.some.injEq, Prod.mk.injEq] at H
             obtain ⟨rfl, rfl, rfl, rfl⟩ := H
             have hnb47 := NB136_135.out
             have hnc47 := NB135_136.out
             have hcz48_0 : wc.cell? ⟨gb136, 0, none⟩ = some (.bool false) := (zC BK136.out 0).trans rfl
             have hcz48_1 : wc.cell? ⟨gb136, 1, none⟩ = some (.bool false) := (zC BK136.out 1).trans rfl
             have hcz48_2 : wc.cell? ⟨gb136, 2, none⟩ = some (.bool false) := (zC BK136.out 2).trans rfl
             have hcz48_3 : wc.cell? ⟨gb136, 3, none⟩ = some (.bool false) := (zC BK136.out 3).trans rfl
             have hfz48_0 := zF BK136.out 0
             have hfz48_1 := zF BK136.out 1
             have hfz48_2 := zF BK136.out 2
             have hfz48_3 := zF BK136.out 3
             have hcz49_0 : wc.cell? ⟨gb135, 0, none⟩ = some (.bool false) := (zC BK135.out 0).trans rfl
             have hcz49_1 : wc.cell? ⟨gb135, 1, none⟩ = some (.bool false) := (zC BK135.out 1).trans rfl
             have hcz49_2 : wc.cell? ⟨gb135, 2, none⟩ = some (.bool false) := (zC BK135.out 2).trans rfl
             have hcz49_3 : wc.cell? ⟨gb135, 3, none⟩ = some (.bool false) := (zC BK135.out 3).trans rfl
             have hfz49_0 := zF BK135.out 0
             have hfz49_1 := zF BK135.out 1
             have hfz49_2 := zF BK135.out 2
             have hfz49_3 := zF BK135.out 3
             go_wp2
             refine bodyPost_ret (results_cell_row rfl _ _ gb135 89 #[.bool false, .bool true, .bool false, .bool false] (0, 0) _ rfl (bP BK135) Tryz.underlying89 rfl (by kernel_rfl)) rfl ?_
             exact ⟨eR, hS⟩
end lex_kind
end Go.Proofs.YthifejhdmjoolaaGreatDoor.QR
