-- WRITTEN BY A PROGRAM OF THE SESSION (wip/myprint.sh): Lean checks it.
import Derived.Test.YthifejhdmjoolaaGreatDoorQFx0
import Derived.Test.YthifejhdmjoolaaGreatDoorQFx2
namespace Go.Proofs.YthifejhdmjoolaaGreatDoor.QFx
open Go.Proofs.YthifejhdmjoolaaGreatDoorG
open Go.RowKit Go.Proofs.YthifejhdmjoolaaGreatDoorW.PrintWords Go.Proofs.YthifejhdmjoolaaGreatDoorW.PrintLast Go.Proofs.YthifejhdmjoolaaGreatDoorW.PrintMore
attribute [local go_sem] max2_int min2_int max_two min_two max_three min_three max_four min_four   -- for this text's walks alone
set_option linter.unusedVariables false
set_option linter.unusedSimpArgs false
/-! ### strconv_ftoa64: function 93 -/
theorem wfix1 : IntKind.i64.wrap 2048 = 2048 := by decide
theorem wfix2 : IntKind.i64.wrap 2047 = 2047 := by decide
theorem wfix3 : wrap64 2048 = 2048 := by unfold wrap64; rfl
theorem wfix4 : wrap64 2047 = 2047 := by unfold wrap64; rfl
theorem wfix5 : IntKind.i64.wrap (2048 - 1) = 2047 := by decide
theorem wfix6 : wrap64 (2048 - 1) = 2047 := by unfold wrap64; rfl
attribute [local go_sem] ext113 wfix1 wfix2 wfix3 wfix4 wfix5 wfix6
mutual
def strconv_ftoa64.j0 : Nat → List Int → Int → Int → Int → Int → Bool → Int → Int → Option (List Int)
  | 0, _, _, _, _, _, _, _, _ => none
  | k + 1, x0, x2, x3, x11, x12, x13, x14, x15 => if x2 = 98 then (none) else (if x2 = 120 then (strconv_ftoa64.j1 k x0 x2 x3 x11 x13 (wrap64 (x14 + x12)) x15 true) else (strconv_ftoa64.j1 k x0 x2 x3 x11 x13 (wrap64 (x14 + x12)) x15 (x2 == 88)))
def strconv_ftoa64.j1 : Nat → List Int → Int → Int → Int → Bool → Int → Int → Bool → Option (List Int)
  | 0, _, _, _, _, _, _, _, _ => none
  | k + 1, x0, x2, x3, x11, x13, x14, x15, x102 => if x102 = true then ((strconv_fmtX.f k x0 x3 x2 x13 x15 x14 x11).bind fun t147 => (some t147)) else (if x15 = 0 then (none) else (if x3 < 0 then (none) else (none)))
end
def strconv_ftoa64.f (k : Nat) (l0 : List Int) (a1 : Nat) (a2 : Int) (a3 : Int) : Option (List Int) := if (Go.bits .and .i64 (wrap64 ((a1 : Int) / 4503599627370496)) 2047) = 2047 then (if (Go.bits .and .u64 (a1 : Int) 4503599627370495) = 0 then (if ((a1 : Int) / 9223372036854775808) = 0 then (none) else (none)) else (none)) else (if (Go.bits .and .i64 (wrap64 ((a1 : Int) / 4503599627370496)) 2047) = 0 then (strconv_ftoa64.j0 k l0 a2 a3 52 (-1023) (((a1 : Int) / 9223372036854775808) != 0) (wrap64 ((Go.bits .and .i64 (wrap64 ((a1 : Int) / 4503599627370496)) 2047) + 1)) (Go.bits .and .u64 (a1 : Int) 4503599627370495)) else (strconv_ftoa64.j0 k l0 a2 a3 52 (-1023) (((a1 : Int) / 9223372036854775808) != 0) (Go.bits .and .i64 (wrap64 ((a1 : Int) / 4503599627370496)) 2047) (Go.bits .or .u64 (Go.bits .and .u64 (a1 : Int) 4503599627370495) 4503599627370496)))
theorem strconv_ftoa64.mono_l : ∀ k, (∀ y0 y1 y2 y3 y4 y5 y6 y7, LeO (strconv_ftoa64.j0 k y0 y1 y2 y3 y4 y5 y6 y7) (strconv_ftoa64.j0 (k + 1) y0 y1 y2 y3 y4 y5 y6 y7)) ∧ (∀ y0 y1 y2 y3 y4 y5 y6 y7, LeO (strconv_ftoa64.j1 k y0 y1 y2 y3 y4 y5 y6 y7) (strconv_ftoa64.j1 (k + 1) y0 y1 y2 y3 y4 y5 y6 y7))
  | 0 => by refine ⟨?_, ?_⟩ <;> (intros; exact LeO.none _)
  | k + 1 => by
    obtain ⟨ih0, ih1⟩ := strconv_ftoa64.mono_l k
    refine ⟨?_, ?_⟩ <;> intros <;> first | unfold strconv_ftoa64.j0 | unfold strconv_ftoa64.j1
    all_goals repeat' first
    | (with_reducible first | apply ih0 | apply ih1 | apply strconv_fmtX.mono | exact LeO.refl _ | exact LeO.none _ | refine LeO.ite ?_ ?_ | refine LeO.bind ?_ (fun _ => ?_))
    | exact LeO.none _ | refine LeO.ite ?_ ?_ | refine LeO.bind ?_ (fun _ => ?_)
theorem strconv_ftoa64.mono : ∀ a0 a1 a2 a3 k, LeO (strconv_ftoa64.f k a0 a1 a2 a3) (strconv_ftoa64.f (k + 1) a0 a1 a2 a3) := by
  intro a0 a1 a2 a3 k
  obtain ⟨ih0, ih1⟩ := strconv_ftoa64.mono_l k
  unfold strconv_ftoa64.f
  repeat' first
      | (with_reducible first | apply ih0 | apply ih1 | apply strconv_fmtX.mono | exact LeO.refl _ | exact LeO.none _ | refine LeO.ite ?_ ?_ | refine LeO.bind ?_ (fun _ => ?_))
      | exact LeO.none _ | refine LeO.ite ?_ ?_ | refine LeO.bind ?_ (fun _ => ?_)
def strconv_ftoa64.T14 : Bool × List (List Nat × List Nat) := (true, [([], []), ([], []), ([0, 1], [0, 1]), ([2], [2]), ([], []), ([4], [4]), ([5], [5]), ([3, 6], [3, 6]), ([7, 0, 1, 2, 3, 4, 5, 6, 7], [7])])
def strconv_ftoa64.B14 : List Nat := [0, 0, 3, 7, 0, 16, 48, 127, 255]
theorem strconv_ftoa64.tab14 : rtab .any (opsOf Tryz.f93 14) = strconv_ftoa64.T14 := by kernel_rfl
theorem strconv_ftoa64.bits14 : waitsOk strconv_ftoa64.T14.2 strconv_ftoa64.B14 = true := by kernel_rfl
set_option maxHeartbeats 8000000 in
set_option maxRecDepth 100000 in
theorem strconv_ftoa64.calls (k : Nat) (P0_ : Nat → Prop) (u9000_ : Value) (l0 : List Int) (a1 : Nat) (a2 : Int) (a3 : Int) (r : List Int) (w0 w : World) (hB : Below w0.heap.size w0 w) (ho0 : Kd.R (Kd.int .u8) 5 w w0.heap.size P0_ u9000_ l0) (h : strconv_ftoa64.f k l0 a1 a2 a3 = some r) :
  Calls Tryz.prog 93 #[u9000_, .float .f64 a1, .int .u8 a2, .int .i64 a3] w fun e w' => ∃ v0_ : Value, e = .returned (v0_) ∧ Kd.R (Kd.int .u8) 5 w' w0.heap.size (fun k_ => (P0_ k_ ∨ w.heap.size ≤ k_)) v0_ r ∧ Below w0.heap.size w0 w' ∧ Kept w w' (fun k_ => P0_ k_) := by
 have HO0 := aM (show Kd.R (Kd.int .u8) 5 w w0.heap.size (fun k_ => (P0_ k_ ∨ w.heap.size ≤ k_)) u9000_ l0 from Kd.R_mono ho0 (fun k_ hk => (.inl hk)))
 have HK := aM (Kept.refl w (fun k_ => P0_ k_))
 have HW0 := aM hB.size
 have HB := aM hB
 clear hB
 have H : (if (Go.bits .and .i64 (wrap64 ((a1 : Int) / 4503599627370496)) 2047) = 2047 then (if (Go.bits .and .u64 (a1 : Int) 4503599627370495) = 0 then (if ((a1 : Int) / 9223372036854775808) = 0 then (none) else (none)) else (none)) else (if (Go.bits .and .i64 (wrap64 ((a1 : Int) / 4503599627370496)) 2047) = 0 then (strconv_ftoa64.j0 k l0 a2 a3 52 (-1023) (((a1 : Int) / 9223372036854775808) != 0) (wrap64 ((Go.bits .and .i64 (wrap64 ((a1 : Int) / 4503599627370496)) 2047) + 1)) (Go.bits .and .u64 (a1 : Int) 4503599627370495)) else (strconv_ftoa64.j0 k l0 a2 a3 52 (-1023) (((a1 : Int) / 9223372036854775808) != 0) (Go.bits .and .i64 (wrap64 ((a1 : Int) / 4503599627370496)) 2047) (Go.bits .or .u64 (Go.bits .and .u64 (a1 : Int) 4503599627370495) 4503599627370496)))) = some r := h
 clear h
 by_cases c5 : (Go.bits .and .i64 (wrap64 ((a1 : Int) / 4503599627370496)) 2047) = 2047
 ·rw [if_pos c5] at H
  have c5b0 := bT c5
  have c5b1 := mF c5
  clear c5
  replace H := nI H
  obtain ⟨c6, H⟩ := H
  have c6b0 := bT c6
  have c6b1 := mF c6
  clear c6
  replace H := nI H
  obtain ⟨c7, H⟩ := H
  exact absurd H (by simp)
 rw [if_neg c5] at H
 have c5b0 := bF c5
 have c5b1 := mT c5
 have HC8 := aM H
 clear H
 go_enter Tryz.func93, Tryz.ntmps93
 try go_wp2
 have n0_ := aM (Kd.R_drew HO0.out)
 have n1_ := aM (Kept.drew HK.out)
 have n2_ := aM (below_drew1 HB.out)
 clear HO0
 clear HK
 clear HB
 have HO0 := n0_
 have HK := n1_
 have HB := n2_
 clear n0_ n1_ n2_
 refine start_ (n := 9) (S := fun w' => True) (ds := []) (bA 9 0) (by kernel_rfl) rfl rfl trivial (fun hHeld => ?_); refine with_tabW strconv_ftoa64.tab14 strconv_ftoa64.bits14 (fun HT_ HW_ => ?_)
 generalize w.drew = w9 at HO0 HK HB hHeld ⊢
 refine pU 0 50 (bA 9 1) ?_
 refine pU 1 51 (bA 9 3) ?_
 refine pU 2 52 (bA 9 7) ?_
 refine pU 3 53 (bA 9 15) ?_
 refine pU 4 54 (bA 9 31) ?_
 refine pU 5 55 (bA 9 63) ?_
 refine pU 6 56 (bA 9 127) ?_
 refine pU 7 57 (bA 9 255) ?_
 refine pU 8 14 (bA 9 511) ?_
 refine done_ (done_of HT_.out (by kernel_rfl)) ?_
 go_upto_if 78 with (fail)
 go_cut [14, 15] (fun v14 v15 wc => ∃ (kq : Nat) (x14_7 : Int) (x15_7 : Int), v14 = .int .i64 x14_7 ∧ v15 = .int .u64 x15_7 ∧ Aside0 (strconv_ftoa64.j0 kq l0 a2 a3 52 (-1023) (((a1 : Int) / 9223372036854775808) != 0) x14_7 x15_7 = some r) ∧ Aside0 (kq ≤ k) ∧ Aside0 (Kd.R (Kd.int .u8) 5 wc w0.heap.size (fun k_ => (P0_ k_ ∨ w.heap.size ≤ k_)) u9000_ l0) ∧ Aside0 (Kept w wc (fun k_ => P0_ k_)) ∧ Aside0 (Below w0.heap.size w0 wc))
 case first =>
  have H := HC8.out
  clear HC8
  by_cases c10 : (Go.bits .and .i64 (wrap64 ((a1 : Int) / 4503599627370496)) 2047) = 0
  ·rw [if_pos c10] at H
   have c10b0 := bT c10
   have c10b1 := mF c10
   clear c10
   (first | rw [c10b0] | (simp only [i64_w, i32_w]; rw [c10b0]) | skip)
   as_aux_lemma =>
    have H' := aM H
    clear H
    go_wp2
    go_meet
    case rel => exact ⟨_, (wrap64 ((Go.bits .and .i64 (wrap64 ((a1 : Int) / 4503599627370496)) 2047) + 1)), (Go.bits .and .u64 (a1 : Int) 4503599627370495), xR, xR, H', ⟨jO⟩, ⟨rO HO0⟩, ⟨kH⟩, ⟨hB⟩⟩
  rw [if_neg c10] at H
  have c10b0 := bF c10
  have c10b1 := mT c10
  (first | rw [c10b0] | (simp only [i64_w, i32_w]; rw [c10b0]) | skip)
  as_aux_lemma =>
   have H' := aM H
   clear H
   go_wp2
   go_meet
   case rel => exact ⟨_, (Go.bits .and .i64 (wrap64 ((a1 : Int) / 4503599627370496)) 2047), (Go.bits .or .u64 (Go.bits .and .u64 (a1 : Int) 4503599627370495) 4503599627370496), xR, xR, H', ⟨jO⟩, ⟨rO HO0⟩, ⟨kH⟩, ⟨hB⟩⟩
 case rest =>
  clear HC8
  obtain ⟨kq, x14_7, x15_7, rfl, rfl, HA, HJ7, HO_0, HK, HB⟩ := hcut
  cases kq with
  | zero => exact absurd HA.out (by simp [strconv_ftoa64.j0])
  | succ kj7 =>
   have H := HA.out
   clear HA
   simp only [strconv_ftoa64.j0] at H
   replace H := nJ H
   obtain ⟨c11, H⟩ := H
   have c11b0 := bF c11
   have c11b1 := mT c11
   have HC12 := aM H
   clear H
   go_upto_region 28 with (fail)
   go_cut [102] (fun v102 wc => ∃ (kq : Nat) (x102_11 : Bool), v102 = .bool x102_11 ∧ Aside0 (strconv_ftoa64.j1 kq l0 a2 a3 52 (((a1 : Int) / 9223372036854775808) != 0) (wrap64 (x14_7 + (-1023))) x15_7 x102_11 = some r) ∧ Aside0 (kq ≤ kj7) ∧ Aside0 (Kd.R (Kd.int .u8) 5 wc w0.heap.size (fun k_ => (P0_ k_ ∨ w.heap.size ≤ k_)) u9000_ l0) ∧ Aside0 (Kept w wc (fun k_ => P0_ k_)) ∧ Aside0 (Below w0.heap.size w0 wc))
   case first =>
    have H := HC12.out
    clear HC12
    by_cases c13 : a2 = 120
    rotate_left
    ·rw [if_neg c13] at H
     have c13b0 := bF c13
     have c13b1 := mT c13
     (first | rw [c13b0] | (simp only [i64_w, i32_w]; rw [c13b0]) | skip)
     as_aux_lemma =>
      have H' := aM H
      clear H
      go_wp2
      go_meet
      case rel => exact ⟨_, ((a2 == 88)), xR, H', ⟨jC⟩, ⟨rO HO_0⟩, ⟨kH⟩, ⟨hB⟩⟩
    rw [if_pos c13] at H
    have c13b0 := bT c13
    have c13b1 := mF c13
    clear c13
    (first | rw [c13b0] | (simp only [i64_w, i32_w]; rw [c13b0]) | skip)
    as_aux_lemma =>
     have H' := aM H
     clear H
     go_wp2
     go_meet
     case rel => exact ⟨_, true, xR, H', ⟨jC⟩, ⟨rO HO_0⟩, ⟨kH⟩, ⟨hB⟩⟩
   case rest =>
    clear HC12
    obtain ⟨kq, x102_11, rfl, HA, HJ11, HO_0, HK, HB⟩ := hcut
    cases kq with
    | zero => exact absurd HA.out (by simp [strconv_ftoa64.j1])
    | succ kj11 =>
     have H := HA.out
     clear HA
     simp only [strconv_ftoa64.j1] at H
     by_cases c14 : x102_11 = true
     rotate_left
     ·replace c14 := nF c14
      subst c14
      replace H := iF H
      replace H := nJ H
      obtain ⟨c18, H⟩ := H
      have c18b0 := bF c18
      have c18b1 := mT c18
      replace H := nI H
      obtain ⟨c19, H⟩ := H
      exact absurd H (by simp)
     subst c14
     replace H := iT H
     replace H := Option.bind_eq_some_iff.mp H
     obtain ⟨t147, A150, H⟩ := H
     replace H : (some t147) = some r := H
     have A15 := aM A150
     clear A150
     as_aux_lemma =>
      obtain rfl := Option.some.inj H
      obtain ⟨Ao16, co16, eo16⟩ := Kd.R_slice HO_0.out
      subst eo16
      go_wp2_with (first | ((with_reducible refine gate_callee (f := 115) rfl ?_); refine goesL_ (some 110) rfl rfl Tryz.func115 (by kernel_rfl) rfl #[.slice Ao16 l0.length co16, .int .i64 a3, .int .u8 a2, .bool (((a1 : Int) / 9223372036854775808) != 0), .int .u64 x15_7, .int .i64 (wrap64 (x14_7 + (-1023))), .int .i64 52] rfl gA ?_; (with_reducible refine (strconv_fmtX.calls kj11 (fun k_ => some k_ = (.slice Ao16 l0.length co16 : Value).ownBlock) (.slice Ao16 l0.length co16) l0 a3 a2 (((a1 : Int) / 9223372036854775808) != 0) x15_7 (wrap64 (x14_7 + (-1023))) 52 t147 w0 _ ?side1 ?side2 A15.out).mono ?_); (case side1 => repeat (first | (with_reducible first | exact HB.out | apply below_alloc | apply pw_below_drewN | apply below_drew1) | exact HB.out)); (case side2 => exact Kd.R_tight rfl HO_0.out); rintro e w17 ⟨v148, rfl, ho0, hb, hkp⟩; refine ⟨_, rfl, ?_⟩; have n0_ := aM (Kd.R_mono (ok' := fun k_ => (P0_ k_ ∨ w.heap.size ≤ k_)) ho0 (fun k_ hk_ => Or.elim hk_ (fun hs_ => (HO_0.out.1 k_ (hs_).symm)) (fun hn_ => (.inr (Nat.le_trans (kF) hn_))))); have n1_ := aM (Kept.then_ (S := (fun k_ => P0_ k_)) (kH) hkp (fun k_ hs_ => (fun e_ => (HO_0.out.1 k_ e_.symm)) hs_)); have n2_ := aM (hb); clear HK; clear HB; clear HO_0; have HO149 := n0_; have HK := n1_; have HB := n2_; clear n0_ n1_ n2_))
      go_ret
      exact ⟨_, eR, by (with_reducible repeat (first | apply Kd.R_alloc | apply Kd.R_drewN | apply Kd.R_drew)); exact HO149.out, hB, kH⟩
end Go.Proofs.YthifejhdmjoolaaGreatDoor.QFx
