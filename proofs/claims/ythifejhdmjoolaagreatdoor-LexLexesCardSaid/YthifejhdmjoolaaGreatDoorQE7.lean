-- WRITTEN BY A PROGRAM OF THE SESSION (wip/myprint.sh): Lean checks it.
import Derived.Test.YthifejhdmjoolaaGreatDoorQE0
namespace Go.Proofs.YthifejhdmjoolaaGreatDoor.QE
open Go.Proofs.YthifejhdmjoolaaGreatDoorG Go.Proofs.YthifejhdmjoolaaGreatDoor.QR
attribute [local go_sem] Instr.field asAgg ext47
open Go.RowKit Go.Proofs.YthifejhdmjoolaaGreatDoorW.PrintWords Go.Proofs.YthifejhdmjoolaaGreatDoorW.PrintLast Go.Proofs.YthifejhdmjoolaaGreatDoorW.PrintMore
attribute [local go_sem] max2_int min2_int max_two min_two max_three min_three max_four min_four   -- for this text's walks alone
set_option linter.unusedVariables false
set_option linter.unusedSimpArgs false
namespace foundryref01_Class
mutual
def j0 : Nat → Int → Int → Bool → Option (Int)
  | 0, _, _, _ => none
  | k + 1, x3, x4, x10 => if x10 = true then (some 1) else (if x3 = 2047 then (some 2) else (if x3 = 0 then (j1 k x3 (x4 == 0)) else (j1 k x3 false)))
def j1 : Nat → Int → Bool → Option (Int)
  | 0, _, _ => none
  | k + 1, x3, x20 => if x20 = true then (some 3) else (if x3 = 0 then (some 4) else (some 5))
end
def f (k : Nat) (a0 : Int) : Option (Int) := if (Go.bits .and .u64 (a0 / 4503599627370496) 2047) = 2047 then (j0 k (Go.bits .and .u64 (a0 / 4503599627370496) 2047) (IntKind.u64.wrap (a0 * 4096)) ((IntKind.u64.wrap (a0 * 4096)) != 0)) else (j0 k (Go.bits .and .u64 (a0 / 4503599627370496) 2047) (IntKind.u64.wrap (a0 * 4096)) false)
theorem mono_l : ∀ k, (∀ y0 y1 y2, LeO (j0 k y0 y1 y2) (j0 (k + 1) y0 y1 y2)) ∧ (∀ y0 y1, LeO (j1 k y0 y1) (j1 (k + 1) y0 y1))
  | 0 => by refine ⟨?_, ?_⟩ <;> (intros; exact LeO.none _)
  | k + 1 => by
    obtain ⟨ih0, ih1⟩ := mono_l k
    refine ⟨?_, ?_⟩ <;> intros <;> first | unfold j0 | unfold j1
    all_goals repeat' first
    | (with_reducible first | apply ih0 | apply ih1 | exact LeO.refl _ | exact LeO.none _ | refine LeO.ite ?_ ?_ | refine LeO.bind ?_ (fun _ => ?_))
    | exact LeO.none _ | refine LeO.ite ?_ ?_ | refine LeO.bind ?_ (fun _ => ?_)
theorem mono : ∀ a0 k, LeO (f k a0) (f (k + 1) a0) := by
  intro a0 k
  obtain ⟨ih0, ih1⟩ := mono_l k
  unfold f
  repeat' first
      | (with_reducible first | apply ih0 | apply ih1 | exact LeO.refl _ | exact LeO.none _ | refine LeO.ite ?_ ?_ | refine LeO.bind ?_ (fun _ => ?_))
      | exact LeO.none _ | refine LeO.ite ?_ ?_ | refine LeO.bind ?_ (fun _ => ?_)
set_option maxHeartbeats 8000000 in
set_option maxRecDepth 100000 in
theorem calls (k : Nat) (a0 : Int) (r : Int) (w : World) (h : f k a0 = some r) :
    Calls Tryz.prog 63 #[.int .u64 a0] w fun e w' => e = .returned (.int .i64 r) ∧ Drawn0 w w' := by
 have H : (if (Go.bits .and .u64 (a0 / 4503599627370496) 2047) = 2047 then (j0 k (Go.bits .and .u64 (a0 / 4503599627370496) 2047) (IntKind.u64.wrap (a0 * 4096)) ((IntKind.u64.wrap (a0 * 4096)) != 0)) else (j0 k (Go.bits .and .u64 (a0 / 4503599627370496) 2047) (IntKind.u64.wrap (a0 * 4096)) false)) = some r := h
 clear h
 have HC2 := aM H
 clear H
 go_enter Tryz.func63, Tryz.ntmps63
 go_upto_region 3 with (fail)
 go_cut [10] (fun v10 wc => ∃ (kq : Nat) (x10_1 : Bool), v10 = .bool x10_1 ∧ Aside0 (j0 kq (Go.bits .and .u64 (a0 / 4503599627370496) 2047) (IntKind.u64.wrap (a0 * 4096)) x10_1 = some r) ∧ Aside0 (kq ≤ k) ∧ Drawn0 w wc)
 case first =>
  have H := HC2.out
  clear HC2
  by_cases c3 : (Go.bits .and .u64 (a0 / 4503599627370496) 2047) = 2047
  rotate_left
  ·rw [if_neg c3] at H
   have c3b0 := bF c3
   have c3b1 := mT c3
   (first | rw [c3b0] | (simp only [i64_w, i32_w]; rw [c3b0]) | skip)
   have H' := aM H
   clear H
   go_wp2
   go_meet
   case rel => exact ⟨_, false, xR, H', ⟨jO⟩, dR⟩
  rw [if_pos c3] at H
  have c3b0 := bT c3
  have c3b1 := mF c3
  clear c3
  (first | rw [c3b0] | (simp only [i64_w, i32_w]; rw [c3b0]) | skip)
  have H' := aM H
  clear H
  go_wp2
  go_meet
  case rel => exact ⟨_, (((IntKind.u64.wrap (a0 * 4096)) != 0)), xR, H', ⟨jO⟩, dR⟩
 case rest =>
  clear HC2
  obtain ⟨kq, x10_1, rfl, HA, HJ1, ⟨mc1, rfl⟩⟩ := hcut
  cases kq with
  | zero => exact absurd HA.out (by simp [j0])
  | succ kj1 =>
   have H := HA.out
   clear HA
   simp only [j0] at H
   by_cases c4 : x10_1 = true
   ·subst c4
    replace H := iT H
    obtain rfl := Option.some.inj H
    go_wp2
    go_ret
    exact ⟨xR, dR⟩
   replace c4 := nF c4
   subst c4
   replace H := iF H
   by_cases c5 : (Go.bits .and .u64 (a0 / 4503599627370496) 2047) = 2047
   ·rw [if_pos c5] at H
    have c5b0 := bT c5
    have c5b1 := mF c5
    clear c5
    obtain rfl := Option.some.inj H
    go_wp2
    go_ret
    exact ⟨xR, dR⟩
   rw [if_neg c5] at H
   have c5b0 := bF c5
   have c5b1 := mT c5
   have HC6 := aM H
   clear H
   go_upto_region 7 with (fail)
   go_cut [20] (fun v20 wc => ∃ (kq : Nat) (x20_5 : Bool), v20 = .bool x20_5 ∧ Aside0 (j1 kq (Go.bits .and .u64 (a0 / 4503599627370496) 2047) x20_5 = some r) ∧ Aside0 (kq ≤ kj1) ∧ Drawn0 w wc)
   case first =>
    have H := HC6.out
    clear HC6
    by_cases c7 : (Go.bits .and .u64 (a0 / 4503599627370496) 2047) = 0
    rotate_left
    ·rw [if_neg c7] at H
     have c7b0 := bF c7
     have c7b1 := mT c7
     (first | rw [c7b0] | (simp only [i64_w, i32_w]; rw [c7b0]) | skip)
     have H' := aM H
     clear H
     go_wp2
     go_meet
     case rel => exact ⟨_, false, xR, H', ⟨jC⟩, dR⟩
    rw [if_pos c7] at H
    have c7b0 := bT c7
    have c7b1 := mF c7
    clear c7
    (first | rw [c7b0] | (simp only [i64_w, i32_w]; rw [c7b0]) | skip)
    have H' := aM H
    clear H
    go_wp2
    go_meet
    case rel => exact ⟨_, (((IntKind.u64.wrap (a0 * 4096)) == 0)), xR, H', ⟨jC⟩, dR⟩
   case rest =>
    clear HC6
    obtain ⟨kq, x20_5, rfl, HA, HJ5, ⟨mc5, rfl⟩⟩ := hcut
    cases kq with
    | zero => exact absurd HA.out (by simp [j1])
    | succ kj5 =>
     have H := HA.out
     clear HA
     simp only [j1] at H
     by_cases c8 : x20_5 = true
     ·subst c8
      replace H := iT H
      obtain rfl := Option.some.inj H
      go_wp2
      go_ret
      exact ⟨xR, dR⟩
     replace c8 := nF c8
     subst c8
     replace H := iF H
     by_cases c9 : (Go.bits .and .u64 (a0 / 4503599627370496) 2047) = 0
     rotate_left
     ·rw [if_neg c9] at H
      have c9b0 := bF c9
      have c9b1 := mT c9
      obtain rfl := Option.some.inj H
      go_wp2
      go_ret
      exact ⟨xR, dR⟩
     rw [if_pos c9] at H
     have c9b0 := bT c9
     have c9b1 := mF c9
     clear c9
     obtain rfl := Option.some.inj H
     go_wp2
     go_ret
     exact ⟨xR, dR⟩
end foundryref01_Class
namespace foundryref01_Parts
def f (k : Nat) (a0 : Int) : Option (Bool × Int × Int) := (foundryref01_Class.f k a0).bind fun t157 => (if t157 = 1 then (some (false, 0, 0)) else (if t157 = 2 then (some (((a0 / 9223372036854775808) == 1), 0, 0)) else (if t157 = 5 then (some (((a0 / 9223372036854775808) == 1), Go.bits .or .u64 (Go.bits .and .u64 a0 4503599627370495) 4503599627370496, wrap64 ((wrap64 (Go.bits .and .u64 (a0 / 4503599627370496) 2047)) - 1075))) else (some (((a0 / 9223372036854775808) == 1), Go.bits .and .u64 a0 4503599627370495, (-1074))))))
theorem mono : ∀ a0 k, LeO (f k a0) (f (k + 1) a0) := by
  intro a0 k
  unfold f
  repeat' first
      | (with_reducible first | apply foundryref01_Class.mono | exact LeO.refl _ | exact LeO.none _ | refine LeO.ite ?_ ?_ | refine LeO.bind ?_ (fun _ => ?_))
      | exact LeO.none _ | refine LeO.ite ?_ ?_ | refine LeO.bind ?_ (fun _ => ?_)
set_option maxHeartbeats 8000000 in
set_option maxRecDepth 100000 in
theorem calls (k : Nat) (a0 : Int) (r1 : Bool) (r2 : Int) (r3 : Int) (w : World) (h : f k a0 = some (r1, r2, r3)) :
    Calls Tryz.prog 64 #[.int .u64 a0] w fun e w' => e = .returned (.tuple #[.bool r1, .int .u64 r2, .int .i64 r3]) ∧ Drawn0 w w' := by
 have H : ((foundryref01_Class.f k a0).bind fun t157 => (if t157 = 1 then (some (false, 0, 0)) else (if t157 = 2 then (some (((a0 / 9223372036854775808) == 1), 0, 0)) else (if t157 = 5 then (some (((a0 / 9223372036854775808) == 1), Go.bits .or .u64 (Go.bits .and .u64 a0 4503599627370495) 4503599627370496, wrap64 ((wrap64 (Go.bits .and .u64 (a0 / 4503599627370496) 2047)) - 1075))) else (some (((a0 / 9223372036854775808) == 1), Go.bits .and .u64 a0 4503599627370495, (-1074))))))) = some (r1, r2, r3) := h
 clear h
 replace H := Option.bind_eq_some_iff.mp H
 obtain ⟨t157, A20, H⟩ := H
 replace H : (if t157 = 1 then (some (false, 0, 0)) else (if t157 = 2 then (some (((a0 / 9223372036854775808) == 1), 0, 0)) else (if t157 = 5 then (some (((a0 / 9223372036854775808) == 1), Go.bits .or .u64 (Go.bits .and .u64 a0 4503599627370495) 4503599627370496, wrap64 ((wrap64 (Go.bits .and .u64 (a0 / 4503599627370496) 2047)) - 1075))) else (some (((a0 / 9223372036854775808) == 1), Go.bits .and .u64 a0 4503599627370495, (-1074)))))) = some (r1, r2, r3) := H
 have A2 := aM A20
 clear A20
 by_cases c3 : t157 = 1
 ·rw [if_pos c3] at H
  have c3b0 := bT c3
  have c3b1 := mF c3
  clear c3
  simp only [Option.some.injEq, Prod.mk.injEq] at H
  obtain ⟨rfl, rfl, rfl⟩ := H
  go_enter Tryz.func64, Tryz.ntmps64
  go_wp2_with (first | ((with_reducible refine gate_callee (f := 63) rfl ?_); refine goesL_ (some 14) rfl rfl Tryz.func63 (by kernel_rfl) rfl #[.int .u64 a0] rfl gA ?_; (with_reducible refine (foundryref01_Class.calls k a0 t157 _ A2.out).mono ?_); rintro e w' ⟨rfl, ⟨nd, rfl⟩⟩; refine ⟨_, rfl, ?_⟩))
  go_ret3
  exact ⟨xR, dR⟩
 rw [if_neg c3] at H
 have c3b0 := bF c3
 have c3b1 := mT c3
 by_cases c4 : t157 = 2
 ·rw [if_pos c4] at H
  have c4b0 := bT c4
  have c4b1 := mF c4
  clear c4
  simp only [Option.some.injEq, Prod.mk.injEq] at H
  obtain ⟨rfl, rfl, rfl⟩ := H
  go_enter Tryz.func64, Tryz.ntmps64
  go_wp2_with (first | ((with_reducible refine gate_callee (f := 63) rfl ?_); refine goesL_ (some 14) rfl rfl Tryz.func63 (by kernel_rfl) rfl #[.int .u64 a0] rfl gA ?_; (with_reducible refine (foundryref01_Class.calls k a0 t157 _ A2.out).mono ?_); rintro e w' ⟨rfl, ⟨nd, rfl⟩⟩; refine ⟨_, rfl, ?_⟩))
  go_ret3
  exact ⟨xR, dR⟩
 rw [if_neg c4] at H
 have c4b0 := bF c4
 have c4b1 := mT c4
 by_cases c5 : t157 = 5
 rotate_left
 ·rw [if_neg c5] at H
  have c5b0 := bF c5
  have c5b1 := mT c5
  simp only [Option.some.injEq, Prod.mk.injEq] at H
  obtain ⟨rfl, rfl, rfl⟩ := H
  go_enter Tryz.func64, Tryz.ntmps64
  go_wp2_with (first | ((with_reducible refine gate_callee (f := 63) rfl ?_); refine goesL_ (some 14) rfl rfl Tryz.func63 (by kernel_rfl) rfl #[.int .u64 a0] rfl gA ?_; (with_reducible refine (foundryref01_Class.calls k a0 t157 _ A2.out).mono ?_); rintro e w' ⟨rfl, ⟨nd, rfl⟩⟩; refine ⟨_, rfl, ?_⟩))
  go_ret3
  exact ⟨xR, dR⟩
 rw [if_pos c5] at H
 have c5b0 := bT c5
 have c5b1 := mF c5
 clear c5
 simp only [Option.some.injEq, Prod.mk.injEq] at H
 obtain ⟨rfl, rfl, rfl⟩ := H
 go_enter Tryz.func64, Tryz.ntmps64
 go_wp2_with (first | ((with_reducible refine gate_callee (f := 63) rfl ?_); refine goesL_ (some 14) rfl rfl Tryz.func63 (by kernel_rfl) rfl #[.int .u64 a0] rfl gA ?_; (with_reducible refine (foundryref01_Class.calls k a0 t157 _ A2.out).mono ?_); rintro e w' ⟨rfl, ⟨nd, rfl⟩⟩; refine ⟨_, rfl, ?_⟩))
 go_ret3
 exact ⟨xR, dR⟩
end foundryref01_Parts
namespace foundryref01_decimal
def f : Nat → Int → Option (ByteArray)
  | 0, _ => none
  | k + 1, a0 => if a0 < 10 then (some (strOfNums (([(wrap64 (48 + a0)) % 256] : List Int)))) else ((f k (wrap64 (Int.tdiv a0 10))).bind fun t161 => ((some (([(wrap64 (48 + (Int.tmod a0 10))) % 256] : List Int) : List Int)).bind fun y162 => (if t161.size + (strOfNums y162).size ≤ 9223372036854775807 then (some (t161 ++ (strOfNums y162))) else (none))))
theorem mono_l : ∀ k, (∀ y0, LeO (f k y0) (f (k + 1) y0))
  | 0 => fun _ r h => by simp [f] at h
  | k + 1 => by
    have ih0 := mono_l k
    · intro y0
      unfold f
      repeat' first
      | (with_reducible first | apply ih0 | exact LeO.refl _ | exact LeO.none _ | refine LeO.ite ?_ ?_ | refine LeO.bind ?_ (fun _ => ?_))
      | exact LeO.none _ | refine LeO.ite ?_ ?_ | refine LeO.bind ?_ (fun _ => ?_)
theorem mono : ∀ a0 k, LeO (f k a0) (f (k + 1) a0) := by
  intro a0 k
  have ih0 := mono_l k
  exact ih0 a0
def foundryref01_decimal.T3 : Bool × List (List Nat × List Nat) := (true, [([], []), ([0], [0]), ([1], [1]), ([], []), ([3], [3]), ([4], [4]), ([5], [5]), ([6], [6]), ([7], [7]), ([2, 8], [2, 8]), ([9, 2, 0, 1, 2, 3, 4, 5, 6, 7, 8, 9], [9])])
def foundryref01_decimal.B3 : List Nat := [0, 1, 3, 0, 8, 24, 56, 120, 248, 511, 1023]
theorem tab3 : rtab .any (opsOf Tryz.f65 3) = foundryref01_decimal.T3 := by kernel_rfl
theorem bits3 : waitsOk foundryref01_decimal.T3.2 foundryref01_decimal.B3 = true := by kernel_rfl
set_option maxHeartbeats 8000000 in
set_option maxRecDepth 100000 in
theorem calls (k : Nat) : ∀ (a0 : Int) (r : ByteArray) (w : World) (h : f k a0 = some r),
    Calls Tryz.prog 65 #[.int .i64 a0] w fun e w' => e = .returned (.string r) ∧ Below w.heap.size w w' := by
 induction k using Nat.strongRecOn with
 | _ k ih =>
 intro a0 r w h
 cases k with
 | zero => exact absurd h (by simp [f])
 | succ k =>
 simp only [f] at h
 have HB := aM (Below.refl w.heap.size w)
 have H : (if a0 < 10 then (some (strOfNums (([(wrap64 (48 + a0)) % 256] : List Int)))) else ((f k (wrap64 (Int.tdiv a0 10))).bind fun t161 => ((some (([(wrap64 (48 + (Int.tmod a0 10))) % 256] : List Int) : List Int)).bind fun y162 => (if t161.size + (strOfNums y162).size ≤ 9223372036854775807 then (some (t161 ++ (strOfNums y162))) else (none))))) = some r := h
 clear h
 by_cases c2 : a0 < 10
 ·rw [if_pos c2] at H
  have c2b0 := dT c2
  clear c2
  obtain ⟨y158, hy158⟩ : ∃ y_ : List Int, y_ = (([(wrap64 (48 + a0)) % 256] : List Int)) := ⟨_, rfl⟩
  replace H : (some (strOfNums y158)) = some r := by first | (rw [hy158]; with_reducible exact H) | (have H2_ := (Option.bind_some _ _).symm.trans H; rw [hy158]; with_reducible exact H2_) | (have H2_ := (Option.bind_some _ _).symm.trans H; with_reducible exact H2_) | with_reducible exact H | (rw [hy158]; exact H) | exact H
  have Ny158 := aM hy158
  clear hy158
  obtain rfl := Option.some.inj H
  go_enter Tryz.func65, Tryz.ntmps65
  go_wp2_with (first | ((with_reducible refine gate_dst (N := 8) rfl ?_); refine Kd.R_lit (Kd.int .u8) _ 5 ?hg (N := 8) ?hd (xs := ([(wrap64 (48 + a0)) % 256] : List Int)) (inner := [.int .u8 ((wrap64 (48 + a0)) % 256)]) (ok := fun _ => True) (okp := fun _ => True) ?hr ?hp (fun _ hk => hk) trivial (Below.refl _ _) (Nat.le_refl _) (by simp) ?_; (case hd => rfl); (case hg => rfl); (case hr => first | (go_simp; done) | (go_simp; rfl)); (case hp => exact (Reps.one (show Kd.M (Kd.int .u8) _ _ _ ((wrap64 (48 + a0)) % 256) [.int .u8 ((wrap64 (48 + a0)) % 256)] from rfl) (Reps.none _ _))); intro v159 w3 ho4 hb hg_ hnew_; clear hg_ hnew_; (first | rw [← Ny158.out] at ho4 | (simp only [Int.reduceToNat] at ho4; rw [← Ny158.out] at ho4)); have n0_ := aM (Kd.R_lower ho4 (below_size (hB))); have n1_ := aM (below_step (hB) hb); clear HB; have HO160 := n0_; have HB := n1_; clear n0_ n1_; clear hb ho4; have hcv5 := own_string (P := Tryz.prog) Tryz.underlying82 Tryz.underlying5 Tryz.underlying9 (Kd.own_of_R HO160.out)))
  go_ret
  exact ⟨eR, hB⟩
 rw [if_neg c2] at H
 have c2b0 := dF c2
 clear c2
 replace H := Option.bind_eq_some_iff.mp H
 obtain ⟨t161, A60, H⟩ := H
 replace H : ((some (([(wrap64 (48 + (Int.tmod a0 10))) % 256] : List Int) : List Int)).bind fun y162 => (if t161.size + (strOfNums y162).size ≤ 9223372036854775807 then (some (t161 ++ (strOfNums y162))) else (none))) = some r := H
 have A6 := aM A60
 clear A60
 obtain ⟨y162, hy162⟩ : ∃ y_ : List Int, y_ = (([(wrap64 (48 + (Int.tmod a0 10))) % 256] : List Int)) := ⟨_, rfl⟩
 replace H : (if t161.size + (strOfNums y162).size ≤ 9223372036854775807 then (some (t161 ++ (strOfNums y162))) else (none)) = some r := by first | (rw [hy162]; with_reducible exact H) | (have H2_ := (Option.bind_some _ _).symm.trans H; rw [hy162]; with_reducible exact H2_) | (have H2_ := (Option.bind_some _ _).symm.trans H; with_reducible exact H2_) | with_reducible exact H | (rw [hy162]; exact H) | exact H
 have Ny162 := aM hy162
 clear hy162
 replace H := nI H
 obtain ⟨c7, H⟩ := H
 have c7b0 := eq_true c7
 have c7b1 := dT c7
 try have c7b2 : (9223372036854775807 < t161.size + (strOfNums y162).size) = False := eq_false (Nat.not_lt.2 c7)
 obtain rfl := Option.some.inj H
 go_enter Tryz.func65, Tryz.ntmps65
 try go_wp2
 have n0_ := aM (below_drew1 HB.out)
 clear HB
 have HB := n0_
 clear n0_
 refine start_ (n := 11) (S := fun w' => True) (ds := []) (bA 11 0) (by kernel_rfl) rfl rfl trivial (fun hHeld => ?_); refine with_tabW tab3 bits3 (fun HT_ HW_ => ?_)
 generalize w.drew = w8 at HB hHeld ⊢
 refine pU 0 10 (bA 11 1) ?_
 refine pU 1 11 (bA 11 3) ?_
 refine pU 3 13 (bA 11 11) ?_
 refine pU 4 14 (bA 11 27) ?_
 refine pU 5 15 (bA 11 59) ?_
 refine pU 6 16 (bA 11 123) ?_
 refine join_ (σ := Value) 2 (bA 11 511) (fun s_ => [(12, .string t161), (17, s_), (18, .string (strOfNums y162))]) (fun s_ w' => (Kd.R (Kd.int .u8) 5 w' w.heap.size (fun _ => True) s_ y162) ∧ (Below w.heap.size w w')) ?_ ?_
 rotate_left
 ·intro hCont
  refine two_ (i := 2) (j := 7) (Ni := some 12) (Nj := some 17) (bA 11 127) (bA 11 251) rfl rfl rfl rfl (two_of HT_.out (by kernel_rfl)) (by decide) (by decide) (fun K hK => ?_) (fun K hK => ?_)
  ·skip
   refine goes_ Tryz.func65 (by kernel_rfl) rfl #[.int .i64 (wrap64 (Int.tdiv a0 10))] (by rfl) rfl rfl gA ?_
   with_reducible refine (ih k (by omega) (wrap64 (Int.tdiv a0 10)) t161 _ A6.out).mono ?_
   rintro e w9 ⟨rfl, hb⟩
   refine ⟨_, rfl, ?_⟩
   have n0_ := aM (below_step (hB) hb)
   clear HB
   have HB := n0_
   clear n0_
   refine hK.out _ _ trivial (fun hHeld => ?_)
   clear hK K
   refine norm_ (a' := ?_) ?_ ?_
   rotate_left
   ·show Act.put _ (some 12) _ = _
    simp only [aP]
    rfl
   refine one_ (i := 7) (N := some 17) (bA 11 255) rfl rfl (one_of HT_.out (by kernel_rfl)) (by decide) (fun K hK => ?_)
   refine Kd.R_lit_step (Kd.int .u8) _ 5 ?hg (N := 17) ?hd (xs := ([(wrap64 (48 + (Int.tmod a0 10))) % 256] : List Int)) (inner := [.int .u8 ((wrap64 (48 + (Int.tmod a0 10))) % 256)]) (ok := fun _ => True) (okp := fun _ => True) ?hr ?hp (fun _ hk => hk) trivial (Below.refl _ _) (Nat.le_refl _) (by simp) ?_; (case hd => rfl); (case hg => rfl); (case hr => first | (go_simp; done) | (go_simp; rfl)); (case hp => exact (Reps.one (show Kd.M (Kd.int .u8) _ _ _ ((wrap64 (48 + (Int.tmod a0 10))) % 256) [.int .u8 ((wrap64 (48 + (Int.tmod a0 10))) % 256)] from rfl) (Reps.none _ _)))
   intro v163 w10 ho11 hb hg_ hnew_
   clear hg_ hnew_
   (first | rw [← Ny162.out] at ho11 | (simp only [Int.reduceToNat] at ho11; rw [← Ny162.out] at ho11))
   have n0_ := aM (Kd.R_lower ho11 (below_size (hB)))
   have n1_ := aM (below_step (hB) hb)
   clear HB
   have HO164 := n0_
   have HB := n1_
   clear n0_ n1_
   clear hb ho11
   refine hK.out _ _ trivial (fun hHeld => ?_)
   clear hK K
   refine norm_ (a' := ?_) ?_ ?_
   rotate_left
   ·show Act.put _ (some 17) _ = _
    simp only [aP]
    rfl
   refine one_ (i := 8) (N := some 18) (bA 11 511) rfl rfl (one_of HT_.out (by kernel_rfl)) (by decide) (fun K hK => ?_)
   have hcv12 := own_string (P := Tryz.prog) Tryz.underlying82 Tryz.underlying5 Tryz.underlying9 (Kd.own_of_R HO164.out)
   refine value_ (w1 := ?_) (v := ?_) (by rfl) rfl ?_ ?_
   rotate_left 2
   ·go_simp
    constructor
    ·rfl
    ·rfl
   clear hcv12
   refine hK.out _ _ trivial (fun hHeld => ?_)
   clear hK K
   refine norm_ (a' := ?_) ?_ ?_
   rotate_left
   ·show Act.put _ (some 18) _ = _
    simp only [aP]
    rfl
   exact norm_ (by simp only [putAll, Act.put, List.setIfInBounds_toArray, List.set_cons_zero, List.set_cons_succ]) (hCont (v163) _ ⟨(rO HO164), hB⟩)
  ·skip
   refine Kd.R_lit_step (Kd.int .u8) _ 5 ?hg (N := 17) ?hd (xs := ([(wrap64 (48 + (Int.tmod a0 10))) % 256] : List Int)) (inner := [.int .u8 ((wrap64 (48 + (Int.tmod a0 10))) % 256)]) (ok := fun _ => True) (okp := fun _ => True) ?hr ?hp (fun _ hk => hk) trivial (Below.refl _ _) (Nat.le_refl _) (by simp) ?_; (case hd => rfl); (case hg => rfl); (case hr => first | (go_simp; done) | (go_simp; rfl)); (case hp => exact (Reps.one (show Kd.M (Kd.int .u8) _ _ _ ((wrap64 (48 + (Int.tmod a0 10))) % 256) [.int .u8 ((wrap64 (48 + (Int.tmod a0 10))) % 256)] from rfl) (Reps.none _ _)))
   intro v163 w9 ho10 hb hg_ hnew_
   clear hg_ hnew_
   (first | rw [← Ny162.out] at ho10 | (simp only [Int.reduceToNat] at ho10; rw [← Ny162.out] at ho10))
   have n0_ := aM (Kd.R_lower ho10 (below_size (hB)))
   have n1_ := aM (below_step (hB) hb)
   clear HB
   have HO164 := n0_
   have HB := n1_
   clear n0_ n1_
   clear hb ho10
   refine hK.out _ _ trivial (fun hHeld => ?_)
   clear hK K
   refine norm_ (a' := ?_) ?_ ?_
   rotate_left
   ·show Act.put _ (some 17) _ = _
    simp only [aP]
    rfl
   refine two_ (i := 2) (j := 8) (Ni := some 12) (Nj := some 18) (bA 11 255) (bA 11 507) rfl rfl rfl rfl (two_of HT_.out (by kernel_rfl)) (by decide) (by decide) (fun K hK => ?_) (fun K hK => ?_)
   ·skip
    refine goes_ Tryz.func65 (by kernel_rfl) rfl #[.int .i64 (wrap64 (Int.tdiv a0 10))] (by rfl) rfl rfl gA ?_
    with_reducible refine (ih k (by omega) (wrap64 (Int.tdiv a0 10)) t161 _ A6.out).mono ?_
    rintro e w11 ⟨rfl, hb⟩
    refine ⟨_, rfl, ?_⟩
    have n0_ := aM (Kd.R_below (rO HO164) hb)
    have n1_ := aM (below_step (hB) hb)
    clear HO164
    clear HB
    have HO164 := n0_
    have HB := n1_
    clear n0_ n1_
    refine hK.out _ _ trivial (fun hHeld => ?_)
    clear hK K
    refine norm_ (a' := ?_) ?_ ?_
    rotate_left
    ·show Act.put _ (some 12) _ = _
     simp only [aP]
     rfl
    refine one_ (i := 8) (N := some 18) (bA 11 511) rfl rfl (one_of HT_.out (by kernel_rfl)) (by decide) (fun K hK => ?_)
    have hcv12 := own_string (P := Tryz.prog) Tryz.underlying82 Tryz.underlying5 Tryz.underlying9 (Kd.own_of_R HO164.out)
    refine value_ (w1 := ?_) (v := ?_) (by rfl) rfl ?_ ?_
    rotate_left 2
    ·go_simp
     constructor
     ·rfl
     ·rfl
    clear hcv12
    refine hK.out _ _ trivial (fun hHeld => ?_)
    clear hK K
    refine norm_ (a' := ?_) ?_ ?_
    rotate_left
    ·show Act.put _ (some 18) _ = _
     simp only [aP]
     rfl
    exact norm_ (by simp only [putAll, Act.put, List.setIfInBounds_toArray, List.set_cons_zero, List.set_cons_succ]) (hCont (v163) _ ⟨(rO HO164), hB⟩)
   ·skip
    have hcv11 := own_string (P := Tryz.prog) Tryz.underlying82 Tryz.underlying5 Tryz.underlying9 (Kd.own_of_R HO164.out)
    refine value_ (w1 := ?_) (v := ?_) (by rfl) rfl ?_ ?_
    rotate_left 2
    ·go_simp
     constructor
     ·rfl
     ·rfl
    clear hcv11
    refine hK.out _ _ trivial (fun hHeld => ?_)
    clear hK K
    refine norm_ (a' := ?_) ?_ ?_
    rotate_left
    ·show Act.put _ (some 18) _ = _
     simp only [aP]
     rfl
    refine one_ (i := 2) (N := some 12) (bA 11 511) rfl rfl (one_of HT_.out (by kernel_rfl)) (by decide) (fun K hK => ?_)
    refine goes_ Tryz.func65 (by kernel_rfl) rfl #[.int .i64 (wrap64 (Int.tdiv a0 10))] (by rfl) rfl rfl gA ?_
    with_reducible refine (ih k (by omega) (wrap64 (Int.tdiv a0 10)) t161 _ A6.out).mono ?_
    rintro e w12 ⟨rfl, hb⟩
    refine ⟨_, rfl, ?_⟩
    have n0_ := aM (Kd.R_below (rO HO164) hb)
    have n1_ := aM (below_step (hB) hb)
    clear HO164
    clear HB
    have HO164 := n0_
    have HB := n1_
    clear n0_ n1_
    refine hK.out _ _ trivial (fun hHeld => ?_)
    clear hK K
    refine norm_ (a' := ?_) ?_ ?_
    rotate_left
    ·show Act.put _ (some 12) _ = _
     simp only [aP]
     rfl
    exact norm_ (by simp only [putAll, Act.put, List.setIfInBounds_toArray, List.set_cons_zero, List.set_cons_succ]) (hCont (v163) _ ⟨(rO HO164), hB⟩)
 rintro v163 w13 ⟨h0_, h1_⟩
 have n0_ : Aside0 (Kd.R (Kd.int .u8) 5 w13 w.heap.size (fun _ => True) v163 y162) := ⟨h0_⟩
 have n1_ : Aside0 (Below w.heap.size w w13) := ⟨h1_⟩
 clear HB
 clear h0_ h1_
 have HO164 := n0_
 have HB := n1_
 clear n0_ n1_
 have hHeld := trivial
 refine norm_ (a' := ?_) ?_ ?_
 rotate_left
 ·simp only [putAll, Act.put, List.setIfInBounds_toArray, List.set_cons_zero, List.set_cons_succ]
  rfl
 refine pU 9 19 (bA 11 1023) ?_
 refine pU 10 2 (bA 11 2047) ?_
 refine done_ (done_of HT_.out (by kernel_rfl)) ?_
 try go_wp2
 go_ret
 exact ⟨eR, hB⟩
end foundryref01_decimal
end Go.Proofs.YthifejhdmjoolaaGreatDoor.QE
