-- WRITTEN BY A PROGRAM OF THE SESSION (wip/myprint.sh): Lean checks it.
import Derived.Test.YthifejhdmjoolaaGreatDoorQFx0
import Derived.Test.YthifejhdmjoolaaGreatDoorQFx1
namespace Go.Proofs.YthifejhdmjoolaaGreatDoor.QFx
open Go.Proofs.YthifejhdmjoolaaGreatDoorG
attribute [local go_sem] ext113
open Go.RowKit Go.Proofs.YthifejhdmjoolaaGreatDoorW.PrintWords Go.Proofs.YthifejhdmjoolaaGreatDoorW.PrintLast Go.Proofs.YthifejhdmjoolaaGreatDoorW.PrintMore
attribute [local go_sem] max2_int min2_int max_two min_two max_three min_three max_four min_four   -- for this text's walks alone
set_option linter.unusedVariables false
set_option linter.unusedSimpArgs false
/-! ### strconv_fmtX: function 115 -/
mutual
def strconv_fmtX.j0 : Nat → List Int → Int → Int → Bool → Int → Int → Int → Option (List Int)
  | 0, _, _, _, _, _, _, _ => none
  | k + 1, x0, x1, x2, x3, x4, x5, x6 => if 0 ≤ (wrap64 (60 - x6)) then (strconv_fmtX.l0 k x0 x1 x2 x3 (shl .u64 x4 (wrap64 (60 - x6))) x5) else (none)
def strconv_fmtX.j2 : Nat → List Int → Int → Int → Bool → Int → Int → Option (List Int)
  | 0, _, _, _, _, _, _ => none
  | k + 1, x0, x1, x2, x3, x4, x5 => if x1 ≥ 0 then (strconv_fmtX.j3 k x0 x1 x2 x3 x4 x5 (decide (x1 < 15))) else (strconv_fmtX.j3 k x0 x1 x2 x3 x4 x5 false)
def strconv_fmtX.j3 : Nat → List Int → Int → Int → Bool → Int → Int → Bool → Option (List Int)
  | 0, _, _, _, _, _, _, _ => none
  | k + 1, x0, x1, x2, x3, x4, x5, x42 => if x42 = true then (if 0 ≤ (IntKind.u64.wrap (wrap64 (x1 * 4))) then (if 0 ≤ (IntKind.u64.wrap (60 - (IntKind.u64.wrap (wrap64 (x1 * 4))))) then (if (Go.bits .or .u64 (Go.bits .and .u64 (shl .u64 x4 (IntKind.u64.wrap (wrap64 (x1 * 4)))) 1152921504606846975) (Go.bits .and .u64 (shr .u64 x4 (IntKind.u64.wrap (60 - (IntKind.u64.wrap (wrap64 (x1 * 4)))))) 1)) > 576460752303423488 then (if (Go.bits .and .u64 (shl .u64 (IntKind.u64.wrap ((shr .u64 x4 (IntKind.u64.wrap (60 - (IntKind.u64.wrap (wrap64 (x1 * 4)))))) + 1)) (IntKind.u64.wrap (60 - (IntKind.u64.wrap (wrap64 (x1 * 4)))))) 2305843009213693952) = 0 then (strconv_fmtX.j4 k x0 x1 x2 x3 (shl .u64 (IntKind.u64.wrap ((shr .u64 x4 (IntKind.u64.wrap (60 - (IntKind.u64.wrap (wrap64 (x1 * 4)))))) + 1)) (IntKind.u64.wrap (60 - (IntKind.u64.wrap (wrap64 (x1 * 4)))))) x5) else (strconv_fmtX.j4 k x0 x1 x2 x3 ((shl .u64 (IntKind.u64.wrap ((shr .u64 x4 (IntKind.u64.wrap (60 - (IntKind.u64.wrap (wrap64 (x1 * 4)))))) + 1)) (IntKind.u64.wrap (60 - (IntKind.u64.wrap (wrap64 (x1 * 4)))))) / 2) (wrap64 (x5 + 1)))) else (if (Go.bits .and .u64 (shl .u64 (shr .u64 x4 (IntKind.u64.wrap (60 - (IntKind.u64.wrap (wrap64 (x1 * 4)))))) (IntKind.u64.wrap (60 - (IntKind.u64.wrap (wrap64 (x1 * 4)))))) 2305843009213693952) = 0 then (strconv_fmtX.j4 k x0 x1 x2 x3 (shl .u64 (shr .u64 x4 (IntKind.u64.wrap (60 - (IntKind.u64.wrap (wrap64 (x1 * 4)))))) (IntKind.u64.wrap (60 - (IntKind.u64.wrap (wrap64 (x1 * 4)))))) x5) else (strconv_fmtX.j4 k x0 x1 x2 x3 ((shl .u64 (shr .u64 x4 (IntKind.u64.wrap (60 - (IntKind.u64.wrap (wrap64 (x1 * 4)))))) (IntKind.u64.wrap (60 - (IntKind.u64.wrap (wrap64 (x1 * 4)))))) / 2) (wrap64 (x5 + 1))))) else (none)) else (none)) else (strconv_fmtX.j4 k x0 x1 x2 x3 x4 x5)
def strconv_fmtX.j4 : Nat → List Int → Int → Int → Bool → Int → Int → Option (List Int)
  | 0, _, _, _, _, _, _ => none
  | k + 1, x0, x1, x2, x3, x4, x5 => if x2 = 88 then (strconv_fmtX.j5 k x0 x1 x2 x3 x4 x5 (⟨#[48, 49, 50, 51, 52, 53, 54, 55, 56, 57, 65, 66, 67, 68, 69, 70]⟩ : ByteArray)) else (strconv_fmtX.j5 k x0 x1 x2 x3 x4 x5 (⟨#[48, 49, 50, 51, 52, 53, 54, 55, 56, 57, 97, 98, 99, 100, 101, 102]⟩ : ByteArray))
def strconv_fmtX.j5 : Nat → List Int → Int → Int → Bool → Int → Int → ByteArray → Option (List Int)
  | 0, _, _, _, _, _, _, _ => none
  | k + 1, x0, x1, x2, x3, x4, x5, x17 => if x3 = true then (if x0.length < 140737488355328 then (strconv_fmtX.j6 k (x0 ++ [45]) x1 x2 x4 x5 x17) else (none)) else (strconv_fmtX.j6 k x0 x1 x2 x4 x5 x17)
def strconv_fmtX.j6 : Nat → List Int → Int → Int → Int → Int → ByteArray → Option (List Int)
  | 0, _, _, _, _, _, _ => none
  | k + 1, x0, x1, x2, x4, x5, x17 => (some (([48, x2, (48 + ((Go.bits .and .u64 (x4 / 1152921504606846976) 1) % 256)) % 256] : List Int) : List Int)).bind fun y104 => (if x0.length + y104.length < 140737488355328 then ((some (x0 ++ y104 : List Int)).bind fun y107 => (if x1 < 0 then (strconv_fmtX.j7 k y107 x1 x2 (IntKind.u64.wrap (x4 * 16)) x5 x17 ((IntKind.u64.wrap (x4 * 16)) != 0)) else (strconv_fmtX.j7 k y107 x1 x2 (IntKind.u64.wrap (x4 * 16)) x5 x17 false))) else (none))
def strconv_fmtX.j7 : Nat → List Int → Int → Int → Int → Int → ByteArray → Bool → Option (List Int)
  | 0, _, _, _, _, _, _, _ => none
  | k + 1, x0, x1, x2, x4, x5, x17, x94 => if x94 = true then (if x0.length < 140737488355328 then (strconv_fmtX.l1 k (x0 ++ [46]) x2 x4 x5 x17) else (none)) else (if x1 > 0 then (if x0.length < 140737488355328 then (strconv_fmtX.l2 k (x0 ++ [46]) x1 x2 x4 x5 x17 0) else (none)) else (strconv_fmtX.j10 k x0 x2 x5))
def strconv_fmtX.j10 : Nat → List Int → Int → Int → Option (List Int)
  | 0, _, _, _ => none
  | k + 1, x0, x2, x5 => (strconv_lower.f x2).bind fun t122 => (if x2 = t122 then (strconv_fmtX.j11 k x0 x5 112) else (strconv_fmtX.j11 k x0 x5 80))
def strconv_fmtX.j11 : Nat → List Int → Int → Int → Option (List Int)
  | 0, _, _, _ => none
  | k + 1, x0, x5, x19 => if x0.length < 140737488355328 then ((some (x0 ++ [x19] : List Int)).bind fun y123 => (if x5 < 0 then (strconv_fmtX.j12 k y123 (wrap64 (-x5)) 45) else (strconv_fmtX.j12 k y123 x5 43))) else (none)
def strconv_fmtX.j12 : Nat → List Int → Int → Int → Option (List Int)
  | 0, _, _, _ => none
  | k + 1, x0, x5, x19 => if x0.length < 140737488355328 then ((some (x0 ++ [x19] : List Int)).bind fun y126 => (if x5 < 100 then ((some (([(((wrap64 (Int.tdiv x5 10)) % 256) + 48) % 256, (((Int.tmod x5 10) % 256) + 48) % 256] : List Int) : List Int)).bind fun y129 => (if y126.length + y129.length < 140737488355328 then (some (y126 ++ y129)) else (none))) else (if x5 < 1000 then ((some (([(((wrap64 (Int.tdiv x5 100)) % 256) + 48) % 256, (((Int.tmod (wrap64 (Int.tdiv x5 10)) 10) % 256) + 48) % 256, (((Int.tmod x5 10) % 256) + 48) % 256] : List Int) : List Int)).bind fun y135 => (if y126.length + y135.length < 140737488355328 then (some (y126 ++ y135)) else (none))) else ((some (([(((wrap64 (Int.tdiv x5 1000)) % 256) + 48) % 256, (((wrap64 (Int.tdiv x5 100)) % 256) % 10) + 48, (((Int.tmod (wrap64 (Int.tdiv x5 10)) 10) % 256) + 48) % 256, (((Int.tmod x5 10) % 256) + 48) % 256] : List Int) : List Int)).bind fun y141 => (if y126.length + y141.length < 140737488355328 then (some (y126 ++ y141)) else (none)))))) else (none)
def strconv_fmtX.l1 : Nat → List Int → Int → Int → Int → ByteArray → Option (List Int)
  | 0, _, _, _, _, _ => none
  | k + 1, x0, x2, x4, x5, x17 => if x4 = 0 then (strconv_fmtX.j10 k x0 x2 x5) else (if 0 ≤ (Go.bits .and .u64 (x4 / 1152921504606846976) 15) then (if (Go.bits .and .u64 (x4 / 1152921504606846976) 15) < (x17.size : Int) then (if x0.length < 140737488355328 then (strconv_fmtX.l1 k (x0 ++ [bt x17 (Go.bits .and .u64 (x4 / 1152921504606846976) 15)]) x2 (IntKind.u64.wrap (x4 * 16)) x5 x17) else (none)) else (none)) else (none))
def strconv_fmtX.l2 : Nat → List Int → Int → Int → Int → Int → ByteArray → Int → Option (List Int)
  | 0, _, _, _, _, _, _, _ => none
  | k + 1, x0, x1, x2, x4, x5, x17, x18 => if x18 < x1 then (if 0 ≤ (Go.bits .and .u64 (x4 / 1152921504606846976) 15) then (if (Go.bits .and .u64 (x4 / 1152921504606846976) 15) < (x17.size : Int) then (if x0.length < 140737488355328 then (strconv_fmtX.l2 k (x0 ++ [bt x17 (Go.bits .and .u64 (x4 / 1152921504606846976) 15)]) x1 x2 (IntKind.u64.wrap (x4 * 16)) x5 x17 (wrap64 (x18 + 1))) else (none)) else (none)) else (none)) else (strconv_fmtX.j10 k x0 x2 x5)
def strconv_fmtX.l0 : Nat → List Int → Int → Int → Bool → Int → Int → Option (List Int)
  | 0, _, _, _, _, _, _ => none
  | k + 1, x0, x1, x2, x3, x4, x5 => if x4 = 0 then (strconv_fmtX.j2 k x0 x1 x2 x3 x4 x5) else (if (Go.bits .and .u64 x4 1152921504606846976) = 0 then (strconv_fmtX.l0 k x0 x1 x2 x3 (IntKind.u64.wrap (x4 * 2)) (wrap64 (x5 - 1))) else (strconv_fmtX.j2 k x0 x1 x2 x3 x4 x5))
end
def strconv_fmtX.f (k : Nat) (l0 : List Int) (a1 : Int) (a2 : Int) (a3 : Bool) (a4 : Int) (a5 : Int) (a6 : Int) : Option (List Int) := if a4 = 0 then (strconv_fmtX.j0 k l0 a1 a2 a3 a4 0 a6) else (strconv_fmtX.j0 k l0 a1 a2 a3 a4 a5 a6)
theorem strconv_fmtX.mono_l : ∀ k, (∀ y0 y1 y2 y3 y4 y5 y6, LeO (strconv_fmtX.j0 k y0 y1 y2 y3 y4 y5 y6) (strconv_fmtX.j0 (k + 1) y0 y1 y2 y3 y4 y5 y6)) ∧ (∀ y0 y1 y2 y3 y4 y5, LeO (strconv_fmtX.j2 k y0 y1 y2 y3 y4 y5) (strconv_fmtX.j2 (k + 1) y0 y1 y2 y3 y4 y5)) ∧ (∀ y0 y1 y2 y3 y4 y5 y6, LeO (strconv_fmtX.j3 k y0 y1 y2 y3 y4 y5 y6) (strconv_fmtX.j3 (k + 1) y0 y1 y2 y3 y4 y5 y6)) ∧ (∀ y0 y1 y2 y3 y4 y5, LeO (strconv_fmtX.j4 k y0 y1 y2 y3 y4 y5) (strconv_fmtX.j4 (k + 1) y0 y1 y2 y3 y4 y5)) ∧ (∀ y0 y1 y2 y3 y4 y5 y6, LeO (strconv_fmtX.j5 k y0 y1 y2 y3 y4 y5 y6) (strconv_fmtX.j5 (k + 1) y0 y1 y2 y3 y4 y5 y6)) ∧ (∀ y0 y1 y2 y3 y4 y5, LeO (strconv_fmtX.j6 k y0 y1 y2 y3 y4 y5) (strconv_fmtX.j6 (k + 1) y0 y1 y2 y3 y4 y5)) ∧ (∀ y0 y1 y2 y3 y4 y5 y6, LeO (strconv_fmtX.j7 k y0 y1 y2 y3 y4 y5 y6) (strconv_fmtX.j7 (k + 1) y0 y1 y2 y3 y4 y5 y6)) ∧ (∀ y0 y1 y2, LeO (strconv_fmtX.j10 k y0 y1 y2) (strconv_fmtX.j10 (k + 1) y0 y1 y2)) ∧ (∀ y0 y1 y2, LeO (strconv_fmtX.j11 k y0 y1 y2) (strconv_fmtX.j11 (k + 1) y0 y1 y2)) ∧ (∀ y0 y1 y2, LeO (strconv_fmtX.j12 k y0 y1 y2) (strconv_fmtX.j12 (k + 1) y0 y1 y2)) ∧ (∀ y0 y1 y2 y3 y4, LeO (strconv_fmtX.l1 k y0 y1 y2 y3 y4) (strconv_fmtX.l1 (k + 1) y0 y1 y2 y3 y4)) ∧ (∀ y0 y1 y2 y3 y4 y5 y6, LeO (strconv_fmtX.l2 k y0 y1 y2 y3 y4 y5 y6) (strconv_fmtX.l2 (k + 1) y0 y1 y2 y3 y4 y5 y6)) ∧ (∀ y0 y1 y2 y3 y4 y5, LeO (strconv_fmtX.l0 k y0 y1 y2 y3 y4 y5) (strconv_fmtX.l0 (k + 1) y0 y1 y2 y3 y4 y5))
  | 0 => by refine ⟨?_, ?_, ?_, ?_, ?_, ?_, ?_, ?_, ?_, ?_, ?_, ?_, ?_⟩ <;> (intros; exact LeO.none _)
  | k + 1 => by
    obtain ⟨ih0, ih1, ih2, ih3, ih4, ih5, ih6, ih7, ih8, ih9, ih10, ih11, ih12⟩ := strconv_fmtX.mono_l k
    refine ⟨?_, ?_, ?_, ?_, ?_, ?_, ?_, ?_, ?_, ?_, ?_, ?_, ?_⟩ <;> intros <;> first | unfold strconv_fmtX.j0 | unfold strconv_fmtX.j2 | unfold strconv_fmtX.j3 | unfold strconv_fmtX.j4 | unfold strconv_fmtX.j5 | unfold strconv_fmtX.j6 | unfold strconv_fmtX.j7 | unfold strconv_fmtX.j10 | unfold strconv_fmtX.j11 | unfold strconv_fmtX.j12 | unfold strconv_fmtX.l1 | unfold strconv_fmtX.l2 | unfold strconv_fmtX.l0
    all_goals repeat' first
    | (with_reducible first | apply ih0 | apply ih1 | apply ih2 | apply ih3 | apply ih4 | apply ih5 | apply ih6 | apply ih7 | apply ih8 | apply ih9 | apply ih10 | apply ih11 | apply ih12 | exact LeO.refl _ | exact LeO.none _ | refine LeO.ite ?_ ?_ | refine LeO.bind ?_ (fun _ => ?_))
    | exact LeO.none _ | refine LeO.ite ?_ ?_ | refine LeO.bind ?_ (fun _ => ?_)
theorem strconv_fmtX.mono : ∀ a0 a1 a2 a3 a4 a5 a6 k, LeO (strconv_fmtX.f k a0 a1 a2 a3 a4 a5 a6) (strconv_fmtX.f (k + 1) a0 a1 a2 a3 a4 a5 a6) := by
  intro a0 a1 a2 a3 a4 a5 a6 k
  obtain ⟨ih0, ih1, ih2, ih3, ih4, ih5, ih6, ih7, ih8, ih9, ih10, ih11, ih12⟩ := strconv_fmtX.mono_l k
  unfold strconv_fmtX.f
  repeat' first
      | (with_reducible first | apply ih0 | apply ih1 | apply ih2 | apply ih3 | apply ih4 | apply ih5 | apply ih6 | apply ih7 | apply ih8 | apply ih9 | apply ih10 | apply ih11 | apply ih12 | exact LeO.refl _ | exact LeO.none _ | refine LeO.ite ?_ ?_ | refine LeO.bind ?_ (fun _ => ?_))
      | exact LeO.none _ | refine LeO.ite ?_ ?_ | refine LeO.bind ?_ (fun _ => ?_)
set_option maxHeartbeats 8000000 in
set_option maxRecDepth 100000 in
theorem strconv_fmtX.calls (k : Nat) (P0_ : Nat → Prop) (u9000_ : Value) (l0 : List Int) (a1 : Int) (a2 : Int) (a3 : Bool) (a4 : Int) (a5 : Int) (a6 : Int) (r : List Int) (w0 w : World) (hB : Below w0.heap.size w0 w) (ho0 : Kd.R (Kd.int .u8) 5 w w0.heap.size P0_ u9000_ l0) (h : strconv_fmtX.f k l0 a1 a2 a3 a4 a5 a6 = some r) :
  Calls Tryz.prog 115 #[u9000_, .int .i64 a1, .int .u8 a2, .bool a3, .int .u64 a4, .int .i64 a5, .int .i64 a6] w fun e w' => ∃ v0_ : Value, e = .returned (v0_) ∧ Kd.R (Kd.int .u8) 5 w' w0.heap.size (fun k_ => (P0_ k_ ∨ w.heap.size ≤ k_)) v0_ r ∧ Below w0.heap.size w0 w' ∧ Kept w w' (fun k_ => P0_ k_) := by
 have HO0 := aM (show Kd.R (Kd.int .u8) 5 w w0.heap.size (fun k_ => (P0_ k_ ∨ w.heap.size ≤ k_)) u9000_ l0 from Kd.R_mono ho0 (fun k_ hk => (.inl hk)))
 have HK := aM (Kept.refl w (fun k_ => P0_ k_))
 have HW0 := aM hB.size
 have HB := aM hB
 clear hB
 have H : (if a4 = 0 then (strconv_fmtX.j0 k l0 a1 a2 a3 a4 0 a6) else (strconv_fmtX.j0 k l0 a1 a2 a3 a4 a5 a6)) = some r := h
 clear h
 have HC8 := aM H
 clear H
 go_enter Tryz.func115, Tryz.ntmps115
 go_upto_if 21 with (fail)
 go_cut [5] (fun v5 wc => ∃ (kq : Nat) (x5_7 : Int), v5 = .int .i64 x5_7 ∧ Aside0 (strconv_fmtX.j0 kq l0 a1 a2 a3 a4 x5_7 a6 = some r) ∧ Aside0 (kq ≤ k) ∧ Aside0 (Kd.R (Kd.int .u8) 5 wc w0.heap.size (fun k_ => (P0_ k_ ∨ w.heap.size ≤ k_)) u9000_ l0) ∧ Aside0 (Kept w wc (fun k_ => P0_ k_)) ∧ Aside0 (Below w0.heap.size w0 wc))
 case first =>
  have H := HC8.out
  clear HC8
  by_cases c9 : a4 = 0
  rotate_left
  ·rw [if_neg c9] at H
   have c9b0 := bF c9
   have c9b1 := mT c9
   (first | rw [c9b0] | (simp only [i64_w, i32_w]; rw [c9b0]) | skip)
   as_aux_lemma =>
    have H' := aM H
    clear H
    go_wp2
    go_meet
    case rel => exact ⟨_, a5, xR, H', ⟨jO⟩, ⟨rO HO0⟩, ⟨kH⟩, ⟨hB⟩⟩
  rw [if_pos c9] at H
  have c9b0 := bT c9
  have c9b1 := mF c9
  clear c9
  (first | rw [c9b0] | (simp only [i64_w, i32_w]; rw [c9b0]) | skip)
  as_aux_lemma =>
   have H' := aM H
   clear H
   go_wp2
   go_meet
   case rel => exact ⟨_, (0), xR, H', ⟨jO⟩, ⟨rO HO0⟩, ⟨kH⟩, ⟨hB⟩⟩
 case rest =>
  clear HC8
  obtain ⟨kq, x5_7, rfl, HA, HJ7, HO_0, HK, HB⟩ := hcut
  cases kq with
  | zero => exact absurd HA.out (by simp [strconv_fmtX.j0])
  | succ kj7 =>
   have H := HA.out
   clear HA
   simp only [strconv_fmtX.j0] at H
   obtain ⟨ji10, hji10⟩ : ∃ j_ : Int, (wrap64 (60 - a6)) = j_ := ⟨_, rfl⟩
   replace H : (if 0 ≤ (ji10) then (strconv_fmtX.l0 kj7 l0 a1 a2 a3 (shl .u64 a4 (ji10)) x5_7) else (none)) = some r := by first | (rw [hji10] at H; exact H) | (simp only [hji10] at H ⊢; exact H)
   have hji10w : (IntKind.i64.wrap (60 - a6)) = ji10 := (i64_w _).trans hji10
   replace H := nI H
   obtain ⟨c11, H⟩ := H
   have c11b0 := eq_true c11
   have c11b1 := dT c11
   clear c11
   obtain ⟨ji12, hji12⟩ : ∃ j_ : Int, (shl .u64 a4 (ji10)) = j_ := ⟨_, rfl⟩
   replace H : (strconv_fmtX.l0 kj7 l0 a1 a2 a3 ji12 x5_7) = some r := by first | (rw [hji12] at H; exact H) | (simp only [hji12] at H ⊢; exact H)
   have hji12_ : (IntKind.u64.wrap (a4 * 2 ^ min (ji10).toNat 64)) = ji12 := hji12
   have hji12z : (ji10) ≤ 64 → (IntKind.u64.wrap (a4 * 2 ^ (ji10).toNat)) = ji12 := shl_small hji12
   have HC13 := aM H
   clear H
   go_upto_block 0 with (fail)
   go_cut [4, 5] (fun v4 v5 wc => ∃ (kq : Nat) (x4_12 : Int) (x5_12 : Int), v4 = .int .u64 x4_12 ∧ v5 = .int .i64 x5_12 ∧ Aside0 (strconv_fmtX.j2 kq l0 a1 a2 a3 x4_12 x5_12 = some r) ∧ Aside0 (kq ≤ kj7) ∧ Aside0 (Kd.R (Kd.int .u8) 5 wc w0.heap.size (fun k_ => (P0_ k_ ∨ w.heap.size ≤ k_)) u9000_ l0) ∧ Aside0 (Kept w wc (fun k_ => P0_ k_)) ∧ Aside0 (Below w0.heap.size w0 wc))
   case first =>
    have H := HC13.out
    clear HC13
    have H' := aM H
    clear H
    go_wp2
    go_loopg [4, 5] kj7 (fun kq v4 v5 w' => ∃ (x4_2 : Int) (x5_2 : Int), v4 = .int .u64 x4_2 ∧ v5 = .int .i64 x5_2 ∧ Aside0 (strconv_fmtX.l0 kq l0 a1 a2 a3 x4_2 x5_2 = some r) ∧ Aside0 (kq ≤ kj7) ∧ Aside0 (Kd.R (Kd.int .u8) 5 w' w0.heap.size (fun k_ => (P0_ k_ ∨ w.heap.size ≤ k_)) u9000_ l0) ∧ Aside0 (Kept w w' (fun k_ => P0_ k_)) ∧ Aside0 (Below w0.heap.size w0 w'))
    case atStart => exact ⟨ji12, x5_7, (by first | rfl | (simp; done) | (simp only [← hji12] <;> (first | rfl | simp)) | (simp [*]; done)), xR, H', ⟨Nat.le_refl _⟩, ⟨rO HO_0⟩, ⟨kH⟩, ⟨hB⟩⟩
    case round =>
     clear H'
     obtain ⟨x4_2, x5_2, rfl, rfl, HA, HK2, HO_0, HK, HB⟩ := hrel
     cases gk with
     | zero => exact absurd HA.out (by simp [strconv_fmtX.l0])
     | succ k2 =>
      have H := HA.out
      clear HA
      simp only [strconv_fmtX.l0] at H
      by_cases c14 : x4_2 = 0
      ·rw [if_pos c14] at H
       have c14b0 := bT c14
       have c14b1 := mF c14
       clear c14
       (first | rw [c14b0] | (simp only [i64_w, i32_w]; rw [c14b0]) | skip)
       as_aux_lemma =>
        have H' := aM H
        clear H
        go_wp2
        go_meet
        case rel => exact ⟨_, x4_2, x5_2, xR, xR, H', ⟨jC⟩, ⟨rO HO_0⟩, ⟨kH⟩, ⟨hB⟩⟩
      rw [if_neg c14] at H
      have c14b0 := bF c14
      have c14b1 := mT c14
      (first | rw [c14b0] | (simp only [i64_w, i32_w]; rw [c14b0]) | skip)
      by_cases c15 : (Go.bits .and .u64 x4_2 1152921504606846976) = 0
      rotate_left
      ·rw [if_neg c15] at H
       have c15b0 := bF c15
       have c15b1 := mT c15
       as_aux_lemma =>
        have H' := aM H
        clear H
        go_wp2
        go_meet
        case rel => exact ⟨_, x4_2, x5_2, xR, xR, H', ⟨jC⟩, ⟨rO HO_0⟩, ⟨kH⟩, ⟨hB⟩⟩
      rw [if_pos c15] at H
      have c15b0 := bT c15
      have c15b1 := mF c15
      clear c15
      as_aux_lemma =>
       have H' := aM H
       clear H
       go_wp2
       go_roundg k2
       case measure => exact jC
       case rel => exact ⟨(IntKind.u64.wrap (x4_2 * 2)), (wrap64 (x5_2 - 1)), xR, xR, H', ⟨jC⟩, ⟨rO HO_0⟩, ⟨kH⟩, ⟨hB⟩⟩
   case rest =>
    clear HC13
    obtain ⟨kq, x4_12, x5_12, rfl, rfl, HA, HJ12, HO_0, HK, HB⟩ := hcut
    cases kq with
    | zero => exact absurd HA.out (by simp [strconv_fmtX.j2])
    | succ kj12 =>
     have H := HA.out
     clear HA
     simp only [strconv_fmtX.j2] at H
     have HC16 := aM H
     clear H
     go_upto_region 7 with (fail)
     go_cut [42] (fun v42 wc => ∃ (kq : Nat) (x42_15 : Bool), v42 = .bool x42_15 ∧ Aside0 (strconv_fmtX.j3 kq l0 a1 a2 a3 x4_12 x5_12 x42_15 = some r) ∧ Aside0 (kq ≤ kj12) ∧ Aside0 (Kd.R (Kd.int .u8) 5 wc w0.heap.size (fun k_ => (P0_ k_ ∨ w.heap.size ≤ k_)) u9000_ l0) ∧ Aside0 (Kept w wc (fun k_ => P0_ k_)) ∧ Aside0 (Below w0.heap.size w0 wc))
     case first =>
      have H := HC16.out
      clear HC16
      by_cases c17 : a1 ≥ 0
      rotate_left
      ·rw [if_neg c17] at H
       have c17b0 : decide (0 ≤ a1) = false := decide_eq_false c17
       clear c17
       (first | rw [c17b0] | (simp only [i64_w, i32_w]; rw [c17b0]) | skip)
       as_aux_lemma =>
        have H' := aM H
        clear H
        go_wp2
        go_meet
        case rel => exact ⟨_, false, xR, H', ⟨jC⟩, ⟨rO HO_0⟩, ⟨kH⟩, ⟨hB⟩⟩
      rw [if_pos c17] at H
      have c17b0 : decide (0 ≤ a1) = true := decide_eq_true c17
      clear c17
      (first | rw [c17b0] | (simp only [i64_w, i32_w]; rw [c17b0]) | skip)
      as_aux_lemma =>
       have H' := aM H
       clear H
       go_wp2
       go_meet
       case rel => exact ⟨_, (decide (a1 < 15)), xR, H', ⟨jC⟩, ⟨rO HO_0⟩, ⟨kH⟩, ⟨hB⟩⟩
     case rest =>
      clear HC16
      obtain ⟨kq, x42_15, rfl, HA, HJ15, HO_0, HK, HB⟩ := hcut
      cases kq with
      | zero => exact absurd HA.out (by simp [strconv_fmtX.j3])
      | succ kj15 =>
       have H := HA.out
       clear HA
       simp only [strconv_fmtX.j3] at H
       have HC18 := aM H
       clear H
       go_upto_if 42 with (fail)
       go_cut [4, 5] (fun v4 v5 wc => ∃ (kq : Nat) (x4_17 : Int) (x5_17 : Int), v4 = .int .u64 x4_17 ∧ v5 = .int .i64 x5_17 ∧ Aside0 (strconv_fmtX.j4 kq l0 a1 a2 a3 x4_17 x5_17 = some r) ∧ Aside0 (kq ≤ kj15) ∧ Aside0 (Kd.R (Kd.int .u8) 5 wc w0.heap.size (fun k_ => (P0_ k_ ∨ w.heap.size ≤ k_)) u9000_ l0) ∧ Aside0 (Kept w wc (fun k_ => P0_ k_)) ∧ Aside0 (Below w0.heap.size w0 wc))
       case first =>
        have H := HC18.out
        clear HC18
        by_cases c19 : x42_15 = true
        rotate_left
        ·replace c19 := nF c19
         subst c19
         replace H := iF H
         as_aux_lemma =>
          have H' := aM H
          clear H
          go_wp2
          go_meet
          case rel => exact ⟨_, x4_12, x5_12, xR, xR, H', ⟨jC⟩, ⟨rO HO_0⟩, ⟨kH⟩, ⟨hB⟩⟩
        subst c19
        replace H := iT H
        obtain ⟨ji20, hji20⟩ : ∃ j_ : Int, (IntKind.u64.wrap (wrap64 (a1 * 4))) = j_ := ⟨_, rfl⟩
        replace H : (if 0 ≤ (ji20) then (if 0 ≤ (IntKind.u64.wrap (60 - (ji20))) then (if (Go.bits .or .u64 (Go.bits .and .u64 (shl .u64 x4_12 (ji20)) 1152921504606846975) (Go.bits .and .u64 (shr .u64 x4_12 (IntKind.u64.wrap (60 - (ji20)))) 1)) > 576460752303423488 then (if (Go.bits .and .u64 (shl .u64 (IntKind.u64.wrap ((shr .u64 x4_12 (IntKind.u64.wrap (60 - (ji20)))) + 1)) (IntKind.u64.wrap (60 - (ji20)))) 2305843009213693952) = 0 then (strconv_fmtX.j4 kj15 l0 a1 a2 a3 (shl .u64 (IntKind.u64.wrap ((shr .u64 x4_12 (IntKind.u64.wrap (60 - (ji20)))) + 1)) (IntKind.u64.wrap (60 - (ji20)))) x5_12) else (strconv_fmtX.j4 kj15 l0 a1 a2 a3 ((shl .u64 (IntKind.u64.wrap ((shr .u64 x4_12 (IntKind.u64.wrap (60 - (ji20)))) + 1)) (IntKind.u64.wrap (60 - (ji20)))) / 2) (wrap64 (x5_12 + 1)))) else (if (Go.bits .and .u64 (shl .u64 (shr .u64 x4_12 (IntKind.u64.wrap (60 - (ji20)))) (IntKind.u64.wrap (60 - (ji20)))) 2305843009213693952) = 0 then (strconv_fmtX.j4 kj15 l0 a1 a2 a3 (shl .u64 (shr .u64 x4_12 (IntKind.u64.wrap (60 - (ji20)))) (IntKind.u64.wrap (60 - (ji20)))) x5_12) else (strconv_fmtX.j4 kj15 l0 a1 a2 a3 ((shl .u64 (shr .u64 x4_12 (IntKind.u64.wrap (60 - (ji20)))) (IntKind.u64.wrap (60 - (ji20)))) / 2) (wrap64 (x5_12 + 1))))) else (none)) else (none)) = some r := by first | (rw [hji20] at H; exact H) | (simp only [hji20] at H ⊢; exact H)
        replace H := nI H
        obtain ⟨c21, H⟩ := H
        have c21b0 := eq_true c21
        have c21b1 := dT c21
        clear c21
        obtain ⟨ji22, hji22⟩ : ∃ j_ : Int, (shl .u64 x4_12 (ji20)) = j_ := ⟨_, rfl⟩
        replace H : (if 0 ≤ (IntKind.u64.wrap (60 - (ji20))) then (if (Go.bits .or .u64 (Go.bits .and .u64 (ji22) 1152921504606846975) (Go.bits .and .u64 (shr .u64 x4_12 (IntKind.u64.wrap (60 - (ji20)))) 1)) > 576460752303423488 then (if (Go.bits .and .u64 (shl .u64 (IntKind.u64.wrap ((shr .u64 x4_12 (IntKind.u64.wrap (60 - (ji20)))) + 1)) (IntKind.u64.wrap (60 - (ji20)))) 2305843009213693952) = 0 then (strconv_fmtX.j4 kj15 l0 a1 a2 a3 (shl .u64 (IntKind.u64.wrap ((shr .u64 x4_12 (IntKind.u64.wrap (60 - (ji20)))) + 1)) (IntKind.u64.wrap (60 - (ji20)))) x5_12) else (strconv_fmtX.j4 kj15 l0 a1 a2 a3 ((shl .u64 (IntKind.u64.wrap ((shr .u64 x4_12 (IntKind.u64.wrap (60 - (ji20)))) + 1)) (IntKind.u64.wrap (60 - (ji20)))) / 2) (wrap64 (x5_12 + 1)))) else (if (Go.bits .and .u64 (shl .u64 (shr .u64 x4_12 (IntKind.u64.wrap (60 - (ji20)))) (IntKind.u64.wrap (60 - (ji20)))) 2305843009213693952) = 0 then (strconv_fmtX.j4 kj15 l0 a1 a2 a3 (shl .u64 (shr .u64 x4_12 (IntKind.u64.wrap (60 - (ji20)))) (IntKind.u64.wrap (60 - (ji20)))) x5_12) else (strconv_fmtX.j4 kj15 l0 a1 a2 a3 ((shl .u64 (shr .u64 x4_12 (IntKind.u64.wrap (60 - (ji20)))) (IntKind.u64.wrap (60 - (ji20)))) / 2) (wrap64 (x5_12 + 1))))) else (none)) = some r := by first | (rw [hji22] at H; exact H) | (simp only [hji22] at H ⊢; exact H)
        have hji22_ : (IntKind.u64.wrap (x4_12 * 2 ^ min (ji20).toNat 64)) = ji22 := hji22
        have hji22z : (ji20) ≤ 64 → (IntKind.u64.wrap (x4_12 * 2 ^ (ji20).toNat)) = ji22 := shl_small hji22
        obtain ⟨ji23, hji23⟩ : ∃ j_ : Int, (IntKind.u64.wrap (60 - (ji20))) = j_ := ⟨_, rfl⟩
        replace H : (if 0 ≤ (ji23) then (if (Go.bits .or .u64 (Go.bits .and .u64 (ji22) 1152921504606846975) (Go.bits .and .u64 (shr .u64 x4_12 (ji23)) 1)) > 576460752303423488 then (if (Go.bits .and .u64 (shl .u64 (IntKind.u64.wrap ((shr .u64 x4_12 (ji23)) + 1)) (ji23)) 2305843009213693952) = 0 then (strconv_fmtX.j4 kj15 l0 a1 a2 a3 (shl .u64 (IntKind.u64.wrap ((shr .u64 x4_12 (ji23)) + 1)) (ji23)) x5_12) else (strconv_fmtX.j4 kj15 l0 a1 a2 a3 ((shl .u64 (IntKind.u64.wrap ((shr .u64 x4_12 (ji23)) + 1)) (ji23)) / 2) (wrap64 (x5_12 + 1)))) else (if (Go.bits .and .u64 (shl .u64 (shr .u64 x4_12 (ji23)) (ji23)) 2305843009213693952) = 0 then (strconv_fmtX.j4 kj15 l0 a1 a2 a3 (shl .u64 (shr .u64 x4_12 (ji23)) (ji23)) x5_12) else (strconv_fmtX.j4 kj15 l0 a1 a2 a3 ((shl .u64 (shr .u64 x4_12 (ji23)) (ji23)) / 2) (wrap64 (x5_12 + 1))))) else (none)) = some r := by first | (rw [hji23] at H; exact H) | (simp only [hji23] at H ⊢; exact H)
        replace H := nI H
        obtain ⟨c24, H⟩ := H
        have c24b0 := eq_true c24
        have c24b1 := dT c24
        clear c24
        obtain ⟨ji25, hji25⟩ : ∃ j_ : Int, (shr .u64 x4_12 (ji23)) = j_ := ⟨_, rfl⟩
        replace H : (if (Go.bits .or .u64 (Go.bits .and .u64 (ji22) 1152921504606846975) (Go.bits .and .u64 (ji25) 1)) > 576460752303423488 then (if (Go.bits .and .u64 (shl .u64 (IntKind.u64.wrap ((ji25) + 1)) (ji23)) 2305843009213693952) = 0 then (strconv_fmtX.j4 kj15 l0 a1 a2 a3 (shl .u64 (IntKind.u64.wrap ((ji25) + 1)) (ji23)) x5_12) else (strconv_fmtX.j4 kj15 l0 a1 a2 a3 ((shl .u64 (IntKind.u64.wrap ((ji25) + 1)) (ji23)) / 2) (wrap64 (x5_12 + 1)))) else (if (Go.bits .and .u64 (shl .u64 (ji25) (ji23)) 2305843009213693952) = 0 then (strconv_fmtX.j4 kj15 l0 a1 a2 a3 (shl .u64 (ji25) (ji23)) x5_12) else (strconv_fmtX.j4 kj15 l0 a1 a2 a3 ((shl .u64 (ji25) (ji23)) / 2) (wrap64 (x5_12 + 1))))) = some r := by first | (rw [hji25] at H; exact H) | (simp only [hji25] at H ⊢; exact H)
        have hji25_ : (x4_12 / 2 ^ min (ji23).toNat 64) = ji25 := hji25
        have hji25z : (ji23) ≤ 64 → (x4_12 / 2 ^ (ji23).toNat) = ji25 := shr_small hji25
        by_cases c26 : (Go.bits .or .u64 (Go.bits .and .u64 (ji22) 1152921504606846975) (Go.bits .and .u64 (ji25) 1)) > 576460752303423488
        rotate_left
        ·rw [if_neg c26] at H
         have c26b0 : decide (576460752303423488 < (Go.bits .or .u64 (Go.bits .and .u64 (ji22) 1152921504606846975) (Go.bits .and .u64 (ji25) 1))) = false := decide_eq_false c26
         clear c26
         (first | rw [c26b0] | (simp only [i64_w, i32_w]; rw [c26b0]) | skip)
         have c30b0 := eq_true (oA : 0 ≤ (ji23))
         obtain ⟨ji31, hji31⟩ : ∃ j_ : Int, (shl .u64 (ji25) (ji23)) = j_ := ⟨_, rfl⟩
         replace H : (if (Go.bits .and .u64 (ji31) 2305843009213693952) = 0 then (strconv_fmtX.j4 kj15 l0 a1 a2 a3 ji31 x5_12) else (strconv_fmtX.j4 kj15 l0 a1 a2 a3 ((ji31) / 2) (wrap64 (x5_12 + 1)))) = some r := by first | (rw [hji31] at H; exact H) | (simp only [hji31] at H ⊢; exact H)
         have hji31_ : (IntKind.u64.wrap ((ji25) * 2 ^ min (ji23).toNat 64)) = ji31 := hji31
         have hji31z : (ji23) ≤ 64 → (IntKind.u64.wrap ((ji25) * 2 ^ (ji23).toNat)) = ji31 := shl_small hji31
         by_cases c32 : (Go.bits .and .u64 (ji31) 2305843009213693952) = 0
         rotate_left
         ·rw [if_neg c32] at H
          have c32b0 := bF c32
          have c32b1 := mT c32
          as_aux_lemma =>
           have H' := aM H
           clear H
           go_wp2
           go_meet
           case rel => exact ⟨_, ((ji31) / 2), (wrap64 (x5_12 + 1)), (by first | rfl | (simp; done) | (simp only [← hji31] <;> (first | rfl | simp)) | (simp [*]; done)), xR, H', ⟨jC⟩, ⟨rO HO_0⟩, ⟨kH⟩, ⟨hB⟩⟩
         rw [if_pos c32] at H
         have c32b0 := bT c32
         have c32b1 := mF c32
         clear c32
         as_aux_lemma =>
          have H' := aM H
          clear H
          go_wp2
          go_meet
          case rel => exact ⟨_, ji31, x5_12, (by first | rfl | (simp; done) | (simp only [← hji31] <;> (first | rfl | simp)) | (simp [*]; done)), xR, H', ⟨jC⟩, ⟨rO HO_0⟩, ⟨kH⟩, ⟨hB⟩⟩
        rw [if_pos c26] at H
        have c26b0 : decide (576460752303423488 < (Go.bits .or .u64 (Go.bits .and .u64 (ji22) 1152921504606846975) (Go.bits .and .u64 (ji25) 1))) = true := decide_eq_true c26
        clear c26
        (first | rw [c26b0] | (simp only [i64_w, i32_w]; rw [c26b0]) | skip)
        have c27b0 := eq_true (oA : 0 ≤ (ji23))
        obtain ⟨ji28, hji28⟩ : ∃ j_ : Int, (shl .u64 (IntKind.u64.wrap ((ji25) + 1)) (ji23)) = j_ := ⟨_, rfl⟩
        replace H : (if (Go.bits .and .u64 (ji28) 2305843009213693952) = 0 then (strconv_fmtX.j4 kj15 l0 a1 a2 a3 ji28 x5_12) else (strconv_fmtX.j4 kj15 l0 a1 a2 a3 ((ji28) / 2) (wrap64 (x5_12 + 1)))) = some r := by first | (rw [hji28] at H; exact H) | (simp only [hji28] at H ⊢; exact H)
        have hji28_ : (IntKind.u64.wrap ((IntKind.u64.wrap ((ji25) + 1)) * 2 ^ min (ji23).toNat 64)) = ji28 := hji28
        have hji28z : (ji23) ≤ 64 → (IntKind.u64.wrap ((IntKind.u64.wrap ((ji25) + 1)) * 2 ^ (ji23).toNat)) = ji28 := shl_small hji28
        by_cases c29 : (Go.bits .and .u64 (ji28) 2305843009213693952) = 0
        rotate_left
        ·rw [if_neg c29] at H
         have c29b0 := bF c29
         have c29b1 := mT c29
         as_aux_lemma =>
          have H' := aM H
          clear H
          go_wp2
          go_meet
          case rel => exact ⟨_, ((ji28) / 2), (wrap64 (x5_12 + 1)), (by first | rfl | (simp; done) | (simp only [← hji28] <;> (first | rfl | simp)) | (simp [*]; done)), xR, H', ⟨jC⟩, ⟨rO HO_0⟩, ⟨kH⟩, ⟨hB⟩⟩
        rw [if_pos c29] at H
        have c29b0 := bT c29
        have c29b1 := mF c29
        clear c29
        as_aux_lemma =>
         have H' := aM H
         clear H
         go_wp2
         go_meet
         case rel => exact ⟨_, ji28, x5_12, (by first | rfl | (simp; done) | (simp only [← hji28] <;> (first | rfl | simp)) | (simp [*]; done)), xR, H', ⟨jC⟩, ⟨rO HO_0⟩, ⟨kH⟩, ⟨hB⟩⟩
       case rest =>
        clear HC18
        obtain ⟨kq, x4_17, x5_17, rfl, rfl, HA, HJ17, HO_0, HK, HB⟩ := hcut
        cases kq with
        | zero => exact absurd HA.out (by simp [strconv_fmtX.j4])
        | succ kj17 =>
         have H := HA.out
         clear HA
         simp only [strconv_fmtX.j4] at H
         have HC33 := aM H
         clear H
         go_upto_if 73 with (fail)
         go_cut [17] (fun v17 wc => ∃ (kq : Nat) (x17_32 : ByteArray), v17 = .string x17_32 ∧ Aside0 (strconv_fmtX.j5 kq l0 a1 a2 a3 x4_17 x5_17 x17_32 = some r) ∧ Aside0 (kq ≤ kj17) ∧ Aside0 (Kd.R (Kd.int .u8) 5 wc w0.heap.size (fun k_ => (P0_ k_ ∨ w.heap.size ≤ k_)) u9000_ l0) ∧ Aside0 (Kept w wc (fun k_ => P0_ k_)) ∧ Aside0 (Below w0.heap.size w0 wc))
         case first =>
          have H := HC33.out
          clear HC33
          by_cases c34 : a2 = 88
          rotate_left
          ·rw [if_neg c34] at H
           have c34b0 := bF c34
           have c34b1 := mT c34
           (first | rw [c34b0] | (simp only [i64_w, i32_w]; rw [c34b0]) | skip)
           as_aux_lemma =>
            have H' := aM H
            clear H
            go_wp2
            go_meet
            case rel => exact ⟨_, ((⟨#[48, 49, 50, 51, 52, 53, 54, 55, 56, 57, 97, 98, 99, 100, 101, 102]⟩ : ByteArray)), xR, H', ⟨jC⟩, ⟨rO HO_0⟩, ⟨kH⟩, ⟨hB⟩⟩
          rw [if_pos c34] at H
          have c34b0 := bT c34
          have c34b1 := mF c34
          clear c34
          (first | rw [c34b0] | (simp only [i64_w, i32_w]; rw [c34b0]) | skip)
          as_aux_lemma =>
           have H' := aM H
           clear H
           go_wp2
           go_meet
           case rel => exact ⟨_, ((⟨#[48, 49, 50, 51, 52, 53, 54, 55, 56, 57, 65, 66, 67, 68, 69, 70]⟩ : ByteArray)), xR, H', ⟨jC⟩, ⟨rO HO_0⟩, ⟨kH⟩, ⟨hB⟩⟩
         case rest =>
          clear HC33
          obtain ⟨kq, x17_32, rfl, HA, HJ32, HO_0, HK, HB⟩ := hcut
          cases kq with
          | zero => exact absurd HA.out (by simp [strconv_fmtX.j5])
          | succ kj32 =>
           have H := HA.out
           clear HA
           simp only [strconv_fmtX.j5] at H
           have HC35 := aM H
           clear H
           go_upto_if 74 with (fail)
           go_cut [0] (fun v0 wc => ∃ (kq : Nat) (x0_34 : List Int), Aside0 (strconv_fmtX.j6 kq x0_34 a1 a2 x4_17 x5_17 x17_32 = some r) ∧ Aside0 (kq ≤ kj32) ∧ Aside0 (Kd.R (Kd.int .u8) 5 wc w0.heap.size (fun k_ => (P0_ k_ ∨ w.heap.size ≤ k_)) v0 x0_34) ∧ Aside0 (Kept w wc (fun k_ => P0_ k_)) ∧ Aside0 (Below w0.heap.size w0 wc))
           case first =>
            have H := HC35.out
            clear HC35
            by_cases c36 : a3 = true
            rotate_left
            ·replace c36 := nF c36
             subst c36
             replace H := iF H
             as_aux_lemma =>
              have H' := aM H
              clear H
              go_wp2
              go_meet
              case rel => exact ⟨_, (l0), H', ⟨jC⟩, ⟨rO HO_0⟩, ⟨kH⟩, ⟨hB⟩⟩
            subst c36
            replace H := iT H
            replace H := nI H
            obtain ⟨c37, H⟩ := H
            have LMc37 := aM c37
            clear c37
            obtain ⟨y101, hy101⟩ : ∃ y_ : List Int, y_ = (l0 ++ [45]) := ⟨_, rfl⟩
            replace H : (strconv_fmtX.j6 kj32 y101 a1 a2 x4_17 x5_17 x17_32) = some r := by first | (rw [hy101]; with_reducible exact H) | (have H2_ := (Option.bind_some _ _).symm.trans H; rw [hy101]; with_reducible exact H2_) | (have H2_ := (Option.bind_some _ _).symm.trans H; with_reducible exact H2_) | with_reducible exact H | (rw [hy101]; exact H) | exact H
            have Ny101 := aM hy101
            clear hy101
            as_aux_lemma =>
             have H' := aM H
             clear H
             go_wp2_with (first | ((with_reducible refine gate_builtin (b := .append) (xs := #[.tmp 75, .tmp 76]) rfl ?_); at_builtin; refine Kd.R_append (Kd.int .u8) (w0 := w0) w0.heap.size rfl (.tmp 75) (.tmp 76) 82 5 (.int .u8 0) 1 rfl Tryz.underlying82 info5 rfl (by decide) (by omega) u9000_ l0 45 [.int .u8 45] (fun k_ => (P0_ k_ ∨ w.heap.size ≤ k_)) (fun _ => False) rfl rfl ?aP (fun _ hk => hk.elim) ?aF ?aO ?aB ?aS ?aL ?_; (case aP => exact rfl); (case aB => exact (hB)); (case aF => exact (fun k_ hk => (.inr (Nat.le_trans (kF) hk)))); (case aO => exact (rO HO_0)); (case aS => exact (below_size (hB))); (case aL => have := LMc37.out; omega); intro v102 w38 ho hb hg hat; rw [← Ny101.out] at ho; have n0_ := aM (hb); have n1_ := aM (Kept.of_grown (S := (fun k_ => P0_ k_)) hg (kH) (fun k_ e_ => (HO_0.out.1 k_ e_))); have n2_ := aM (ho); clear HB; clear HK; clear HO_0; have HB := n0_; have HK := n1_; have HO103 := n2_; clear n0_ n1_ n2_; clear ho hb hg hat))
             go_meet
             case rel => exact ⟨_, (y101), H', ⟨jC⟩, ⟨rO HO103⟩, ⟨kH⟩, ⟨hB⟩⟩
           case rest =>
            clear HC35
            obtain ⟨kq, x0_34, HA, HJ34, HO_0, HK, HB⟩ := hcut
            cases kq with
            | zero => exact absurd HA.out (by simp [strconv_fmtX.j6])
            | succ kj34 =>
             have H := HA.out
             clear HA
             simp only [strconv_fmtX.j6] at H
             obtain ⟨y104, hy104⟩ : ∃ y_ : List Int, y_ = (([48, a2, (48 + ((Go.bits .and .u64 (x4_17 / 1152921504606846976) 1) % 256)) % 256] : List Int)) := ⟨_, rfl⟩
             replace H : (if x0_34.length + y104.length < 140737488355328 then ((some (x0_34 ++ y104 : List Int)).bind fun y107 => (if a1 < 0 then (strconv_fmtX.j7 kj34 y107 a1 a2 (IntKind.u64.wrap (x4_17 * 16)) x5_17 x17_32 ((IntKind.u64.wrap (x4_17 * 16)) != 0)) else (strconv_fmtX.j7 kj34 y107 a1 a2 (IntKind.u64.wrap (x4_17 * 16)) x5_17 x17_32 false))) else (none)) = some r := by first | (rw [hy104]; with_reducible exact H) | (have H2_ := (Option.bind_some _ _).symm.trans H; rw [hy104]; with_reducible exact H2_) | (have H2_ := (Option.bind_some _ _).symm.trans H; with_reducible exact H2_) | with_reducible exact H | (rw [hy104]; exact H) | exact H
             have Ny104 := aM hy104
             clear hy104
             replace H := nI H
             obtain ⟨c39, H⟩ := H
             have LMc39 := aM c39
             clear c39
             obtain ⟨y107, hy107⟩ : ∃ y_ : List Int, y_ = (x0_34 ++ y104) := ⟨_, rfl⟩
             replace H : (if a1 < 0 then (strconv_fmtX.j7 kj34 y107 a1 a2 (IntKind.u64.wrap (x4_17 * 16)) x5_17 x17_32 ((IntKind.u64.wrap (x4_17 * 16)) != 0)) else (strconv_fmtX.j7 kj34 y107 a1 a2 (IntKind.u64.wrap (x4_17 * 16)) x5_17 x17_32 false)) = some r := by first | (rw [hy107]; with_reducible exact H) | (have H2_ := (Option.bind_some _ _).symm.trans H; rw [hy107]; with_reducible exact H2_) | (have H2_ := (Option.bind_some _ _).symm.trans H; with_reducible exact H2_) | with_reducible exact H | (rw [hy107]; exact H) | exact H
             have Ny107 := aM hy107
             clear hy107
             have HC40 := aM H
             clear H
             go_upto_region 24 with (first | ((with_reducible refine gate_dst (N := 85) rfl ?_); refine Kd.R_lit (Kd.int .u8) _ 5 ?hg (N := 85) ?hd (xs := ([48, a2, (48 + ((Go.bits .and .u64 (x4_17 / 1152921504606846976) 1) % 256)) % 256] : List Int)) (inner := [.int .u8 48, .int .u8 a2, .int .u8 ((48 + ((Go.bits .and .u64 (x4_17 / 1152921504606846976) 1) % 256)) % 256)]) (ok := fun _ => True) (okp := fun _ => True) ?hr ?hp (fun _ hk => hk) trivial (Below.refl _ _) (Nat.le_refl _) (by simp) ?_; (case hd => rfl); (case hg => rfl); (case hr => first | (go_simp; done) | (go_simp; rfl)); (case hp => exact (Reps.one (show Kd.M (Kd.int .u8) _ _ _ 48 [.int .u8 48] from rfl) (Reps.one (show Kd.M (Kd.int .u8) _ _ _ a2 [.int .u8 a2] from rfl) (Reps.one (show Kd.M (Kd.int .u8) _ _ _ ((48 + ((Go.bits .and .u64 (x4_17 / 1152921504606846976) 1) % 256)) % 256) [.int .u8 ((48 + ((Go.bits .and .u64 (x4_17 / 1152921504606846976) 1) % 256)) % 256)] from rfl) (Reps.none _ _))))); intro v105 w41 ho42 hb hg_ hnew_; clear hg_ hnew_; (first | rw [← Ny104.out] at ho42 | (simp only [Int.reduceToNat] at ho42; rw [← Ny104.out] at ho42)); have n0_ := aM (Kd.R_elder' (rO HO_0) (Kd.R_base ho42) hb); have n1_ := aM (Kd.R_lower (Kd.R_new' (Kd.R_newM (M := fun k_ => (P0_ k_ ∨ w.heap.size ≤ k_)) ho42 (kF) (fun k_ h_ => .inr h_)) (Kd.R_lt (rO HO_0))) (below_size (hB))); have n2_ := aM (Kept.below (S := (fun k_ => P0_ k_)) (kH) hb); have n3_ := aM (below_step (hB) hb); clear HO_0; clear HK; clear HB; have HO_0 := n0_; have HO106 := n1_; have HK := n2_; have HB := n3_; clear n0_ n1_ n2_ n3_; clear hb ho42; obtain ⟨Ao44, co44, eo44⟩ := Kd.R_slice HO106.out; subst eo44) | ((with_reducible refine gate_builtin (b := .append) (xs := #[.tmp 78, .tmp 85]) rfl ?_); at_builtin; refine Kd.R_append_rows (Kd.int .u8) (w0 := w0) w0.heap.size rfl (.tmp 78) (.tmp 85) 82 5 (.int .u8 0) 1 rfl Tryz.underlying82 info5 rfl (by decide) (by omega) u0 x0_34 y104 _ _ _ (fun k_ => (P0_ k_ ∨ w.heap.size ≤ k_) ∧ some k_ ≠ (.slice Ao44 y104.length co44 : Value).ownBlock) (fun _ => False) rfl rfl ?aO ?aR (fun _ _ h => h) (fun _ h => h.elim) ?aF ?aB ?aS ?aL ?_; (case aR => repeat (first | exact (Kd.R_reads' HO106.out).2.2 | (with_reducible refine Kd.C_alloc ?_ _) | (with_reducible refine Kd.C_drewN ?_ _) | (with_reducible refine Kd.C_drew ?_))); (case aB => exact (hB)); (case aF => exact (fun k_ hk => ⟨(.inr (Nat.le_trans (kF) hk)), Kd.fresh' (Kd.R_lt (rO HO106)) k_ hk⟩)); (case aO => exact (rO HO_0)); (case aS => exact (below_size (hB))); (case aL => have := LMc39.out; omega); intro v108 w43 ho hb hg hat; rw [← Ny107.out] at ho; have n0_ := aM (Kd.R_after (ok := (fun k_ => (P0_ k_ ∨ w.heap.size ≤ k_))) (by (with_reducible repeat (first | apply Kd.R_alloc | apply Kd.R_drewN | apply Kd.R_drew)); exact Kd.R_mono HO106.out (fun _ hk => ⟨hk.1.1, hk.2⟩)) hg hat); have n1_ := aM (hb); have n2_ := aM (Kept.of_grown (S := (fun k_ => P0_ k_)) hg (kH) (fun k_ e_ => (HO_0.out.1 k_ e_).1)); have n3_ := aM (ho); clear HO106; clear HB; clear HK; clear HO_0; have HO106 := n0_; have HB := n1_; have HK := n2_; have HO109 := n3_; clear n0_ n1_ n2_ n3_; clear ho hb hg hat))
             (try simp only [Act.put, List.setIfInBounds_toArray, List.set_cons_zero, List.set_cons_succ])
             go_cut [94] (fun v94 wc => ∃ (kq : Nat) (x94_39 : Bool), v94 = .bool x94_39 ∧ Aside0 (strconv_fmtX.j7 kq y107 a1 a2 (IntKind.u64.wrap (x4_17 * 16)) x5_17 x17_32 x94_39 = some r) ∧ Aside0 (kq ≤ kj34) ∧ Aside0 (Kd.R (Kd.int .u8) 5 wc w0.heap.size (fun k_ => (P0_ k_ ∨ w.heap.size ≤ k_)) v108 y107) ∧ Aside0 (Kept w wc (fun k_ => P0_ k_)) ∧ Aside0 (Below w0.heap.size w0 wc))
             case first =>
              have H := HC40.out
              clear HC40
              by_cases c45 : a1 < 0
              rotate_left
              ·rw [if_neg c45] at H
               have c45b0 := dF c45
               clear c45
               (first | rw [c45b0] | (simp only [i64_w, i32_w]; rw [c45b0]) | skip)
               as_aux_lemma =>
                have H' := aM H
                clear H
                go_wp2
                go_meet
                case rel => exact ⟨_, false, xR, H', ⟨jC⟩, ⟨by (with_reducible repeat (first | apply Kd.R_alloc | apply Kd.R_drewN | apply Kd.R_drew)); exact Kd.R_mono HO109.out (fun _ hk => hk.1)⟩, ⟨kH⟩, ⟨hB⟩⟩
              rw [if_pos c45] at H
              have c45b0 := dT c45
              clear c45
              (first | rw [c45b0] | (simp only [i64_w, i32_w]; rw [c45b0]) | skip)
              as_aux_lemma =>
               have H' := aM H
               clear H
               go_wp2
               go_meet
               case rel => exact ⟨_, (((IntKind.u64.wrap (x4_17 * 16)) != 0)), xR, H', ⟨jC⟩, ⟨by (with_reducible repeat (first | apply Kd.R_alloc | apply Kd.R_drewN | apply Kd.R_drew)); exact Kd.R_mono HO109.out (fun _ hk => hk.1)⟩, ⟨kH⟩, ⟨hB⟩⟩
             case rest =>
              clear HC40
              obtain ⟨kq, x94_39, rfl, HA, HJ39, HO_0, HK, HB⟩ := hcut
              cases kq with
              | zero => exact absurd HA.out (by simp [strconv_fmtX.j7])
              | succ kj39 =>
               have H := HA.out
               clear HA
               simp only [strconv_fmtX.j7] at H
               have HC46 := aM H
               clear H
               go_upto_if 94 with (fail)
               go_cut [0] (fun v0 wc => ∃ (kq : Nat) (x0_45 : List Int), Aside0 (strconv_fmtX.j10 kq x0_45 a2 x5_17 = some r) ∧ Aside0 (kq ≤ kj39) ∧ Aside0 (Kd.R (Kd.int .u8) 5 wc w0.heap.size (fun k_ => (P0_ k_ ∨ w.heap.size ≤ k_)) v0 x0_45) ∧ Aside0 (Kept w wc (fun k_ => P0_ k_)) ∧ Aside0 (Below w0.heap.size w0 wc))
               case first =>
                have H := HC46.out
                clear HC46
                by_cases c47 : x94_39 = true
                ·subst c47
                 replace H := iT H
                 replace H := nI H
                 obtain ⟨c48, H⟩ := H
                 have LMc48 := aM c48
                 clear c48
                 obtain ⟨y110, hy110⟩ : ∃ y_ : List Int, y_ = (y107 ++ [46]) := ⟨_, rfl⟩
                 replace H : (strconv_fmtX.l1 kj39 y110 a2 (IntKind.u64.wrap (x4_17 * 16)) x5_17 x17_32) = some r := by first | (rw [hy110]; with_reducible exact H) | (have H2_ := (Option.bind_some _ _).symm.trans H; rw [hy110]; with_reducible exact H2_) | (have H2_ := (Option.bind_some _ _).symm.trans H; with_reducible exact H2_) | with_reducible exact H | (rw [hy110]; exact H) | exact H
                 have Ny110 := aM hy110
                 clear hy110
                 have H' := aM H
                 clear H
                 go_wp2_with (first | ((with_reducible refine gate_builtin (b := .append) (xs := #[.tmp 95, .tmp 96]) rfl ?_); at_builtin; refine Kd.R_append (Kd.int .u8) (w0 := w0) w0.heap.size rfl (.tmp 95) (.tmp 96) 82 5 (.int .u8 0) 1 rfl Tryz.underlying82 info5 rfl (by decide) (by omega) v108 y107 46 [.int .u8 46] (fun k_ => (P0_ k_ ∨ w.heap.size ≤ k_)) (fun _ => False) rfl rfl ?aP (fun _ hk => hk.elim) ?aF ?aO ?aB ?aS ?aL ?_; (case aP => exact rfl); (case aB => exact (hB)); (case aF => exact (fun k_ hk => (.inr (Nat.le_trans (kF) hk)))); (case aO => exact (rO HO_0)); (case aS => exact (below_size (hB))); (case aL => have := LMc48.out; omega); intro v111 w49 ho hb hg hat; rw [← Ny110.out] at ho; have n0_ := aM (hb); have n1_ := aM (Kept.of_grown (S := (fun k_ => P0_ k_)) hg (kH) (fun k_ e_ => (HO_0.out.1 k_ e_))); have n2_ := aM (ho); clear HB; clear HK; clear HO_0; have HB := n0_; have HK := n1_; have HO112 := n2_; clear n0_ n1_ n2_; clear ho hb hg hat))
                 go_loopg [0, 4] kj39 (fun kq v0 v4 w' => ∃ (x0_8 : List Int) (x4_8 : Int), v4 = .int .u64 x4_8 ∧ Aside0 (strconv_fmtX.l1 kq x0_8 a2 x4_8 x5_17 x17_32 = some r) ∧ Aside0 (kq ≤ kj39) ∧ Aside0 (Kd.R (Kd.int .u8) 5 w' w0.heap.size (fun k_ => (P0_ k_ ∨ w.heap.size ≤ k_)) v0 x0_8) ∧ Aside0 (Kept w w' (fun k_ => P0_ k_)) ∧ Aside0 (Below w0.heap.size w0 w'))
                 case atStart => exact ⟨(y110), ((IntKind.u64.wrap (x4_17 * 16))), xR, H', ⟨Nat.le_refl _⟩, ⟨rO HO112⟩, ⟨kH⟩, ⟨hB⟩⟩
                 case round =>
                  clear H'
                  obtain ⟨x0_8, x4_8, rfl, HA, HK8, HO_0, HK, HB⟩ := hrel
                  cases gk with
                  | zero => exact absurd HA.out (by simp [strconv_fmtX.l1])
                  | succ k8 =>
                   have H := HA.out
                   clear HA
                   simp only [strconv_fmtX.l1] at H
                   by_cases c50 : x4_8 = 0
                   ·rw [if_pos c50] at H
                    have c50b0 := bT c50
                    have c50b1 := mF c50
                    clear c50
                    (first | rw [c50b0] | (simp only [i64_w, i32_w]; rw [c50b0]) | skip)
                    as_aux_lemma =>
                     have H' := aM H
                     clear H
                     go_wp2
                     go_meet
                     case rel => exact ⟨_, x0_8, H', ⟨jC⟩, ⟨rO HO_0⟩, ⟨kH⟩, ⟨hB⟩⟩
                   rw [if_neg c50] at H
                   have c50b0 := bF c50
                   have c50b1 := mT c50
                   (first | rw [c50b0] | (simp only [i64_w, i32_w]; rw [c50b0]) | skip)
                   obtain ⟨ji51, hji51⟩ : ∃ j_ : Int, (Go.bits .and .u64 (x4_8 / 1152921504606846976) 15) = j_ := ⟨_, rfl⟩
                   replace H : (if 0 ≤ (ji51) then (if (ji51) < (x17_32.size : Int) then (if x0_8.length < 140737488355328 then (strconv_fmtX.l1 k8 (x0_8 ++ [bt x17_32 (ji51)]) a2 (IntKind.u64.wrap (x4_8 * 16)) x5_17 x17_32) else (none)) else (none)) else (none)) = some r := by first | (rw [hji51] at H; exact H) | (simp only [hji51] at H ⊢; exact H)
                   replace H := nI H
                   obtain ⟨c52, H⟩ := H
                   have c52b0 := dT c52
                   clear c52
                   replace H := nI H
                   obtain ⟨c53, H⟩ := H
                   have c53b0 := dT c53
                   clear c53
                   replace H := nI H
                   obtain ⟨c55, H⟩ := H
                   have LMc55 := aM c55
                   clear c55
                   obtain ⟨y113, hy113⟩ : ∃ y_ : List Int, y_ = (x0_8 ++ [bt x17_32 (ji51)]) := ⟨_, rfl⟩
                   replace H : (strconv_fmtX.l1 k8 y113 a2 (IntKind.u64.wrap (x4_8 * 16)) x5_17 x17_32) = some r := by first | (rw [hy113]; with_reducible exact H) | (have H2_ := (Option.bind_some _ _).symm.trans H; rw [hy113]; with_reducible exact H2_) | (have H2_ := (Option.bind_some _ _).symm.trans H; with_reducible exact H2_) | with_reducible exact H | (rw [hy113]; exact H) | exact H
                   have Ny113 := aM hy113
                   clear hy113
                   as_aux_lemma =>
                    have H' := aM H
                    clear H
                    have p54 : (0 ≤ ji51) = True := eT
                    have q54 : ((ji51) < (x17_32.size : Int)) = True := eT
                    have hx54 := bt_at x17_32 (ji51)
                    go_wp2_with (first | ((with_reducible refine gate_builtin (b := .append) (xs := #[.tmp 100, .tmp 106]) rfl ?_); at_builtin; refine Kd.R_append (Kd.int .u8) (w0 := w0) w0.heap.size rfl (.tmp 100) (.tmp 106) 82 5 (.int .u8 0) 1 rfl Tryz.underlying82 info5 rfl (by decide) (by omega) u0 x0_8 (bt x17_32 (ji51)) [.int .u8 (bt x17_32 (ji51))] (fun k_ => (P0_ k_ ∨ w.heap.size ≤ k_)) (fun _ => False) rfl rfl ?aP (fun _ hk => hk.elim) ?aF ?aO ?aB ?aS ?aL ?_; (case aP => exact rfl); (case aB => exact (hB)); (case aF => exact (fun k_ hk => (.inr (Nat.le_trans (kF) hk)))); (case aO => exact (rO HO_0)); (case aS => exact (below_size (hB))); (case aL => have := LMc55.out; omega); intro v114 w56 ho hb hg hat; rw [← Ny113.out] at ho; have n0_ := aM (hb); have n1_ := aM (Kept.of_grown (S := (fun k_ => P0_ k_)) hg (kH) (fun k_ e_ => (HO_0.out.1 k_ e_))); have n2_ := aM (ho); clear HB; clear HK; clear HO_0; have HB := n0_; have HK := n1_; have HO115 := n2_; clear n0_ n1_ n2_; clear ho hb hg hat))
                    go_roundg k8
                    case measure => exact jC
                    case rel => exact ⟨(y113), (IntKind.u64.wrap (x4_8 * 16)), xR, H', ⟨jC⟩, ⟨rO HO115⟩, ⟨kH⟩, ⟨hB⟩⟩
                replace c47 := nF c47
                subst c47
                replace H := iF H
                by_cases c57 : a1 > 0
                rotate_left
                ·rw [if_neg c57] at H
                 have c57b0 : decide (0 < a1) = false := decide_eq_false c57
                 clear c57
                 as_aux_lemma =>
                  have H' := aM H
                  clear H
                  go_wp2
                  go_meet
                  case rel => exact ⟨_, (y107), H', ⟨jC⟩, ⟨rO HO_0⟩, ⟨kH⟩, ⟨hB⟩⟩
                rw [if_pos c57] at H
                have c57b0 : decide (0 < a1) = true := decide_eq_true c57
                clear c57
                replace H := nI H
                obtain ⟨c58, H⟩ := H
                have LMc58 := aM c58
                clear c58
                obtain ⟨y116, hy116⟩ : ∃ y_ : List Int, y_ = (y107 ++ [46]) := ⟨_, rfl⟩
                replace H : (strconv_fmtX.l2 kj39 y116 a1 a2 (IntKind.u64.wrap (x4_17 * 16)) x5_17 x17_32 0) = some r := by first | (rw [hy116]; with_reducible exact H) | (have H2_ := (Option.bind_some _ _).symm.trans H; rw [hy116]; with_reducible exact H2_) | (have H2_ := (Option.bind_some _ _).symm.trans H; with_reducible exact H2_) | with_reducible exact H | (rw [hy116]; exact H) | exact H
                have Ny116 := aM hy116
                clear hy116
                have H' := aM H
                clear H
                go_wp2_with (first | ((with_reducible refine gate_builtin (b := .append) (xs := #[.tmp 112, .tmp 113]) rfl ?_); at_builtin; refine Kd.R_append (Kd.int .u8) (w0 := w0) w0.heap.size rfl (.tmp 112) (.tmp 113) 82 5 (.int .u8 0) 1 rfl Tryz.underlying82 info5 rfl (by decide) (by omega) v108 y107 46 [.int .u8 46] (fun k_ => (P0_ k_ ∨ w.heap.size ≤ k_)) (fun _ => False) rfl rfl ?aP (fun _ hk => hk.elim) ?aF ?aO ?aB ?aS ?aL ?_; (case aP => exact rfl); (case aB => exact (hB)); (case aF => exact (fun k_ hk => (.inr (Nat.le_trans (kF) hk)))); (case aO => exact (rO HO_0)); (case aS => exact (below_size (hB))); (case aL => have := LMc58.out; omega); intro v117 w59 ho hb hg hat; rw [← Ny116.out] at ho; have n0_ := aM (hb); have n1_ := aM (Kept.of_grown (S := (fun k_ => P0_ k_)) hg (kH) (fun k_ e_ => (HO_0.out.1 k_ e_))); have n2_ := aM (ho); clear HB; clear HK; clear HO_0; have HB := n0_; have HK := n1_; have HO118 := n2_; clear n0_ n1_ n2_; clear ho hb hg hat))
                go_loopg [0, 4, 18] kj39 (fun kq v0 v4 v18 w' => ∃ (x0_8 : List Int) (x4_8 : Int) (x18_8 : Int), v4 = .int .u64 x4_8 ∧ v18 = .int .i64 x18_8 ∧ Aside0 (strconv_fmtX.l2 kq x0_8 a1 a2 x4_8 x5_17 x17_32 x18_8 = some r) ∧ Aside0 (kq ≤ kj39) ∧ Aside0 (Kd.R (Kd.int .u8) 5 w' w0.heap.size (fun k_ => (P0_ k_ ∨ w.heap.size ≤ k_)) v0 x0_8) ∧ Aside0 (Kept w w' (fun k_ => P0_ k_)) ∧ Aside0 (Below w0.heap.size w0 w'))
                case atStart => exact ⟨(y116), ((IntKind.u64.wrap (x4_17 * 16))), (0), xR, xR, H', ⟨Nat.le_refl _⟩, ⟨rO HO118⟩, ⟨kH⟩, ⟨hB⟩⟩
                case round =>
                 clear H'
                 obtain ⟨x0_8, x4_8, x18_8, rfl, rfl, HA, HK8, HO_0, HK, HB⟩ := hrel
                 cases gk with
                 | zero => exact absurd HA.out (by simp [strconv_fmtX.l2])
                 | succ k8 =>
                  have H := HA.out
                  clear HA
                  simp only [strconv_fmtX.l2] at H
                  by_cases c60 : x18_8 < a1
                  rotate_left
                  ·rw [if_neg c60] at H
                   have c60b0 := dF c60
                   clear c60
                   as_aux_lemma =>
                    have H' := aM H
                    clear H
                    go_wp2
                    go_meet
                    case rel => exact ⟨_, x0_8, H', ⟨jC⟩, ⟨rO HO_0⟩, ⟨kH⟩, ⟨hB⟩⟩
                  rw [if_pos c60] at H
                  have c60b0 := dT c60
                  clear c60
                  obtain ⟨ji61, hji61⟩ : ∃ j_ : Int, (Go.bits .and .u64 (x4_8 / 1152921504606846976) 15) = j_ := ⟨_, rfl⟩
                  replace H : (if 0 ≤ (ji61) then (if (ji61) < (x17_32.size : Int) then (if x0_8.length < 140737488355328 then (strconv_fmtX.l2 k8 (x0_8 ++ [bt x17_32 (ji61)]) a1 a2 (IntKind.u64.wrap (x4_8 * 16)) x5_17 x17_32 (wrap64 (x18_8 + 1))) else (none)) else (none)) else (none)) = some r := by first | (rw [hji61] at H; exact H) | (simp only [hji61] at H ⊢; exact H)
                  replace H := nI H
                  obtain ⟨c62, H⟩ := H
                  have c62b0 := dT c62
                  clear c62
                  replace H := nI H
                  obtain ⟨c63, H⟩ := H
                  have c63b0 := dT c63
                  clear c63
                  replace H := nI H
                  obtain ⟨c65, H⟩ := H
                  have LMc65 := aM c65
                  clear c65
                  obtain ⟨y119, hy119⟩ : ∃ y_ : List Int, y_ = (x0_8 ++ [bt x17_32 (ji61)]) := ⟨_, rfl⟩
                  replace H : (strconv_fmtX.l2 k8 y119 a1 a2 (IntKind.u64.wrap (x4_8 * 16)) x5_17 x17_32 (wrap64 (x18_8 + 1))) = some r := by first | (rw [hy119]; with_reducible exact H) | (have H2_ := (Option.bind_some _ _).symm.trans H; rw [hy119]; with_reducible exact H2_) | (have H2_ := (Option.bind_some _ _).symm.trans H; with_reducible exact H2_) | with_reducible exact H | (rw [hy119]; exact H) | exact H
                  have Ny119 := aM hy119
                  clear hy119
                  as_aux_lemma =>
                   have H' := aM H
                   clear H
                   have p64 : (0 ≤ ji61) = True := eT
                   have q64 : ((ji61) < (x17_32.size : Int)) = True := eT
                   have hx64 := bt_at x17_32 (ji61)
                   go_wp2_with (first | ((with_reducible refine gate_builtin (b := .append) (xs := #[.tmp 120, .tmp 126]) rfl ?_); at_builtin; refine Kd.R_append (Kd.int .u8) (w0 := w0) w0.heap.size rfl (.tmp 120) (.tmp 126) 82 5 (.int .u8 0) 1 rfl Tryz.underlying82 info5 rfl (by decide) (by omega) u0 x0_8 (bt x17_32 (ji61)) [.int .u8 (bt x17_32 (ji61))] (fun k_ => (P0_ k_ ∨ w.heap.size ≤ k_)) (fun _ => False) rfl rfl ?aP (fun _ hk => hk.elim) ?aF ?aO ?aB ?aS ?aL ?_; (case aP => exact rfl); (case aB => exact (hB)); (case aF => exact (fun k_ hk => (.inr (Nat.le_trans (kF) hk)))); (case aO => exact (rO HO_0)); (case aS => exact (below_size (hB))); (case aL => have := LMc65.out; omega); intro v120 w66 ho hb hg hat; rw [← Ny119.out] at ho; have n0_ := aM (hb); have n1_ := aM (Kept.of_grown (S := (fun k_ => P0_ k_)) hg (kH) (fun k_ e_ => (HO_0.out.1 k_ e_))); have n2_ := aM (ho); clear HB; clear HK; clear HO_0; have HB := n0_; have HK := n1_; have HO121 := n2_; clear n0_ n1_ n2_; clear ho hb hg hat))
                   go_roundg k8
                   case measure => exact jC
                   case rel => exact ⟨(y119), (IntKind.u64.wrap (x4_8 * 16)), (wrap64 (x18_8 + 1)), xR, xR, H', ⟨jC⟩, ⟨rO HO121⟩, ⟨kH⟩, ⟨hB⟩⟩
               case rest =>
                clear HC46
                obtain ⟨kq, x0_45, HA, HJ45, HO_0, HK, HB⟩ := hcut
                cases kq with
                | zero => exact absurd HA.out (by simp [strconv_fmtX.j10])
                | succ kj45 =>
                 have H := HA.out
                 clear HA
                 simp only [strconv_fmtX.j10] at H
                 replace H := Option.bind_eq_some_iff.mp H
                 obtain ⟨t122, A670, H⟩ := H
                 replace H : (if a2 = t122 then (strconv_fmtX.j11 kj45 x0_45 x5_17 112) else (strconv_fmtX.j11 kj45 x0_45 x5_17 80)) = some r := H
                 have A67 := aM A670
                 clear A670
                 have HC68 := aM H
                 clear H
                 go_upto_if 133 with (first | ((with_reducible refine gate_callee (f := 96) rfl ?_); refine goesL_ (some 132) rfl rfl Tryz.func96 (by kernel_rfl) rfl #[.int .u8 a2] rfl gA ?_; (with_reducible refine (strconv_lower.calls a2 t122 _ A67.out).mono ?_); rintro e w' ⟨rfl, ⟨nd, rfl⟩⟩; refine ⟨_, rfl, ?_⟩))
                 (try simp only [Act.put, List.setIfInBounds_toArray, List.set_cons_zero, List.set_cons_succ])
                 go_cut [19] (fun v19 wc => ∃ (kq : Nat) (x19_67 : Int), v19 = .int .u8 x19_67 ∧ Aside0 (strconv_fmtX.j11 kq x0_45 x5_17 x19_67 = some r) ∧ Aside0 (kq ≤ kj45) ∧ Aside0 (Kd.R (Kd.int .u8) 5 wc w0.heap.size (fun k_ => (P0_ k_ ∨ w.heap.size ≤ k_)) u0 x0_45) ∧ Aside0 (Kept w wc (fun k_ => P0_ k_)) ∧ Aside0 (Below w0.heap.size w0 wc))
                 case first =>
                  have H := HC68.out
                  clear HC68
                  by_cases c69 : a2 = t122
                  rotate_left
                  ·rw [if_neg c69] at H
                   have c69b0 := bF c69
                   have c69b1 := mT c69
                   (first | rw [c69b0] | (simp only [i64_w, i32_w]; rw [c69b0]) | skip)
                   as_aux_lemma =>
                    have H' := aM H
                    clear H
                    go_wp2
                    go_meet
                    case rel => exact ⟨_, (80), xR, H', ⟨jC⟩, ⟨rO HO_0⟩, ⟨kH⟩, ⟨hB⟩⟩
                  rw [if_pos c69] at H
                  have c69b0 := bT c69
                  have c69b1 := mF c69
                  clear c69
                  (first | rw [c69b0] | (simp only [i64_w, i32_w]; rw [c69b0]) | skip)
                  as_aux_lemma =>
                   have H' := aM H
                   clear H
                   go_wp2
                   go_meet
                   case rel => exact ⟨_, (112), xR, H', ⟨jC⟩, ⟨rO HO_0⟩, ⟨kH⟩, ⟨hB⟩⟩
                 case rest =>
                  clear HC68
                  obtain ⟨kq, x19_67, rfl, HA, HJ67, HO_0, HK, HB⟩ := hcut
                  cases kq with
                  | zero => exact absurd HA.out (by simp [strconv_fmtX.j11])
                  | succ kj67 =>
                   have H := HA.out
                   clear HA
                   simp only [strconv_fmtX.j11] at H
                   replace H := nI H
                   obtain ⟨c70, H⟩ := H
                   have LMc70 := aM c70
                   clear c70
                   obtain ⟨y123, hy123⟩ : ∃ y_ : List Int, y_ = (x0_45 ++ [x19_67]) := ⟨_, rfl⟩
                   replace H : (if x5_17 < 0 then (strconv_fmtX.j12 kj67 y123 (wrap64 (-x5_17)) 45) else (strconv_fmtX.j12 kj67 y123 x5_17 43)) = some r := by first | (rw [hy123]; with_reducible exact H) | (have H2_ := (Option.bind_some _ _).symm.trans H; rw [hy123]; with_reducible exact H2_) | (have H2_ := (Option.bind_some _ _).symm.trans H; with_reducible exact H2_) | with_reducible exact H | (rw [hy123]; exact H) | exact H
                   have Ny123 := aM hy123
                   clear hy123
                   have HC71 := aM H
                   clear H
                   go_upto_if 139 with (first | ((with_reducible refine gate_builtin (b := .append) (xs := #[.tmp 134, .tmp 136]) rfl ?_); at_builtin; refine Kd.R_append (Kd.int .u8) (w0 := w0) w0.heap.size rfl (.tmp 134) (.tmp 136) 82 5 (.int .u8 0) 1 rfl Tryz.underlying82 info5 rfl (by decide) (by omega) u0 x0_45 x19_67 [.int .u8 x19_67] (fun k_ => (P0_ k_ ∨ w.heap.size ≤ k_)) (fun _ => False) rfl rfl ?aP (fun _ hk => hk.elim) ?aF ?aO ?aB ?aS ?aL ?_; (case aP => exact rfl); (case aB => exact (hB)); (case aF => exact (fun k_ hk => (.inr (Nat.le_trans (kF) hk)))); (case aO => exact (rO HO_0)); (case aS => exact (below_size (hB))); (case aL => have := LMc70.out; omega); intro v124 w72 ho hb hg hat; rw [← Ny123.out] at ho; have n0_ := aM (hb); have n1_ := aM (Kept.of_grown (S := (fun k_ => P0_ k_)) hg (kH) (fun k_ e_ => (HO_0.out.1 k_ e_))); have n2_ := aM (ho); clear HB; clear HK; clear HO_0; have HB := n0_; have HK := n1_; have HO125 := n2_; clear n0_ n1_ n2_; clear ho hb hg hat))
                   (try simp only [Act.put, List.setIfInBounds_toArray, List.set_cons_zero, List.set_cons_succ])
                   go_cut [5, 19] (fun v5 v19 wc => ∃ (kq : Nat) (x5_70 : Int) (x19_70 : Int), v5 = .int .i64 x5_70 ∧ v19 = .int .u8 x19_70 ∧ Aside0 (strconv_fmtX.j12 kq y123 x5_70 x19_70 = some r) ∧ Aside0 (kq ≤ kj67) ∧ Aside0 (Kd.R (Kd.int .u8) 5 wc w0.heap.size (fun k_ => (P0_ k_ ∨ w.heap.size ≤ k_)) v124 y123) ∧ Aside0 (Kept w wc (fun k_ => P0_ k_)) ∧ Aside0 (Below w0.heap.size w0 wc))
                   case first =>
                    have H := HC71.out
                    clear HC71
                    by_cases c73 : x5_17 < 0
                    rotate_left
                    ·rw [if_neg c73] at H
                     have c73b0 := dF c73
                     clear c73
                     (first | rw [c73b0] | (simp only [i64_w, i32_w]; rw [c73b0]) | skip)
                     as_aux_lemma =>
                      have H' := aM H
                      clear H
                      go_wp2
                      go_meet
                      case rel => exact ⟨_, x5_17, (43), xR, xR, H', ⟨jC⟩, ⟨rO HO125⟩, ⟨kH⟩, ⟨hB⟩⟩
                    rw [if_pos c73] at H
                    have c73b0 := dT c73
                    clear c73
                    (first | rw [c73b0] | (simp only [i64_w, i32_w]; rw [c73b0]) | skip)
                    as_aux_lemma =>
                     have H' := aM H
                     clear H
                     go_wp2
                     go_meet
                     case rel => exact ⟨_, (wrap64 (-x5_17)), (45), xR, xR, H', ⟨jC⟩, ⟨rO HO125⟩, ⟨kH⟩, ⟨hB⟩⟩
                   case rest =>
                    clear HC71
                    obtain ⟨kq, x5_70, x19_70, rfl, rfl, HA, HJ70, HO_0, HK, HB⟩ := hcut
                    cases kq with
                    | zero => exact absurd HA.out (by simp [strconv_fmtX.j12])
                    | succ kj70 =>
                     have H := HA.out
                     clear HA
                     simp only [strconv_fmtX.j12] at H
                     replace H := nI H
                     obtain ⟨c74, H⟩ := H
                     have LMc74 := aM c74
                     clear c74
                     obtain ⟨y126, hy126⟩ : ∃ y_ : List Int, y_ = (y123 ++ [x19_70]) := ⟨_, rfl⟩
                     replace H : (if x5_70 < 100 then ((some (([(((wrap64 (Int.tdiv x5_70 10)) % 256) + 48) % 256, (((Int.tmod x5_70 10) % 256) + 48) % 256] : List Int) : List Int)).bind fun y129 => (if y126.length + y129.length < 140737488355328 then (some (y126 ++ y129)) else (none))) else (if x5_70 < 1000 then ((some (([(((wrap64 (Int.tdiv x5_70 100)) % 256) + 48) % 256, (((Int.tmod (wrap64 (Int.tdiv x5_70 10)) 10) % 256) + 48) % 256, (((Int.tmod x5_70 10) % 256) + 48) % 256] : List Int) : List Int)).bind fun y135 => (if y126.length + y135.length < 140737488355328 then (some (y126 ++ y135)) else (none))) else ((some (([(((wrap64 (Int.tdiv x5_70 1000)) % 256) + 48) % 256, (((wrap64 (Int.tdiv x5_70 100)) % 256) % 10) + 48, (((Int.tmod (wrap64 (Int.tdiv x5_70 10)) 10) % 256) + 48) % 256, (((Int.tmod x5_70 10) % 256) + 48) % 256] : List Int) : List Int)).bind fun y141 => (if y126.length + y141.length < 140737488355328 then (some (y126 ++ y141)) else (none))))) = some r := by first | (rw [hy126]; with_reducible exact H) | (have H2_ := (Option.bind_some _ _).symm.trans H; rw [hy126]; with_reducible exact H2_) | (have H2_ := (Option.bind_some _ _).symm.trans H; with_reducible exact H2_) | with_reducible exact H | (rw [hy126]; exact H) | exact H
                     have Ny126 := aM hy126
                     clear hy126
                     by_cases c75 : x5_70 < 100
                     ·rw [if_pos c75] at H
                      have c75b0 := dT c75
                      clear c75
                      obtain ⟨y129, hy129⟩ : ∃ y_ : List Int, y_ = (([(((wrap64 (Int.tdiv x5_70 10)) % 256) + 48) % 256, (((Int.tmod x5_70 10) % 256) + 48) % 256] : List Int)) := ⟨_, rfl⟩
                      replace H : (if y126.length + y129.length < 140737488355328 then (some (y126 ++ y129)) else (none)) = some r := by first | (rw [hy129]; with_reducible exact H) | (have H2_ := (Option.bind_some _ _).symm.trans H; rw [hy129]; with_reducible exact H2_) | (have H2_ := (Option.bind_some _ _).symm.trans H; with_reducible exact H2_) | with_reducible exact H | (rw [hy129]; exact H) | exact H
                      have Ny129 := aM hy129
                      clear hy129
                      replace H := nI H
                      obtain ⟨c76, H⟩ := H
                      have LMc76 := aM c76
                      clear c76
                      obtain ⟨y132, hy132⟩ : ∃ y_ : List Int, y_ = (y126 ++ y129) := ⟨_, rfl⟩
                      replace H : (some y132) = some r := by first | (rw [hy132]; with_reducible exact H) | (have H2_ := (Option.bind_some _ _).symm.trans H; rw [hy132]; with_reducible exact H2_) | (have H2_ := (Option.bind_some _ _).symm.trans H; with_reducible exact H2_) | with_reducible exact H | (rw [hy132]; exact H) | exact H
                      have Ny132 := aM hy132
                      clear hy132
                      as_aux_lemma =>
                       obtain rfl := Option.some.inj H
                       go_wp2_with (first | ((with_reducible refine gate_builtin (b := .append) (xs := #[.tmp 142, .tmp 144]) rfl ?_); at_builtin; refine Kd.R_append (Kd.int .u8) (w0 := w0) w0.heap.size rfl (.tmp 142) (.tmp 144) 82 5 (.int .u8 0) 1 rfl Tryz.underlying82 info5 rfl (by decide) (by omega) v124 y123 x19_70 [.int .u8 x19_70] (fun k_ => (P0_ k_ ∨ w.heap.size ≤ k_)) (fun _ => False) rfl rfl ?aP (fun _ hk => hk.elim) ?aF ?aO ?aB ?aS ?aL ?_; (case aP => exact rfl); (case aB => exact (hB)); (case aF => exact (fun k_ hk => (.inr (Nat.le_trans (kF) hk)))); (case aO => exact (rO HO_0)); (case aS => exact (below_size (hB))); (case aL => have := LMc74.out; omega); intro v127 w77 ho hb hg hat; rw [← Ny126.out] at ho; have n0_ := aM (hb); have n1_ := aM (Kept.of_grown (S := (fun k_ => P0_ k_)) hg (kH) (fun k_ e_ => (HO_0.out.1 k_ e_))); have n2_ := aM (ho); clear HB; clear HK; clear HO_0; have HB := n0_; have HK := n1_; have HO128 := n2_; clear n0_ n1_ n2_; clear ho hb hg hat) | ((with_reducible refine gate_dst (N := 179) rfl ?_); refine Kd.R_lit (Kd.int .u8) _ 5 ?hg (N := 179) ?hd (xs := ([(((wrap64 (Int.tdiv x5_70 10)) % 256) + 48) % 256, (((Int.tmod x5_70 10) % 256) + 48) % 256] : List Int)) (inner := [.int .u8 ((((wrap64 (Int.tdiv x5_70 10)) % 256) + 48) % 256), .int .u8 ((((Int.tmod x5_70 10) % 256) + 48) % 256)]) (ok := fun _ => True) (okp := fun _ => True) ?hr ?hp (fun _ hk => hk) trivial (Below.refl _ _) (Nat.le_refl _) (by simp) ?_; (case hd => rfl); (case hg => rfl); (case hr => first | (go_simp; done) | (go_simp; rfl)); (case hp => exact (Reps.one (show Kd.M (Kd.int .u8) _ _ _ ((((wrap64 (Int.tdiv x5_70 10)) % 256) + 48) % 256) [.int .u8 ((((wrap64 (Int.tdiv x5_70 10)) % 256) + 48) % 256)] from rfl) (Reps.one (show Kd.M (Kd.int .u8) _ _ _ ((((Int.tmod x5_70 10) % 256) + 48) % 256) [.int .u8 ((((Int.tmod x5_70 10) % 256) + 48) % 256)] from rfl) (Reps.none _ _)))); intro v130 w78 ho79 hb hg_ hnew_; clear hg_ hnew_; (first | rw [← Ny129.out] at ho79 | (simp only [Int.reduceToNat] at ho79; rw [← Ny129.out] at ho79)); have n0_ := aM (Kd.R_elder' (rO HO128) (Kd.R_base ho79) hb); have n1_ := aM (Kd.R_lower (Kd.R_new' (Kd.R_newM (M := fun k_ => (P0_ k_ ∨ w.heap.size ≤ k_)) ho79 (kF) (fun k_ h_ => .inr h_)) (Kd.R_lt (rO HO128))) (below_size (hB))); have n2_ := aM (Kept.below (S := (fun k_ => P0_ k_)) (kH) hb); have n3_ := aM (below_step (hB) hb); clear HO128; clear HK; clear HB; have HO128 := n0_; have HO131 := n1_; have HK := n2_; have HB := n3_; clear n0_ n1_ n2_ n3_; clear hb ho79; obtain ⟨Ao81, co81, eo81⟩ := Kd.R_slice HO131.out; subst eo81) | ((with_reducible refine gate_builtin (b := .append) (xs := #[.tmp 170, .tmp 179]) rfl ?_); at_builtin; refine Kd.R_append_rows (Kd.int .u8) (w0 := w0) w0.heap.size rfl (.tmp 170) (.tmp 179) 82 5 (.int .u8 0) 1 rfl Tryz.underlying82 info5 rfl (by decide) (by omega) v127 y126 y129 _ _ _ (fun k_ => (P0_ k_ ∨ w.heap.size ≤ k_) ∧ some k_ ≠ (.slice Ao81 y129.length co81 : Value).ownBlock) (fun _ => False) rfl rfl ?aO ?aR (fun _ _ h => h) (fun _ h => h.elim) ?aF ?aB ?aS ?aL ?_; (case aR => repeat (first | exact (Kd.R_reads' HO131.out).2.2 | (with_reducible refine Kd.C_alloc ?_ _) | (with_reducible refine Kd.C_drewN ?_ _) | (with_reducible refine Kd.C_drew ?_))); (case aB => exact (hB)); (case aF => exact (fun k_ hk => ⟨(.inr (Nat.le_trans (kF) hk)), Kd.fresh' (Kd.R_lt (rO HO131)) k_ hk⟩)); (case aO => exact (rO HO128)); (case aS => exact (below_size (hB))); (case aL => have := LMc76.out; omega); intro v133 w80 ho hb hg hat; rw [← Ny132.out] at ho; have n0_ := aM (Kd.R_after (ok := (fun k_ => (P0_ k_ ∨ w.heap.size ≤ k_))) (by (with_reducible repeat (first | apply Kd.R_alloc | apply Kd.R_drewN | apply Kd.R_drew)); exact Kd.R_mono HO131.out (fun _ hk => ⟨hk.1.1, hk.2⟩)) hg hat); have n1_ := aM (hb); have n2_ := aM (Kept.of_grown (S := (fun k_ => P0_ k_)) hg (kH) (fun k_ e_ => (HO128.out.1 k_ e_).1)); have n3_ := aM (ho); clear HO131; clear HB; clear HK; clear HO128; have HO131 := n0_; have HB := n1_; have HK := n2_; have HO134 := n3_; clear n0_ n1_ n2_ n3_; clear ho hb hg hat))
                       go_ret
                       exact ⟨_, by first | rfl | (simp [errW_none, errW_some] <;> rfl) | (simp only [← hji10, ← hji12]; first | rfl | (simp [errW_none, errW_some] <;> rfl)) | (simp [*, errW_none, errW_some] <;> rfl), by (with_reducible repeat (first | apply Kd.R_alloc | apply Kd.R_drewN | apply Kd.R_drew)); exact Kd.R_mono HO134.out (fun _ hk => hk.1), hB, kH⟩
                     rw [if_neg c75] at H
                     have c75b0 := dF c75
                     clear c75
                     by_cases c82 : x5_70 < 1000
                     ·rw [if_pos c82] at H
                      have c82b0 := dT c82
                      clear c82
                      obtain ⟨y135, hy135⟩ : ∃ y_ : List Int, y_ = (([(((wrap64 (Int.tdiv x5_70 100)) % 256) + 48) % 256, (((Int.tmod (wrap64 (Int.tdiv x5_70 10)) 10) % 256) + 48) % 256, (((Int.tmod x5_70 10) % 256) + 48) % 256] : List Int)) := ⟨_, rfl⟩
                      replace H : (if y126.length + y135.length < 140737488355328 then (some (y126 ++ y135)) else (none)) = some r := by first | (rw [hy135]; with_reducible exact H) | (have H2_ := (Option.bind_some _ _).symm.trans H; rw [hy135]; with_reducible exact H2_) | (have H2_ := (Option.bind_some _ _).symm.trans H; with_reducible exact H2_) | with_reducible exact H | (rw [hy135]; exact H) | exact H
                      have Ny135 := aM hy135
                      clear hy135
                      replace H := nI H
                      obtain ⟨c83, H⟩ := H
                      have LMc83 := aM c83
                      clear c83
                      obtain ⟨y138, hy138⟩ : ∃ y_ : List Int, y_ = (y126 ++ y135) := ⟨_, rfl⟩
                      replace H : (some y138) = some r := by first | (rw [hy138]; with_reducible exact H) | (have H2_ := (Option.bind_some _ _).symm.trans H; rw [hy138]; with_reducible exact H2_) | (have H2_ := (Option.bind_some _ _).symm.trans H; with_reducible exact H2_) | with_reducible exact H | (rw [hy138]; exact H) | exact H
                      have Ny138 := aM hy138
                      clear hy138
                      as_aux_lemma =>
                       obtain rfl := Option.some.inj H
                       go_wp2_with (first | ((with_reducible refine gate_builtin (b := .append) (xs := #[.tmp 142, .tmp 144]) rfl ?_); at_builtin; refine Kd.R_append (Kd.int .u8) (w0 := w0) w0.heap.size rfl (.tmp 142) (.tmp 144) 82 5 (.int .u8 0) 1 rfl Tryz.underlying82 info5 rfl (by decide) (by omega) v124 y123 x19_70 [.int .u8 x19_70] (fun k_ => (P0_ k_ ∨ w.heap.size ≤ k_)) (fun _ => False) rfl rfl ?aP (fun _ hk => hk.elim) ?aF ?aO ?aB ?aS ?aL ?_; (case aP => exact rfl); (case aB => exact (hB)); (case aF => exact (fun k_ hk => (.inr (Nat.le_trans (kF) hk)))); (case aO => exact (rO HO_0)); (case aS => exact (below_size (hB))); (case aL => have := LMc74.out; omega); intro v127 w84 ho hb hg hat; rw [← Ny126.out] at ho; have n0_ := aM (hb); have n1_ := aM (Kept.of_grown (S := (fun k_ => P0_ k_)) hg (kH) (fun k_ e_ => (HO_0.out.1 k_ e_))); have n2_ := aM (ho); clear HB; clear HK; clear HO_0; have HB := n0_; have HK := n1_; have HO128 := n2_; clear n0_ n1_ n2_; clear ho hb hg hat) | ((with_reducible refine gate_dst (N := 198) rfl ?_); refine Kd.R_lit (Kd.int .u8) _ 5 ?hg (N := 198) ?hd (xs := ([(((wrap64 (Int.tdiv x5_70 100)) % 256) + 48) % 256, (((Int.tmod (wrap64 (Int.tdiv x5_70 10)) 10) % 256) + 48) % 256, (((Int.tmod x5_70 10) % 256) + 48) % 256] : List Int)) (inner := [.int .u8 ((((wrap64 (Int.tdiv x5_70 100)) % 256) + 48) % 256), .int .u8 ((((Int.tmod (wrap64 (Int.tdiv x5_70 10)) 10) % 256) + 48) % 256), .int .u8 ((((Int.tmod x5_70 10) % 256) + 48) % 256)]) (ok := fun _ => True) (okp := fun _ => True) ?hr ?hp (fun _ hk => hk) trivial (Below.refl _ _) (Nat.le_refl _) (by simp) ?_; (case hd => rfl); (case hg => rfl); (case hr => first | (go_simp; done) | (go_simp; rfl)); (case hp => exact (Reps.one (show Kd.M (Kd.int .u8) _ _ _ ((((wrap64 (Int.tdiv x5_70 100)) % 256) + 48) % 256) [.int .u8 ((((wrap64 (Int.tdiv x5_70 100)) % 256) + 48) % 256)] from rfl) (Reps.one (show Kd.M (Kd.int .u8) _ _ _ ((((Int.tmod (wrap64 (Int.tdiv x5_70 10)) 10) % 256) + 48) % 256) [.int .u8 ((((Int.tmod (wrap64 (Int.tdiv x5_70 10)) 10) % 256) + 48) % 256)] from rfl) (Reps.one (show Kd.M (Kd.int .u8) _ _ _ ((((Int.tmod x5_70 10) % 256) + 48) % 256) [.int .u8 ((((Int.tmod x5_70 10) % 256) + 48) % 256)] from rfl) (Reps.none _ _))))); intro v136 w85 ho86 hb hg_ hnew_; clear hg_ hnew_; (first | rw [← Ny135.out] at ho86 | (simp only [Int.reduceToNat] at ho86; rw [← Ny135.out] at ho86)); have n0_ := aM (Kd.R_elder' (rO HO128) (Kd.R_base ho86) hb); have n1_ := aM (Kd.R_lower (Kd.R_new' (Kd.R_newM (M := fun k_ => (P0_ k_ ∨ w.heap.size ≤ k_)) ho86 (kF) (fun k_ h_ => .inr h_)) (Kd.R_lt (rO HO128))) (below_size (hB))); have n2_ := aM (Kept.below (S := (fun k_ => P0_ k_)) (kH) hb); have n3_ := aM (below_step (hB) hb); clear HO128; clear HK; clear HB; have HO128 := n0_; have HO137 := n1_; have HK := n2_; have HB := n3_; clear n0_ n1_ n2_ n3_; clear hb ho86; obtain ⟨Ao88, co88, eo88⟩ := Kd.R_slice HO137.out; subst eo88) | ((with_reducible refine gate_builtin (b := .append) (xs := #[.tmp 184, .tmp 198]) rfl ?_); at_builtin; refine Kd.R_append_rows (Kd.int .u8) (w0 := w0) w0.heap.size rfl (.tmp 184) (.tmp 198) 82 5 (.int .u8 0) 1 rfl Tryz.underlying82 info5 rfl (by decide) (by omega) v127 y126 y135 _ _ _ (fun k_ => (P0_ k_ ∨ w.heap.size ≤ k_) ∧ some k_ ≠ (.slice Ao88 y135.length co88 : Value).ownBlock) (fun _ => False) rfl rfl ?aO ?aR (fun _ _ h => h) (fun _ h => h.elim) ?aF ?aB ?aS ?aL ?_; (case aR => repeat (first | exact (Kd.R_reads' HO137.out).2.2 | (with_reducible refine Kd.C_alloc ?_ _) | (with_reducible refine Kd.C_drewN ?_ _) | (with_reducible refine Kd.C_drew ?_))); (case aB => exact (hB)); (case aF => exact (fun k_ hk => ⟨(.inr (Nat.le_trans (kF) hk)), Kd.fresh' (Kd.R_lt (rO HO137)) k_ hk⟩)); (case aO => exact (rO HO128)); (case aS => exact (below_size (hB))); (case aL => have := LMc83.out; omega); intro v139 w87 ho hb hg hat; rw [← Ny138.out] at ho; have n0_ := aM (Kd.R_after (ok := (fun k_ => (P0_ k_ ∨ w.heap.size ≤ k_))) (by (with_reducible repeat (first | apply Kd.R_alloc | apply Kd.R_drewN | apply Kd.R_drew)); exact Kd.R_mono HO137.out (fun _ hk => ⟨hk.1.1, hk.2⟩)) hg hat); have n1_ := aM (hb); have n2_ := aM (Kept.of_grown (S := (fun k_ => P0_ k_)) hg (kH) (fun k_ e_ => (HO128.out.1 k_ e_).1)); have n3_ := aM (ho); clear HO137; clear HB; clear HK; clear HO128; have HO137 := n0_; have HB := n1_; have HK := n2_; have HO140 := n3_; clear n0_ n1_ n2_ n3_; clear ho hb hg hat))
                       go_ret
                       exact ⟨_, by first | rfl | (simp [errW_none, errW_some] <;> rfl) | (simp only [← hji10, ← hji12]; first | rfl | (simp [errW_none, errW_some] <;> rfl)) | (simp [*, errW_none, errW_some] <;> rfl), by (with_reducible repeat (first | apply Kd.R_alloc | apply Kd.R_drewN | apply Kd.R_drew)); exact Kd.R_mono HO140.out (fun _ hk => hk.1), hB, kH⟩
                     rw [if_neg c82] at H
                     have c82b0 := dF c82
                     clear c82
                     obtain ⟨y141, hy141⟩ : ∃ y_ : List Int, y_ = (([(((wrap64 (Int.tdiv x5_70 1000)) % 256) + 48) % 256, (((wrap64 (Int.tdiv x5_70 100)) % 256) % 10) + 48, (((Int.tmod (wrap64 (Int.tdiv x5_70 10)) 10) % 256) + 48) % 256, (((Int.tmod x5_70 10) % 256) + 48) % 256] : List Int)) := ⟨_, rfl⟩
                     replace H : (if y126.length + y141.length < 140737488355328 then (some (y126 ++ y141)) else (none)) = some r := by first | (rw [hy141]; with_reducible exact H) | (have H2_ := (Option.bind_some _ _).symm.trans H; rw [hy141]; with_reducible exact H2_) | (have H2_ := (Option.bind_some _ _).symm.trans H; with_reducible exact H2_) | with_reducible exact H | (rw [hy141]; exact H) | exact H
                     have Ny141 := aM hy141
                     clear hy141
                     replace H := nI H
                     obtain ⟨c89, H⟩ := H
                     have LMc89 := aM c89
                     clear c89
                     obtain ⟨y144, hy144⟩ : ∃ y_ : List Int, y_ = (y126 ++ y141) := ⟨_, rfl⟩
                     replace H : (some y144) = some r := by first | (rw [hy144]; with_reducible exact H) | (have H2_ := (Option.bind_some _ _).symm.trans H; rw [hy144]; with_reducible exact H2_) | (have H2_ := (Option.bind_some _ _).symm.trans H; with_reducible exact H2_) | with_reducible exact H | (rw [hy144]; exact H) | exact H
                     have Ny144 := aM hy144
                     clear hy144
                     as_aux_lemma =>
                      obtain rfl := Option.some.inj H
                      go_wp2_with (first | ((with_reducible refine gate_builtin (b := .append) (xs := #[.tmp 142, .tmp 144]) rfl ?_); at_builtin; refine Kd.R_append (Kd.int .u8) (w0 := w0) w0.heap.size rfl (.tmp 142) (.tmp 144) 82 5 (.int .u8 0) 1 rfl Tryz.underlying82 info5 rfl (by decide) (by omega) v124 y123 x19_70 [.int .u8 x19_70] (fun k_ => (P0_ k_ ∨ w.heap.size ≤ k_)) (fun _ => False) rfl rfl ?aP (fun _ hk => hk.elim) ?aF ?aO ?aB ?aS ?aL ?_; (case aP => exact rfl); (case aB => exact (hB)); (case aF => exact (fun k_ hk => (.inr (Nat.le_trans (kF) hk)))); (case aO => exact (rO HO_0)); (case aS => exact (below_size (hB))); (case aL => have := LMc74.out; omega); intro v127 w90 ho hb hg hat; rw [← Ny126.out] at ho; have n0_ := aM (hb); have n1_ := aM (Kept.of_grown (S := (fun k_ => P0_ k_)) hg (kH) (fun k_ e_ => (HO_0.out.1 k_ e_))); have n2_ := aM (ho); clear HB; clear HK; clear HO_0; have HB := n0_; have HK := n1_; have HO128 := n2_; clear n0_ n1_ n2_; clear ho hb hg hat) | ((with_reducible refine gate_dst (N := 165) rfl ?_); refine Kd.R_lit (Kd.int .u8) _ 5 ?hg (N := 165) ?hd (xs := ([(((wrap64 (Int.tdiv x5_70 1000)) % 256) + 48) % 256, (((wrap64 (Int.tdiv x5_70 100)) % 256) % 10) + 48, (((Int.tmod (wrap64 (Int.tdiv x5_70 10)) 10) % 256) + 48) % 256, (((Int.tmod x5_70 10) % 256) + 48) % 256] : List Int)) (inner := [.int .u8 ((((wrap64 (Int.tdiv x5_70 1000)) % 256) + 48) % 256), .int .u8 ((((wrap64 (Int.tdiv x5_70 100)) % 256) % 10) + 48), .int .u8 ((((Int.tmod (wrap64 (Int.tdiv x5_70 10)) 10) % 256) + 48) % 256), .int .u8 ((((Int.tmod x5_70 10) % 256) + 48) % 256)]) (ok := fun _ => True) (okp := fun _ => True) ?hr ?hp (fun _ hk => hk) trivial (Below.refl _ _) (Nat.le_refl _) (by simp) ?_; (case hd => rfl); (case hg => rfl); (case hr => first | (go_simp; done) | (go_simp; rfl)); (case hp => exact (Reps.one (show Kd.M (Kd.int .u8) _ _ _ ((((wrap64 (Int.tdiv x5_70 1000)) % 256) + 48) % 256) [.int .u8 ((((wrap64 (Int.tdiv x5_70 1000)) % 256) + 48) % 256)] from rfl) (Reps.one (show Kd.M (Kd.int .u8) _ _ _ ((((wrap64 (Int.tdiv x5_70 100)) % 256) % 10) + 48) [.int .u8 ((((wrap64 (Int.tdiv x5_70 100)) % 256) % 10) + 48)] from rfl) (Reps.one (show Kd.M (Kd.int .u8) _ _ _ ((((Int.tmod (wrap64 (Int.tdiv x5_70 10)) 10) % 256) + 48) % 256) [.int .u8 ((((Int.tmod (wrap64 (Int.tdiv x5_70 10)) 10) % 256) + 48) % 256)] from rfl) (Reps.one (show Kd.M (Kd.int .u8) _ _ _ ((((Int.tmod x5_70 10) % 256) + 48) % 256) [.int .u8 ((((Int.tmod x5_70 10) % 256) + 48) % 256)] from rfl) (Reps.none _ _)))))); intro v142 w91 ho92 hb hg_ hnew_; clear hg_ hnew_; (first | rw [← Ny141.out] at ho92 | (simp only [Int.reduceToNat] at ho92; rw [← Ny141.out] at ho92)); have n0_ := aM (Kd.R_elder' (rO HO128) (Kd.R_base ho92) hb); have n1_ := aM (Kd.R_lower (Kd.R_new' (Kd.R_newM (M := fun k_ => (P0_ k_ ∨ w.heap.size ≤ k_)) ho92 (kF) (fun k_ h_ => .inr h_)) (Kd.R_lt (rO HO128))) (below_size (hB))); have n2_ := aM (Kept.below (S := (fun k_ => P0_ k_)) (kH) hb); have n3_ := aM (below_step (hB) hb); clear HO128; clear HK; clear HB; have HO128 := n0_; have HO143 := n1_; have HK := n2_; have HB := n3_; clear n0_ n1_ n2_ n3_; clear hb ho92; obtain ⟨Ao94, co94, eo94⟩ := Kd.R_slice HO143.out; subst eo94) | ((with_reducible refine gate_builtin (b := .append) (xs := #[.tmp 146, .tmp 165]) rfl ?_); at_builtin; refine Kd.R_append_rows (Kd.int .u8) (w0 := w0) w0.heap.size rfl (.tmp 146) (.tmp 165) 82 5 (.int .u8 0) 1 rfl Tryz.underlying82 info5 rfl (by decide) (by omega) v127 y126 y141 _ _ _ (fun k_ => (P0_ k_ ∨ w.heap.size ≤ k_) ∧ some k_ ≠ (.slice Ao94 y141.length co94 : Value).ownBlock) (fun _ => False) rfl rfl ?aO ?aR (fun _ _ h => h) (fun _ h => h.elim) ?aF ?aB ?aS ?aL ?_; (case aR => repeat (first | exact (Kd.R_reads' HO143.out).2.2 | (with_reducible refine Kd.C_alloc ?_ _) | (with_reducible refine Kd.C_drewN ?_ _) | (with_reducible refine Kd.C_drew ?_))); (case aB => exact (hB)); (case aF => exact (fun k_ hk => ⟨(.inr (Nat.le_trans (kF) hk)), Kd.fresh' (Kd.R_lt (rO HO143)) k_ hk⟩)); (case aO => exact (rO HO128)); (case aS => exact (below_size (hB))); (case aL => have := LMc89.out; omega); intro v145 w93 ho hb hg hat; rw [← Ny144.out] at ho; have n0_ := aM (Kd.R_after (ok := (fun k_ => (P0_ k_ ∨ w.heap.size ≤ k_))) (by (with_reducible repeat (first | apply Kd.R_alloc | apply Kd.R_drewN | apply Kd.R_drew)); exact Kd.R_mono HO143.out (fun _ hk => ⟨hk.1.1, hk.2⟩)) hg hat); have n1_ := aM (hb); have n2_ := aM (Kept.of_grown (S := (fun k_ => P0_ k_)) hg (kH) (fun k_ e_ => (HO128.out.1 k_ e_).1)); have n3_ := aM (ho); clear HO143; clear HB; clear HK; clear HO128; have HO143 := n0_; have HB := n1_; have HK := n2_; have HO146 := n3_; clear n0_ n1_ n2_ n3_; clear ho hb hg hat))
                      go_ret
                      exact ⟨_, by first | rfl | (simp [errW_none, errW_some] <;> rfl) | (simp only [← hji10, ← hji12]; first | rfl | (simp [errW_none, errW_some] <;> rfl)) | (simp [*, errW_none, errW_some] <;> rfl), by (with_reducible repeat (first | apply Kd.R_alloc | apply Kd.R_drewN | apply Kd.R_drew)); exact Kd.R_mono HO146.out (fun _ hk => hk.1), hB, kH⟩
end Go.Proofs.YthifejhdmjoolaaGreatDoor.QFx
