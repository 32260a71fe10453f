-- WRITTEN BY A PROGRAM OF THE SESSION (wip/myprint.sh): Lean checks it.
import Derived.Test.YthifejhdmjoolaaGreatDoorQE0
import Derived.Test.YthifejhdmjoolaaGreatDoorQE6
import Derived.Test.YthifejhdmjoolaaGreatDoorQE7
namespace Go.Proofs.YthifejhdmjoolaaGreatDoor.QE
open Go.Proofs.YthifejhdmjoolaaGreatDoorG Go.Proofs.YthifejhdmjoolaaGreatDoor.QR
attribute [local go_sem] Instr.field asAgg ext47
open Go.RowKit Go.Proofs.YthifejhdmjoolaaGreatDoorW.PrintWords Go.Proofs.YthifejhdmjoolaaGreatDoorW.PrintLast Go.Proofs.YthifejhdmjoolaaGreatDoorW.PrintMore
attribute [local go_sem] max2_int min2_int max_two min_two max_three min_three max_four min_four   -- for this text's walks alone
set_option linter.unusedVariables false
set_option linter.unusedSimpArgs false
namespace foundryref01_Text
mutual
def j0 : Nat → Int → ByteArray → Option (ByteArray)
  | 0, _, _ => none
  | k + 1, x0, x3 => (foundryref01_Class.f k x0).bind fun t165 => (if t165 = 1 then (some (⟨#[110, 97, 110]⟩ : ByteArray)) else (if t165 = 2 then (if x3.size + 3 ≤ 9223372036854775807 then (some (x3 ++ (⟨#[105, 110, 102]⟩ : ByteArray))) else (none)) else (if t165 = 3 then (if x3.size + 6 ≤ 9223372036854775807 then (some (x3 ++ (⟨#[48, 120, 48, 112, 43, 48]⟩ : ByteArray))) else (none)) else ((foundryref01_Parts.f k x0).bind fun bt166 => (l0 k x3 bt166.2.1 bt166.2.2)))))
def l0 : Nat → ByteArray → Int → Int → Option (ByteArray)
  | 0, _, _, _ => none
  | k + 1, x3, x5, x6 => if (x5 / 4503599627370496) = 0 then (l0 k x3 (IntKind.u64.wrap (x5 * 2)) (wrap64 (x6 - 1))) else (if x3.size + 3 ≤ 9223372036854775807 then (if (IntKind.u64.wrap (x5 * 4096)) = 0 then (j2 k (x3 ++ (⟨#[48, 120, 49]⟩ : ByteArray)) (IntKind.u64.wrap (x5 * 4096)) (wrap64 (x6 + 52))) else (if (x3 ++ (⟨#[48, 120, 49]⟩ : ByteArray)).size + 1 ≤ 9223372036854775807 then (j2 k ((x3 ++ (⟨#[48, 120, 49]⟩ : ByteArray)) ++ (⟨#[46]⟩ : ByteArray)) (IntKind.u64.wrap (x5 * 4096)) (wrap64 (x6 + 52))) else (none))) else (none))
def j2 : Nat → ByteArray → Int → Int → Option (ByteArray)
  | 0, _, _, _ => none
  | k + 1, x3, x5, x6 => l1 k x3 x5 x6
def l1 : Nat → ByteArray → Int → Int → Option (ByteArray)
  | 0, _, _, _ => none
  | k + 1, x3, x5, x6 => if x5 = 0 then (if x6 < 0 then (if x3.size + 2 ≤ 9223372036854775807 then ((foundryref01_decimal.f k (wrap64 (-x6))).bind fun t169 => (if (x3 ++ (⟨#[112, 45]⟩ : ByteArray)).size + t169.size ≤ 9223372036854775807 then (some ((x3 ++ (⟨#[112, 45]⟩ : ByteArray)) ++ t169)) else (none))) else (none)) else (if x3.size + 2 ≤ 9223372036854775807 then ((foundryref01_decimal.f k x6).bind fun t170 => (if (x3 ++ (⟨#[112, 43]⟩ : ByteArray)).size + t170.size ≤ 9223372036854775807 then (some ((x3 ++ (⟨#[112, 43]⟩ : ByteArray)) ++ t170)) else (none))) else (none))) else (if 0 ≤ (x5 / 1152921504606846976) then (if (x5 / 1152921504606846976) ≤ (IntKind.u64.wrap ((x5 / 1152921504606846976) + 1)) then (if (IntKind.u64.wrap ((x5 / 1152921504606846976) + 1)) ≤ 16 then (if x3.size + ((⟨#[48, 49, 50, 51, 52, 53, 54, 55, 56, 57, 97, 98, 99, 100, 101, 102]⟩ : ByteArray).extract ((x5 / 1152921504606846976) : Int).toNat ((IntKind.u64.wrap ((x5 / 1152921504606846976) + 1)) : Int).toNat).size ≤ 9223372036854775807 then (l1 k (x3 ++ ((⟨#[48, 49, 50, 51, 52, 53, 54, 55, 56, 57, 97, 98, 99, 100, 101, 102]⟩ : ByteArray).extract ((x5 / 1152921504606846976) : Int).toNat ((IntKind.u64.wrap ((x5 / 1152921504606846976) + 1)) : Int).toNat)) (IntKind.u64.wrap (x5 * 16)) x6) else (none)) else (none)) else (none)) else (none))
end
def f (k : Nat) (a0 : Int) : Option (ByteArray) := if (a0 / 9223372036854775808) = 1 then (j0 k a0 (⟨#[45]⟩ : ByteArray)) else (j0 k a0 (⟨#[]⟩ : ByteArray))
theorem mono_l : ∀ k, (∀ y0 y1, LeO (j0 k y0 y1) (j0 (k + 1) y0 y1)) ∧ (∀ y0 y1 y2, LeO (l0 k y0 y1 y2) (l0 (k + 1) y0 y1 y2)) ∧ (∀ y0 y1 y2, LeO (j2 k y0 y1 y2) (j2 (k + 1) y0 y1 y2)) ∧ (∀ y0 y1 y2, LeO (l1 k y0 y1 y2) (l1 (k + 1) y0 y1 y2))
  | 0 => by refine ⟨?_, ?_, ?_, ?_⟩ <;> (intros; exact LeO.none _)
  | k + 1 => by
    obtain ⟨ih0, ih1, ih2, ih3⟩ := mono_l k
    refine ⟨?_, ?_, ?_, ?_⟩ <;> intros <;> first | unfold j0 | unfold l0 | unfold j2 | unfold l1
    all_goals repeat' first
    | (with_reducible first | apply ih0 | apply ih1 | apply ih2 | apply ih3 | apply foundryref01_Class.mono | apply foundryref01_Parts.mono | apply foundryref01_decimal.mono | exact LeO.refl _ | exact LeO.none _ | refine LeO.ite ?_ ?_ | refine LeO.bind ?_ (fun _ => ?_))
    | exact LeO.none _ | refine LeO.ite ?_ ?_ | refine LeO.bind ?_ (fun _ => ?_)
theorem mono : ∀ a0 k, LeO (f k a0) (f (k + 1) a0) := by
  intro a0 k
  obtain ⟨ih0, ih1, ih2, ih3⟩ := mono_l k
  unfold f
  repeat' first
      | (with_reducible first | apply ih0 | apply ih1 | apply ih2 | apply ih3 | apply foundryref01_Class.mono | apply foundryref01_Parts.mono | apply foundryref01_decimal.mono | exact LeO.refl _ | exact LeO.none _ | refine LeO.ite ?_ ?_ | refine LeO.bind ?_ (fun _ => ?_))
      | exact LeO.none _ | refine LeO.ite ?_ ?_ | refine LeO.bind ?_ (fun _ => ?_)
set_option maxHeartbeats 8000000 in
set_option maxRecDepth 100000 in
theorem calls (k : Nat) (a0 : Int) (r : ByteArray) (w : World) (h : f k a0 = some r) :
    Calls Tryz.prog 42 #[.int .u64 a0] w fun e w' => e = .returned (.string r) ∧ Below w.heap.size w w' := by
 have HB := aM (Below.refl w.heap.size w)
 have H : (if (a0 / 9223372036854775808) = 1 then (j0 k a0 (⟨#[45]⟩ : ByteArray)) else (j0 k a0 (⟨#[]⟩ : ByteArray))) = some r := h
 clear h
 have HC2 := aM H
 clear H
 go_enter Tryz.func42, Tryz.ntmps42
 go_upto_if 9 with (fail)
 go_cut [3] (fun v3 wc => ∃ (kq : Nat) (x3_1 : ByteArray), v3 = .string x3_1 ∧ Aside0 (j0 kq a0 x3_1 = some r) ∧ Aside0 (kq ≤ k) ∧ Aside0 (Below w.heap.size w wc))
 case first =>
  have H := HC2.out
  clear HC2
  by_cases c3 : (a0 / 9223372036854775808) = 1
  rotate_left
  ·rw [if_neg c3] at H
   have c3b0 := bF c3
   have c3b1 := mT c3
   (first | rw [c3b0] | (simp only [i64_w, i32_w]; rw [c3b0]) | skip)
   have H' := aM H
   clear H
   go_wp2
   go_meet
   case rel => exact ⟨_, ((⟨#[]⟩ : ByteArray)), xR, H', ⟨jO⟩, ⟨hB⟩⟩
  rw [if_pos c3] at H
  have c3b0 := bT c3
  have c3b1 := mF c3
  clear c3
  (first | rw [c3b0] | (simp only [i64_w, i32_w]; rw [c3b0]) | skip)
  have H' := aM H
  clear H
  go_wp2
  go_meet
  case rel => exact ⟨_, ((⟨#[45]⟩ : ByteArray)), xR, H', ⟨jO⟩, ⟨hB⟩⟩
 case rest =>
  clear HC2
  obtain ⟨kq, x3_1, rfl, HA, HJ1, HB⟩ := hcut
  cases kq with
  | zero => exact absurd HA.out (by simp [j0])
  | succ kj1 =>
   have H := HA.out
   clear HA
   simp only [j0] at H
   replace H := Option.bind_eq_some_iff.mp H
   obtain ⟨t165, A40, H⟩ := H
   replace H : (if t165 = 1 then (some (⟨#[110, 97, 110]⟩ : ByteArray)) else (if t165 = 2 then (if x3_1.size + 3 ≤ 9223372036854775807 then (some (x3_1 ++ (⟨#[105, 110, 102]⟩ : ByteArray))) else (none)) else (if t165 = 3 then (if x3_1.size + 6 ≤ 9223372036854775807 then (some (x3_1 ++ (⟨#[48, 120, 48, 112, 43, 48]⟩ : ByteArray))) else (none)) else ((foundryref01_Parts.f kj1 a0).bind fun bt166 => (l0 kj1 x3_1 bt166.2.1 bt166.2.2))))) = some r := H
   have A4 := aM A40
   clear A40
   by_cases c5 : t165 = 1
   ·rw [if_pos c5] at H
    have c5b0 := bT c5
    have c5b1 := mF c5
    clear c5
    obtain rfl := Option.some.inj H
    go_wp2_with (first | ((with_reducible refine gate_callee (f := 63) rfl ?_); refine goesL_ (some 11) rfl rfl Tryz.func63 (by kernel_rfl) rfl #[.int .u64 a0] rfl gA ?_; (with_reducible refine (foundryref01_Class.calls kj1 a0 t165 _ A4.out).mono ?_); rintro e w' ⟨rfl, ⟨nd, rfl⟩⟩; refine ⟨_, rfl, ?_⟩))
    go_ret
    exact ⟨eR, hB⟩
   rw [if_neg c5] at H
   have c5b0 := bF c5
   have c5b1 := mT c5
   by_cases c6 : t165 = 2
   ·rw [if_pos c6] at H
    have c6b0 := bT c6
    have c6b1 := mF c6
    clear c6
    replace H := nI H
    obtain ⟨c7, H⟩ := H
    have c7b0 := eq_true c7
    have c7b1 := dT c7
    try have c7b2 : (9223372036854775807 < x3_1.size + 3) = False := eq_false (Nat.not_lt.2 c7)
    obtain rfl := Option.some.inj H
    go_wp2_with (first | ((with_reducible refine gate_callee (f := 63) rfl ?_); refine goesL_ (some 11) rfl rfl Tryz.func63 (by kernel_rfl) rfl #[.int .u64 a0] rfl gA ?_; (with_reducible refine (foundryref01_Class.calls kj1 a0 t165 _ A4.out).mono ?_); rintro e w' ⟨rfl, ⟨nd, rfl⟩⟩; refine ⟨_, rfl, ?_⟩))
    go_ret
    exact ⟨eR, hB⟩
   rw [if_neg c6] at H
   have c6b0 := bF c6
   have c6b1 := mT c6
   by_cases c8 : t165 = 3
   ·rw [if_pos c8] at H
    have c8b0 := bT c8
    have c8b1 := mF c8
    clear c8
    replace H := nI H
    obtain ⟨c9, H⟩ := H
    have c9b0 := eq_true c9
    have c9b1 := dT c9
    try have c9b2 : (9223372036854775807 < x3_1.size + 6) = False := eq_false (Nat.not_lt.2 c9)
    obtain rfl := Option.some.inj H
    go_wp2_with (first | ((with_reducible refine gate_callee (f := 63) rfl ?_); refine goesL_ (some 11) rfl rfl Tryz.func63 (by kernel_rfl) rfl #[.int .u64 a0] rfl gA ?_; (with_reducible refine (foundryref01_Class.calls kj1 a0 t165 _ A4.out).mono ?_); rintro e w' ⟨rfl, ⟨nd, rfl⟩⟩; refine ⟨_, rfl, ?_⟩))
    go_ret
    exact ⟨eR, hB⟩
   rw [if_neg c8] at H
   have c8b0 := bF c8
   have c8b1 := mT c8
   replace H := Option.bind_eq_some_iff.mp H
   obtain ⟨⟨t166, t167, t168⟩, A100, H⟩ := H
   replace H : (l0 kj1 x3_1 t167 t168) = some r := H
   have A10 := aM A100
   clear A100
   have H' := aM H
   clear H
   go_wp2_with (first | ((with_reducible refine gate_callee (f := 63) rfl ?_); refine goesL_ (some 11) rfl rfl Tryz.func63 (by kernel_rfl) rfl #[.int .u64 a0] rfl gA ?_; (with_reducible refine (foundryref01_Class.calls kj1 a0 t165 _ A4.out).mono ?_); rintro e w' ⟨rfl, ⟨nd, rfl⟩⟩; refine ⟨_, rfl, ?_⟩) | ((with_reducible refine gate_callee (f := 64) rfl ?_); refine goesL_ (some 24) rfl rfl Tryz.func64 (by kernel_rfl) rfl #[.int .u64 a0] rfl gA ?_; (with_reducible refine (foundryref01_Parts.calls kj1 a0 t166 t167 t168 _ A10.out).mono ?_); rintro e w' ⟨rfl, ⟨nd, rfl⟩⟩; refine ⟨_, rfl, ?_⟩))
   go_loopg [5, 6] kj1 (fun kq v5 v6 w' => ∃ (x5_2 : Int) (x6_2 : Int), v5 = .int .u64 x5_2 ∧ v6 = .int .i64 x6_2 ∧ Aside0 (l0 kq x3_1 x5_2 x6_2 = some r) ∧ Aside0 (kq ≤ kj1) ∧ Aside0 (Below w.heap.size w w'))
   case atStart => exact ⟨t167, t168, xR, xR, H', ⟨Nat.le_refl _⟩, ⟨hB⟩⟩
   case round =>
    clear H'
    obtain ⟨x5_2, x6_2, rfl, rfl, HA, HK2, HB⟩ := hrel
    cases gk with
    | zero => exact absurd HA.out (by simp [l0])
    | succ k2 =>
     have H := HA.out
     clear HA
     simp only [l0] at H
     by_cases c11 : (x5_2 / 4503599627370496) = 0
     ·rw [if_pos c11] at H
      have c11b0 := bT c11
      have c11b1 := mF c11
      clear c11
      have H' := aM H
      clear H
      go_wp2
      go_roundg k2
      case measure => exact jC
      case rel => exact ⟨(IntKind.u64.wrap (x5_2 * 2)), (wrap64 (x6_2 - 1)), xR, xR, H', ⟨jC⟩, ⟨hB⟩⟩
     rw [if_neg c11] at H
     have c11b0 := bF c11
     have c11b1 := mT c11
     replace H := nI H
     obtain ⟨c12, H⟩ := H
     have c12b0 := eq_true c12
     have c12b1 := dT c12
     try have c12b2 : (9223372036854775807 < x3_1.size + 3) = False := eq_false (Nat.not_lt.2 c12)
     have HC13 := aM H
     clear H
     go_upto_if 42 with (fail)
     go_cut [3] (fun v3 wc => ∃ (kq : Nat) (x3_12 : ByteArray), v3 = .string x3_12 ∧ Aside0 (j2 kq x3_12 (IntKind.u64.wrap (x5_2 * 4096)) (wrap64 (x6_2 + 52)) = some r) ∧ Aside0 (kq ≤ k2) ∧ Aside0 (Below w.heap.size w wc))
     case first =>
      have H := HC13.out
      clear HC13
      by_cases c14 : (IntKind.u64.wrap (x5_2 * 4096)) = 0
      ·rw [if_pos c14] at H
       have c14b0 := bT c14
       have c14b1 := mF c14
       clear c14
       (first | rw [c14b0] | (simp only [i64_w, i32_w]; rw [c14b0]) | skip)
       have H' := aM H
       clear H
       go_wp2
       go_meet
       case rel => exact ⟨_, (x3_1 ++ (⟨#[48, 120, 49]⟩ : ByteArray)), xR, H', ⟨jC⟩, ⟨hB⟩⟩
      rw [if_neg c14] at H
      have c14b0 := bF c14
      have c14b1 := mT c14
      (first | rw [c14b0] | (simp only [i64_w, i32_w]; rw [c14b0]) | skip)
      replace H := nI H
      obtain ⟨c15, H⟩ := H
      have c15b0 := eq_true c15
      have c15b1 := dT c15
      try have c15b2 : (9223372036854775807 < (x3_1 ++ (⟨#[48, 120, 49]⟩ : ByteArray)).size + 1) = False := eq_false (Nat.not_lt.2 c15)
      have c15n := c15
      simp only [ByteArray.size_append'] at c15n
      try rw [show (⟨#[48, 120, 49]⟩ : ByteArray).size = 3 from rfl] at c15n
      have c15n0 := eq_true c15n
      have c15n1 := decide_eq_true c15n
      have c15n2 := eq_false (Nat.not_lt.2 c15n)
      clear c15n
      have H' := aM H
      clear H
      go_wp2
      go_meet
      case rel => exact ⟨_, ((x3_1 ++ (⟨#[48, 120, 49]⟩ : ByteArray)) ++ (⟨#[46]⟩ : ByteArray)), xR, H', ⟨jC⟩, ⟨hB⟩⟩
     case rest =>
      clear HC13
      obtain ⟨kq, x3_12, rfl, HA, HJ12, HB⟩ := hcut
      cases kq with
      | zero => exact absurd HA.out (by simp [j2])
      | succ kj12 =>
       have H := HA.out
       clear HA
       simp only [j2] at H
       have H' := aM H
       clear H
       go_wp2
       go_loopg [3, 5] kj12 (fun kq v3 v5 w' => ∃ (x3_4 : ByteArray) (x5_4 : Int), v3 = .string x3_4 ∧ v5 = .int .u64 x5_4 ∧ Aside0 (l1 kq x3_4 x5_4 (wrap64 (x6_2 + 52)) = some r) ∧ Aside0 (kq ≤ kj12) ∧ Aside0 (Below w.heap.size w w'))
       case atStart => exact ⟨x3_12, ((IntKind.u64.wrap (x5_2 * 4096))), xR, xR, H', ⟨Nat.le_refl _⟩, ⟨hB⟩⟩
       case round =>
        clear H'
        obtain ⟨x3_4, x5_4, rfl, rfl, HA, HK4, HB⟩ := hrel
        cases gk with
        | zero => exact absurd HA.out (by simp [l1])
        | succ k4 =>
         have H := HA.out
         clear HA
         simp only [l1] at H
         by_cases c16 : x5_4 = 0
         rotate_left
         ·rw [if_neg c16] at H
          have c16b0 := bF c16
          have c16b1 := mT c16
          obtain ⟨ji26, hji26⟩ : ∃ j_ : Int, (x5_4 / 1152921504606846976) = j_ := ⟨_, rfl⟩
          replace H : (if 0 ≤ (ji26) then (if (ji26) ≤ (IntKind.u64.wrap ((ji26) + 1)) then (if (IntKind.u64.wrap ((ji26) + 1)) ≤ 16 then (if x3_4.size + ((⟨#[48, 49, 50, 51, 52, 53, 54, 55, 56, 57, 97, 98, 99, 100, 101, 102]⟩ : ByteArray).extract ((ji26) : Int).toNat ((IntKind.u64.wrap ((ji26) + 1)) : Int).toNat).size ≤ 9223372036854775807 then (l1 k4 (x3_4 ++ ((⟨#[48, 49, 50, 51, 52, 53, 54, 55, 56, 57, 97, 98, 99, 100, 101, 102]⟩ : ByteArray).extract ((ji26) : Int).toNat ((IntKind.u64.wrap ((ji26) + 1)) : Int).toNat)) (IntKind.u64.wrap (x5_4 * 16)) (wrap64 (x6_2 + 52))) else (none)) else (none)) else (none)) else (none)) = some r := by first | (rw [hji26] at H; exact H) | (simp only [hji26] at H ⊢; exact H)
          replace H := nI H
          obtain ⟨c27, H⟩ := H
          have c27b0 := eq_true c27
          have c27b1 := dT c27
          clear c27
          replace H := nI H
          obtain ⟨c28, H⟩ := H
          have c28b0 := eq_true c28
          have c28b1 := dT c28
          replace H := nI H
          obtain ⟨c29, H⟩ := H
          have c29b0 := eq_true c29
          have c29b1 := dT c29
          replace H := nI H
          obtain ⟨c30, H⟩ := H
          have c30b0 := eq_true c30
          have c30b1 := dT c30
          try have c30b2 : (9223372036854775807 < x3_4.size + ((⟨#[48, 49, 50, 51, 52, 53, 54, 55, 56, 57, 97, 98, 99, 100, 101, 102]⟩ : ByteArray).extract ((ji26) : Int).toNat ((IntKind.u64.wrap ((ji26) + 1)) : Int).toNat).size) = False := eq_false (Nat.not_lt.2 c30)
          have c30n := c30
          try rw [show (⟨#[48, 49, 50, 51, 52, 53, 54, 55, 56, 57, 97, 98, 99, 100, 101, 102]⟩ : ByteArray).size = 16 from rfl] at c30n
          have c30n0 := eq_true c30n
          have c30n1 := decide_eq_true c30n
          have c30n2 := eq_false (Nat.not_lt.2 c30n)
          clear c30n
          have H' := aM H
          clear H
          go_wp2
          go_roundg k4
          case measure => exact jC
          case rel => exact ⟨(x3_4 ++ ((⟨#[48, 49, 50, 51, 52, 53, 54, 55, 56, 57, 97, 98, 99, 100, 101, 102]⟩ : ByteArray).extract ((ji26) : Int).toNat ((IntKind.u64.wrap ((ji26) + 1)) : Int).toNat)), (IntKind.u64.wrap (x5_4 * 16)), (by first | rfl | (simp; done) | (simp only [← hji26] <;> (first | rfl | simp)) | (simp [*]; done)), xR, H', ⟨jC⟩, ⟨hB⟩⟩
         rw [if_pos c16] at H
         have c16b0 := bT c16
         have c16b1 := mF c16
         clear c16
         by_cases c17 : (wrap64 (x6_2 + 52)) < 0
         rotate_left
         ·rw [if_neg c17] at H
          have c17b0 := dF c17
          clear c17
          replace H := nI H
          obtain ⟨c22, H⟩ := H
          have c22b0 := eq_true c22
          have c22b1 := dT c22
          try have c22b2 : (9223372036854775807 < x3_4.size + 2) = False := eq_false (Nat.not_lt.2 c22)
          replace H := Option.bind_eq_some_iff.mp H
          obtain ⟨t170, A230, H⟩ := H
          replace H : (if (x3_4 ++ (⟨#[112, 43]⟩ : ByteArray)).size + t170.size ≤ 9223372036854775807 then (some ((x3_4 ++ (⟨#[112, 43]⟩ : ByteArray)) ++ t170)) else (none)) = some r := H
          have A23 := aM A230
          clear A230
          replace H := nI H
          obtain ⟨c24, H⟩ := H
          have c24b0 := eq_true c24
          have c24b1 := dT c24
          try have c24b2 : (9223372036854775807 < (x3_4 ++ (⟨#[112, 43]⟩ : ByteArray)).size + t170.size) = False := eq_false (Nat.not_lt.2 c24)
          have c24n := c24
          simp only [ByteArray.size_append'] at c24n
          try rw [show (⟨#[112, 43]⟩ : ByteArray).size = 2 from rfl] at c24n
          have c24n0 := eq_true c24n
          have c24n1 := decide_eq_true c24n
          have c24n2 := eq_false (Nat.not_lt.2 c24n)
          clear c24n
          obtain rfl := Option.some.inj H
          go_wp2_with (first | ((with_reducible refine gate_callee (f := 65) rfl ?_); refine goesL_ (some 68) rfl rfl Tryz.func65 (by kernel_rfl) rfl #[.int .i64 (wrap64 (x6_2 + 52))] rfl gA ?_; (with_reducible refine (foundryref01_decimal.calls k4 (wrap64 (x6_2 + 52)) t170 _ A23.out).mono ?_); rintro e w25 ⟨rfl, hb⟩; refine ⟨_, rfl, ?_⟩; have n0_ := aM (below_step (hB) hb); clear HB; have HB := n0_; clear n0_))
          go_ret
          exact ⟨eR, hB⟩
         rw [if_pos c17] at H
         have c17b0 := dT c17
         clear c17
         replace H := nI H
         obtain ⟨c18, H⟩ := H
         have c18b0 := eq_true c18
         have c18b1 := dT c18
         try have c18b2 : (9223372036854775807 < x3_4.size + 2) = False := eq_false (Nat.not_lt.2 c18)
         replace H := Option.bind_eq_some_iff.mp H
         obtain ⟨t169, A190, H⟩ := H
         replace H : (if (x3_4 ++ (⟨#[112, 45]⟩ : ByteArray)).size + t169.size ≤ 9223372036854775807 then (some ((x3_4 ++ (⟨#[112, 45]⟩ : ByteArray)) ++ t169)) else (none)) = some r := H
         have A19 := aM A190
         clear A190
         replace H := nI H
         obtain ⟨c20, H⟩ := H
         have c20b0 := eq_true c20
         have c20b1 := dT c20
         try have c20b2 : (9223372036854775807 < (x3_4 ++ (⟨#[112, 45]⟩ : ByteArray)).size + t169.size) = False := eq_false (Nat.not_lt.2 c20)
         have c20n := c20
         simp only [ByteArray.size_append'] at c20n
         try rw [show (⟨#[112, 45]⟩ : ByteArray).size = 2 from rfl] at c20n
         have c20n0 := eq_true c20n
         have c20n1 := decide_eq_true c20n
         have c20n2 := eq_false (Nat.not_lt.2 c20n)
         clear c20n
         obtain rfl := Option.some.inj H
         go_wp2_with (first | ((with_reducible refine gate_callee (f := 65) rfl ?_); refine goesL_ (some 63) rfl rfl Tryz.func65 (by kernel_rfl) rfl #[.int .i64 (wrap64 (-(wrap64 (x6_2 + 52))))] rfl gA ?_; (with_reducible refine (foundryref01_decimal.calls k4 (wrap64 (-(wrap64 (x6_2 + 52)))) t169 _ A19.out).mono ?_); rintro e w21 ⟨rfl, hb⟩; refine ⟨_, rfl, ?_⟩; have n0_ := aM (below_step (hB) hb); clear HB; have HB := n0_; clear n0_))
         go_ret
         exact ⟨eR, hB⟩
end foundryref01_Text
namespace foundryref01_Parse
def f (k : Nat) (a0 : ByteArray) : Option (Int × Int) := (foundryref01_read.f k a0).bind fun t171 => ((foundryref01_Text.f k t171).bind fun t172 => (if t172.toList = a0.toList then (some (t171, 0)) else (some (0, 10))))
theorem mono : ∀ a0 k, LeO (f k a0) (f (k + 1) a0) := by
  intro a0 k
  unfold f
  repeat' first
      | (with_reducible first | apply foundryref01_Text.mono | apply foundryref01_read.mono | exact LeO.refl _ | exact LeO.none _ | refine LeO.ite ?_ ?_ | refine LeO.bind ?_ (fun _ => ?_))
      | exact LeO.none _ | refine LeO.ite ?_ ?_ | refine LeO.bind ?_ (fun _ => ?_)
set_option maxHeartbeats 8000000 in
set_option maxRecDepth 100000 in
theorem calls (k : Nat) (a0 : ByteArray) (r1 : Int) (r2 : Int) (w : World) (h : f k a0 = some (r1, r2)) :
    Calls Tryz.prog 18 #[.string a0] w fun e w' => e = .returned (.tuple #[.int .u64 r1, .int .i64 r2]) ∧ Below w.heap.size w w' := by
 have HB := aM (Below.refl w.heap.size w)
 have H : ((foundryref01_read.f k a0).bind fun t171 => ((foundryref01_Text.f k t171).bind fun t172 => (if t172.toList = a0.toList then (some (t171, 0)) else (some (0, 10))))) = some (r1, r2) := h
 clear h
 replace H := Option.bind_eq_some_iff.mp H
 obtain ⟨t171, A20, H⟩ := H
 replace H : ((foundryref01_Text.f k t171).bind fun t172 => (if t172.toList = a0.toList then (some (t171, 0)) else (some (0, 10)))) = some (r1, r2) := H
 have A2 := aM A20
 clear A20
 replace H := Option.bind_eq_some_iff.mp H
 obtain ⟨t172, A30, H⟩ := H
 replace H : (if t172.toList = a0.toList then (some (t171, 0)) else (some (0, 10))) = some (r1, r2) := H
 have A3 := aM A30
 clear A30
 by_cases c4 : t172.toList = a0.toList
 ·rw [if_pos c4] at H
  have c4b0 : (t172.toList == a0.toList) = true := beq_iff_eq.mpr c4
  have c4b1 : (t172.toList != a0.toList) = false := bne_eq_false_iff_eq.mpr c4
  clear c4
  simp only [Option.some.injEq, Prod.mk.injEq] at H
  obtain ⟨rfl, rfl⟩ := H
  go_enter Tryz.func18, Tryz.ntmps18
  go_wp2_with (first | ((with_reducible refine gate_callee (f := 41) rfl ?_); refine goesL_ (some 6) rfl rfl Tryz.func41 (by kernel_rfl) rfl #[.string a0] rfl gA ?_; (with_reducible refine (foundryref01_read.calls k a0 t171 _ A2.out).mono ?_); rintro e w' ⟨rfl, ⟨nd, rfl⟩⟩; refine ⟨_, rfl, ?_⟩) | ((with_reducible refine gate_callee (f := 42) rfl ?_); refine goesL_ (some 8) rfl rfl Tryz.func42 (by kernel_rfl) rfl #[.int .u64 t171] rfl gA ?_; (with_reducible refine (foundryref01_Text.calls k t171 t172 _ A3.out).mono ?_); rintro e w5 ⟨rfl, hb⟩; refine ⟨_, rfl, ?_⟩; have n0_ := aM (below_step (hB) hb); clear HB; have HB := n0_; clear n0_))
  go_ret2
  exact ⟨eR, hB⟩
 ·rw [if_neg c4] at H
  have c4b0 : (t172.toList == a0.toList) = false := beq_eq_false_iff_ne.mpr c4
  have c4b1 : (t172.toList != a0.toList) = true := bne_iff_ne.mpr c4
  simp only [Option.some.injEq, Prod.mk.injEq] at H
  obtain ⟨rfl, rfl⟩ := H
  go_enter Tryz.func18, Tryz.ntmps18
  go_wp2_with (first | ((with_reducible refine gate_callee (f := 41) rfl ?_); refine goesL_ (some 6) rfl rfl Tryz.func41 (by kernel_rfl) rfl #[.string a0] rfl gA ?_; (with_reducible refine (foundryref01_read.calls k a0 t171 _ A2.out).mono ?_); rintro e w' ⟨rfl, ⟨nd, rfl⟩⟩; refine ⟨_, rfl, ?_⟩) | ((with_reducible refine gate_callee (f := 42) rfl ?_); refine goesL_ (some 8) rfl rfl Tryz.func42 (by kernel_rfl) rfl #[.int .u64 t171] rfl gA ?_; (with_reducible refine (foundryref01_Text.calls k t171 t172 _ A3.out).mono ?_); rintro e w6 ⟨rfl, hb⟩; refine ⟨_, rfl, ?_⟩; have n0_ := aM (below_step (hB) hb); clear HB; have HB := n0_; clear n0_))
  go_ret2
  exact ⟨eR, hB⟩
-- NOT PRINTED: function 47 (math_Float64bits)
end foundryref01_Parse
end Go.Proofs.YthifejhdmjoolaaGreatDoor.QE
