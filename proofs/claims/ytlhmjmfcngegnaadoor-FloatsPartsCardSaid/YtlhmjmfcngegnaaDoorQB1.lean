-- WRITTEN BY A PROGRAM OF THE SESSION (wip/myprint.sh): Lean checks it.
import Derived.Test.YtlhmjmfcngegnaaDoorQB0
namespace Go.Proofs.YtlhmjmfcngegnaaDoor.QB
open Go.Proofs.YtlhmjmfcngegnaaDoorG
attribute [local go_sem] ext66
open Go.RowKit Go.Proofs.YtlhmjmfcngegnaaDoorW.PrintWords Go.Proofs.YtlhmjmfcngegnaaDoorW.PrintLast Go.Proofs.YtlhmjmfcngegnaaDoorW.PrintMore
attribute [local go_sem] max2_int min2_int max_two min_two max_three min_three max_four min_four   -- for this text's walks alone
set_option linter.unusedVariables false
set_option linter.unusedSimpArgs false

/-! ### floats_Canon: function 29 -/
def floats_Canon.f (a0 : Int) : Option (Int) := if (Go.bits .andNot .u64 a0 9223372036854775808) > 9218868437227405312 then (some 9221120237041090561) else (some a0)
set_option maxHeartbeats 8000000 in
set_option maxRecDepth 100000 in
theorem floats_Canon.calls (a0 : Int) (r : Int) (w : World) (h : floats_Canon.f a0 = some r) :
    Calls Tryd.prog 29 #[.int .u64 a0] w fun e w' => e = .returned (.int .u64 r) ∧ Drawn0 w w' := by
  have H : (if (Go.bits .andNot .u64 a0 9223372036854775808) > 9218868437227405312 then (some 9221120237041090561) else (some a0)) = some r := h
  clear h
  by_cases c2 : (Go.bits .andNot .u64 a0 9223372036854775808) > 9218868437227405312
  · rw [if_pos c2] at H
    have c2b0 : decide (9218868437227405312 < (Go.bits .andNot .u64 a0 9223372036854775808)) = true := decide_eq_true c2
    clear c2
    obtain rfl := Option.some.inj H
    go_enter Tryd.func29, Tryd.ntmps29
    go_wp2
    go_ret
    exact ⟨by first | rfl | (simp; done) | (simp [*]; done), by repeat (first | exact Drawn0.refl _ | apply Drawn0.step)⟩
  · rw [if_neg c2] at H
    have c2b0 : decide (9218868437227405312 < (Go.bits .andNot .u64 a0 9223372036854775808)) = false := decide_eq_false c2
    clear c2
    obtain rfl := Option.some.inj H
    go_enter Tryd.func29, Tryd.ntmps29
    go_wp2
    go_ret
    exact ⟨by first | rfl | (simp; done) | (simp [*]; done), by repeat (first | exact Drawn0.refl _ | apply Drawn0.step)⟩

/-! ### floats_place: function 46 -/
def floats_place.f (a0 : Int) : Option (Int) := (floats_Canon.f a0).bind fun t101 => (if (Go.bits .and .u64 t101 9223372036854775808) = 0 then (some (Go.bits .or .u64 t101 9223372036854775808)) else (some (Go.bits .xor .u64 IntKind.u64.max t101)))
set_option maxHeartbeats 8000000 in
set_option maxRecDepth 100000 in
theorem floats_place.calls (a0 : Int) (r : Int) (w : World) (h : floats_place.f a0 = some r) :
    Calls Tryd.prog 46 #[.int .u64 a0] w fun e w' => e = .returned (.int .u64 r) ∧ Drawn0 w w' := by
  have H : ((floats_Canon.f a0).bind fun t101 => (if (Go.bits .and .u64 t101 9223372036854775808) = 0 then (some (Go.bits .or .u64 t101 9223372036854775808)) else (some (Go.bits .xor .u64 IntKind.u64.max t101)))) = some r := h
  clear h
  replace H := Option.bind_eq_some_iff.mp H
  obtain ⟨t101, A20, H⟩ := H
  replace H : (if (Go.bits .and .u64 t101 9223372036854775808) = 0 then (some (Go.bits .or .u64 t101 9223372036854775808)) else (some (Go.bits .xor .u64 IntKind.u64.max t101))) = some r := H
  have A2 := Aside0.mk A20
  clear A20
  by_cases c3 : (Go.bits .and .u64 t101 9223372036854775808) = 0
  · rw [if_pos c3] at H
    have c3b0 : ((Go.bits .and .u64 t101 9223372036854775808) == 0) = true := beq_iff_eq.mpr c3
    have c3b1 : ((Go.bits .and .u64 t101 9223372036854775808) != 0) = false := bne_eq_false_iff_eq.mpr c3
    clear c3
    obtain rfl := Option.some.inj H
    go_enter Tryd.func46, Tryd.ntmps46
    go_wp2_with (first | ((with_reducible refine gate_callee (f := 29) rfl ?_); refine goesL_ (some 4) rfl rfl Tryd.func29 (by kernel_rfl) rfl #[.int .u64 a0] rfl (by (try simp only [List.map_toArray, List.map_cons, List.map_nil]); first | done | rfl | (simp only [List.length_drop, List.length_take]; rfl)) ?_; (with_reducible refine (floats_Canon.calls a0 t101 _ A2.out).mono ?_); rintro e w' ⟨rfl, ⟨nd, rfl⟩⟩; refine ⟨_, rfl, ?_⟩))
    go_ret
    exact ⟨by first | rfl | (simp; done) | (simp [*]; done), by repeat (first | exact Drawn0.refl _ | apply Drawn0.step)⟩
  · rw [if_neg c3] at H
    have c3b0 : ((Go.bits .and .u64 t101 9223372036854775808) == 0) = false := beq_eq_false_iff_ne.mpr c3
    have c3b1 : ((Go.bits .and .u64 t101 9223372036854775808) != 0) = true := bne_iff_ne.mpr c3
    obtain rfl := Option.some.inj H
    go_enter Tryd.func46, Tryd.ntmps46
    go_wp2_with (first | ((with_reducible refine gate_callee (f := 29) rfl ?_); refine goesL_ (some 4) rfl rfl Tryd.func29 (by kernel_rfl) rfl #[.int .u64 a0] rfl (by (try simp only [List.map_toArray, List.map_cons, List.map_nil]); first | done | rfl | (simp only [List.length_drop, List.length_take]; rfl)) ?_; (with_reducible refine (floats_Canon.calls a0 t101 _ A2.out).mono ?_); rintro e w' ⟨rfl, ⟨nd, rfl⟩⟩; refine ⟨_, rfl, ?_⟩))
    go_ret
    exact ⟨by first | rfl | (simp; done) | (simp [*]; done), by repeat (first | exact Drawn0.refl _ | apply Drawn0.step)⟩

/-! ### floats_Compare: function 16 -/
def floats_Compare.f (a0 : Int) (a1 : Int) : Option (Int) := (floats_place.f a0).bind fun t102 => ((floats_place.f a1).bind fun t103 => (if t102 < t103 then (some (-1)) else (if t102 > t103 then (some 1) else (some 0))))
set_option maxHeartbeats 8000000 in
set_option maxRecDepth 100000 in
theorem floats_Compare.calls (a0 : Int) (a1 : Int) (r : Int) (w : World) (h : floats_Compare.f a0 a1 = some r) :
    Calls Tryd.prog 16 #[.int .u64 a0, .int .u64 a1] w fun e w' => e = .returned (.int .i64 r) ∧ Drawn0 w w' := by
  have H : ((floats_place.f a0).bind fun t102 => ((floats_place.f a1).bind fun t103 => (if t102 < t103 then (some (-1)) else (if t102 > t103 then (some 1) else (some 0))))) = some r := h
  clear h
  replace H := Option.bind_eq_some_iff.mp H
  obtain ⟨t102, A30, H⟩ := H
  replace H : ((floats_place.f a1).bind fun t103 => (if t102 < t103 then (some (-1)) else (if t102 > t103 then (some 1) else (some 0)))) = some r := H
  have A3 := Aside0.mk A30
  clear A30
  replace H := Option.bind_eq_some_iff.mp H
  obtain ⟨t103, A40, H⟩ := H
  replace H : (if t102 < t103 then (some (-1)) else (if t102 > t103 then (some 1) else (some 0))) = some r := H
  have A4 := Aside0.mk A40
  clear A40
  by_cases c5 : t102 < t103
  · rw [if_pos c5] at H
    have c5b0 : decide (t102 < t103) = true := decide_eq_true c5
    clear c5
    obtain rfl := Option.some.inj H
    go_enter Tryd.func16, Tryd.ntmps16
    go_wp2_with (first | ((with_reducible refine gate_callee (f := 46) rfl ?_); refine goesL_ (some 8) rfl rfl Tryd.func46 (by kernel_rfl) rfl #[.int .u64 a0] rfl (by (try simp only [List.map_toArray, List.map_cons, List.map_nil]); first | done | rfl | (simp only [List.length_drop, List.length_take]; rfl)) ?_; (with_reducible refine (floats_place.calls a0 t102 _ A3.out).mono ?_); rintro e w' ⟨rfl, ⟨nd, rfl⟩⟩; refine ⟨_, rfl, ?_⟩) | ((with_reducible refine gate_callee (f := 46) rfl ?_); refine goesL_ (some 10) rfl rfl Tryd.func46 (by kernel_rfl) rfl #[.int .u64 a1] rfl (by (try simp only [List.map_toArray, List.map_cons, List.map_nil]); first | done | rfl | (simp only [List.length_drop, List.length_take]; rfl)) ?_; (with_reducible refine (floats_place.calls a1 t103 _ A4.out).mono ?_); rintro e w' ⟨rfl, ⟨nd, rfl⟩⟩; refine ⟨_, rfl, ?_⟩))
    go_ret
    exact ⟨by first | rfl | (simp; done) | (simp [*]; done), by repeat (first | exact Drawn0.refl _ | apply Drawn0.step)⟩
  · rw [if_neg c5] at H
    have c5b0 : decide (t102 < t103) = false := decide_eq_false c5
    clear c5
    by_cases c6 : t102 > t103
    · rw [if_pos c6] at H
      have c6b0 : decide (t103 < t102) = true := decide_eq_true c6
      clear c6
      obtain rfl := Option.some.inj H
      go_enter Tryd.func16, Tryd.ntmps16
      go_wp2_with (first | ((with_reducible refine gate_callee (f := 46) rfl ?_); refine goesL_ (some 8) rfl rfl Tryd.func46 (by kernel_rfl) rfl #[.int .u64 a0] rfl (by (try simp only [List.map_toArray, List.map_cons, List.map_nil]); first | done | rfl | (simp only [List.length_drop, List.length_take]; rfl)) ?_; (with_reducible refine (floats_place.calls a0 t102 _ A3.out).mono ?_); rintro e w' ⟨rfl, ⟨nd, rfl⟩⟩; refine ⟨_, rfl, ?_⟩) | ((with_reducible refine gate_callee (f := 46) rfl ?_); refine goesL_ (some 10) rfl rfl Tryd.func46 (by kernel_rfl) rfl #[.int .u64 a1] rfl (by (try simp only [List.map_toArray, List.map_cons, List.map_nil]); first | done | rfl | (simp only [List.length_drop, List.length_take]; rfl)) ?_; (with_reducible refine (floats_place.calls a1 t103 _ A4.out).mono ?_); rintro e w' ⟨rfl, ⟨nd, rfl⟩⟩; refine ⟨_, rfl, ?_⟩))
      go_ret
      exact ⟨by first | rfl | (simp; done) | (simp [*]; done), by repeat (first | exact Drawn0.refl _ | apply Drawn0.step)⟩
    · rw [if_neg c6] at H
      have c6b0 : decide (t103 < t102) = false := decide_eq_false c6
      clear c6
      obtain rfl := Option.some.inj H
      go_enter Tryd.func16, Tryd.ntmps16
      go_wp2_with (first | ((with_reducible refine gate_callee (f := 46) rfl ?_); refine goesL_ (some 8) rfl rfl Tryd.func46 (by kernel_rfl) rfl #[.int .u64 a0] rfl (by (try simp only [List.map_toArray, List.map_cons, List.map_nil]); first | done | rfl | (simp only [List.length_drop, List.length_take]; rfl)) ?_; (with_reducible refine (floats_place.calls a0 t102 _ A3.out).mono ?_); rintro e w' ⟨rfl, ⟨nd, rfl⟩⟩; refine ⟨_, rfl, ?_⟩) | ((with_reducible refine gate_callee (f := 46) rfl ?_); refine goesL_ (some 10) rfl rfl Tryd.func46 (by kernel_rfl) rfl #[.int .u64 a1] rfl (by (try simp only [List.map_toArray, List.map_cons, List.map_nil]); first | done | rfl | (simp only [List.length_drop, List.length_take]; rfl)) ?_; (with_reducible refine (floats_place.calls a1 t103 _ A4.out).mono ?_); rintro e w' ⟨rfl, ⟨nd, rfl⟩⟩; refine ⟨_, rfl, ?_⟩))
      go_ret
      exact ⟨by first | rfl | (simp; done) | (simp [*]; done), by repeat (first | exact Drawn0.refl _ | apply Drawn0.step)⟩

/-! ### floats_Neg: function 27 -/
def floats_Neg.f (a0 : Int) : Option (Int) := (floats_Canon.f (Go.bits .xor .u64 a0 9223372036854775808)).bind fun t104 => (some t104)
set_option maxHeartbeats 8000000 in
set_option maxRecDepth 100000 in
theorem floats_Neg.calls (a0 : Int) (r : Int) (w : World) (h : floats_Neg.f a0 = some r) :
    Calls Tryd.prog 27 #[.int .u64 a0] w fun e w' => e = .returned (.int .u64 r) ∧ Drawn0 w w' := by
  have H : ((floats_Canon.f (Go.bits .xor .u64 a0 9223372036854775808)).bind fun t104 => (some t104)) = some r := h
  clear h
  replace H := Option.bind_eq_some_iff.mp H
  obtain ⟨t104, A20, H⟩ := H
  replace H : (some t104) = some r := H
  have A2 := Aside0.mk A20
  clear A20
  obtain rfl := Option.some.inj H
  go_enter Tryd.func27, Tryd.ntmps27
  go_wp2_with (first | ((with_reducible refine gate_callee (f := 29) rfl ?_); refine goesL_ (some 5) rfl rfl Tryd.func29 (by kernel_rfl) rfl #[.int .u64 (Go.bits .xor .u64 a0 9223372036854775808)] rfl (by (try simp only [List.map_toArray, List.map_cons, List.map_nil]); first | done | rfl | (simp only [List.length_drop, List.length_take]; rfl)) ?_; (with_reducible refine (floats_Canon.calls (Go.bits .xor .u64 a0 9223372036854775808) t104 _ A2.out).mono ?_); rintro e w' ⟨rfl, ⟨nd, rfl⟩⟩; refine ⟨_, rfl, ?_⟩))
  go_ret
  exact ⟨by first | rfl | (simp; done) | (simp [*]; done), by repeat (first | exact Drawn0.refl _ | apply Drawn0.step)⟩

/-! ### floats_Class: function 28 -/
def floats_Class.f (a0 : Int) : Option (Int) := if (Go.bits .andNot .u64 a0 9223372036854775808) > 9218868437227405312 then (some 1) else (if (Go.bits .andNot .u64 a0 9223372036854775808) = 9218868437227405312 then (some 2) else (if (Go.bits .andNot .u64 a0 9223372036854775808) = 0 then (some 3) else (if (Go.bits .andNot .u64 a0 9223372036854775808) ≤ 4503599627370495 then (some 4) else (some 5))))
set_option maxHeartbeats 8000000 in
set_option maxRecDepth 100000 in
theorem floats_Class.calls (a0 : Int) (r : Int) (w : World) (h : floats_Class.f a0 = some r) :
    Calls Tryd.prog 28 #[.int .u64 a0] w fun e w' => e = .returned (.int .i64 r) ∧ Drawn0 w w' := by
  have H : (if (Go.bits .andNot .u64 a0 9223372036854775808) > 9218868437227405312 then (some 1) else (if (Go.bits .andNot .u64 a0 9223372036854775808) = 9218868437227405312 then (some 2) else (if (Go.bits .andNot .u64 a0 9223372036854775808) = 0 then (some 3) else (if (Go.bits .andNot .u64 a0 9223372036854775808) ≤ 4503599627370495 then (some 4) else (some 5))))) = some r := h
  clear h
  by_cases c2 : (Go.bits .andNot .u64 a0 9223372036854775808) > 9218868437227405312
  · rw [if_pos c2] at H
    have c2b0 : decide (9218868437227405312 < (Go.bits .andNot .u64 a0 9223372036854775808)) = true := decide_eq_true c2
    clear c2
    obtain rfl := Option.some.inj H
    go_enter Tryd.func28, Tryd.ntmps28
    go_wp2
    go_ret
    exact ⟨by first | rfl | (simp; done) | (simp [*]; done), by repeat (first | exact Drawn0.refl _ | apply Drawn0.step)⟩
  · rw [if_neg c2] at H
    have c2b0 : decide (9218868437227405312 < (Go.bits .andNot .u64 a0 9223372036854775808)) = false := decide_eq_false c2
    clear c2
    by_cases c3 : (Go.bits .andNot .u64 a0 9223372036854775808) = 9218868437227405312
    · rw [if_pos c3] at H
      have c3b0 : ((Go.bits .andNot .u64 a0 9223372036854775808) == 9218868437227405312) = true := beq_iff_eq.mpr c3
      have c3b1 : ((Go.bits .andNot .u64 a0 9223372036854775808) != 9218868437227405312) = false := bne_eq_false_iff_eq.mpr c3
      clear c3
      obtain rfl := Option.some.inj H
      go_enter Tryd.func28, Tryd.ntmps28
      go_wp2
      go_ret
      exact ⟨by first | rfl | (simp; done) | (simp [*]; done), by repeat (first | exact Drawn0.refl _ | apply Drawn0.step)⟩
    · rw [if_neg c3] at H
      have c3b0 : ((Go.bits .andNot .u64 a0 9223372036854775808) == 9218868437227405312) = false := beq_eq_false_iff_ne.mpr c3
      have c3b1 : ((Go.bits .andNot .u64 a0 9223372036854775808) != 9218868437227405312) = true := bne_iff_ne.mpr c3
      by_cases c4 : (Go.bits .andNot .u64 a0 9223372036854775808) = 0
      · rw [if_pos c4] at H
        have c4b0 : ((Go.bits .andNot .u64 a0 9223372036854775808) == 0) = true := beq_iff_eq.mpr c4
        have c4b1 : ((Go.bits .andNot .u64 a0 9223372036854775808) != 0) = false := bne_eq_false_iff_eq.mpr c4
        clear c4
        obtain rfl := Option.some.inj H
        go_enter Tryd.func28, Tryd.ntmps28
        go_wp2
        go_ret
        exact ⟨by first | rfl | (simp; done) | (simp [*]; done), by repeat (first | exact Drawn0.refl _ | apply Drawn0.step)⟩
      · rw [if_neg c4] at H
        have c4b0 : ((Go.bits .andNot .u64 a0 9223372036854775808) == 0) = false := beq_eq_false_iff_ne.mpr c4
        have c4b1 : ((Go.bits .andNot .u64 a0 9223372036854775808) != 0) = true := bne_iff_ne.mpr c4
        by_cases c5 : (Go.bits .andNot .u64 a0 9223372036854775808) ≤ 4503599627370495
        · rw [if_pos c5] at H
          have c5b0 : decide ((Go.bits .andNot .u64 a0 9223372036854775808) ≤ 4503599627370495) = true := decide_eq_true c5
          clear c5
          obtain rfl := Option.some.inj H
          go_enter Tryd.func28, Tryd.ntmps28
          go_wp2
          go_ret
          exact ⟨by first | rfl | (simp; done) | (simp [*]; done), by repeat (first | exact Drawn0.refl _ | apply Drawn0.step)⟩
        · rw [if_neg c5] at H
          have c5b0 : decide ((Go.bits .andNot .u64 a0 9223372036854775808) ≤ 4503599627370495) = false := decide_eq_false c5
          clear c5
          obtain rfl := Option.some.inj H
          go_enter Tryd.func28, Tryd.ntmps28
          go_wp2
          go_ret
          exact ⟨by first | rfl | (simp; done) | (simp [*]; done), by repeat (first | exact Drawn0.refl _ | apply Drawn0.step)⟩

/-! ### floats_Text: function 41 -/
def floats_Text.l0 : Nat → ByteArray → Int → Option (ByteArray)
  | 0, _, _ => none
  | k + 1, x3, x4 => if (wrap64 (x4 + 1)) < (x3.size : Int) then (if 0 ≤ x4 then (if x4 < (x3.size : Int) then (if (bt x3 x4) = 48 then (if x4 ≤ (x3.size : Int) then (if 0 ≤ (wrap64 (x4 + 1)) then (if (wrap64 (x4 + 1)) ≤ (x3.size : Int) then (if (x3.extract 0 (x4 : Int).toNat).size + (x3.extract ((wrap64 (x4 + 1)) : Int).toNat x3.size).size ≤ 9223372036854775807 then (floats_Text.l0 k ((x3.extract 0 (x4 : Int).toNat) ++ (x3.extract ((wrap64 (x4 + 1)) : Int).toNat x3.size)) x4) else (none)) else (none)) else (none)) else (none)) else (some x3)) else (none)) else (none)) else (some x3)
def floats_Text.f (k : Nat) (a0 : Int) : Option (ByteArray) := (floats_Canon.f a0).bind fun t105 => (if t105 = 9221120237041090561 then (some (⟨#[110, 97, 110]⟩ : ByteArray)) else (if t105 = 9218868437227405312 then (some (⟨#[105, 110, 102]⟩ : ByteArray)) else (if t105 = 18442240474082181120 then (some (⟨#[45, 105, 110, 102]⟩ : ByteArray)) else ((floats_to.f t105).bind fun t106 => ((strconv_FormatFloat.f k t106 120 (-1) 64).bind fun t107 => ((strings_IndexByte.f t107 112).bind fun t108 => (floats_Text.l0 k t107 (wrap64 (t108 + 2)))))))))
theorem floats_Text.mono_l : ∀ k, (∀ y0 y1, LeO (floats_Text.l0 k y0 y1) (floats_Text.l0 (k + 1) y0 y1))
  | 0 => fun _ _ r h => by simp [floats_Text.l0] at h
  | k + 1 => by
    have ih0 := floats_Text.mono_l k
    · intro y0 y1
      unfold floats_Text.l0
      repeat' first
      | (with_reducible exact ih0 _ _)
      | (with_reducible exact strconv_FormatFloat.mono _ _ _ _ _)
      | (with_reducible exact LeO.refl _)
      | (with_reducible exact LeO.none _)
      | (with_reducible refine LeO.ite ?_ ?_)
      | (with_reducible refine LeO.bind ?_ (fun _ => ?_))
      | exact ih0 _ _
      | exact strconv_FormatFloat.mono _ _ _ _ _
      | exact LeO.none _
      | refine LeO.ite ?_ ?_
      | refine LeO.bind ?_ (fun _ => ?_)
theorem floats_Text.mono : ∀ a0 k, LeO (floats_Text.f k a0) (floats_Text.f (k + 1) a0) := by
  intro a0 k
  have ih0 := floats_Text.mono_l k
  unfold floats_Text.f
  repeat' first
      | (with_reducible exact ih0 _ _)
      | (with_reducible exact strconv_FormatFloat.mono _ _ _ _ _)
      | (with_reducible exact LeO.refl _)
      | (with_reducible exact LeO.none _)
      | (with_reducible refine LeO.ite ?_ ?_)
      | (with_reducible refine LeO.bind ?_ (fun _ => ?_))
      | exact ih0 _ _
      | exact strconv_FormatFloat.mono _ _ _ _ _
      | exact LeO.none _
      | refine LeO.ite ?_ ?_
      | refine LeO.bind ?_ (fun _ => ?_)
set_option maxHeartbeats 8000000 in
set_option maxRecDepth 100000 in
theorem floats_Text.calls (k : Nat) (a0 : Int) (r : ByteArray) (w : World) (h : floats_Text.f k a0 = some r) :
    Calls Tryd.prog 41 #[.int .u64 a0] w fun e w' => e = .returned (.string r) ∧ Below w.heap.size w w' := by
  have HB := Aside0.mk (Below.refl w.heap.size w)
  have H : ((floats_Canon.f a0).bind fun t105 => (if t105 = 9221120237041090561 then (some (⟨#[110, 97, 110]⟩ : ByteArray)) else (if t105 = 9218868437227405312 then (some (⟨#[105, 110, 102]⟩ : ByteArray)) else (if t105 = 18442240474082181120 then (some (⟨#[45, 105, 110, 102]⟩ : ByteArray)) else ((floats_to.f t105).bind fun t106 => ((strconv_FormatFloat.f k t106 120 (-1) 64).bind fun t107 => ((strings_IndexByte.f t107 112).bind fun t108 => (floats_Text.l0 k t107 (wrap64 (t108 + 2)))))))))) = some r := h
  clear h
  replace H := Option.bind_eq_some_iff.mp H
  obtain ⟨t105, A20, H⟩ := H
  replace H : (if t105 = 9221120237041090561 then (some (⟨#[110, 97, 110]⟩ : ByteArray)) else (if t105 = 9218868437227405312 then (some (⟨#[105, 110, 102]⟩ : ByteArray)) else (if t105 = 18442240474082181120 then (some (⟨#[45, 105, 110, 102]⟩ : ByteArray)) else ((floats_to.f t105).bind fun t106 => ((strconv_FormatFloat.f k t106 120 (-1) 64).bind fun t107 => ((strings_IndexByte.f t107 112).bind fun t108 => (floats_Text.l0 k t107 (wrap64 (t108 + 2))))))))) = some r := H
  have A2 := Aside0.mk A20
  clear A20
  by_cases c3 : t105 = 9221120237041090561
  · rw [if_pos c3] at H
    have c3b0 : (t105 == 9221120237041090561) = true := beq_iff_eq.mpr c3
    have c3b1 : (t105 != 9221120237041090561) = false := bne_eq_false_iff_eq.mpr c3
    clear c3
    obtain rfl := Option.some.inj H
    go_enter Tryd.func41, Tryd.ntmps41
    go_wp2_with (first | (go_at_call 29; (with_reducible refine (floats_Canon.calls a0 t105 _ A2.out).mono ?_); rintro e w' ⟨rfl, ⟨nd, rfl⟩⟩; (try first | exact ⟨rfl, _, World.drewN_drewN _ _ _⟩ | exact ⟨rfl, _, Eq.trans (World.drewN_drewN _ _ _) (congrArg (World.drewN _) (Nat.add_assoc _ _ _))⟩)))
    repeat (go_quiet (first | (go_at_call 29; (with_reducible refine (floats_Canon.calls a0 t105 _ A2.out).mono ?_); rintro e w' ⟨rfl, ⟨nd, rfl⟩⟩; (try first | exact ⟨rfl, _, World.drewN_drewN _ _ _⟩ | exact ⟨rfl, _, Eq.trans (World.drewN_drewN _ _ _) (congrArg (World.drewN _) (Nat.add_assoc _ _ _))⟩))); try go_wp2_with (first | (go_at_call 29; (with_reducible refine (floats_Canon.calls a0 t105 _ A2.out).mono ?_); rintro e w' ⟨rfl, ⟨nd, rfl⟩⟩; (try first | exact ⟨rfl, _, World.drewN_drewN _ _ _⟩ | exact ⟨rfl, _, Eq.trans (World.drewN_drewN _ _ _) (congrArg (World.drewN _) (Nat.add_assoc _ _ _))⟩))))
    go_ret
    exact ⟨by first | rfl | (simp [errW_none, errW_some] <;> rfl) | (simp [*, errW_none, errW_some] <;> rfl), by repeat (first | (with_reducible first | exact HB.out | apply below_alloc | apply pw_below_drewN | apply below_drew1) | exact HB.out)⟩
  · rw [if_neg c3] at H
    have c3b0 : (t105 == 9221120237041090561) = false := beq_eq_false_iff_ne.mpr c3
    have c3b1 : (t105 != 9221120237041090561) = true := bne_iff_ne.mpr c3
    by_cases c4 : t105 = 9218868437227405312
    · rw [if_pos c4] at H
      have c4b0 : (t105 == 9218868437227405312) = true := beq_iff_eq.mpr c4
      have c4b1 : (t105 != 9218868437227405312) = false := bne_eq_false_iff_eq.mpr c4
      clear c4
      obtain rfl := Option.some.inj H
      go_enter Tryd.func41, Tryd.ntmps41
      go_wp2_with (first | (go_at_call 29; (with_reducible refine (floats_Canon.calls a0 t105 _ A2.out).mono ?_); rintro e w' ⟨rfl, ⟨nd, rfl⟩⟩; (try first | exact ⟨rfl, _, World.drewN_drewN _ _ _⟩ | exact ⟨rfl, _, Eq.trans (World.drewN_drewN _ _ _) (congrArg (World.drewN _) (Nat.add_assoc _ _ _))⟩)))
      repeat (go_quiet (first | (go_at_call 29; (with_reducible refine (floats_Canon.calls a0 t105 _ A2.out).mono ?_); rintro e w' ⟨rfl, ⟨nd, rfl⟩⟩; (try first | exact ⟨rfl, _, World.drewN_drewN _ _ _⟩ | exact ⟨rfl, _, Eq.trans (World.drewN_drewN _ _ _) (congrArg (World.drewN _) (Nat.add_assoc _ _ _))⟩))); try go_wp2_with (first | (go_at_call 29; (with_reducible refine (floats_Canon.calls a0 t105 _ A2.out).mono ?_); rintro e w' ⟨rfl, ⟨nd, rfl⟩⟩; (try first | exact ⟨rfl, _, World.drewN_drewN _ _ _⟩ | exact ⟨rfl, _, Eq.trans (World.drewN_drewN _ _ _) (congrArg (World.drewN _) (Nat.add_assoc _ _ _))⟩))))
      go_ret
      exact ⟨by first | rfl | (simp [errW_none, errW_some] <;> rfl) | (simp [*, errW_none, errW_some] <;> rfl), by repeat (first | (with_reducible first | exact HB.out | apply below_alloc | apply pw_below_drewN | apply below_drew1) | exact HB.out)⟩
    · rw [if_neg c4] at H
      have c4b0 : (t105 == 9218868437227405312) = false := beq_eq_false_iff_ne.mpr c4
      have c4b1 : (t105 != 9218868437227405312) = true := bne_iff_ne.mpr c4
      by_cases c5 : t105 = 18442240474082181120
      · rw [if_pos c5] at H
        have c5b0 : (t105 == 18442240474082181120) = true := beq_iff_eq.mpr c5
        have c5b1 : (t105 != 18442240474082181120) = false := bne_eq_false_iff_eq.mpr c5
        clear c5
        obtain rfl := Option.some.inj H
        go_enter Tryd.func41, Tryd.ntmps41
        go_wp2_with (first | (go_at_call 29; (with_reducible refine (floats_Canon.calls a0 t105 _ A2.out).mono ?_); rintro e w' ⟨rfl, ⟨nd, rfl⟩⟩; (try first | exact ⟨rfl, _, World.drewN_drewN _ _ _⟩ | exact ⟨rfl, _, Eq.trans (World.drewN_drewN _ _ _) (congrArg (World.drewN _) (Nat.add_assoc _ _ _))⟩)))
        repeat (go_quiet (first | (go_at_call 29; (with_reducible refine (floats_Canon.calls a0 t105 _ A2.out).mono ?_); rintro e w' ⟨rfl, ⟨nd, rfl⟩⟩; (try first | exact ⟨rfl, _, World.drewN_drewN _ _ _⟩ | exact ⟨rfl, _, Eq.trans (World.drewN_drewN _ _ _) (congrArg (World.drewN _) (Nat.add_assoc _ _ _))⟩))); try go_wp2_with (first | (go_at_call 29; (with_reducible refine (floats_Canon.calls a0 t105 _ A2.out).mono ?_); rintro e w' ⟨rfl, ⟨nd, rfl⟩⟩; (try first | exact ⟨rfl, _, World.drewN_drewN _ _ _⟩ | exact ⟨rfl, _, Eq.trans (World.drewN_drewN _ _ _) (congrArg (World.drewN _) (Nat.add_assoc _ _ _))⟩))))
        go_ret
        exact ⟨by first | rfl | (simp [errW_none, errW_some] <;> rfl) | (simp [*, errW_none, errW_some] <;> rfl), by repeat (first | (with_reducible first | exact HB.out | apply below_alloc | apply pw_below_drewN | apply below_drew1) | exact HB.out)⟩
      · rw [if_neg c5] at H
        have c5b0 : (t105 == 18442240474082181120) = false := beq_eq_false_iff_ne.mpr c5
        have c5b1 : (t105 != 18442240474082181120) = true := bne_iff_ne.mpr c5
        replace H := Option.bind_eq_some_iff.mp H
        obtain ⟨t106, A60, H⟩ := H
        replace H : ((strconv_FormatFloat.f k t106 120 (-1) 64).bind fun t107 => ((strings_IndexByte.f t107 112).bind fun t108 => (floats_Text.l0 k t107 (wrap64 (t108 + 2))))) = some r := H
        have A6 := Aside0.mk A60
        clear A60
        replace H := Option.bind_eq_some_iff.mp H
        obtain ⟨t107, A70, H⟩ := H
        replace H : ((strings_IndexByte.f t107 112).bind fun t108 => (floats_Text.l0 k t107 (wrap64 (t108 + 2)))) = some r := H
        have A7 := Aside0.mk A70
        clear A70
        replace H := Option.bind_eq_some_iff.mp H
        obtain ⟨t108, A80, H⟩ := H
        replace H : (floats_Text.l0 k t107 (wrap64 (t108 + 2))) = some r := H
        have A8 := Aside0.mk A80
        clear A80
        have H' := Aside0.mk H
        clear H
        go_enter Tryd.func41, Tryd.ntmps41
        go_wp2_with (first | (go_at_call 29; (with_reducible refine (floats_Canon.calls a0 t105 _ A2.out).mono ?_); rintro e w' ⟨rfl, ⟨nd, rfl⟩⟩; (try first | exact ⟨rfl, _, World.drewN_drewN _ _ _⟩ | exact ⟨rfl, _, Eq.trans (World.drewN_drewN _ _ _) (congrArg (World.drewN _) (Nat.add_assoc _ _ _))⟩)) | (go_at_call 43; (with_reducible refine (floats_to.calls t105 t106 _ A6.out).mono ?_); rintro e w9 ⟨rfl, hb⟩; have n0_ := Aside0.mk (below_step (by repeat (first | (with_reducible first | exact HB.out | apply below_alloc | apply pw_below_drewN | apply below_drew1) | exact HB.out)) hb); clear HB; have HB := n0_; clear n0_; (try clear hb); (try clear hb2); (try clear hk); (try clear hi)) | (go_at_call 52; (with_reducible refine (strconv_FormatFloat.calls k t106 120 (-1) 64 t107 _ A7.out).mono ?_); rintro e w10 ⟨rfl, hb⟩; have n0_ := Aside0.mk (below_step (by repeat (first | (with_reducible first | exact HB.out | apply below_alloc | apply pw_below_drewN | apply below_drew1) | exact HB.out)) hb); clear HB; have HB := n0_; clear n0_; (try clear hb); (try clear hb2); (try clear hk); (try clear hi)) | (go_at_call 53; (with_reducible refine (strings_IndexByte.calls t107 112 t108 _ A8.out).mono ?_); rintro e w11 ⟨rfl, hb⟩; have n0_ := Aside0.mk (below_step (by repeat (first | (with_reducible first | exact HB.out | apply below_alloc | apply pw_below_drewN | apply below_drew1) | exact HB.out)) hb); clear HB; have HB := n0_; clear n0_; (try clear hb); (try clear hb2); (try clear hk); (try clear hi)))
        repeat (go_quiet (first | (go_at_call 29; (with_reducible refine (floats_Canon.calls a0 t105 _ A2.out).mono ?_); rintro e w' ⟨rfl, ⟨nd, rfl⟩⟩; (try first | exact ⟨rfl, _, World.drewN_drewN _ _ _⟩ | exact ⟨rfl, _, Eq.trans (World.drewN_drewN _ _ _) (congrArg (World.drewN _) (Nat.add_assoc _ _ _))⟩)) | (go_at_call 43; (with_reducible refine (floats_to.calls t105 t106 _ A6.out).mono ?_); rintro e w9 ⟨rfl, hb⟩; have n0_ := Aside0.mk (below_step (by repeat (first | (with_reducible first | exact HB.out | apply below_alloc | apply pw_below_drewN | apply below_drew1) | exact HB.out)) hb); clear HB; have HB := n0_; clear n0_; (try clear hb); (try clear hb2); (try clear hk); (try clear hi)) | (go_at_call 52; (with_reducible refine (strconv_FormatFloat.calls k t106 120 (-1) 64 t107 _ A7.out).mono ?_); rintro e w10 ⟨rfl, hb⟩; have n0_ := Aside0.mk (below_step (by repeat (first | (with_reducible first | exact HB.out | apply below_alloc | apply pw_below_drewN | apply below_drew1) | exact HB.out)) hb); clear HB; have HB := n0_; clear n0_; (try clear hb); (try clear hb2); (try clear hk); (try clear hi)) | (go_at_call 53; (with_reducible refine (strings_IndexByte.calls t107 112 t108 _ A8.out).mono ?_); rintro e w11 ⟨rfl, hb⟩; have n0_ := Aside0.mk (below_step (by repeat (first | (with_reducible first | exact HB.out | apply below_alloc | apply pw_below_drewN | apply below_drew1) | exact HB.out)) hb); clear HB; have HB := n0_; clear n0_; (try clear hb); (try clear hb2); (try clear hk); (try clear hi))); try go_wp2_with (first | (go_at_call 29; (with_reducible refine (floats_Canon.calls a0 t105 _ A2.out).mono ?_); rintro e w' ⟨rfl, ⟨nd, rfl⟩⟩; (try first | exact ⟨rfl, _, World.drewN_drewN _ _ _⟩ | exact ⟨rfl, _, Eq.trans (World.drewN_drewN _ _ _) (congrArg (World.drewN _) (Nat.add_assoc _ _ _))⟩)) | (go_at_call 43; (with_reducible refine (floats_to.calls t105 t106 _ A6.out).mono ?_); rintro e w9 ⟨rfl, hb⟩; have n0_ := Aside0.mk (below_step (by repeat (first | (with_reducible first | exact HB.out | apply below_alloc | apply pw_below_drewN | apply below_drew1) | exact HB.out)) hb); clear HB; have HB := n0_; clear n0_; (try clear hb); (try clear hb2); (try clear hk); (try clear hi)) | (go_at_call 52; (with_reducible refine (strconv_FormatFloat.calls k t106 120 (-1) 64 t107 _ A7.out).mono ?_); rintro e w10 ⟨rfl, hb⟩; have n0_ := Aside0.mk (below_step (by repeat (first | (with_reducible first | exact HB.out | apply below_alloc | apply pw_below_drewN | apply below_drew1) | exact HB.out)) hb); clear HB; have HB := n0_; clear n0_; (try clear hb); (try clear hb2); (try clear hk); (try clear hi)) | (go_at_call 53; (with_reducible refine (strings_IndexByte.calls t107 112 t108 _ A8.out).mono ?_); rintro e w11 ⟨rfl, hb⟩; have n0_ := Aside0.mk (below_step (by repeat (first | (with_reducible first | exact HB.out | apply below_alloc | apply pw_below_drewN | apply below_drew1) | exact HB.out)) hb); clear HB; have HB := n0_; clear n0_; (try clear hb); (try clear hb2); (try clear hk); (try clear hi))))
        obtain ⟨x4_1, hx4_1⟩ : ∃ q_ : Int, wrap64 (t108 + 2) = q_ := ⟨_, rfl⟩
        rw [hx4_1] at H'
        simp only [hx4_1]
        go_loopg [3] k (fun kq v3 w' => ∃ (x3_1 : ByteArray), v3 = .string x3_1 ∧ Aside0 (floats_Text.l0 kq x3_1 x4_1 = some r) ∧ Aside0 (kq ≤ k) ∧ Aside0 (Below w.heap.size w w'))
        case atStart => exact ⟨(t107), (by first | rfl | (simp; done) | (simp [*]; done)), H', ⟨Nat.le_refl _⟩, ⟨by repeat (first | (with_reducible first | exact HB.out | apply below_alloc | apply pw_below_drewN | apply below_drew1) | exact HB.out)⟩⟩
        case round =>
          clear H'
          try clear p2
          try clear c3
          try clear c3b0
          try clear c3b1
          try clear c4
          try clear c4b0
          try clear c4b1
          try clear c5
          try clear c5b0
          try clear c5b1
          try clear p6
          obtain ⟨x3_1, rfl, HA, HK1, HB⟩ := hrel
          cases gk with
          | zero => exact absurd HA.out (by simp [floats_Text.l0])
          | succ k1 =>
            have H := HA.out
            clear HA
            simp only [floats_Text.l0] at H
            by_cases c12 : (wrap64 (x4_1 + 1)) < (x3_1.size : Int)
            · rw [if_pos c12] at H
              have c12b0 : decide ((wrap64 (x4_1 + 1)) < (x3_1.size : Int)) = true := decide_eq_true c12
              clear c12
              by_cases c13 : 0 ≤ x4_1
              · rw [if_pos c13] at H
                have c13b0 : decide (0 ≤ x4_1) = true := decide_eq_true c13
                clear c13
                by_cases c14 : x4_1 < (x3_1.size : Int)
                · rw [if_pos c14] at H
                  have c14b0 : decide (x4_1 < (x3_1.size : Int)) = true := decide_eq_true c14
                  clear c14
                  by_cases c16 : (bt x3_1 x4_1) = 48
                  · rw [if_pos c16] at H
                    have c16b0 : ((bt x3_1 x4_1) == 48) = true := beq_iff_eq.mpr c16
                    have c16b1 : ((bt x3_1 x4_1) != 48) = false := bne_eq_false_iff_eq.mpr c16
                    clear c16
                    have c17b0 := eq_true (of_decide_eq_true (by first | (with_reducible assumption) | assumption) : 0 ≤ x4_1)
                    by_cases c18 : x4_1 ≤ (x3_1.size : Int)
                    · rw [if_pos c18] at H
                      have c18b0 := eq_true c18
                      have c18b1 : decide (x4_1 ≤ (x3_1.size : Int)) = true := decide_eq_true c18
                      clear c18
                      obtain ⟨ji19, hji19⟩ : ∃ j_ : Int, (wrap64 (x4_1 + 1)) = j_ := ⟨_, rfl⟩
                      replace H : (if 0 ≤ (ji19) then (if (ji19) ≤ (x3_1.size : Int) then (if (x3_1.extract 0 (x4_1 : Int).toNat).size + (x3_1.extract ((ji19) : Int).toNat x3_1.size).size ≤ 9223372036854775807 then (floats_Text.l0 k1 ((x3_1.extract 0 (x4_1 : Int).toNat) ++ (x3_1.extract ((ji19) : Int).toNat x3_1.size)) x4_1) else (none)) else (none)) else (none)) = some r := by first | (rw [hji19] at H; exact H) | (simp only [hji19] at H ⊢; exact H)
                      (try rw [hji19] at c12b0)
                      have hji19w : (IntKind.i64.wrap (x4_1 + 1)) = ji19 := (i64_w _).trans hji19
                      by_cases c20 : 0 ≤ (ji19)
                      · rw [if_pos c20] at H
                        have c20b0 := eq_true c20
                        have c20b1 : decide (0 ≤ (ji19)) = true := decide_eq_true c20
                        clear c20
                        by_cases c21 : (ji19) ≤ (x3_1.size : Int)
                        · rw [if_pos c21] at H
                          have c21b0 := eq_true c21
                          have c21b1 : decide ((ji19) ≤ (x3_1.size : Int)) = true := decide_eq_true c21
                          clear c21
                          by_cases c22 : (x3_1.extract 0 (x4_1 : Int).toNat).size + (x3_1.extract ((ji19) : Int).toNat x3_1.size).size ≤ 9223372036854775807
                          · rw [if_pos c22] at H
                            have c22b0 := eq_true c22
                            have c22b1 : decide ((x3_1.extract 0 (x4_1 : Int).toNat).size + (x3_1.extract ((ji19) : Int).toNat x3_1.size).size ≤ 9223372036854775807) = true := decide_eq_true c22
                            try have c22b2 : (9223372036854775807 < (x3_1.extract 0 (x4_1 : Int).toNat).size + (x3_1.extract ((ji19) : Int).toNat x3_1.size).size) = False := eq_false (Nat.not_lt.2 c22)
                            have H' := Aside0.mk H
                            clear H
                            have p15 : 0 ≤ (x4_1 : Int) := of_decide_eq_true (by first | (with_reducible assumption) | assumption)
                            have q15 : x4_1 < (x3_1.size : Int) := of_decide_eq_true (by first | (with_reducible assumption) | assumption)
                            have hx15 := bt_at x3_1 x4_1
                            replace p15 := eq_true p15
                            replace q15 := eq_true q15
                            go_wp2
                            repeat (go_quiet (fail); try go_wp2)
                            go_roundg k1
                            case measure => have := HK1.out; omega
                            case rel => exact ⟨((x3_1.extract 0 (x4_1 : Int).toNat) ++ (x3_1.extract ((ji19) : Int).toNat x3_1.size)), (by first | rfl | (simp; done) | (simp only [← hji19] <;> (first | rfl | simp)) | (simp [*]; done)), H', ⟨by have := HK1.out; omega⟩, ⟨by repeat (first | (with_reducible first | exact HB.out | apply below_alloc | apply pw_below_drewN | apply below_drew1) | exact HB.out)⟩⟩
                          · rw [if_neg c22] at H
                            exact absurd H (by simp)
                        · rw [if_neg c21] at H
                          exact absurd H (by simp)
                      · rw [if_neg c20] at H
                        exact absurd H (by simp)
                    · rw [if_neg c18] at H
                      exact absurd H (by simp)
                  · rw [if_neg c16] at H
                    have c16b0 : ((bt x3_1 x4_1) == 48) = false := beq_eq_false_iff_ne.mpr c16
                    have c16b1 : ((bt x3_1 x4_1) != 48) = true := bne_iff_ne.mpr c16
                    obtain rfl := Option.some.inj H
                    have p15 : 0 ≤ (x4_1 : Int) := of_decide_eq_true (by first | (with_reducible assumption) | assumption)
                    have q15 : x4_1 < (x3_1.size : Int) := of_decide_eq_true (by first | (with_reducible assumption) | assumption)
                    have hx15 := bt_at x3_1 x4_1
                    replace p15 := eq_true p15
                    replace q15 := eq_true q15
                    go_wp2
                    repeat (go_quiet (fail); try go_wp2)
                    go_ret
                    exact ⟨by first | rfl | (simp [errW_none, errW_some] <;> rfl) | (simp [*, errW_none, errW_some] <;> rfl), by repeat (first | (with_reducible first | exact HB.out | apply below_alloc | apply pw_below_drewN | apply below_drew1) | exact HB.out)⟩
                · rw [if_neg c14] at H
                  exact absurd H (by simp)
              · rw [if_neg c13] at H
                exact absurd H (by simp)
            · rw [if_neg c12] at H
              have c12b0 : decide ((wrap64 (x4_1 + 1)) < (x3_1.size : Int)) = false := decide_eq_false c12
              clear c12
              obtain rfl := Option.some.inj H
              go_wp2
              repeat (go_quiet (fail); try go_wp2)
              go_ret
              exact ⟨by first | rfl | (simp [errW_none, errW_some] <;> rfl) | (simp [*, errW_none, errW_some] <;> rfl), by repeat (first | (with_reducible first | exact HB.out | apply below_alloc | apply pw_below_drewN | apply below_drew1) | exact HB.out)⟩

/-! ### foundrylaw01_alive: function 18 -/
def foundrylaw01_alive.f (k : Nat)  : Option (Bool) := (floats_Add.f 4607182418800017408 4611686018427387904).bind fun t109 => (if t109 = 4613937818241073152 then ((floats_Text.f k 4609434218613702656).bind fun t110 => (if t110.toList = ([48, 120, 49, 46, 56, 112, 43, 48] : List UInt8) then ((floats_Class.f 1).bind fun t111 => (if t111 = 4 then ((floats_Less.f 0 1).bind fun t112 => (if t112 = true then ((floats_Compare.f 1 0).bind fun t113 => (if t113 = 1 then ((floats_Neg.f 0).bind fun t114 => (some (t114 == 9223372036854775808))) else (some false))) else (some false))) else (some false))) else (some false))) else (some false))
theorem foundrylaw01_alive.mono : ∀ k, LeO (foundrylaw01_alive.f k ) (foundrylaw01_alive.f (k + 1) ) := by
  intro  k
  unfold foundrylaw01_alive.f
  repeat' first
      | (with_reducible exact floats_Text.mono _ _)
      | (with_reducible exact LeO.refl _)
      | (with_reducible exact LeO.none _)
      | (with_reducible refine LeO.ite ?_ ?_)
      | (with_reducible refine LeO.bind ?_ (fun _ => ?_))
      | exact floats_Text.mono _ _
      | exact LeO.none _
      | refine LeO.ite ?_ ?_
      | refine LeO.bind ?_ (fun _ => ?_)
set_option maxHeartbeats 8000000 in
set_option maxRecDepth 100000 in
theorem foundrylaw01_alive.calls (k : Nat)  (r : Bool) (w : World) (h : foundrylaw01_alive.f k  = some r) :
    Calls Tryd.prog 18 #[] w fun e w' => e = .returned (.bool r) ∧ Below w.heap.size w w' := by
  have HB := Aside0.mk (Below.refl w.heap.size w)
  have H : ((floats_Add.f 4607182418800017408 4611686018427387904).bind fun t109 => (if t109 = 4613937818241073152 then ((floats_Text.f k 4609434218613702656).bind fun t110 => (if t110.toList = ([48, 120, 49, 46, 56, 112, 43, 48] : List UInt8) then ((floats_Class.f 1).bind fun t111 => (if t111 = 4 then ((floats_Less.f 0 1).bind fun t112 => (if t112 = true then ((floats_Compare.f 1 0).bind fun t113 => (if t113 = 1 then ((floats_Neg.f 0).bind fun t114 => (some (t114 == 9223372036854775808))) else (some false))) else (some false))) else (some false))) else (some false))) else (some false))) = some r := h
  clear h
  replace H := Option.bind_eq_some_iff.mp H
  obtain ⟨t109, A10, H⟩ := H
  replace H : (if t109 = 4613937818241073152 then ((floats_Text.f k 4609434218613702656).bind fun t110 => (if t110.toList = ([48, 120, 49, 46, 56, 112, 43, 48] : List UInt8) then ((floats_Class.f 1).bind fun t111 => (if t111 = 4 then ((floats_Less.f 0 1).bind fun t112 => (if t112 = true then ((floats_Compare.f 1 0).bind fun t113 => (if t113 = 1 then ((floats_Neg.f 0).bind fun t114 => (some (t114 == 9223372036854775808))) else (some false))) else (some false))) else (some false))) else (some false))) else (some false)) = some r := H
  have A1 := Aside0.mk A10
  clear A10
  by_cases c2 : t109 = 4613937818241073152
  · rw [if_pos c2] at H
    have c2b0 : (t109 == 4613937818241073152) = true := beq_iff_eq.mpr c2
    have c2b1 : (t109 != 4613937818241073152) = false := bne_eq_false_iff_eq.mpr c2
    clear c2
    replace H := Option.bind_eq_some_iff.mp H
    obtain ⟨t110, A30, H⟩ := H
    replace H : (if t110.toList = ([48, 120, 49, 46, 56, 112, 43, 48] : List UInt8) then ((floats_Class.f 1).bind fun t111 => (if t111 = 4 then ((floats_Less.f 0 1).bind fun t112 => (if t112 = true then ((floats_Compare.f 1 0).bind fun t113 => (if t113 = 1 then ((floats_Neg.f 0).bind fun t114 => (some (t114 == 9223372036854775808))) else (some false))) else (some false))) else (some false))) else (some false)) = some r := H
    have A3 := Aside0.mk A30
    clear A30
    by_cases c4 : t110.toList = ([48, 120, 49, 46, 56, 112, 43, 48] : List UInt8)
    · rw [if_pos c4] at H
      have c4b0 : (t110.toList == ([48, 120, 49, 46, 56, 112, 43, 48] : List UInt8)) = true := beq_iff_eq.mpr c4
      have c4b1 : (t110.toList != ([48, 120, 49, 46, 56, 112, 43, 48] : List UInt8)) = false := bne_eq_false_iff_eq.mpr c4
      clear c4
      replace H := Option.bind_eq_some_iff.mp H
      obtain ⟨t111, A50, H⟩ := H
      replace H : (if t111 = 4 then ((floats_Less.f 0 1).bind fun t112 => (if t112 = true then ((floats_Compare.f 1 0).bind fun t113 => (if t113 = 1 then ((floats_Neg.f 0).bind fun t114 => (some (t114 == 9223372036854775808))) else (some false))) else (some false))) else (some false)) = some r := H
      have A5 := Aside0.mk A50
      clear A50
      by_cases c6 : t111 = 4
      · rw [if_pos c6] at H
        have c6b0 : (t111 == 4) = true := beq_iff_eq.mpr c6
        have c6b1 : (t111 != 4) = false := bne_eq_false_iff_eq.mpr c6
        clear c6
        replace H := Option.bind_eq_some_iff.mp H
        obtain ⟨t112, A70, H⟩ := H
        replace H : (if t112 = true then ((floats_Compare.f 1 0).bind fun t113 => (if t113 = 1 then ((floats_Neg.f 0).bind fun t114 => (some (t114 == 9223372036854775808))) else (some false))) else (some false)) = some r := H
        have A7 := Aside0.mk A70
        clear A70
        by_cases c8 : t112 = true
        · subst c8
          have H1 : ((floats_Compare.f 1 0).bind fun t113 => (if t113 = 1 then ((floats_Neg.f 0).bind fun t114 => (some (t114 == 9223372036854775808))) else (some false))) = some r := by rw [if_pos rfl] at H; exact H
          clear H
          have H := H1
          clear H1
          replace H := Option.bind_eq_some_iff.mp H
          obtain ⟨t113, A90, H⟩ := H
          replace H : (if t113 = 1 then ((floats_Neg.f 0).bind fun t114 => (some (t114 == 9223372036854775808))) else (some false)) = some r := H
          have A9 := Aside0.mk A90
          clear A90
          by_cases c10 : t113 = 1
          · rw [if_pos c10] at H
            have c10b0 : (t113 == 1) = true := beq_iff_eq.mpr c10
            have c10b1 : (t113 != 1) = false := bne_eq_false_iff_eq.mpr c10
            clear c10
            replace H := Option.bind_eq_some_iff.mp H
            obtain ⟨t114, A110, H⟩ := H
            replace H : (some (t114 == 9223372036854775808)) = some r := H
            have A11 := Aside0.mk A110
            clear A110
            obtain rfl := Option.some.inj H
            go_enter Tryd.func18, Tryd.ntmps18
            go_wp2_with (first | ((with_reducible refine gate_callee (f := 19) rfl ?_); refine goesL_ (some 1) rfl rfl Tryd.func19 (by kernel_rfl) rfl #[.int .u64 4607182418800017408, .int .u64 4611686018427387904] rfl (by (try simp only [List.map_toArray, List.map_cons, List.map_nil]); first | done | rfl | (simp only [List.length_drop, List.length_take]; rfl)) ?_; (with_reducible refine (floats_Add.calls 4607182418800017408 4611686018427387904 t109 _ A1.out).mono ?_); rintro e w12 ⟨rfl, hb⟩; refine ⟨_, rfl, ?_⟩; have n0_ := Aside0.mk (below_step (by repeat (first | (with_reducible first | exact HB.out | apply below_alloc | apply pw_below_drewN | apply below_drew1) | exact HB.out)) hb); clear HB; have HB := n0_; clear n0_; (try clear hb); (try clear hb2); (try clear hk); (try clear hi)) | (go_at_call 41; (with_reducible refine (floats_Text.calls k 4609434218613702656 t110 _ A3.out).mono ?_); rintro e w13 ⟨rfl, hb⟩; have n0_ := Aside0.mk (below_step (by repeat (first | (with_reducible first | exact HB.out | apply below_alloc | apply pw_below_drewN | apply below_drew1) | exact HB.out)) hb); clear HB; have HB := n0_; clear n0_; (try clear hb); (try clear hb2); (try clear hk); (try clear hi)) | (go_at_call 28; (with_reducible refine (floats_Class.calls 1 t111 _ A5.out).mono ?_); rintro e w' ⟨rfl, ⟨nd, rfl⟩⟩) | (go_at_call 12; (with_reducible refine (floats_Less.calls 0 1 true _ A7.out).mono ?_); rintro e w14 ⟨rfl, hb⟩; have n0_ := Aside0.mk (below_step (by repeat (first | (with_reducible first | exact HB.out | apply below_alloc | apply pw_below_drewN | apply below_drew1) | exact HB.out)) hb); clear HB; have HB := n0_; clear n0_; (try clear hb); (try clear hb2); (try clear hk); (try clear hi)) | (go_at_call 16; (with_reducible refine (floats_Compare.calls 1 0 t113 _ A9.out).mono ?_); rintro e w' ⟨rfl, ⟨nd, rfl⟩⟩) | (go_at_call 27; (with_reducible refine (floats_Neg.calls 0 t114 _ A11.out).mono ?_); rintro e w' ⟨rfl, ⟨nd, rfl⟩⟩))
            go_ret
            exact ⟨by first | rfl | (simp [errW_none, errW_some] <;> rfl) | (simp [*, errW_none, errW_some] <;> rfl), by repeat (first | (with_reducible first | exact HB.out | apply below_alloc | apply pw_below_drewN | apply below_drew1) | exact HB.out)⟩
          · rw [if_neg c10] at H
            have c10b0 : (t113 == 1) = false := beq_eq_false_iff_ne.mpr c10
            have c10b1 : (t113 != 1) = true := bne_iff_ne.mpr c10
            obtain rfl := Option.some.inj H
            go_enter Tryd.func18, Tryd.ntmps18
            go_wp2_with (first | ((with_reducible refine gate_callee (f := 19) rfl ?_); refine goesL_ (some 1) rfl rfl Tryd.func19 (by kernel_rfl) rfl #[.int .u64 4607182418800017408, .int .u64 4611686018427387904] rfl (by (try simp only [List.map_toArray, List.map_cons, List.map_nil]); first | done | rfl | (simp only [List.length_drop, List.length_take]; rfl)) ?_; (with_reducible refine (floats_Add.calls 4607182418800017408 4611686018427387904 t109 _ A1.out).mono ?_); rintro e w15 ⟨rfl, hb⟩; refine ⟨_, rfl, ?_⟩; have n0_ := Aside0.mk (below_step (by repeat (first | (with_reducible first | exact HB.out | apply below_alloc | apply pw_below_drewN | apply below_drew1) | exact HB.out)) hb); clear HB; have HB := n0_; clear n0_; (try clear hb); (try clear hb2); (try clear hk); (try clear hi)) | (go_at_call 41; (with_reducible refine (floats_Text.calls k 4609434218613702656 t110 _ A3.out).mono ?_); rintro e w16 ⟨rfl, hb⟩; have n0_ := Aside0.mk (below_step (by repeat (first | (with_reducible first | exact HB.out | apply below_alloc | apply pw_below_drewN | apply below_drew1) | exact HB.out)) hb); clear HB; have HB := n0_; clear n0_; (try clear hb); (try clear hb2); (try clear hk); (try clear hi)) | (go_at_call 28; (with_reducible refine (floats_Class.calls 1 t111 _ A5.out).mono ?_); rintro e w' ⟨rfl, ⟨nd, rfl⟩⟩) | (go_at_call 12; (with_reducible refine (floats_Less.calls 0 1 true _ A7.out).mono ?_); rintro e w17 ⟨rfl, hb⟩; have n0_ := Aside0.mk (below_step (by repeat (first | (with_reducible first | exact HB.out | apply below_alloc | apply pw_below_drewN | apply below_drew1) | exact HB.out)) hb); clear HB; have HB := n0_; clear n0_; (try clear hb); (try clear hb2); (try clear hk); (try clear hi)) | (go_at_call 16; (with_reducible refine (floats_Compare.calls 1 0 t113 _ A9.out).mono ?_); rintro e w' ⟨rfl, ⟨nd, rfl⟩⟩))
            go_ret
            exact ⟨by first | rfl | (simp [errW_none, errW_some] <;> rfl) | (simp [*, errW_none, errW_some] <;> rfl), by repeat (first | (with_reducible first | exact HB.out | apply below_alloc | apply pw_below_drewN | apply below_drew1) | exact HB.out)⟩
        · replace c8 := Bool.eq_false_iff.mpr c8
          subst c8
          have H1 : (some false) = some r := by rw [if_neg (show ¬ (false = true) by decide)] at H; exact H
          clear H
          have H := H1
          clear H1
          obtain rfl := Option.some.inj H
          go_enter Tryd.func18, Tryd.ntmps18
          go_wp2_with (first | ((with_reducible refine gate_callee (f := 19) rfl ?_); refine goesL_ (some 1) rfl rfl Tryd.func19 (by kernel_rfl) rfl #[.int .u64 4607182418800017408, .int .u64 4611686018427387904] rfl (by (try simp only [List.map_toArray, List.map_cons, List.map_nil]); first | done | rfl | (simp only [List.length_drop, List.length_take]; rfl)) ?_; (with_reducible refine (floats_Add.calls 4607182418800017408 4611686018427387904 t109 _ A1.out).mono ?_); rintro e w18 ⟨rfl, hb⟩; refine ⟨_, rfl, ?_⟩; have n0_ := Aside0.mk (below_step (by repeat (first | (with_reducible first | exact HB.out | apply below_alloc | apply pw_below_drewN | apply below_drew1) | exact HB.out)) hb); clear HB; have HB := n0_; clear n0_; (try clear hb); (try clear hb2); (try clear hk); (try clear hi)) | (go_at_call 41; (with_reducible refine (floats_Text.calls k 4609434218613702656 t110 _ A3.out).mono ?_); rintro e w19 ⟨rfl, hb⟩; have n0_ := Aside0.mk (below_step (by repeat (first | (with_reducible first | exact HB.out | apply below_alloc | apply pw_below_drewN | apply below_drew1) | exact HB.out)) hb); clear HB; have HB := n0_; clear n0_; (try clear hb); (try clear hb2); (try clear hk); (try clear hi)) | (go_at_call 28; (with_reducible refine (floats_Class.calls 1 t111 _ A5.out).mono ?_); rintro e w' ⟨rfl, ⟨nd, rfl⟩⟩) | (go_at_call 12; (with_reducible refine (floats_Less.calls 0 1 false _ A7.out).mono ?_); rintro e w20 ⟨rfl, hb⟩; have n0_ := Aside0.mk (below_step (by repeat (first | (with_reducible first | exact HB.out | apply below_alloc | apply pw_below_drewN | apply below_drew1) | exact HB.out)) hb); clear HB; have HB := n0_; clear n0_; (try clear hb); (try clear hb2); (try clear hk); (try clear hi)))
          go_ret
          exact ⟨by first | rfl | (simp [errW_none, errW_some] <;> rfl) | (simp [*, errW_none, errW_some] <;> rfl), by repeat (first | (with_reducible first | exact HB.out | apply below_alloc | apply pw_below_drewN | apply below_drew1) | exact HB.out)⟩
      · rw [if_neg c6] at H
        have c6b0 : (t111 == 4) = false := beq_eq_false_iff_ne.mpr c6
        have c6b1 : (t111 != 4) = true := bne_iff_ne.mpr c6
        obtain rfl := Option.some.inj H
        go_enter Tryd.func18, Tryd.ntmps18
        go_wp2_with (first | ((with_reducible refine gate_callee (f := 19) rfl ?_); refine goesL_ (some 1) rfl rfl Tryd.func19 (by kernel_rfl) rfl #[.int .u64 4607182418800017408, .int .u64 4611686018427387904] rfl (by (try simp only [List.map_toArray, List.map_cons, List.map_nil]); first | done | rfl | (simp only [List.length_drop, List.length_take]; rfl)) ?_; (with_reducible refine (floats_Add.calls 4607182418800017408 4611686018427387904 t109 _ A1.out).mono ?_); rintro e w21 ⟨rfl, hb⟩; refine ⟨_, rfl, ?_⟩; have n0_ := Aside0.mk (below_step (by repeat (first | (with_reducible first | exact HB.out | apply below_alloc | apply pw_below_drewN | apply below_drew1) | exact HB.out)) hb); clear HB; have HB := n0_; clear n0_; (try clear hb); (try clear hb2); (try clear hk); (try clear hi)) | (go_at_call 41; (with_reducible refine (floats_Text.calls k 4609434218613702656 t110 _ A3.out).mono ?_); rintro e w22 ⟨rfl, hb⟩; have n0_ := Aside0.mk (below_step (by repeat (first | (with_reducible first | exact HB.out | apply below_alloc | apply pw_below_drewN | apply below_drew1) | exact HB.out)) hb); clear HB; have HB := n0_; clear n0_; (try clear hb); (try clear hb2); (try clear hk); (try clear hi)) | (go_at_call 28; (with_reducible refine (floats_Class.calls 1 t111 _ A5.out).mono ?_); rintro e w' ⟨rfl, ⟨nd, rfl⟩⟩))
        go_ret
        exact ⟨by first | rfl | (simp [errW_none, errW_some] <;> rfl) | (simp [*, errW_none, errW_some] <;> rfl), by repeat (first | (with_reducible first | exact HB.out | apply below_alloc | apply pw_below_drewN | apply below_drew1) | exact HB.out)⟩
    · rw [if_neg c4] at H
      have c4b0 : (t110.toList == ([48, 120, 49, 46, 56, 112, 43, 48] : List UInt8)) = false := beq_eq_false_iff_ne.mpr c4
      have c4b1 : (t110.toList != ([48, 120, 49, 46, 56, 112, 43, 48] : List UInt8)) = true := bne_iff_ne.mpr c4
      obtain rfl := Option.some.inj H
      go_enter Tryd.func18, Tryd.ntmps18
      go_wp2_with (first | ((with_reducible refine gate_callee (f := 19) rfl ?_); refine goesL_ (some 1) rfl rfl Tryd.func19 (by kernel_rfl) rfl #[.int .u64 4607182418800017408, .int .u64 4611686018427387904] rfl (by (try simp only [List.map_toArray, List.map_cons, List.map_nil]); first | done | rfl | (simp only [List.length_drop, List.length_take]; rfl)) ?_; (with_reducible refine (floats_Add.calls 4607182418800017408 4611686018427387904 t109 _ A1.out).mono ?_); rintro e w23 ⟨rfl, hb⟩; refine ⟨_, rfl, ?_⟩; have n0_ := Aside0.mk (below_step (by repeat (first | (with_reducible first | exact HB.out | apply below_alloc | apply pw_below_drewN | apply below_drew1) | exact HB.out)) hb); clear HB; have HB := n0_; clear n0_; (try clear hb); (try clear hb2); (try clear hk); (try clear hi)) | (go_at_call 41; (with_reducible refine (floats_Text.calls k 4609434218613702656 t110 _ A3.out).mono ?_); rintro e w24 ⟨rfl, hb⟩; have n0_ := Aside0.mk (below_step (by repeat (first | (with_reducible first | exact HB.out | apply below_alloc | apply pw_below_drewN | apply below_drew1) | exact HB.out)) hb); clear HB; have HB := n0_; clear n0_; (try clear hb); (try clear hb2); (try clear hk); (try clear hi)))
      go_ret
      exact ⟨by first | rfl | (simp [errW_none, errW_some] <;> rfl) | (simp [*, errW_none, errW_some] <;> rfl), by repeat (first | (with_reducible first | exact HB.out | apply below_alloc | apply pw_below_drewN | apply below_drew1) | exact HB.out)⟩
  · rw [if_neg c2] at H
    have c2b0 : (t109 == 4613937818241073152) = false := beq_eq_false_iff_ne.mpr c2
    have c2b1 : (t109 != 4613937818241073152) = true := bne_iff_ne.mpr c2
    obtain rfl := Option.some.inj H
    go_enter Tryd.func18, Tryd.ntmps18
    go_wp2_with (first | ((with_reducible refine gate_callee (f := 19) rfl ?_); refine goesL_ (some 1) rfl rfl Tryd.func19 (by kernel_rfl) rfl #[.int .u64 4607182418800017408, .int .u64 4611686018427387904] rfl (by (try simp only [List.map_toArray, List.map_cons, List.map_nil]); first | done | rfl | (simp only [List.length_drop, List.length_take]; rfl)) ?_; (with_reducible refine (floats_Add.calls 4607182418800017408 4611686018427387904 t109 _ A1.out).mono ?_); rintro e w25 ⟨rfl, hb⟩; refine ⟨_, rfl, ?_⟩; have n0_ := Aside0.mk (below_step (by repeat (first | (with_reducible first | exact HB.out | apply below_alloc | apply pw_below_drewN | apply below_drew1) | exact HB.out)) hb); clear HB; have HB := n0_; clear n0_; (try clear hb); (try clear hb2); (try clear hk); (try clear hi)))
    go_ret
    exact ⟨by first | rfl | (simp [errW_none, errW_some] <;> rfl) | (simp [*, errW_none, errW_some] <;> rfl), by repeat (first | (with_reducible first | exact HB.out | apply below_alloc | apply pw_below_drewN | apply below_drew1) | exact HB.out)⟩

end Go.Proofs.YtlhmjmfcngegnaaDoor.QB
