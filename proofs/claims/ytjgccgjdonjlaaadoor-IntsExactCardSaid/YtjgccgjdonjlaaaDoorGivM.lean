/-
  ints.Mul walked by hand: the product where it is an int64, else 0 and ErrRange.
-/
import Derived.Test.YtjgccgjdonjlaaaDoorGiv
namespace Go.Proofs.YtjgccgjdonjlaaaDoorG
open Go Go.RowKit Go.Shelf
set_option linter.unusedVariables false
set_option linter.unusedSimpArgs false

def ints_Mul.f (a b : Int) : Option (Int × Int) :=
  if -9223372036854775808 ≤ a ∧ a ≤ 9223372036854775807 ∧ -9223372036854775808 ≤ b ∧ b ≤ 9223372036854775807 then
    (if -9223372036854775808 ≤ a * b ∧ a * b ≤ 9223372036854775807 then some (a * b, 0) else some (0, 80))
  else none

def absOf (a : Int) : Int := (a.natAbs : Int)

theorem amount_any (a : Int) (h0 : -9223372036854775808 ≤ a) (h1 : a ≤ 9223372036854775807) (w : World) :
    Calls Tryd.prog 41 #[.int .i64 a] w fun e w' => e = .returned (.int .u64 (absOf a)) ∧ w' = w := by
  by_cases c : a < 0
  · have e1 : IntKind.u64.wrap (-(IntKind.u64.wrap a)) = absOf a := by simp only [IntKind.wrap, IntKind.signed, IntKind.bits, absOf]; simp; omega
    have H : Hid (IntKind.u64.wrap (-(IntKind.u64.wrap a)) = absOf a) := e1
    clear e1
    go_enter Tryd.func41, Tryd.ntmps41
    go_wp2
    go_ret
    exact ⟨by rw [← H.out]; first | rfl | simp, rfl⟩
  · have e1 : a = absOf a := by simp only [absOf]; omega
    have H : Hid (a = absOf a) := e1
    clear e1
    go_enter Tryd.func41, Tryd.ntmps41
    go_wp2
    go_ret
    exact ⟨congrArg (fun z => Ending.returned (Value.int IntKind.u64 z)) H.out, rfl⟩

theorem neg_wrap (lo : Int) (h0 : 0 ≤ lo) (h1 : lo ≤ 9223372036854775808) : wrap64 (-wrap64 lo) = -lo := by unfold wrap64; omega

set_option maxHeartbeats 1000000 in
theorem mul_core (a b hi lo r1 r2 : Int) (A0 : -9223372036854775808 ≤ a) (A1 : a ≤ 9223372036854775807) (B0 : -9223372036854775808 ≤ b) (B1 : b ≤ 9223372036854775807)
    (l0 : 0 ≤ lo) (l1 : lo < 18446744073709551616)
    (hm : ∀ w : World, Calls Tryd.prog 40 #[.int .u64 (absOf a), .int .u64 (absOf b)] w fun e w' => e = .returned (.tuple #[.int .u64 hi, .int .u64 lo]) ∧ w' = w)
    (hr : (if hi ≠ 0 then (0, 80) else if (decide (a < 0) != decide (b < 0)) = true then (if lo ≤ 9223372036854775808 then (-lo, 0) else (0, 80)) else (if lo < 9223372036854775808 then (lo, 0) else (0, 80))) = (r1, r2)) (w : World) :
    Calls Tryd.prog 21 #[.int .i64 a, .int .i64 b] w fun e w' => e = .returned (.tuple #[.int .i64 r1, .int .i64 r2]) ∧ w' = w := by
  have HA : Hid _ := fun w => amount_any a A0 A1 w
  have HB : Hid _ := fun w => amount_any b B0 B1 w
  have HM : Hid _ := hm
  clear hm
  by_cases c1 : hi = 0
  · have hi0 : (hi == 0) = true := by simp [c1]
    rw [if_neg (by simp [c1])] at hr
    clear c1
    by_cases ca : a < 0 <;> by_cases cb : b < 0
    all_goals simp only [ca, cb, decide_true, decide_false, bne_self_eq_false, Bool.false_eq_true, if_false, if_true, Bool.true_bne, Bool.false_bne, Bool.not_false, Bool.not_true] at hr
    all_goals split at hr <;> rename_i cl
    all_goals
      simp only [Prod.mk.injEq] at hr
      obtain ⟨rfl, rfl⟩ := hr
      have hi1 : (hi != 0) = false := by simp at hi0; simp [hi0]
      have da := decide_eq_true_iff (p := a < 0)
      have db := decide_eq_true_iff (p := b < 0)
      simp only [ca, cb, iff_true, iff_false, Bool.not_eq_true] at da db
      have d1 : decide (lo ≤ 9223372036854775808) = decide (lo ≤ 9223372036854775808) := rfl
      have d2 : decide (lo < 9223372036854775808) = decide (lo < 9223372036854775808) := rfl
      have CL := cl
      go_enter Tryd.func21, Tryd.ntmps21
      go_wp2_with (first | (go_at_call_of 41 (Value.int .i64 a); refine Calls.mono (HA.out _) ?_; rintro e w' ⟨rfl, rfl⟩) | (go_at_call_of 41 (Value.int .i64 b); refine Calls.mono (HB.out _) ?_; rintro e w' ⟨rfl, rfl⟩) | (go_at_call 40; refine Calls.mono (HM.out _) ?_; rintro e w' ⟨rfl, rfl⟩))
      all_goals first
        | (exfalso; clear HA HB HM; simp_all; done)
        | (exfalso; clear HA HB HM; simp_all; omega)
        | (go_ret2; simp; done)
        | (go_ret2; refine ⟨?_, rfl⟩; simp; exact neg_wrap _ l0 cl)
  · have hi1 : (hi != 0) = true := by simp [c1]
    rw [if_pos c1] at hr
    clear c1
    simp only [Prod.mk.injEq] at hr
    obtain ⟨rfl, rfl⟩ := hr
    go_enter Tryd.func21, Tryd.ntmps21
    go_wp2_with (first | (go_at_call_of 41 (Value.int .i64 a); refine Calls.mono (HA.out _) ?_; rintro e w' ⟨rfl, rfl⟩) | (go_at_call_of 41 (Value.int .i64 b); refine Calls.mono (HB.out _) ?_; rintro e w' ⟨rfl, rfl⟩) | (go_at_call 40; refine Calls.mono (HM.out _) ?_; rintro e w' ⟨rfl, rfl⟩))
    go_ret2
    exact ⟨rfl, rfl⟩

theorem absmul (a b : Int) : absOf a * absOf b = absOf (a * b) := by simp [absOf, Int.natAbs_mul]

theorem neg_prod {a b : Int} : ((decide (a < 0) != decide (b < 0)) = true → a * b ≤ 0) ∧ ((decide (a < 0) != decide (b < 0)) = false → 0 ≤ a * b) := by
  constructor
  · intro h
    by_cases ca : a < 0 <;> by_cases cb : b < 0 <;> simp [ca, cb] at h
    · exact Int.mul_nonpos_of_nonpos_of_nonneg (by omega) (by omega)
    · exact Int.mul_nonpos_of_nonneg_of_nonpos (by omega) (by omega)
  · intro h
    by_cases ca : a < 0 <;> by_cases cb : b < 0 <;> simp [ca, cb] at h
    · exact Int.mul_nonneg_of_nonpos_of_nonpos (by omega) (by omega)
    · exact Int.mul_nonneg (by omega) (by omega)

theorem ints_Mul.calls (a0 a1 r1 r2 : Int) (w : World) (h : ints_Mul.f a0 a1 = some (r1, r2)) :
    Calls Tryd.prog 21 #[.int .i64 a0, .int .i64 a1] w fun e w' => e = .returned (.tuple #[.int .i64 r1, .int .i64 r2]) ∧ Below w.heap.size w w' := by
  unfold ints_Mul.f at h
  split at h
  · rename_i hb
    obtain ⟨A0, A1, B0, B1⟩ := hb
    have habs : ∀ x : Int, -9223372036854775808 ≤ x → x ≤ 9223372036854775807 → 0 ≤ absOf x ∧ absOf x ≤ 9223372036854775808 := fun x h0 h1 => by unfold absOf; omega
    obtain ⟨a2, a3⟩ := habs a0 A0 A1
    obtain ⟨b2, b3⟩ := habs a1 B0 B1
    obtain ⟨x, hx⟩ := Int.eq_ofNat_of_zero_le a2
    obtain ⟨y, hy⟩ := Int.eq_ofNat_of_zero_le b2
    have hm : ∀ w : World, Calls Tryd.prog 40 #[.int .u64 (absOf a0), .int .u64 (absOf a1)] w fun e w' => e = .returned (.tuple #[.int .u64 (absOf (a0 * a1) / 18446744073709551616), .int .u64 (absOf (a0 * a1) % 18446744073709551616)]) ∧ w' = w := by
      intro w
      rw [← absmul, hx, hy]
      refine (Tryd.bits_Mul64 x y (by omega) (by omega) w).mono ?_
      rintro e w' ⟨rfl, rfl⟩
      exact ⟨by simp, rfl⟩
    have hn : 0 ≤ absOf (a0 * a1) := by unfold absOf; omega
    have hab : absOf (a0 * a1) = a0 * a1 ∨ absOf (a0 * a1) = -(a0 * a1) := by unfold absOf; omega
    obtain ⟨np, nn⟩ := @neg_prod a0 a1
    refine (mul_core a0 a1 _ _ r1 r2 A0 A1 B0 B1 (by omega) (by omega) hm ?_ w).mono ?_
    · generalize a0 * a1 = p at *
      split at h <;> rename_i hp
      · simp only [Option.some.injEq, Prod.mk.injEq] at h
        obtain ⟨rfl, rfl⟩ := h
        rw [if_neg (by omega)]
        cases hd : (decide (a0 < 0) != decide (a1 < 0)) with
        | true =>
          have := np hd
          rw [if_pos rfl, if_pos (by omega)]
          congr 1; omega
        | false =>
          have := nn hd
          rw [if_neg (by simp), if_pos (by omega)]
          congr 1; omega
      · simp only [Option.some.injEq, Prod.mk.injEq] at h
        obtain ⟨rfl, rfl⟩ := h
        split
        · rfl
        · cases hd : (decide (a0 < 0) != decide (a1 < 0)) with
          | true =>
            have := np hd
            rw [if_pos rfl, if_neg (by omega)]
          | false =>
            have := nn hd
            rw [if_neg (by simp), if_neg (by omega)]
    · rintro e w' ⟨rfl, rfl⟩
      exact ⟨rfl, Below.refl _ _⟩
  · cases h

end Go.Proofs.YtjgccgjdonjlaaaDoorG
