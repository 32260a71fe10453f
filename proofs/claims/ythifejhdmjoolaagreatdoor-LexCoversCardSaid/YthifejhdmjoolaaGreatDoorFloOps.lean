/-
  The order of floats and their sums, by signed magnitudes.
-/
import Derived.Test.YthifejhdmjoolaaGreatDoorFloCore
namespace Go.Flo
open Ieee

/-- the signed magnitude of a word, in units of the least place (an infinity is beyond all) -/
def sv (w : Nat) : Int := if isNeg w then -(mg (rung w) : Int) else mg (rung w)
def nan (w : Nat) : Prop := 9218868437227405312 < rung w
instance (w : Nat) : Decidable (nan w) := inferInstanceAs (Decidable (_ < _))

theorem signed_eq (neg : Bool) (m k : Nat) : signed neg m k = (if neg then -((m * 2 ^ k : Nat) : Int) else ((m * 2 ^ k : Nat) : Int)) := by
  unfold signed; rw [Nat.shiftLeft_eq]

theorem signed_scale (neg : Bool) (m k j : Nat) : signed neg m (k + j) = signed neg m k * (2 ^ j : Nat) := by
  rw [signed_eq, signed_eq, Nat.pow_add, ← Nat.mul_assoc]
  cases neg <;> simp [Int.neg_mul]

theorem sv_signed (w : Nat) : sv w = signed (isNeg w) (sg (rung w)) (up (rung w)) := by
  unfold sv
  rw [signed_eq, mg_eq]

theorem cmp_lt {x y : Int} (h : x < y) : compare x y = .lt := by
  show compareOfLessAndEq x y = _
  unfold compareOfLessAndEq; rw [if_pos h]
theorem cmp_gt {x y : Int} (h : y < x) : compare x y = .gt := by
  show compareOfLessAndEq x y = _
  unfold compareOfLessAndEq; rw [if_neg (by omega), if_neg (by omega)]
theorem cmp_self (x : Int) : compare x x = .eq := by
  show compareOfLessAndEq x x = _
  unfold compareOfLessAndEq; rw [if_neg (by omega), if_pos rfl]
theorem cmp_scale (x y : Int) (p : Nat) (hp : 0 < p) : compare (x * p) (y * p) = compare x y := by
  have h : (0 : Int) < p := by omega
  rcases Int.lt_trichotomy x y with h1 | h1 | h1
  · have := Int.mul_lt_mul_of_pos_right h1 h
    rw [cmp_lt h1, cmp_lt this]
  · rw [h1, cmp_self, cmp_self]
  · have := Int.mul_lt_mul_of_pos_right h1 h
    rw [cmp_gt h1, cmp_gt this]

/-- two finite words, told from one place -/
theorem parts_two (a b : Nat) : ∃ (i j k : Nat), up (rung a) = i + k ∧ up (rung b) = j + k ∧ (i = 0 ∨ j = 0) ∧ k = min (up (rung a)) (up (rung b)) :=
  ⟨up (rung a) - min (up (rung a)) (up (rung b)), up (rung b) - min (up (rung a)) (up (rung b)), min (up (rung a)) (up (rung b)), by omega, by omega, by omega, rfl⟩

theorem order_finite {a b : Nat} (ha : rung a < 9218868437227405312) (hb : rung b < 9218868437227405312) : D.order a b = some (compare (sv a) (sv b)) := by
  unfold Format.order
  rw [read_finite ha, read_finite hb]
  unfold Datum.order
  dsimp only
  obtain ⟨i, j, k, hi, hj, _, hk⟩ := parts_two a b
  rw [sv_signed, sv_signed, hi, hj, signed_scale, signed_scale, cmp_scale _ _ _ (Nat.two_pow_pos k)]
  congr 3 <;> omega

theorem mg_finite {r : Nat} (h : r < 9218868437227405312) : mg r < mg 9218868437227405312 := mg_lt h

theorem order_eq {a b : Nat} (ha : ¬ nan a) (hb : ¬ nan b) : D.order a b = some (compare (sv a) (sv b)) := by
  unfold nan at ha hb
  by_cases h1 : rung a < 9218868437227405312
  · by_cases h2 : rung b < 9218868437227405312
    · exact order_finite h1 h2
    · have e2 : rung b = 9218868437227405312 := by omega
      have m1 := mg_finite h1
      unfold Format.order
      rw [read_finite h1, read_inf e2]
      unfold Datum.order sv
      dsimp only
      rw [e2]
      cases isNeg b
      · simp only [Bool.false_eq_true, if_false]
        rw [cmp_lt]; split <;> omega
      · simp only [if_true]
        rw [cmp_gt]; split <;> omega
  · have e1 : rung a = 9218868437227405312 := by omega
    by_cases h2 : rung b < 9218868437227405312
    · have m1 := mg_finite h2
      unfold Format.order
      rw [read_finite h2, read_inf e1]
      unfold Datum.order sv
      dsimp only
      rw [e1]
      cases isNeg a
      · simp only [Bool.false_eq_true, if_false]
        rw [cmp_gt]; split <;> omega
      · simp only [if_true]
        rw [cmp_lt]; split <;> omega
    · have e2 : rung b = 9218868437227405312 := by omega
      have m0 : 0 < mg 9218868437227405312 := by have := mg_lt (show 0 < 9218868437227405312 by decide); rw [mg_zero] at this; exact this
      unfold Format.order
      rw [read_inf e1, read_inf e2]
      unfold Datum.order sv
      dsimp only
      rw [e1, e2]
      cases isNeg a <;> cases isNeg b <;> simp only [Bool.false_eq_true, if_false, if_true]
      · rw [cmp_self]; rfl
      · rw [cmp_gt (show -(mg 9218868437227405312 : Int) < (mg 9218868437227405312 : Int) by omega)]; rfl
      · rw [cmp_lt (show -(mg 9218868437227405312 : Int) < (mg 9218868437227405312 : Int) by omega)]; rfl
      · rw [cmp_self]; rfl

theorem order_nan {a b : Nat} (h : nan a ∨ nan b) : D.order a b = none := by
  unfold Format.order
  rcases h with h | h
  · obtain ⟨f, e⟩ := read_nan h
    rw [e]; rfl
  · obtain ⟨f, e⟩ := read_nan h
    rw [e]
    cases D.read a <;> rfl

/-- equal magnitudes: the same word, or two zeros -/
theorem sv_inj {a b : Nat} (ha : a < 18446744073709551616) (hb : b < 18446744073709551616) : sv a = sv b ↔ a = b ∨ (rung a = 0 ∧ rung b = 0) := by
  have e1 := fun h => @mg_inj (rung a) (rung b) h
  have z1 : mg (rung a) = 0 → rung a = 0 := fun h => mg_inj (h.trans mg_zero.symm)
  have z2 : mg (rung b) = 0 → rung b = 0 := fun h => mg_inj (h.trans mg_zero.symm)
  constructor
  · intro h
    unfold sv at h
    by_cases n1 : isNeg a = true <;> by_cases n2 : isNeg b = true
    · rw [if_pos n1, if_pos n2] at h
      left
      have := e1 (by omega)
      unfold rung isNeg at *
      simp at n1 n2; omega
    · rw [if_pos n1, if_neg n2] at h
      exact .inr ⟨z1 (by omega), z2 (by omega)⟩
    · rw [if_neg n1, if_pos n2] at h
      exact .inr ⟨z1 (by omega), z2 (by omega)⟩
    · rw [if_neg n1, if_neg n2] at h
      left
      have := e1 (by omega)
      unfold rung isNeg at *
      simp at n1 n2; omega
  · rintro (h | ⟨h1, h2⟩)
    · rw [h]
    · unfold sv; rw [h1, h2, mg_zero]; simp

theorem sv_lt {a b : Nat} : sv a < sv b ↔ (if isNeg a then (if isNeg b then rung b < rung a else ¬ (rung a = 0 ∧ rung b = 0)) else (if isNeg b then False else rung a < rung b)) := by
  have l1 := @mg_lt_iff (rung a) (rung b)
  have l2 := @mg_lt_iff (rung b) (rung a)
  have z1 : mg (rung a) = 0 ↔ rung a = 0 := ⟨fun h => mg_inj (h.trans mg_zero.symm), fun h => by rw [h, mg_zero]⟩
  have z2 : mg (rung b) = 0 ↔ rung b = 0 := ⟨fun h => mg_inj (h.trans mg_zero.symm), fun h => by rw [h, mg_zero]⟩
  unfold sv
  cases isNeg a <;> cases isNeg b <;> simp only [Bool.false_eq_true, if_false, if_true]
  · rw [← l1]; omega
  · simp
  · rw [← z1, ← z2]; omega
  · rw [← l2]; omega

/-! ### sums -/

theorem sum_finite {a b : Nat} (ha : rung a < 9218868437227405312) (hb : rung b < 9218868437227405312) :
    ∃ (T : Int) (k : Nat) (z : Bool), D.add a b = some (D.nearest (if T = 0 then z else decide (T < 0)) T.natAbs (-1074 + (k : Nat))) ∧ T * (2 ^ k : Nat) = sv a + sv b := by
  obtain ⟨i, j, k, hi, hj, _, hk⟩ := parts_two a b
  refine ⟨signed (isNeg a) (sg (rung a)) i + signed (isNeg b) (sg (rung b)) j, k, isNeg a && isNeg b, ?_, ?_⟩
  · unfold Format.add
    rw [read_finite ha, read_finite hb]
    unfold Datum.sum
    dsimp only
    rw [show (-1074 + (up (rung a) : Int) - min (-1074 + (up (rung a) : Int)) (-1074 + (up (rung b) : Int))).toNat = i by omega]
    rw [show (-1074 + (up (rung b) : Int) - min (-1074 + (up (rung a) : Int)) (-1074 + (up (rung b) : Int))).toNat = j by omega]
    rw [show min (-1074 + (up (rung a) : Int)) (-1074 + (up (rung b) : Int)) = -1074 + (k : Int) by omega]
    rfl
  · rw [Int.add_mul, ← signed_scale, ← signed_scale, sv_signed, sv_signed, hi, hj]

end Go.Flo
