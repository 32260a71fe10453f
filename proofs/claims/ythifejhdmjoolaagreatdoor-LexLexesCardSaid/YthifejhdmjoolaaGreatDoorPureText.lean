/-
  Floats by their words: magnitudes rise with the rungs, rounding is by value alone, and what is representable is kept: plain facts on the model's own IEEE functions.
-/
import Ieee.Arith
import Derived.Test.YthifejhdmjoolaaGreatDoorGivB
import Derived.Test.YthifejhdmjoolaaGreatDoorQT1
namespace Go.Flo
open Ieee

abbrev D : Format := Ieee.double

theorem D_binade : D.binade = 4503599627370496 := rfl
theorem D_inf : D.infRung = 9218868437227405312 := by decide
theorem D_sign : D.signWeight = 9223372036854775808 := by decide
theorem D_least : D.leastPlace = -1074 := by decide
theorem D_frac : D.fractionBits = 52 := rfl

/-- the magnitude of a rung, in units of the least place -/
def mg (r : Nat) : Nat := if r < 4503599627370496 then r else (4503599627370496 + r % 4503599627370496) * 2 ^ (r / 4503599627370496 - 1)

theorem mg_step (r : Nat) : mg r < mg (r + 1) := by
  unfold mg
  by_cases h : r + 1 < 4503599627370496
  · rw [if_pos h, if_pos (by omega)]; omega
  · rw [if_neg h]
    by_cases h1 : r < 4503599627370496
    · rw [if_pos h1]
      have : r + 1 = 4503599627370496 := by omega
      rw [this]
      simp; omega
    · rw [if_neg h1]
      by_cases h2 : (r + 1) % 4503599627370496 = 0
      · have e1 : (r + 1) / 4503599627370496 - 1 = r / 4503599627370496 - 1 + 1 := by omega
        have e2 : r % 4503599627370496 = 4503599627370495 := by omega
        rw [h2, e1, e2, Nat.pow_succ]
        have : 0 < 2 ^ (r / 4503599627370496 - 1) := Nat.two_pow_pos _
        generalize 2 ^ (r / 4503599627370496 - 1) = p at *
        omega
      · have e1 : (r + 1) / 4503599627370496 = r / 4503599627370496 := by omega
        have e2 : (r + 1) % 4503599627370496 = r % 4503599627370496 + 1 := by omega
        rw [e1, e2]
        exact Nat.mul_lt_mul_of_pos_right (by omega) (Nat.two_pow_pos _)

theorem mg_lt {r s : Nat} (h : r < s) : mg r < mg s := by
  induction s with
  | zero => omega
  | succ s ih =>
    by_cases e : r = s
    · rw [e]; exact mg_step s
    · exact Nat.lt_trans (ih (by omega)) (mg_step s)

theorem mg_lt_iff {r s : Nat} : mg r < mg s ↔ r < s := by
  constructor
  · intro h
    rcases Nat.lt_or_ge r s with h1 | h1
    · exact h1
    · rcases Nat.lt_or_eq_of_le h1 with h2 | h2
      · have := mg_lt h2; omega
      · rw [h2] at h; omega
  · exact mg_lt
theorem mg_inj {r s : Nat} (h : mg r = mg s) : r = s := by
  rcases Nat.lt_trichotomy r s with h1 | h1 | h1
  · have := mg_lt h1; omega
  · exact h1
  · have := mg_lt h1; omega
theorem mg_zero : mg 0 = 0 := rfl

/-! ### what a word reads as -/

/-- the significand and the exponent of a finite rung -/
def sg (r : Nat) : Nat := if r < 4503599627370496 then r else 4503599627370496 + r % 4503599627370496
def up (r : Nat) : Nat := r / 4503599627370496 - 1
theorem mg_eq (r : Nat) : mg r = sg r * 2 ^ up r := by
  unfold mg sg up
  split
  · rename_i h
    rw [show r / 4503599627370496 - 1 = 0 by omega]; simp
  · rfl

def rung (w : Nat) : Nat := w % 9223372036854775808
def isNeg (w : Nat) : Bool := w / 9223372036854775808 % 2 == 1

theorem read_finite {w : Nat} (h : rung w < 9218868437227405312) : D.read w = .number (isNeg w) (sg (rung w)) (-1074 + (up (rung w) : Nat)) := by
  unfold Format.read
  rw [D_sign, D_binade, D_inf, D_least]
  unfold rung isNeg sg up at *
  dsimp only
  by_cases h1 : w % 9223372036854775808 < 4503599627370496
  · rw [if_pos h1, if_pos h1]
    have : w % 9223372036854775808 / 4503599627370496 - 1 = 0 := by omega
    rw [this]; simp
  · rw [if_neg h1, if_pos h, if_neg h1]

theorem read_inf {w : Nat} (h : rung w = 9218868437227405312) : D.read w = .infinity (isNeg w) := by
  unfold Format.read
  rw [D_sign, D_binade, D_inf, D_least]
  unfold rung isNeg at *
  dsimp only
  rw [if_neg (by omega), if_neg (by omega), if_pos h]

theorem read_nan {w : Nat} (h : 9218868437227405312 < rung w) : ∃ f, D.read w = .nan (isNeg w) f := by
  unfold Format.read
  rw [D_sign, D_binade, D_inf, D_least]
  unfold rung isNeg at *
  dsimp only
  rw [if_neg (by omega), if_neg (by omega), if_neg (by omega)]
  exact ⟨_, rfl⟩

/-! ### rounding -/

/-- n / 2^d to the nearest, ties to even -/
def rnd (n d : Nat) : Nat := n / 2 ^ d + (if 2 ^ d < 2 * (n % 2 ^ d) ∨ (2 ^ d = 2 * (n % 2 ^ d) ∧ n / 2 ^ d % 2 = 1) then 1 else 0)

theorem lt_log2 (n : Nat) : n < 2 ^ (n.log2 + 1) := Nat.lt_log2_self

theorem cut_eq (neg : Bool) (n d : Nat) : Toward.even.cut neg n d = rnd n d := by
  unfold Toward.cut rnd
  dsimp only
  by_cases h : d ≤ n.log2 + 2
  · rw [Nat.min_eq_left h, Nat.one_shiftLeft]
    congr 1
    by_cases h1 : 2 ^ d < 2 * (n % 2 ^ d)
    · simp [h1]
    · by_cases h2 : 2 ^ d = 2 * (n % 2 ^ d)
      · by_cases h3 : n / 2 ^ d % 2 = 1
        · rw [if_pos (.inr ⟨h2, h3⟩)]
          simp [h3, ← h2]
        · rw [if_neg (fun h => h.elim h1 (fun h => h3 h.2))]
          simp [h1, h3]
      · rw [if_neg (fun h => h.elim h1 (fun h => h2 h.1))]
        simp [h1, h2]
  · rw [Nat.min_eq_right (by omega), Nat.one_shiftLeft]
    have hn := lt_log2 n
    have e : 2 ^ (n.log2 + 2) = 2 * 2 ^ (n.log2 + 1) := by rw [Nat.pow_succ, Nat.mul_comm]
    have hd : 2 ^ (n.log2 + 2) ≤ 2 ^ d := Nat.pow_le_pow_right (by decide) (by omega)
    rw [Nat.div_eq_of_lt (show n < 2 ^ (n.log2 + 2) by omega), Nat.mod_eq_of_lt (show n < 2 ^ (n.log2 + 2) by omega), Nat.div_eq_of_lt (show n < 2 ^ d by omega), Nat.mod_eq_of_lt (show n < 2 ^ d by omega)]
    rw [if_neg (by omega)]
    have h1 : ¬ 2 ^ (n.log2 + 2) < 2 * n := by omega
    have h2 : ¬ 2 ^ (n.log2 + 2) = 2 * n := by omega
    simp [h1]

theorem rnd_zero (n : Nat) : rnd n 0 = n := by
  unfold rnd
  rw [Nat.pow_zero, Nat.div_one, Nat.mod_one]
  simp

theorem rnd_shift (n d k : Nat) : rnd (n * 2 ^ k) (d + k) = rnd n d := by
  unfold rnd
  have hp : 0 < 2 ^ k := Nat.two_pow_pos _
  have e1 : n * 2 ^ k / 2 ^ (d + k) = n / 2 ^ d := by rw [Nat.pow_add, Nat.mul_div_mul_right _ _ hp]
  have e2 : n * 2 ^ k % 2 ^ (d + k) = n % 2 ^ d * 2 ^ k := by rw [Nat.pow_add, Nat.mul_mod_mul_right]
  rw [e1, e2, Nat.pow_add]
  congr 1
  have e3 : 2 * (n % 2 ^ d * 2 ^ k) = 2 * (n % 2 ^ d) * 2 ^ k := by rw [Nat.mul_assoc]
  rw [e3]
  have c1 : 2 ^ d * 2 ^ k < 2 * (n % 2 ^ d) * 2 ^ k ↔ 2 ^ d < 2 * (n % 2 ^ d) := Nat.mul_lt_mul_right hp
  have c2 : 2 ^ d * 2 ^ k = 2 * (n % 2 ^ d) * 2 ^ k ↔ 2 ^ d = 2 * (n % 2 ^ d) := ⟨fun h => Nat.eq_of_mul_eq_mul_right hp h, fun h => congrArg (· * 2 ^ k) h⟩
  simp only [c1, c2]

theorem rnd_exact (n d : Nat) : rnd (n * 2 ^ d) d = n := by
  have := rnd_shift n 0 d
  rw [Nat.zero_add] at this
  rw [this, rnd_zero]

/-- the place of the last digit that is kept -/
def lastOf (mag : Nat) (place : Int) : Int := max (place + mag.log2 - 52) (-1074)
/-- the rung that a magnitude is rounded to, without a bound -/
def rungOf (mag : Nat) (place : Int) : Nat :=
  (lastOf mag place + 1074).toNat * 4503599627370496 + rnd (mag * 2 ^ (place - lastOf mag place).toNat) (lastOf mag place - place).toNat

theorem nearest_eq (neg : Bool) (mag : Nat) (place : Int) (h : mag ≠ 0) : D.nearest neg mag place = D.word neg (min (rungOf mag place) 9218868437227405312) := by
  unfold Format.nearest rungOf lastOf
  rw [if_neg h, D_frac, D_least, D_binade, D_inf]
  dsimp only
  rw [cut_eq, Nat.shiftLeft_eq]
  rfl

theorem log2_is {m k : Nat} (h1 : 2 ^ k ≤ m) (h2 : m < 2 ^ (k + 1)) : m.log2 = k := by
  have h0 : m ≠ 0 := by have := Nat.two_pow_pos k; omega
  have a := (Nat.le_log2 h0).2 h1
  have b := (Nat.log2_lt h0).2 h2
  omega
theorem log2_mul (m k : Nat) (h : m ≠ 0) : (m * 2 ^ k).log2 = m.log2 + k := by
  have hp : 0 < 2 ^ k := Nat.two_pow_pos _
  apply log2_is
  · rw [Nat.pow_add]; exact Nat.mul_le_mul_right _ (Nat.log2_self_le h)
  · rw [show m.log2 + k + 1 = m.log2 + 1 + k by omega, Nat.pow_add]
    exact Nat.mul_lt_mul_of_pos_right (lt_log2 m) hp

theorem rungOf_shift (mag k : Nat) (place : Int) (h : mag ≠ 0) : rungOf (mag * 2 ^ k) place = rungOf mag (place + k) := by
  have hl : lastOf (mag * 2 ^ k) place = lastOf mag (place + k) := by unfold lastOf; rw [log2_mul mag k h]; congr 1; push_cast; omega
  unfold rungOf
  rw [hl]
  generalize lastOf mag (place + k) = L
  congr 1
  by_cases h1 : L ≤ place
  · rw [show (L - place).toNat = 0 by omega, show (L - (place + k)).toNat = 0 by omega, rnd_zero, rnd_zero]
    rw [show (place + (k : Int) - L).toNat = k + (place - L).toNat by omega, Nat.pow_add, Nat.mul_assoc]
  · rw [show (place - L).toNat = 0 by omega, Nat.pow_zero, Nat.mul_one]
    by_cases h2 : L ≤ place + k
    · rw [show (L - (place + k)).toNat = 0 by omega, rnd_zero]
      have e : k = (place + (k : Int) - L).toNat + (L - place).toNat := by omega
      rw [show mag * 2 ^ k = mag * 2 ^ (place + (k : Int) - L).toNat * 2 ^ (L - place).toNat by rw [Nat.mul_assoc, ← Nat.pow_add, ← e]]
      exact rnd_exact _ _
    · rw [show (place + (k : Int) - L).toNat = 0 by omega, Nat.pow_zero, Nat.mul_one]
      rw [show (L - place).toNat = (L - (place + k)).toNat + k by omega]
      exact rnd_shift _ _ _

theorem log2_bounds {m k : Nat} (h1 : 2 ^ k ≤ m) (h2 : m < 2 ^ (k + 1)) : m.log2 = k := by
  have h0 : m ≠ 0 := by have := Nat.two_pow_pos k; omega
  have a := (Nat.le_log2 h0).2 h1
  have b := (Nat.log2_lt h0).2 h2
  omega

/-- What is representable is kept. -/
theorem rungOf_exact (r : Nat) (hr : r ≠ 0) : rungOf (sg r) (-1074 + (up r : Nat)) = r := by
  unfold rungOf lastOf sg up
  by_cases h : r < 4503599627370496
  · rw [if_pos h]
    have hl : r.log2 ≤ 51 := by have := (Nat.log2_lt hr).2 (show r < 2 ^ 52 by omega); omega
    have e : r / 4503599627370496 - 1 = 0 := by omega
    rw [e, show max (-1074 + ((0 : Nat) : Int) + (r.log2 : Int) - 52) (-1074) = -1074 by omega]
    simp [rnd_zero]
  · rw [if_neg h]
    have hl : (4503599627370496 + r % 4503599627370496).log2 = 52 := log2_bounds (by omega) (by omega)
    rw [hl]
    rw [show max (-1074 + ((r / 4503599627370496 - 1 : Nat) : Int) + ((52 : Nat) : Int) - 52) (-1074) = -1074 + ((r / 4503599627370496 - 1 : Nat) : Int) by omega]
    rw [Int.sub_self]
    simp only [Int.toNat_zero, Nat.pow_zero, Nat.mul_one, rnd_zero]
    omega

/-- a magnitude that a rung has: mag * 2^place = mg r * 2^-1074 -/
theorem rungOf_value (mag : Nat) (place : Int) (r : Nat) (hm : mag ≠ 0) (h : mag * 2 ^ (place + 1074).toNat = mg r * 2 ^ (-1074 - place).toNat) : rungOf mag place = r := by
  have hr : r ≠ 0 := by
    intro e
    rw [e, mg_zero, Nat.zero_mul] at h
    have := Nat.two_pow_pos (place + 1074).toNat
    rcases Nat.mul_eq_zero.1 h with h | h <;> omega
  have hs : sg r ≠ 0 := by unfold sg; split <;> omega
  rw [mg_eq] at h
  by_cases h1 : -1074 ≤ place
  · rw [show (-1074 - place).toNat = 0 by omega, Nat.pow_zero, Nat.mul_one] at h
    have a := rungOf_shift mag (place + 1074).toNat (-1074) hm
    rw [h, rungOf_shift _ _ _ hs] at a
    rw [show -1074 + (((place + 1074).toNat : Nat) : Int) = place by omega] at a
    rw [← a]; exact rungOf_exact r hr
  · rw [show (place + 1074).toNat = 0 by omega, Nat.pow_zero, Nat.mul_one] at h
    rw [h, Nat.mul_assoc, ← Nat.pow_add, rungOf_shift _ _ _ hs]
    rw [show place + ((up r + (-1074 - place).toNat : Nat) : Int) = -1074 + (up r : Nat) by omega]
    exact rungOf_exact r hr

theorem rungOf_pos (mag : Nat) (place : Int) (hm : mag ≠ 0) (hp : -1074 ≤ place) : 0 < rungOf mag place := by
  unfold rungOf
  by_cases h : lastOf mag place = -1074
  · rw [h, show (-1074 - place).toNat = 0 by omega, rnd_zero]
    have := Nat.two_pow_pos (place - -1074).toNat
    have := Nat.mul_pos (Nat.pos_of_ne_zero hm) this
    omega
  · have : -1074 ≤ lastOf mag place := by unfold lastOf; omega
    have : 1 ≤ (lastOf mag place + 1074).toNat := by omega
    have := Nat.mul_le_mul_right 4503599627370496 this
    omega

theorem word_rung (neg : Bool) {r : Nat} (h : r < 9223372036854775808) : rung (D.word neg r) = r ∧ isNeg (D.word neg r) = neg ∧ D.word neg r < 18446744073709551616 := by
  unfold Format.word rung isNeg
  rw [D_sign]
  cases neg
  · simp; omega
  · simp; omega

end Go.Flo

namespace Go.Flo
open Ieee

/-- the signed magnitude of a word, in units of the least place (an infinity is beyond all) -/
def sv (w : Nat) : Int := if isNeg w then -(mg (rung w) : Int) else mg (rung w)
def nan (w : Nat) : Prop := 9218868437227405312 < rung w
instance (w : Nat) : Decidable (nan w) := inferInstanceAs (Decidable (_ < _))

theorem signed_eq (neg : Bool) (m k : Nat) : signed neg m k = (if neg then -((m * 2 ^ k : Nat) : Int) else ((m * 2 ^ k : Nat) : Int)) := by
  unfold signed; rw [Nat.shiftLeft_eq]

theorem signed_scale (neg : Bool) (m k j : Nat) : signed neg m (k + j) = signed neg m k * (2 ^ j : Nat) := by
  rw [signed_eq, signed_eq, Nat.pow_add, ← Nat.mul_assoc]
  cases neg <;> simp [Int.neg_mul]

theorem sv_signed (w : Nat) : sv w = signed (isNeg w) (sg (rung w)) (up (rung w)) := by
  unfold sv
  rw [signed_eq, mg_eq]

theorem cmp_lt {x y : Int} (h : x < y) : compare x y = .lt := by
  show compareOfLessAndEq x y = _
  unfold compareOfLessAndEq; rw [if_pos h]
theorem cmp_gt {x y : Int} (h : y < x) : compare x y = .gt := by
  show compareOfLessAndEq x y = _
  unfold compareOfLessAndEq; rw [if_neg (by omega), if_neg (by omega)]
theorem cmp_self (x : Int) : compare x x = .eq := by
  show compareOfLessAndEq x x = _
  unfold compareOfLessAndEq; rw [if_neg (by omega), if_pos rfl]
theorem cmp_scale (x y : Int) (p : Nat) (hp : 0 < p) : compare (x * p) (y * p) = compare x y := by
  have h : (0 : Int) < p := by omega
  rcases Int.lt_trichotomy x y with h1 | h1 | h1
  · have := Int.mul_lt_mul_of_pos_right h1 h
    rw [cmp_lt h1, cmp_lt this]
  · rw [h1, cmp_self, cmp_self]
  · have := Int.mul_lt_mul_of_pos_right h1 h
    rw [cmp_gt h1, cmp_gt this]

/-- two finite words, told from one place -/
theorem parts_two (a b : Nat) : ∃ (i j k : Nat), up (rung a) = i + k ∧ up (rung b) = j + k ∧ (i = 0 ∨ j = 0) ∧ k = min (up (rung a)) (up (rung b)) :=
  ⟨up (rung a) - min (up (rung a)) (up (rung b)), up (rung b) - min (up (rung a)) (up (rung b)), min (up (rung a)) (up (rung b)), by omega, by omega, by omega, rfl⟩

theorem order_finite {a b : Nat} (ha : rung a < 9218868437227405312) (hb : rung b < 9218868437227405312) : D.order a b = some (compare (sv a) (sv b)) := by
  unfold Format.order
  rw [read_finite ha, read_finite hb]
  unfold Datum.order
  dsimp only
  obtain ⟨i, j, k, hi, hj, _, hk⟩ := parts_two a b
  rw [sv_signed, sv_signed, hi, hj, signed_scale, signed_scale, cmp_scale _ _ _ (Nat.two_pow_pos k)]
  congr 3 <;> omega

theorem mg_finite {r : Nat} (h : r < 9218868437227405312) : mg r < mg 9218868437227405312 := mg_lt h

theorem order_eq {a b : Nat} (ha : ¬ nan a) (hb : ¬ nan b) : D.order a b = some (compare (sv a) (sv b)) := by
  unfold nan at ha hb
  by_cases h1 : rung a < 9218868437227405312
  · by_cases h2 : rung b < 9218868437227405312
    · exact order_finite h1 h2
    · have e2 : rung b = 9218868437227405312 := by omega
      have m1 := mg_finite h1
      unfold Format.order
      rw [read_finite h1, read_inf e2]
      unfold Datum.order sv
      dsimp only
      rw [e2]
      cases isNeg b
      · simp only [Bool.false_eq_true, if_false]
        rw [cmp_lt]; split <;> omega
      · simp only [if_true]
        rw [cmp_gt]; split <;> omega
  · have e1 : rung a = 9218868437227405312 := by omega
    by_cases h2 : rung b < 9218868437227405312
    · have m1 := mg_finite h2
      unfold Format.order
      rw [read_finite h2, read_inf e1]
      unfold Datum.order sv
      dsimp only
      rw [e1]
      cases isNeg a
      · simp only [Bool.false_eq_true, if_false]
        rw [cmp_gt]; split <;> omega
      · simp only [if_true]
        rw [cmp_lt]; split <;> omega
    · have e2 : rung b = 9218868437227405312 := by omega
      have m0 : 0 < mg 9218868437227405312 := by have := mg_lt (show 0 < 9218868437227405312 by decide); rw [mg_zero] at this; exact this
      unfold Format.order
      rw [read_inf e1, read_inf e2]
      unfold Datum.order sv
      dsimp only
      rw [e1, e2]
      cases isNeg a <;> cases isNeg b <;> simp only [Bool.false_eq_true, if_false, if_true]
      · rw [cmp_self]; rfl
      · rw [cmp_gt (show -(mg 9218868437227405312 : Int) < (mg 9218868437227405312 : Int) by omega)]; rfl
      · rw [cmp_lt (show -(mg 9218868437227405312 : Int) < (mg 9218868437227405312 : Int) by omega)]; rfl
      · rw [cmp_self]; rfl

theorem order_nan {a b : Nat} (h : nan a ∨ nan b) : D.order a b = none := by
  unfold Format.order
  rcases h with h | h
  · obtain ⟨f, e⟩ := read_nan h
    rw [e]; rfl
  · obtain ⟨f, e⟩ := read_nan h
    rw [e]
    cases D.read a <;> rfl

/-- equal magnitudes: the same word, or two zeros -/
theorem sv_inj {a b : Nat} (ha : a < 18446744073709551616) (hb : b < 18446744073709551616) : sv a = sv b ↔ a = b ∨ (rung a = 0 ∧ rung b = 0) := by
  have e1 := fun h => @mg_inj (rung a) (rung b) h
  have z1 : mg (rung a) = 0 → rung a = 0 := fun h => mg_inj (h.trans mg_zero.symm)
  have z2 : mg (rung b) = 0 → rung b = 0 := fun h => mg_inj (h.trans mg_zero.symm)
  constructor
  · intro h
    unfold sv at h
    by_cases n1 : isNeg a = true <;> by_cases n2 : isNeg b = true
    · rw [if_pos n1, if_pos n2] at h
      left
      have := e1 (by omega)
      unfold rung isNeg at *
      simp at n1 n2; omega
    · rw [if_pos n1, if_neg n2] at h
      exact .inr ⟨z1 (by omega), z2 (by omega)⟩
    · rw [if_neg n1, if_pos n2] at h
      exact .inr ⟨z1 (by omega), z2 (by omega)⟩
    · rw [if_neg n1, if_neg n2] at h
      left
      have := e1 (by omega)
      unfold rung isNeg at *
      simp at n1 n2; omega
  · rintro (h | ⟨h1, h2⟩)
    · rw [h]
    · unfold sv; rw [h1, h2, mg_zero]; simp

theorem sv_lt {a b : Nat} : sv a < sv b ↔ (if isNeg a then (if isNeg b then rung b < rung a else ¬ (rung a = 0 ∧ rung b = 0)) else (if isNeg b then False else rung a < rung b)) := by
  have l1 := @mg_lt_iff (rung a) (rung b)
  have l2 := @mg_lt_iff (rung b) (rung a)
  have z1 : mg (rung a) = 0 ↔ rung a = 0 := ⟨fun h => mg_inj (h.trans mg_zero.symm), fun h => by rw [h, mg_zero]⟩
  have z2 : mg (rung b) = 0 ↔ rung b = 0 := ⟨fun h => mg_inj (h.trans mg_zero.symm), fun h => by rw [h, mg_zero]⟩
  unfold sv
  cases isNeg a <;> cases isNeg b <;> simp only [Bool.false_eq_true, if_false, if_true]
  · rw [← l1]; omega
  · simp
  · rw [← z1, ← z2]; omega
  · rw [← l2]; omega

/-! ### sums -/

theorem sum_finite {a b : Nat} (ha : rung a < 9218868437227405312) (hb : rung b < 9218868437227405312) :
    ∃ (T : Int) (k : Nat) (z : Bool), D.add a b = some (D.nearest (if T = 0 then z else decide (T < 0)) T.natAbs (-1074 + (k : Nat))) ∧ T * (2 ^ k : Nat) = sv a + sv b := by
  obtain ⟨i, j, k, hi, hj, _, hk⟩ := parts_two a b
  refine ⟨signed (isNeg a) (sg (rung a)) i + signed (isNeg b) (sg (rung b)) j, k, isNeg a && isNeg b, ?_, ?_⟩
  · unfold Format.add
    rw [read_finite ha, read_finite hb]
    unfold Datum.sum
    dsimp only
    rw [show (-1074 + (up (rung a) : Int) - min (-1074 + (up (rung a) : Int)) (-1074 + (up (rung b) : Int))).toNat = i by omega]
    rw [show (-1074 + (up (rung b) : Int) - min (-1074 + (up (rung a) : Int)) (-1074 + (up (rung b) : Int))).toNat = j by omega]
    rw [show min (-1074 + (up (rung a) : Int)) (-1074 + (up (rung b) : Int)) = -1074 + (k : Int) by omega]
    rfl
  · rw [Int.add_mul, ← signed_scale, ← signed_scale, sv_signed, sv_signed, hi, hj]

end Go.Flo

namespace Go.Proofs.YthifejhdmjoolaaGreatDoor.Pure
open Go.Proofs.YthifejhdmjoolaaGreatDoorG
set_option linter.unusedVariables false
set_option linter.unusedSimpArgs false

theorem and_sign (a : Nat) (h : a < 18446744073709551616) : Go.bits .and .u64 (a : Int) 9223372036854775808 = ((a / 9223372036854775808 * 9223372036854775808 : Nat) : Int) := by
  have e := u64_and_nat a 9223372036854775808 h (by omega)
  rw [show ((9223372036854775808 : Nat) : Int) = 9223372036854775808 from rfl] at e
  rw [e]
  have h1 : (a &&& 2 ^ 63) / 2 ^ 63 = a / 2 ^ 63 := by
    rw [Nat.and_div_two_pow, show 2 ^ 63 / 2 ^ 63 = 2 ^ 1 - 1 from rfl, Nat.and_two_pow_sub_one_eq_mod]; omega
  have h2 : (a &&& 2 ^ 63) % 2 ^ 63 = 0 := by
    rw [Nat.and_mod_two_pow, show 2 ^ 63 % 2 ^ 63 = 0 from rfl, Nat.and_zero]
  rw [show (2 : Nat) ^ 63 = 9223372036854775808 from rfl] at h1 h2
  congr 1
  omega
theorem or_sign (a : Nat) (h : a < 9223372036854775808) : Go.bits .or .u64 (a : Int) 9223372036854775808 = ((a + 9223372036854775808 : Nat) : Int) := by
  have e := u64_or_nat a 9223372036854775808 (by omega) (by omega)
  rw [show ((9223372036854775808 : Nat) : Int) = 9223372036854775808 from rfl] at e
  rw [e]
  have h1 : (a ||| 2 ^ 63) / 2 ^ 63 = 1 := by
    rw [Nat.or_div_two_pow, show 2 ^ 63 / 2 ^ 63 = 1 from rfl, show a / 2 ^ 63 = 0 by omega, Nat.zero_or]
  have h2 : (a ||| 2 ^ 63) % 2 ^ 63 = a := by
    rw [Nat.or_mod_two_pow, show 2 ^ 63 % 2 ^ 63 = 0 from rfl, Nat.or_zero]; omega
  rw [show (2 : Nat) ^ 63 = 9223372036854775808 from rfl] at h1 h2
  congr 1
  omega
def flip (a : Nat) : Nat := if a < 9223372036854775808 then a + 9223372036854775808 else a - 9223372036854775808
theorem xor_sign (a : Nat) (h : a < 18446744073709551616) : Go.bits .xor .u64 (a : Int) 9223372036854775808 = (flip a : Nat) := by
  have e := u64_xor_nat a 9223372036854775808 h (by omega)
  rw [show ((9223372036854775808 : Nat) : Int) = 9223372036854775808 from rfl] at e
  rw [e]
  have h2 : (a ^^^ 2 ^ 63) % 2 ^ 63 = a % 2 ^ 63 := by
    rw [Nat.xor_mod_two_pow, show 2 ^ 63 % 2 ^ 63 = 0 from rfl, Nat.xor_zero]
  have h1 : (a ^^^ 2 ^ 63) / 2 ^ 63 = 1 - a / 2 ^ 63 := by
    rw [Nat.xor_div_two_pow, show 2 ^ 63 / 2 ^ 63 = 1 from rfl]
    have : a / 2 ^ 63 = 0 ∨ a / 2 ^ 63 = 1 := by omega
    rcases this with c | c <;> rw [c] <;> rfl
  rw [show (2 : Nat) ^ 63 = 9223372036854775808 from rfl] at h1 h2
  unfold flip
  congr 1
  split <;> omega
theorem xor_max (a : Nat) (h : a < 18446744073709551616) : Go.bits .xor .u64 IntKind.u64.max (a : Int) = ((18446744073709551615 - a : Nat) : Int) := by
  have e := u64_xor_nat 18446744073709551615 a (by omega) h
  rw [show (IntKind.u64.max : Int) = ((18446744073709551615 : Nat) : Int) from rfl, e]
  congr 1
  have h1 : (BitVec.allOnes 64 ^^^ BitVec.ofNat 64 a).toNat = 18446744073709551615 ^^^ a := by
    rw [BitVec.toNat_xor, BitVec.toNat_allOnes, BitVec.toNat_ofNat, Nat.mod_eq_of_lt (by omega)]
  rw [← h1, BitVec.allOnes_xor, BitVec.toNat_not, BitVec.toNat_ofNat, Nat.mod_eq_of_lt (by omega)]
theorem or_hidden (a : Nat) (h : a < 4503599627370496) : Go.bits .or .u64 (a : Int) 4503599627370496 = ((a + 4503599627370496 : Nat) : Int) := by
  have e := u64_or_nat a 4503599627370496 (by omega) (by omega)
  rw [show ((4503599627370496 : Nat) : Int) = 4503599627370496 from rfl] at e
  rw [e]
  have h1 : (a ||| 2 ^ 52) / 2 ^ 52 = 1 := by
    rw [Nat.or_div_two_pow, show 2 ^ 52 / 2 ^ 52 = 1 from rfl, show a / 2 ^ 52 = 0 by omega, Nat.zero_or]
  have h2 : (a ||| 2 ^ 52) % 2 ^ 52 = a := by
    rw [Nat.or_mod_two_pow, show 2 ^ 52 % 2 ^ 52 = 0 from rfl, Nat.or_zero]; omega
  rw [show (2 : Nat) ^ 52 = 4503599627370496 from rfl] at h1 h2
  congr 1
  omega

end Go.Proofs.YthifejhdmjoolaaGreatDoor.Pure

namespace Go.Proofs.YthifejhdmjoolaaGreatDoor.Pure
open Go.RowKit Go.Proofs.YthifejhdmjoolaaGreatDoorW.PrintWords Go.Proofs.YthifejhdmjoolaaGreatDoorW.PrintLast Go.Proofs.YthifejhdmjoolaaGreatDoorW.PrintMore
open Go.Proofs.YthifejhdmjoolaaGreatDoorG Go.Flo
set_option linter.unusedVariables false
set_option linter.unusedSimpArgs false

theorem canon_t (a : Nat) (h : a < 18446744073709551616) : QT.floats_Canon.f (a : Int) = some ((canonN a : Nat) : Int) := by
  unfold QT.floats_Canon.f canonN
  rw [andNot_sign a h]
  by_cases c : 9218868437227405312 < a % 9223372036854775808
  · rw [if_pos (by omega), if_pos c]; rfl
  · rw [if_neg (by omega), if_neg c]

theorem canonN_lt {a : Nat} (h : a < 18446744073709551616) : canonN a < 18446744073709551616 := by unfold canonN; split <;> omega
theorem flip_lt {a : Nat} (h : a < 18446744073709551616) : flip a < 18446744073709551616 := by unfold flip; split <;> omega

abbrev HEX : ByteArray := ⟨#[48, 49, 50, 51, 52, 53, 54, 55, 56, 57, 97, 98, 99, 100, 101, 102]⟩
/-- a hexadecimal digit's byte -/
def dg (d : Nat) : Int := if d < 10 then 48 + d else 87 + d
/-- the digits of x from the top, as long as anything is left -/
def hx : Nat → Nat → List Int
  | 0, _ => []
  | n + 1, x => if x = 0 then [] else dg (x / 1152921504606846976) :: hx n (x * 16 % 18446744073709551616)

theorem bt_hex : ∀ d : Fin 16, bt HEX (d.val : Int) = dg d.val := by decide +kernel
theorem and_15 (a : Nat) (h : a < 16) : Go.bits .and .u64 (a : Int) 15 = (a : Int) := by
  have e := u64_and_nat a 15 (by omega) (by omega)
  rw [show ((15 : Nat) : Int) = 15 from rfl] at e
  rw [e, show 15 = 2 ^ 4 - 1 from rfl, Nat.and_two_pow_sub_one_eq_mod]
  congr 1
  omega

theorem hx_len : ∀ n x, (hx n x).length ≤ n
  | 0, _ => Nat.le_refl _
  | n + 1, x => by
    unfold hx
    split
    · simp
    · simp; exact hx_len n _

theorem l1_stop (k : Nat) (x0 : List Int) (e : Int) : QFx.strconv_fmtX.l1 (k + 1) x0 120 0 e HEX = QFx.strconv_fmtX.j10 k x0 120 e := by
  simp only [QFx.strconv_fmtX.l1, if_true]
theorem l1_step (k x : Nat) (x0 : List Int) (e : Int) (h0 : x ≠ 0) (hx0 : x < 18446744073709551616) (hl : x0.length < 140737488355328) :
    QFx.strconv_fmtX.l1 (k + 1) x0 120 (x : Int) e HEX = QFx.strconv_fmtX.l1 k (x0 ++ [dg (x / 1152921504606846976)]) 120 ((x * 16 % 18446744073709551616 : Nat) : Int) e HEX := by
  have hd : x / 1152921504606846976 < 16 := by omega
  simp only [QFx.strconv_fmtX.l1]
  have e1 : ((x : Int) / 1152921504606846976) = ((x / 1152921504606846976 : Nat) : Int) := by omega
  rw [if_neg (by omega), e1, and_15 _ hd, if_pos (by omega), if_pos (show ((x / 1152921504606846976 : Nat) : Int) < (HEX.size : Int) by show _ < (16 : Int); omega), if_pos (by omega)]
  rw [bt_hex ⟨x / 1152921504606846976, hd⟩, IntKind.wrap_u64, show (x : Int) * 16 % 18446744073709551616 = ((x * 16 % 18446744073709551616 : Nat) : Int) by omega]

theorem l1_x (e : Int) (r : List Int) (n : Nat) : ∀ (x : Nat) (x0 : List Int), x < 18446744073709551616 → x * 16 ^ n % 18446744073709551616 = 0 → x0.length + n < 140737488355328 →
    (∃ k, QFx.strconv_fmtX.j10 k (x0 ++ hx n x) 120 e = some r) → ∃ k, QFx.strconv_fmtX.l1 k x0 120 (x : Int) e HEX = some r := by
  induction n with
  | zero =>
    intro x x0 hx0 hz hl hk
    have hx1 : x = 0 := by rw [Nat.pow_zero, Nat.mul_one] at hz; omega
    subst hx1
    obtain ⟨k, hk⟩ := hk
    refine ⟨k + 1, (l1_stop k x0 e).trans ?_⟩
    rw [show hx 0 0 = [] from rfl, List.append_nil] at hk
    exact hk
  | succ n ih =>
    intro x x0 hx0 hz hl hk
    by_cases c : x = 0
    · subst c
      obtain ⟨k, hk⟩ := hk
      refine ⟨k + 1, (l1_stop k x0 e).trans ?_⟩
      rw [show hx (n + 1) 0 = [] from rfl, List.append_nil] at hk
      exact hk
    · have hh : hx (n + 1) x = dg (x / 1152921504606846976) :: hx n (x * 16 % 18446744073709551616) := by
        show (if x = 0 then [] else _) = _
        rw [if_neg c]
      rw [hh] at hk
      have hz2 : x * 16 % 18446744073709551616 * 16 ^ n % 18446744073709551616 = 0 := by
        rw [Nat.mod_mul_mod, Nat.mul_assoc, ← Nat.pow_succ']; exact hz
      obtain ⟨k, h2⟩ := ih (x * 16 % 18446744073709551616) (x0 ++ [dg (x / 1152921504606846976)]) (Nat.mod_lt _ (by omega)) hz2 (by simp; omega) (by rw [List.append_assoc]; exact hk)
      exact ⟨k + 1, (l1_step k x x0 e c hx0 (by omega)).trans h2⟩

theorem str_append (a b : List Int) : strOfNums (a ++ b) = strOfNums a ++ strOfNums b := by
  apply ByteArray.ext
  simp [strOfNums, ByteArray.data_append]
theorem str_nil (s : ByteArray) : s ++ strOfNums [] = s := by
  apply ByteArray.ext
  simp [strOfNums, ByteArray.data_append]
theorem str_cons (s : ByteArray) (a : Int) (b : List Int) : s ++ strOfNums (a :: b) = s ++ strOfNums [a] ++ strOfNums b := by
  rw [show a :: b = [a] ++ b from rfl, str_append]
  apply ByteArray.ext
  simp [ByteArray.data_append]
theorem hex_cut : ∀ d : Fin 16, HEX.extract d.val (d.val + 1) = strOfNums [dg d.val] := by decide +kernel

/-- decimals of a number below 10000, without leading zeros -/
def decs (n : Nat) : List Int := if n < 10 then [48 + n] else if n < 100 then [48 + n / 10, 48 + n % 10] else if n < 1000 then [48 + n / 100, 48 + n / 10 % 10, 48 + n % 10] else [48 + n / 1000, 48 + n / 100 % 10, 48 + n / 10 % 10, 48 + n % 10]

/-- decimals as fmtX writes them: two at least -/
def pad (n : Nat) : List Int := if n < 10 then [48, 48 + n] else decs n
def dd2 (x5 : Int) : List Int := [(((wrap64 (Int.tdiv x5 10)) % 256) + 48) % 256, (((Int.tmod x5 10) % 256) + 48) % 256]
def dd3 (x5 : Int) : List Int := [(((wrap64 (Int.tdiv x5 100)) % 256) + 48) % 256, (((Int.tmod (wrap64 (Int.tdiv x5 10)) 10) % 256) + 48) % 256, (((Int.tmod x5 10) % 256) + 48) % 256]
def dd4 (x5 : Int) : List Int := [(((wrap64 (Int.tdiv x5 1000)) % 256) + 48) % 256, (((wrap64 (Int.tdiv x5 100)) % 256) % 10) + 48, (((Int.tmod (wrap64 (Int.tdiv x5 10)) 10) % 256) + 48) % 256, (((Int.tmod x5 10) % 256) + 48) % 256]
def dd (x5 : Int) : List Int := if x5 < 100 then dd2 x5 else if x5 < 1000 then dd3 x5 else dd4 x5
theorem dd_pad : ∀ n : Fin 1200, dd (n.val : Int) = pad n.val := by decide +kernel

theorem j12_x (k n : Nat) (x0 : List Int) (c : Int) (hn : n < 1200) (hl : x0.length < 1000000) :
    QFx.strconv_fmtX.j12 (k + 1) x0 (n : Int) c = some (x0 ++ c :: pad n) := by
  have h := dd_pad ⟨n, hn⟩
  dsimp only at h
  rw [show x0 ++ c :: pad n = (x0 ++ [c]) ++ pad n by simp, ← h]
  simp only [QFx.strconv_fmtX.j12]
  rw [if_pos (by omega), Option.bind_some, Option.bind_some, Option.bind_some, Option.bind_some]
  unfold dd
  by_cases c1 : (n : Int) < 100
  · rw [if_pos c1, if_pos c1, if_pos (by simp; omega)]; rfl
  · rw [if_neg c1, if_neg c1]
    by_cases c2 : (n : Int) < 1000
    · rw [if_pos c2, if_pos c2, if_pos (by simp; omega)]; rfl
    · rw [if_neg c2, if_neg c2, if_pos (by simp; omega)]; rfl

/-- p, the sign, the decimals -/
def expo (e : Int) : List Int := 112 :: (if e < 0 then 45 else 43) :: pad e.natAbs

theorem j10_x (k : Nat) (x0 : List Int) (e : Int) (h0 : -1200 < e) (h1 : e < 1200) (hl : x0.length < 900000) :
    QFx.strconv_fmtX.j10 (k + 3) x0 120 e = some (x0 ++ expo e) := by
  have hlow : QFx.strconv_lower.f 120 = some 120 := by decide +kernel
  have j11 : QFx.strconv_fmtX.j11 (k + 2) x0 e 112 = some (x0 ++ expo e) := by
    simp only [QFx.strconv_fmtX.j11]
    rw [if_pos (by omega), Option.bind_some]
    unfold expo
    by_cases c : e < 0
    · rw [if_pos c, if_pos c, show wrap64 (-e) = ((e.natAbs : Nat) : Int) by unfold wrap64; omega, j12_x k _ _ _ (by omega) (by simp; omega)]
      simp
    · have j := j12_x k e.natAbs (x0 ++ [112]) 43 (by omega) (by simp; omega)
      rw [show ((e.natAbs : Nat) : Int) = e by omega] at j
      rw [if_neg c, if_neg c, j]
      simp
  simp only [QFx.strconv_fmtX.j10]
  rw [hlow, Option.bind_some, if_pos rfl]
  exact j11

theorem and_60 (a : Nat) (h : a < 2305843009213693952) : Go.bits .and .u64 (a : Int) 1152921504606846976 = ((a / 1152921504606846976 * 1152921504606846976 : Nat) : Int) := by
  have e := u64_and_nat a 1152921504606846976 (by omega) (by omega)
  rw [show ((1152921504606846976 : Nat) : Int) = 1152921504606846976 from rfl] at e
  rw [e]
  have h1 : (a &&& 2 ^ 60) / 2 ^ 60 = a / 2 ^ 60 := by
    rw [Nat.and_div_two_pow, show 2 ^ 60 / 2 ^ 60 = 2 ^ 1 - 1 from rfl, Nat.and_two_pow_sub_one_eq_mod]; omega
  have h2 : (a &&& 2 ^ 60) % 2 ^ 60 = 0 := by
    rw [Nat.and_mod_two_pow, show 2 ^ 60 % 2 ^ 60 = 0 from rfl, Nat.and_zero]
  rw [show (2 : Nat) ^ 60 = 1152921504606846976 from rfl] at h1 h2
  congr 1
  omega
theorem and_one (a : Nat) (h : a < 18446744073709551616) : Go.bits .and .u64 (a : Int) 1 = ((a % 2 : Nat) : Int) := by
  have e := u64_and_nat a 1 h (by omega)
  rw [show ((1 : Nat) : Int) = 1 from rfl] at e
  rw [e, Nat.and_one_is_mod]

/-- what stands behind the sign: 0x1, the digits, the exponent; M: the mantissa with its leading one at place 60 -/
def body (M : Nat) (e : Int) : List Int := [48, 120, 49] ++ (if M * 16 % 18446744073709551616 = 0 then [] else 46 :: hx 16 (M * 16 % 18446744073709551616)) ++ expo e
def sgn (s : Bool) : List Int := if s then [45] else []

theorem pow16 (x : Nat) : x * 16 ^ 16 % 18446744073709551616 = 0 := by
  rw [show (16 : Nat) ^ 16 = 18446744073709551616 from rfl, Nat.mul_mod_left]

theorem j7_x (M : Nat) (e : Int) (x0 : List Int) (hl : x0.length < 800000) (h0 : -1200 < e) (h1 : e < 1200) :
    ∃ k, QFx.strconv_fmtX.j7 k x0 (-1) 120 ((M * 16 % 18446744073709551616 : Nat) : Int) e HEX (((M * 16 % 18446744073709551616 : Nat) : Int) != 0) =
      some (x0 ++ (if M * 16 % 18446744073709551616 = 0 then [] else 46 :: hx 16 (M * 16 % 18446744073709551616)) ++ expo e) := by
  have hx0 : M * 16 % 18446744073709551616 < 18446744073709551616 := Nat.mod_lt _ (by omega)
  generalize M * 16 % 18446744073709551616 = x at hx0 ⊢
  by_cases c : x = 0
  · subst c
    refine ⟨4, ?_⟩
    simp only [QFx.strconv_fmtX.j7]
    rw [if_neg (by decide), if_neg (by omega), j10_x 0 x0 e h0 h1 (by omega)]
    simp
  · rw [if_neg c]
    have l := hx_len 16 x
    obtain ⟨k, hk⟩ := l1_x e (x0 ++ [46] ++ hx 16 x ++ expo e) 16 x (x0 ++ [46]) hx0 (pow16 x) (by simp; omega) ⟨3, j10_x 0 _ e h0 h1 (by simp; omega)⟩
    refine ⟨k + 1, ?_⟩
    simp only [QFx.strconv_fmtX.j7]
    rw [if_pos (by rw [bne_iff_ne]; omega), if_pos (by omega), hk]
    simp

theorem j6_x (M : Nat) (e : Int) (x0 : List Int) (hl : x0.length < 700000) (h0 : -1200 < e) (h1 : e < 1200) (hM : 1152921504606846976 ≤ M) (hM2 : M < 2305843009213693952) :
    ∃ k, QFx.strconv_fmtX.j6 k x0 (-1) 120 (M : Int) e HEX = some (x0 ++ body M e) := by
  obtain ⟨k, hk⟩ := j7_x M e (x0 ++ [48, 120, 49]) (by simp; omega) h0 h1
  refine ⟨k + 1, ?_⟩
  simp only [QFx.strconv_fmtX.j6]
  have e1 : ((M : Int) / 1152921504606846976) = ((1 : Nat) : Int) := by omega
  rw [e1, and_one 1 (by omega), Option.bind_some]
  have e2 : (48 + ((1 % 2 : Nat) : Int) % 256) % 256 = 49 := by decide
  rw [e2, if_pos (by simp; omega), Option.bind_some, if_pos (by omega), IntKind.wrap_u64, show (M : Int) * 16 % 18446744073709551616 = ((M * 16 % 18446744073709551616 : Nat) : Int) by omega, hk]
  unfold body
  simp

theorem j5_x (M : Nat) (e : Int) (s : Bool) (h0 : -1200 < e) (h1 : e < 1200) (hM : 1152921504606846976 ≤ M) (hM2 : M < 2305843009213693952) :
    ∃ k, QFx.strconv_fmtX.j5 k [] (-1) 120 s (M : Int) e HEX = some (sgn s ++ body M e) := by
  cases s
  · obtain ⟨k, hk⟩ := j6_x M e [] (by simp) h0 h1 hM hM2
    refine ⟨k + 1, ?_⟩
    simp only [QFx.strconv_fmtX.j5]
    rw [if_neg (by simp), hk]
    rfl
  · obtain ⟨k, hk⟩ := j6_x M e [45] (by simp) h0 h1 hM hM2
    refine ⟨k + 1, ?_⟩
    simp only [QFx.strconv_fmtX.j5]
    rw [if_pos trivial, if_pos (by simp), show ([] : List Int) ++ [45] = [45] from rfl, hk]
    rfl

theorem j2_x (M : Nat) (e : Int) (s : Bool) (h0 : -1200 < e) (h1 : e < 1200) (hM : 1152921504606846976 ≤ M) (hM2 : M < 2305843009213693952) :
    ∃ k, QFx.strconv_fmtX.j2 k [] (-1) 120 s (M : Int) e = some (sgn s ++ body M e) := by
  obtain ⟨k, hk⟩ := j5_x M e s h0 h1 hM hM2
  refine ⟨k + 3, ?_⟩
  simp only [QFx.strconv_fmtX.j2]
  rw [if_neg (by omega)]
  simp only [QFx.strconv_fmtX.j3]
  rw [if_neg (by simp)]
  simp only [QFx.strconv_fmtX.j4]
  rw [if_neg (by omega)]
  exact hk

theorem l0_stop_x (k M : Nat) (e : Int) (s : Bool) (hM : 1152921504606846976 ≤ M) (hM2 : M < 2305843009213693952) :
    QFx.strconv_fmtX.l0 (k + 1) [] (-1) 120 s (M : Int) e = QFx.strconv_fmtX.j2 k [] (-1) 120 s (M : Int) e := by
  simp only [QFx.strconv_fmtX.l0]
  rw [if_neg (by omega), and_60 M hM2, if_neg (by omega)]
theorem l0_step_x (k M : Nat) (e : Int) (s : Bool) (h0 : M ≠ 0) (hM : M < 1152921504606846976) (he : -2000 < e) (he2 : e < 2000) :
    QFx.strconv_fmtX.l0 (k + 1) [] (-1) 120 s (M : Int) e = QFx.strconv_fmtX.l0 k [] (-1) 120 s ((M * 2 : Nat) : Int) (e - 1) := by
  simp only [QFx.strconv_fmtX.l0]
  rw [if_neg (by omega), and_60 M (by omega), if_pos (by omega), IntKind.wrap_u64, show wrap64 (e - 1) = e - 1 by unfold wrap64; omega, show (M : Int) * 2 % 18446744073709551616 = ((M * 2 : Nat) : Int) by omega]

theorem l0_x (s : Bool) (e : Int) (j : Nat) : ∀ (M : Nat), 1152921504606846976 ≤ M * 2 ^ j → M * 2 ^ j < 2305843009213693952 → -1150 < e - j → e < 1150 →
    ∃ k, QFx.strconv_fmtX.l0 k [] (-1) 120 s (M : Int) e = some (sgn s ++ body (M * 2 ^ j) (e - j)) := by
  induction j generalizing e with
  | zero =>
    intro M h1 h2 h3 h4
    rw [Nat.pow_zero, Nat.mul_one] at h1 h2 ⊢
    obtain ⟨k, hk⟩ := j2_x M e s (by omega) (by omega) h1 h2
    refine ⟨k + 1, (l0_stop_x k M e s h1 h2).trans ?_⟩
    rw [hk, show e - ((0 : Nat) : Int) = e by omega]
  | succ j ih =>
    intro M h1 h2 h3 h4
    have hp : 0 < 2 ^ j := Nat.two_pow_pos j
    have e1 : M * 2 ^ (j + 1) = M * 2 * 2 ^ j := by rw [Nat.pow_succ', Nat.mul_assoc]
    rw [e1] at h1 h2 ⊢
    have hM0 : M ≠ 0 := by intro z; rw [z] at h1; simp at h1
    have hlt : M * 2 < 2305843009213693952 := by
      have : M * 2 * 1 ≤ M * 2 * 2 ^ j := Nat.mul_le_mul_left _ hp
      generalize M * 2 * 2 ^ j = Z at this h2
      omega
    obtain ⟨k, hk⟩ := ih (e - 1) (M * 2) h1 h2 (by omega) (by omega)
    refine ⟨k + 1, (l0_step_x k M e s hM0 (by omega) (by omega) (by omega)).trans ?_⟩
    rw [hk, show e - 1 - (j : Int) = e - ((j + 1 : Nat) : Int) by omega]

/-- the shift that brings n to 53 bits -/
def shf (n : Nat) : Nat := 52 - n.log2
theorem shf_is (n : Nat) (h0 : n ≠ 0) (h1 : n < 9007199254740992) : shf n ≤ 52 ∧ 4503599627370496 ≤ n * 2 ^ shf n ∧ n * 2 ^ shf n < 9007199254740992 := by
  unfold shf
  have l1 := Nat.log2_self_le h0
  have l2 := Nat.lt_log2_self (n := n)
  have l3 : n.log2 ≤ 52 := by
    rcases Nat.lt_or_ge 52 n.log2 with c | c
    · have : 2 ^ 53 ≤ 2 ^ n.log2 := Nat.pow_le_pow_right (by omega) c
      omega
    · exact c
  refine ⟨by omega, ?_, ?_⟩
  · have : 2 ^ n.log2 * 2 ^ (52 - n.log2) ≤ n * 2 ^ (52 - n.log2) := Nat.mul_le_mul_right _ l1
    rw [← Nat.pow_add, show n.log2 + (52 - n.log2) = 52 by omega] at this
    exact this
  · have : n * 2 ^ (52 - n.log2) < 2 ^ (n.log2 + 1) * 2 ^ (52 - n.log2) := Nat.mul_lt_mul_of_pos_right l2 (Nat.two_pow_pos _)
    rw [← Nat.pow_add, show n.log2 + 1 + (52 - n.log2) = 53 by omega] at this
    exact this

theorem fmtX_num (s : Bool) (n j : Nat) (E : Int) (h0 : n ≠ 0) (hn : n < 9007199254740992) (h1 : 4503599627370496 ≤ n * 2 ^ j) (h2 : n * 2 ^ j < 9007199254740992) (hj : j ≤ 52) (e0 : -1030 < E) (e1 : E < 1030) :
    ∃ k, QFx.strconv_fmtX.f k [] (-1) 120 s (n : Int) E 52 = some (sgn s ++ body (n * 256 * 2 ^ j) (E - j)) := by
  have hm : n * 256 * 2 ^ j = n * 2 ^ j * 256 := by rw [Nat.mul_assoc, Nat.mul_comm 256, ← Nat.mul_assoc]
  obtain ⟨k, hk⟩ := l0_x s E j (n * 256) (by rw [hm]; omega) (by rw [hm]; omega) (by omega) (by omega)
  refine ⟨k + 1, ?_⟩
  unfold QFx.strconv_fmtX.f
  rw [if_neg (by omega)]
  simp only [QFx.strconv_fmtX.j0]
  have w8 : wrap64 (60 - 52) = 8 := by unfold wrap64; omega
  have s8 : shl .u64 (n : Int) 8 = ((n * 256 : Nat) : Int) := by
    unfold shl
    rw [IntKind.wrap_u64, show (2 : Int) ^ min (8 : Int).toNat (IntKind.bits .u64) = 256 from rfl]
    omega
  rw [w8, if_pos (by omega), s8]
  exact hk

def zeroT : List Int := [48, 120, 48, 112, 43, 48, 48]
theorem fmtX_zero (s : Bool) (E : Int) : ∃ k, QFx.strconv_fmtX.f k [] (-1) 120 s 0 E 52 = some (sgn s ++ zeroT) := by
  refine ⟨20, ?_⟩
  unfold QFx.strconv_fmtX.f
  rw [if_pos rfl]
  cases s <;> decide +kernel

theorem i64_and2047 (n : Int) : Go.bits .and .i64 n 2047 = n % 2048 := by
  have h127 : (BitVec.ofInt 64 2047).toNat = 2 ^ 11 - 1 := by decide
  have key : (BitVec.ofInt 64 n &&& BitVec.ofInt 64 2047).toNat = (n % ((2 ^ 64 : Nat) : Int)).toNat % 2 ^ 11 := by
    rw [BitVec.toNat_and, BitVec.toNat_ofInt, h127, Nat.and_two_pow_sub_one_eq_mod]
  show IntKind.i64.wrap ((BitVec.ofInt 64 n &&& BitVec.ofInt 64 2047).toNat : Nat) = n % 2048
  rw [key, IntKind.wrap_i64]
  omega

theorem top_ne (a : Nat) (h : a < 18446744073709551616) : (((a : Int) / 9223372036854775808) != 0) = isNeg a := by
  unfold isNeg
  by_cases c : a < 9223372036854775808
  · rw [show a / 9223372036854775808 = 0 by omega, show (a : Int) / 9223372036854775808 = 0 by omega]; rfl
  · rw [show a / 9223372036854775808 = 1 by omega, show (a : Int) / 9223372036854775808 = 1 by omega]; rfl

theorem ftoa_x (a : Nat) (ha : a < 18446744073709551616) (hf : rung a < 9218868437227405312) (R : List Int)
    (h : ∃ k, QFx.strconv_fmtX.f k [] (-1) 120 (isNeg a) (sg (rung a) : Nat) (((up (rung a) : Nat) : Int) - 1022) 52 = some R) :
    ∃ k, QFx.strconv_ftoa64.f k [] a 120 (-1) = some R := by
  obtain ⟨k, hk⟩ := h
  refine ⟨k + 2, ?_⟩
  unfold QFx.strconv_ftoa64.f
  have e : Go.bits .and .i64 (wrap64 ((a : Int) / 4503599627370496)) 2047 = ((a / 4503599627370496 % 2048 : Nat) : Int) := by
    rw [show wrap64 ((a : Int) / 4503599627370496) = (a : Int) / 4503599627370496 by unfold wrap64; omega, i64_and2047]; omega
  have r1 : rung a = a % 9223372036854775808 := rfl
  rw [e, if_neg (by omega), top_ne a ha, and_frac a ha]
  have fin : ∀ (x14 x15 : Int), x14 = ((up (rung a) : Nat) : Int) + 1 → x15 = ((sg (rung a) : Nat) : Int) → QFx.strconv_ftoa64.j0 (k + 2) [] 120 (-1) 52 (-1023) (isNeg a) x14 x15 = some R := by
    intro x14 x15 h14 h15
    subst h14; subst h15
    have hu : up (rung a) < 3000 := by unfold Flo.up; omega
    simp only [QFx.strconv_ftoa64.j0]
    rw [if_neg (by omega), if_pos trivial]
    simp only [QFx.strconv_ftoa64.j1]
    rw [if_pos trivial, show wrap64 (((up (rung a) : Nat) : Int) + 1 + -1023) = ((up (rung a) : Nat) : Int) - 1022 by unfold wrap64; omega, hk]
    rfl
  by_cases c : a / 4503599627370496 % 2048 = 0
  · rw [if_pos (by omega)]
    refine fin _ _ ?_ ?_
    · rw [c]
      have hu : up (rung a) = 0 := by unfold Flo.up; omega
      rw [hu]
      unfold wrap64
      omega
    · have hs : sg (rung a) = a % 4503599627370496 := by unfold sg; rw [if_pos (by omega)]; omega
      rw [hs]
  · rw [if_neg (by omega)]
    refine fin _ _ ?_ ?_
    · unfold Flo.up; omega
    · rw [or_hidden _ (by omega)]
      have hs : sg (rung a) = a % 4503599627370496 + 4503599627370496 := by unfold sg; rw [if_neg (by omega)]; omega
      rw [hs]

theorem sg_lt (r : Nat) : sg r < 9007199254740992 := by unfold sg; split <;> omega
theorem sg_ne (r : Nat) (h : r ≠ 0) : sg r ≠ 0 := by unfold sg; split <;> omega

/-- what stands ahead of the p -/
def ahead (M : Nat) : List Int := [48, 120, 49] ++ (if M * 16 % 18446744073709551616 = 0 then [] else 46 :: hx 16 (M * 16 % 18446744073709551616))
theorem body_is (M : Nat) (e : Int) : body M e = ahead M ++ expo e := rfl

/-- a finite float's mantissa and exponent, as its text has them -/
def manT (r : Nat) : Nat := sg r * 2 ^ shf (sg r)
def expT (r : Nat) : Int := ((up r : Nat) : Int) - 1022 - ((shf (sg r) : Nat) : Int)
theorem expT_bd (r : Nat) (h0 : r ≠ 0) (hf : r < 9218868437227405312) : -1080 < expT r ∧ expT r < 1030 := by
  have := shf_is (sg r) (sg_ne r h0) (sg_lt r)
  have hu : up r < 2047 := by unfold Flo.up; omega
  unfold expT
  omega

theorem format_x (a : Nat) (ha : a < 18446744073709551616) (h0 : rung a ≠ 0) (hf : rung a < 9218868437227405312) :
    ∃ k, strconv_FormatFloat.f k a 120 (-1) 64 = some (strOfNums (sgn (isNeg a) ++ (ahead (manT (rung a) * 256) ++ expo (expT (rung a))))) := by
  obtain ⟨j1, j2, j3⟩ := shf_is (sg (rung a)) (sg_ne _ h0) (sg_lt _)
  have hu : up (rung a) < 2047 := by unfold Flo.up; omega
  have hk := fmtX_num (isNeg a) (sg (rung a)) (shf (sg (rung a))) (((up (rung a) : Nat) : Int) - 1022) (sg_ne _ h0) (sg_lt _) j2 j3 j1 (by omega) (by omega)
  obtain ⟨k, hk⟩ := ftoa_x a ha hf _ hk
  refine ⟨k, ?_⟩
  unfold strconv_FormatFloat.f
  rw [if_pos ⟨rfl, rfl⟩, hk, Option.map_some, body_is, show sg (rung a) * 256 * 2 ^ shf (sg (rung a)) = manT (rung a) * 256 by unfold manT; rw [Nat.mul_assoc, Nat.mul_comm 256, ← Nat.mul_assoc]]
  rfl

theorem format_zero (a : Nat) (ha : a < 18446744073709551616) (h0 : rung a = 0) :
    ∃ k, strconv_FormatFloat.f k a 120 (-1) 64 = some (strOfNums (sgn (isNeg a) ++ zeroT)) := by
  have hk := fmtX_zero (isNeg a) (((up (rung a) : Nat) : Int) - 1022)
  have hs : ((sg (rung a) : Nat) : Int) = 0 := by rw [h0]; rfl
  rw [← hs] at hk
  obtain ⟨k, hk⟩ := ftoa_x a ha (by omega) _ hk
  refine ⟨k, ?_⟩
  unfold strconv_FormatFloat.f
  rw [if_pos ⟨rfl, rfl⟩, hk, Option.map_some]

theorem str_cut (xs : List Int) (a b : Nat) : (strOfNums xs).extract a b = strOfNums ((xs.take b).drop a) := by
  apply ByteArray.ext
  rw [ByteArray.data_extract]
  simp [strOfNums, List.drop_take]
theorem bt_str (xs : List Int) (i : Nat) (h : i < xs.length) (h0 : 0 ≤ xs[i]) (h1 : xs[i] < 256) : bt (strOfNums xs) (i : Int) = xs[i] := by
  unfold bt
  rw [dif_pos (by rw [strOfNums_size]; simpa using h)]
  have e : ((strOfNums xs)[((i : Nat) : Int).toNat]'(by rw [strOfNums_size]; simpa using h)) = UInt8.ofNat xs[i].toNat := by
    show (strOfNums xs).data[((i : Nat) : Int).toNat]'_ = _
    simp [strOfNums]
  rw [e, UInt8.toNat_ofNat']
  omega

def bytes8 (xs : List Int) : List UInt8 := xs.map fun n => UInt8.ofNat n.toNat
theorem str_list (xs : List Int) : (strOfNums xs).data.toList = bytes8 xs := by simp [strOfNums, bytes8]
theorem index_x (c : UInt8) : ∀ (l m : List UInt8), (∀ x ∈ l, x ≠ c) → Lib.indexByte (l ++ c :: m) c = (l.length : Int)
  | [], m, _ => by simp [Lib.indexByte]
  | x :: l, m, h => by
    have ih := index_x c l m (fun y hy => h y (List.mem_cons_of_mem _ hy))
    have hx : (x == c) = false := by simpa using h x (List.mem_cons_self ..)
    simp only [List.cons_append, Lib.indexByte, hx, Bool.false_eq_true, if_false, ih]
    rw [if_neg (by simp)]
    simp

theorem hx_dg : ∀ (n x : Nat), x < 18446744073709551616 → ∀ y ∈ hx n x, ∃ d : Nat, d < 16 ∧ y = dg d
  | 0, x, _ => fun y hy => by cases hy
  | n + 1, x, h => fun y hy => by
    unfold hx at hy
    split at hy
    · cases hy
    · rcases List.mem_cons.1 hy with rfl | hy
      · exact ⟨_, by omega, rfl⟩
      · exact hx_dg n _ (Nat.mod_lt _ (by omega)) y hy
theorem dg_ok (d : Nat) (h : d < 16) : 48 ≤ dg d ∧ dg d < 103 ∧ dg d ≠ 112 := by unfold dg; split <;> omega

/-- every byte ahead of the p is one, and none is a p -/
theorem ahead_ok (M : Nat) : ∀ y ∈ ahead M, 0 ≤ y ∧ y < 256 ∧ y ≠ 112 := by
  unfold ahead
  intro y hy
  rcases List.mem_append.1 hy with hy | hy
  · simp only [List.mem_cons, List.not_mem_nil, or_false] at hy
    rcases hy with rfl | rfl | rfl <;> omega
  · split at hy
    · cases hy
    · rcases List.mem_cons.1 hy with rfl | hy
      · omega
      · obtain ⟨d, hd, rfl⟩ := hx_dg _ _ (Nat.mod_lt _ (by omega)) y hy
        have := dg_ok d hd
        omega
theorem sgn_ok (s : Bool) : ∀ y ∈ sgn s, 0 ≤ y ∧ y < 256 ∧ y ≠ 112 := by
  unfold sgn
  intro y hy
  split at hy
  · simp only [List.mem_cons, List.not_mem_nil, or_false] at hy; omega
  · cases hy
theorem ahead_len (M : Nat) : (ahead M).length ≤ 20 := by
  unfold ahead
  have := hx_len 16 (M * 16 % 18446744073709551616)
  split <;> simp <;> omega
theorem sgn_len (s : Bool) : (sgn s).length ≤ 1 := by unfold sgn; split <;> simp

theorem ofNat_ne (y : Int) (h0 : 0 ≤ y) (h1 : y < 256) (h : y ≠ 112) : UInt8.ofNat y.toNat ≠ 112 := by
  intro e
  have := congrArg UInt8.toNat e
  rw [UInt8.toNat_ofNat'] at this
  have e2 : (112 : UInt8).toNat = 112 := rfl
  rw [e2] at this
  omega

theorem index_p (p q : List Int) (h : ∀ y ∈ p, 0 ≤ y ∧ y < 256 ∧ y ≠ 112) : strings_IndexByte.f (strOfNums (p ++ 112 :: q)) 112 = some (p.length : Int) := by
  unfold strings_IndexByte.f
  rw [str_list]
  have e : bytes8 (p ++ 112 :: q) = bytes8 p ++ 112 :: bytes8 q := by simp [bytes8]
  rw [e, show (112 : Int).toNat.toUInt8 = 112 from rfl, index_x]
  · simp [bytes8]
  · intro x hx
    obtain ⟨y, hy, rfl⟩ := List.mem_map.1 hx
    obtain ⟨a, b, c⟩ := h y hy
    exact ofNat_ne y a b c

theorem cut_stop (k : Nat) (p : List Int) (d : Int) (ds : List Int) (h0 : 48 < d) (h1 : d < 58) (hp : p.length < 1000) :
    QT.floats_Text.l0 (k + 1) (strOfNums (p ++ d :: ds)) (p.length : Int) = some (strOfNums (p ++ d :: ds)) := by
  simp only [QT.floats_Text.l0]
  rw [show wrap64 ((p.length : Int) + 1) = (p.length : Int) + 1 by unfold wrap64; omega]
  have b := bt_str (p ++ d :: ds) p.length (by simp) (by simp; omega) (by simp; omega)
  by_cases c : (p.length : Int) + 1 < ((strOfNums (p ++ d :: ds)).size : Int)
  · rw [if_pos c, if_pos (by omega), if_pos (by omega), if_neg (by rw [b]; simp; omega)]
  · rw [if_neg c]
theorem cut_end (k : Nat) (p : List Int) (d : Int) (hp : p.length < 1000) :
    QT.floats_Text.l0 (k + 1) (strOfNums (p ++ [d])) (p.length : Int) = some (strOfNums (p ++ [d])) := by
  simp only [QT.floats_Text.l0]
  rw [show wrap64 ((p.length : Int) + 1) = (p.length : Int) + 1 by unfold wrap64; omega, if_neg (by rw [strOfNums_size]; simp)]
theorem cut_step (k : Nat) (p : List Int) (d : Int) (hp : p.length < 1000) :
    QT.floats_Text.l0 (k + 1) (strOfNums (p ++ [48, d])) (p.length : Int) = QT.floats_Text.l0 k (strOfNums (p ++ [d])) (p.length : Int) := by
  simp only [QT.floats_Text.l0]
  have b := bt_str (p ++ [48, d]) p.length (by simp) (by simp) (by simp)
  have e1 : ((p ++ [48, d]).take p.length).drop 0 = p := by simp
  have e2 : ((p ++ [48, d]).take (p ++ [48, d]).length).drop (p.length + 1) = [d] := by
    rw [List.take_length, List.drop_append, List.drop_of_length_le (by omega), show p.length + 1 - p.length = 1 by omega]
    rfl
  rw [show wrap64 ((p.length : Int) + 1) = (p.length : Int) + 1 by unfold wrap64; omega, if_pos (by rw [strOfNums_size]; simp), if_pos (by omega), if_pos (by rw [strOfNums_size]; simp; omega), if_pos (by rw [b]; simp),
    if_pos (by rw [strOfNums_size]; simp; omega), if_pos (by omega), if_pos (by rw [strOfNums_size]; simp),
    show (p.length : Int).toNat = p.length by omega, show ((p.length : Int) + 1).toNat = p.length + 1 by omega, strOfNums_size, str_cut, str_cut, e1, e2, if_pos (by rw [strOfNums_size, strOfNums_size]; simp; omega), ← str_append]

theorem cut_x (p : List Int) (m : Nat) (hm : m < 1200) (hp : p.length < 1000) : ∃ k, QT.floats_Text.l0 k (strOfNums (p ++ pad m)) (p.length : Int) = some (strOfNums (p ++ decs m)) := by
  refine ⟨2, ?_⟩
  unfold pad
  by_cases c : m < 10
  · rw [if_pos c, cut_step 1 p _ hp, cut_end 0 p _ hp]
    unfold decs
    rw [if_pos c]
  · rw [if_neg c]
    unfold decs
    rw [if_neg c]
    by_cases c2 : m < 100
    · rw [if_pos c2]; exact cut_stop 1 p _ _ (by omega) (by omega) hp
    · rw [if_neg c2]
      by_cases c3 : m < 1000
      · rw [if_pos c3]; exact cut_stop 1 p _ _ (by omega) (by omega) hp
      · rw [if_neg c3]; exact cut_stop 1 p _ _ (by omega) (by omega) hp

/-- p, the sign, the decimals, as the document writes them -/
def expd (e : Int) : List Int := 112 :: (if e < 0 then 45 else 43) :: decs e.natAbs
/-- the text of a float, in a closed form -/
def txtL (a : Nat) : List Int :=
  if 9218868437227405312 < rung a then [110, 97, 110]
  else if rung a = 9218868437227405312 then sgn (isNeg a) ++ [105, 110, 102]
  else if rung a = 0 then sgn (isNeg a) ++ [48, 120, 48, 112, 43, 48]
  else sgn (isNeg a) ++ (ahead (manT (rung a) * 256) ++ expd (expT (rung a)))

theorem num_core (p : List Int) (e : Int) (s : ByteArray) (hs : s = strOfNums (p ++ expo e)) (h0 : -1200 < e) (h1 : e < 1200) (hp : p.length < 100) (h : ∀ y ∈ p, 0 ≤ y ∧ y < 256 ∧ y ≠ 112) :
    ∃ k, ((strings_IndexByte.f s 112).bind fun t108 => QT.floats_Text.l0 k s (wrap64 (t108 + 2))) = some (strOfNums (p ++ expd e)) := by
  subst hs
  unfold expo expd
  obtain ⟨k, hk⟩ := cut_x (p ++ [112, if e < 0 then 45 else 43]) e.natAbs (by omega) (by simp; omega)
  refine ⟨k, ?_⟩
  rw [index_p p _ h, Option.bind_some, show wrap64 ((p.length : Int) + 2) = (((p ++ [112, if e < 0 then 45 else 43]).length : Nat) : Int) by unfold wrap64; simp; omega]
  simpa using hk

theorem text_x (a : Nat) (ha : a < 18446744073709551616) : ∃ k, QT.floats_Text.f k (a : Int) = some (strOfNums (txtL a)) := by
  have r1 : rung a = a % 9223372036854775808 := rfl
  unfold txtL
  by_cases c1 : 9218868437227405312 < rung a
  · refine ⟨0, ?_⟩
    unfold QT.floats_Text.f
    rw [canon_t a ha, Option.bind_some, if_pos c1, show canonN a = 9221120237041090561 from if_pos c1, if_pos (by omega)]
    decide +kernel
  rw [if_neg c1]
  have hc : canonN a = a := if_neg c1
  by_cases c2 : rung a = 9218868437227405312
  · refine ⟨0, ?_⟩
    unfold QT.floats_Text.f
    rw [canon_t a ha, Option.bind_some, if_pos c2, hc, if_neg (by omega)]
    by_cases c3 : a = 9218868437227405312
    · rw [if_pos (by omega), c3]; decide +kernel
    · rw [if_neg (by omega), if_pos (by omega), show a = 18442240474082181120 by omega]; decide +kernel
  rw [if_neg c2]
  have pre : ∀ k, QT.floats_Text.f k (a : Int) = (strconv_FormatFloat.f k a 120 (-1) 64).bind fun t107 => ((strings_IndexByte.f t107 112).bind fun t108 => (QT.floats_Text.l0 k t107 (wrap64 (t108 + 2)))) := by
    intro k
    unfold QT.floats_Text.f
    rw [canon_t a ha, Option.bind_some, hc, if_neg (by omega), if_neg (by omega), if_neg (by omega)]
    unfold floats_to.f
    rw [Option.bind_some, Int.toNat_natCast]
  have join : ∀ s R, (∃ k, strconv_FormatFloat.f k a 120 (-1) 64 = some s) → (∃ k, ((strings_IndexByte.f s 112).bind fun t108 => QT.floats_Text.l0 k s (wrap64 (t108 + 2))) = some R) → ∃ k, QT.floats_Text.f k (a : Int) = some R := by
    intro s R h1 h2
    obtain ⟨k, e1, e2⟩ := together (g := fun k => strconv_FormatFloat.f k a 120 (-1) 64) (f := fun k => (strings_IndexByte.f s 112).bind fun t108 => QT.floats_Text.l0 k s (wrap64 (t108 + 2))) (fun k => strconv_FormatFloat.mono _ _ _ _ k) (fun k => LeO.bind (LeO.refl _) (fun x => QT.floats_Text.mono_l k _ _)) h1 h2
    exact ⟨k, by rw [pre, e1, Option.bind_some]; exact e2⟩
  by_cases c3 : rung a = 0
  · rw [if_pos c3]
    refine join _ _ (format_zero a ha c3) ?_
    have := num_core (sgn (isNeg a) ++ [48, 120, 48]) 0 (strOfNums (sgn (isNeg a) ++ zeroT)) (by unfold zeroT expo pad; simp) (by omega) (by omega) (by have := sgn_len (isNeg a); simp; omega) (by
      intro y hy
      rcases List.mem_append.1 hy with hy | hy
      · exact sgn_ok _ y hy
      · simp only [List.mem_cons, List.not_mem_nil, or_false] at hy
        rcases hy with rfl | rfl | rfl <;> omega)
    simpa [expd, decs] using this
  · rw [if_neg c3]
    refine join _ _ (format_x a ha c3 (by omega)) ?_
    obtain ⟨b1, b2⟩ := expT_bd (rung a) c3 (by omega)
    have := num_core (sgn (isNeg a) ++ ahead (manT (rung a) * 256)) (expT (rung a)) (strOfNums (sgn (isNeg a) ++ (ahead (manT (rung a) * 256) ++ expo (expT (rung a))))) (by simp) (by omega) (by omega) (by have := sgn_len (isNeg a); have := ahead_len (manT (rung a) * 256); simp; omega) (by
      intro y hy
      rcases List.mem_append.1 hy with hy | hy
      · exact sgn_ok _ y hy
      · exact ahead_ok _ y hy)
    simpa using this
end Go.Proofs.YthifejhdmjoolaaGreatDoor.Pure
