/-
  Floats by their words: magnitudes rise with the rungs, rounding is by value alone, and what is representable is kept: plain facts on the model's own IEEE functions.
-/
import Ieee.Arith
namespace Go.Flo
open Ieee

abbrev D : Format := Ieee.double

theorem D_binade : D.binade = 4503599627370496 := rfl
theorem D_inf : D.infRung = 9218868437227405312 := by decide
theorem D_sign : D.signWeight = 9223372036854775808 := by decide
theorem D_least : D.leastPlace = -1074 := by decide
theorem D_frac : D.fractionBits = 52 := rfl

/-- the magnitude of a rung, in units of the least place -/
def mg (r : Nat) : Nat := if r < 4503599627370496 then r else (4503599627370496 + r % 4503599627370496) * 2 ^ (r / 4503599627370496 - 1)

theorem mg_step (r : Nat) : mg r < mg (r + 1) := by
  unfold mg
  by_cases h : r + 1 < 4503599627370496
  · rw [if_pos h, if_pos (by omega)]; omega
  · rw [if_neg h]
    by_cases h1 : r < 4503599627370496
    · rw [if_pos h1]
      have : r + 1 = 4503599627370496 := by omega
      rw [this]
      simp; omega
    · rw [if_neg h1]
      by_cases h2 : (r + 1) % 4503599627370496 = 0
      · have e1 : (r + 1) / 4503599627370496 - 1 = r / 4503599627370496 - 1 + 1 := by omega
        have e2 : r % 4503599627370496 = 4503599627370495 := by omega
        rw [h2, e1, e2, Nat.pow_succ]
        have : 0 < 2 ^ (r / 4503599627370496 - 1) := Nat.two_pow_pos _
        generalize 2 ^ (r / 4503599627370496 - 1) = p at *
        omega
      · have e1 : (r + 1) / 4503599627370496 = r / 4503599627370496 := by omega
        have e2 : (r + 1) % 4503599627370496 = r % 4503599627370496 + 1 := by omega
        rw [e1, e2]
        exact Nat.mul_lt_mul_of_pos_right (by omega) (Nat.two_pow_pos _)

theorem mg_lt {r s : Nat} (h : r < s) : mg r < mg s := by
  induction s with
  | zero => omega
  | succ s ih =>
    by_cases e : r = s
    · rw [e]; exact mg_step s
    · exact Nat.lt_trans (ih (by omega)) (mg_step s)

theorem mg_lt_iff {r s : Nat} : mg r < mg s ↔ r < s := by
  constructor
  · intro h
    rcases Nat.lt_or_ge r s with h1 | h1
    · exact h1
    · rcases Nat.lt_or_eq_of_le h1 with h2 | h2
      · have := mg_lt h2; omega
      · rw [h2] at h; omega
  · exact mg_lt
theorem mg_inj {r s : Nat} (h : mg r = mg s) : r = s := by
  rcases Nat.lt_trichotomy r s with h1 | h1 | h1
  · have := mg_lt h1; omega
  · exact h1
  · have := mg_lt h1; omega
theorem mg_zero : mg 0 = 0 := rfl

/-! ### what a word reads as -/

/-- the significand and the exponent of a finite rung -/
def sg (r : Nat) : Nat := if r < 4503599627370496 then r else 4503599627370496 + r % 4503599627370496
def up (r : Nat) : Nat := r / 4503599627370496 - 1
theorem mg_eq (r : Nat) : mg r = sg r * 2 ^ up r := by
  unfold mg sg up
  split
  · rename_i h
    rw [show r / 4503599627370496 - 1 = 0 by omega]; simp
  · rfl

def rung (w : Nat) : Nat := w % 9223372036854775808
def isNeg (w : Nat) : Bool := w / 9223372036854775808 % 2 == 1

theorem read_finite {w : Nat} (h : rung w < 9218868437227405312) : D.read w = .number (isNeg w) (sg (rung w)) (-1074 + (up (rung w) : Nat)) := by
  unfold Format.read
  rw [D_sign, D_binade, D_inf, D_least]
  unfold rung isNeg sg up at *
  dsimp only
  by_cases h1 : w % 9223372036854775808 < 4503599627370496
  · rw [if_pos h1, if_pos h1]
    have : w % 9223372036854775808 / 4503599627370496 - 1 = 0 := by omega
    rw [this]; simp
  · rw [if_neg h1, if_pos h, if_neg h1]

theorem read_inf {w : Nat} (h : rung w = 9218868437227405312) : D.read w = .infinity (isNeg w) := by
  unfold Format.read
  rw [D_sign, D_binade, D_inf, D_least]
  unfold rung isNeg at *
  dsimp only
  rw [if_neg (by omega), if_neg (by omega), if_pos h]

theorem read_nan {w : Nat} (h : 9218868437227405312 < rung w) : ∃ f, D.read w = .nan (isNeg w) f := by
  unfold Format.read
  rw [D_sign, D_binade, D_inf, D_least]
  unfold rung isNeg at *
  dsimp only
  rw [if_neg (by omega), if_neg (by omega), if_neg (by omega)]
  exact ⟨_, rfl⟩

/-! ### rounding -/

/-- n / 2^d to the nearest, ties to even -/
def rnd (n d : Nat) : Nat := n / 2 ^ d + (if 2 ^ d < 2 * (n % 2 ^ d) ∨ (2 ^ d = 2 * (n % 2 ^ d) ∧ n / 2 ^ d % 2 = 1) then 1 else 0)

theorem lt_log2 (n : Nat) : n < 2 ^ (n.log2 + 1) := Nat.lt_log2_self

theorem cut_eq (neg : Bool) (n d : Nat) : Toward.even.cut neg n d = rnd n d := by
  unfold Toward.cut rnd
  dsimp only
  by_cases h : d ≤ n.log2 + 2
  · rw [Nat.min_eq_left h, Nat.one_shiftLeft]
    congr 1
    by_cases h1 : 2 ^ d < 2 * (n % 2 ^ d)
    · simp [h1]
    · by_cases h2 : 2 ^ d = 2 * (n % 2 ^ d)
      · by_cases h3 : n / 2 ^ d % 2 = 1
        · rw [if_pos (.inr ⟨h2, h3⟩)]
          simp [h3, ← h2]
        · rw [if_neg (fun h => h.elim h1 (fun h => h3 h.2))]
          simp [h1, h3]
      · rw [if_neg (fun h => h.elim h1 (fun h => h2 h.1))]
        simp [h1, h2]
  · rw [Nat.min_eq_right (by omega), Nat.one_shiftLeft]
    have hn := lt_log2 n
    have e : 2 ^ (n.log2 + 2) = 2 * 2 ^ (n.log2 + 1) := by rw [Nat.pow_succ, Nat.mul_comm]
    have hd : 2 ^ (n.log2 + 2) ≤ 2 ^ d := Nat.pow_le_pow_right (by decide) (by omega)
    rw [Nat.div_eq_of_lt (show n < 2 ^ (n.log2 + 2) by omega), Nat.mod_eq_of_lt (show n < 2 ^ (n.log2 + 2) by omega), Nat.div_eq_of_lt (show n < 2 ^ d by omega), Nat.mod_eq_of_lt (show n < 2 ^ d by omega)]
    rw [if_neg (by omega)]
    have h1 : ¬ 2 ^ (n.log2 + 2) < 2 * n := by omega
    have h2 : ¬ 2 ^ (n.log2 + 2) = 2 * n := by omega
    simp [h1]

theorem rnd_zero (n : Nat) : rnd n 0 = n := by
  unfold rnd
  rw [Nat.pow_zero, Nat.div_one, Nat.mod_one]
  simp

theorem rnd_shift (n d k : Nat) : rnd (n * 2 ^ k) (d + k) = rnd n d := by
  unfold rnd
  have hp : 0 < 2 ^ k := Nat.two_pow_pos _
  have e1 : n * 2 ^ k / 2 ^ (d + k) = n / 2 ^ d := by rw [Nat.pow_add, Nat.mul_div_mul_right _ _ hp]
  have e2 : n * 2 ^ k % 2 ^ (d + k) = n % 2 ^ d * 2 ^ k := by rw [Nat.pow_add, Nat.mul_mod_mul_right]
  rw [e1, e2, Nat.pow_add]
  congr 1
  have e3 : 2 * (n % 2 ^ d * 2 ^ k) = 2 * (n % 2 ^ d) * 2 ^ k := by rw [Nat.mul_assoc]
  rw [e3]
  have c1 : 2 ^ d * 2 ^ k < 2 * (n % 2 ^ d) * 2 ^ k ↔ 2 ^ d < 2 * (n % 2 ^ d) := Nat.mul_lt_mul_right hp
  have c2 : 2 ^ d * 2 ^ k = 2 * (n % 2 ^ d) * 2 ^ k ↔ 2 ^ d = 2 * (n % 2 ^ d) := ⟨fun h => Nat.eq_of_mul_eq_mul_right hp h, fun h => congrArg (· * 2 ^ k) h⟩
  simp only [c1, c2]

theorem rnd_exact (n d : Nat) : rnd (n * 2 ^ d) d = n := by
  have := rnd_shift n 0 d
  rw [Nat.zero_add] at this
  rw [this, rnd_zero]

/-- the place of the last digit that is kept -/
def lastOf (mag : Nat) (place : Int) : Int := max (place + mag.log2 - 52) (-1074)
/-- the rung that a magnitude is rounded to, without a bound -/
def rungOf (mag : Nat) (place : Int) : Nat :=
  (lastOf mag place + 1074).toNat * 4503599627370496 + rnd (mag * 2 ^ (place - lastOf mag place).toNat) (lastOf mag place - place).toNat

theorem nearest_eq (neg : Bool) (mag : Nat) (place : Int) (h : mag ≠ 0) : D.nearest neg mag place = D.word neg (min (rungOf mag place) 9218868437227405312) := by
  unfold Format.nearest rungOf lastOf
  rw [if_neg h, D_frac, D_least, D_binade, D_inf]
  dsimp only
  rw [cut_eq, Nat.shiftLeft_eq]
  rfl

theorem log2_is {m k : Nat} (h1 : 2 ^ k ≤ m) (h2 : m < 2 ^ (k + 1)) : m.log2 = k := by
  have h0 : m ≠ 0 := by have := Nat.two_pow_pos k; omega
  have a := (Nat.le_log2 h0).2 h1
  have b := (Nat.log2_lt h0).2 h2
  omega
theorem log2_mul (m k : Nat) (h : m ≠ 0) : (m * 2 ^ k).log2 = m.log2 + k := by
  have hp : 0 < 2 ^ k := Nat.two_pow_pos _
  apply log2_is
  · rw [Nat.pow_add]; exact Nat.mul_le_mul_right _ (Nat.log2_self_le h)
  · rw [show m.log2 + k + 1 = m.log2 + 1 + k by omega, Nat.pow_add]
    exact Nat.mul_lt_mul_of_pos_right (lt_log2 m) hp

theorem rungOf_shift (mag k : Nat) (place : Int) (h : mag ≠ 0) : rungOf (mag * 2 ^ k) place = rungOf mag (place + k) := by
  have hl : lastOf (mag * 2 ^ k) place = lastOf mag (place + k) := by unfold lastOf; rw [log2_mul mag k h]; congr 1; push_cast; omega
  unfold rungOf
  rw [hl]
  generalize lastOf mag (place + k) = L
  congr 1
  by_cases h1 : L ≤ place
  · rw [show (L - place).toNat = 0 by omega, show (L - (place + k)).toNat = 0 by omega, rnd_zero, rnd_zero]
    rw [show (place + (k : Int) - L).toNat = k + (place - L).toNat by omega, Nat.pow_add, Nat.mul_assoc]
  · rw [show (place - L).toNat = 0 by omega, Nat.pow_zero, Nat.mul_one]
    by_cases h2 : L ≤ place + k
    · rw [show (L - (place + k)).toNat = 0 by omega, rnd_zero]
      have e : k = (place + (k : Int) - L).toNat + (L - place).toNat := by omega
      rw [show mag * 2 ^ k = mag * 2 ^ (place + (k : Int) - L).toNat * 2 ^ (L - place).toNat by rw [Nat.mul_assoc, ← Nat.pow_add, ← e]]
      exact rnd_exact _ _
    · rw [show (place + (k : Int) - L).toNat = 0 by omega, Nat.pow_zero, Nat.mul_one]
      rw [show (L - place).toNat = (L - (place + k)).toNat + k by omega]
      exact rnd_shift _ _ _

theorem log2_bounds {m k : Nat} (h1 : 2 ^ k ≤ m) (h2 : m < 2 ^ (k + 1)) : m.log2 = k := by
  have h0 : m ≠ 0 := by have := Nat.two_pow_pos k; omega
  have a := (Nat.le_log2 h0).2 h1
  have b := (Nat.log2_lt h0).2 h2
  omega

/-- What is representable is kept. -/
theorem rungOf_exact (r : Nat) (hr : r ≠ 0) : rungOf (sg r) (-1074 + (up r : Nat)) = r := by
  unfold rungOf lastOf sg up
  by_cases h : r < 4503599627370496
  · rw [if_pos h]
    have hl : r.log2 ≤ 51 := by have := (Nat.log2_lt hr).2 (show r < 2 ^ 52 by omega); omega
    have e : r / 4503599627370496 - 1 = 0 := by omega
    rw [e, show max (-1074 + ((0 : Nat) : Int) + (r.log2 : Int) - 52) (-1074) = -1074 by omega]
    simp [rnd_zero]
  · rw [if_neg h]
    have hl : (4503599627370496 + r % 4503599627370496).log2 = 52 := log2_bounds (by omega) (by omega)
    rw [hl]
    rw [show max (-1074 + ((r / 4503599627370496 - 1 : Nat) : Int) + ((52 : Nat) : Int) - 52) (-1074) = -1074 + ((r / 4503599627370496 - 1 : Nat) : Int) by omega]
    rw [Int.sub_self]
    simp only [Int.toNat_zero, Nat.pow_zero, Nat.mul_one, rnd_zero]
    omega

/-- a magnitude that a rung has: mag * 2^place = mg r * 2^-1074 -/
theorem rungOf_value (mag : Nat) (place : Int) (r : Nat) (hm : mag ≠ 0) (h : mag * 2 ^ (place + 1074).toNat = mg r * 2 ^ (-1074 - place).toNat) : rungOf mag place = r := by
  have hr : r ≠ 0 := by
    intro e
    rw [e, mg_zero, Nat.zero_mul] at h
    have := Nat.two_pow_pos (place + 1074).toNat
    rcases Nat.mul_eq_zero.1 h with h | h <;> omega
  have hs : sg r ≠ 0 := by unfold sg; split <;> omega
  rw [mg_eq] at h
  by_cases h1 : -1074 ≤ place
  · rw [show (-1074 - place).toNat = 0 by omega, Nat.pow_zero, Nat.mul_one] at h
    have a := rungOf_shift mag (place + 1074).toNat (-1074) hm
    rw [h, rungOf_shift _ _ _ hs] at a
    rw [show -1074 + (((place + 1074).toNat : Nat) : Int) = place by omega] at a
    rw [← a]; exact rungOf_exact r hr
  · rw [show (place + 1074).toNat = 0 by omega, Nat.pow_zero, Nat.mul_one] at h
    rw [h, Nat.mul_assoc, ← Nat.pow_add, rungOf_shift _ _ _ hs]
    rw [show place + ((up r + (-1074 - place).toNat : Nat) : Int) = -1074 + (up r : Nat) by omega]
    exact rungOf_exact r hr

theorem rungOf_pos (mag : Nat) (place : Int) (hm : mag ≠ 0) (hp : -1074 ≤ place) : 0 < rungOf mag place := by
  unfold rungOf
  by_cases h : lastOf mag place = -1074
  · rw [h, show (-1074 - place).toNat = 0 by omega, rnd_zero]
    have := Nat.two_pow_pos (place - -1074).toNat
    have := Nat.mul_pos (Nat.pos_of_ne_zero hm) this
    omega
  · have : -1074 ≤ lastOf mag place := by unfold lastOf; omega
    have : 1 ≤ (lastOf mag place + 1074).toNat := by omega
    have := Nat.mul_le_mul_right 4503599627370496 this
    omega

theorem word_rung (neg : Bool) {r : Nat} (h : r < 9223372036854775808) : rung (D.word neg r) = r ∧ isNeg (D.word neg r) = neg ∧ D.word neg r < 18446744073709551616 := by
  unfold Format.word rung isNeg
  rw [D_sign]
  cases neg
  · simp; omega
  · simp; omega

end Go.Flo
