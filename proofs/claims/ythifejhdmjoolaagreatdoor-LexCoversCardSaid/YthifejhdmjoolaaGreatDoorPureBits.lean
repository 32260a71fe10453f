/-
  The plain law of the bits: what the program's tests on a float's bits come to, in natural numbers.
-/
import Derived.Test.YthifejhdmjoolaaGreatDoorGivB
namespace Go.Proofs.YthifejhdmjoolaaGreatDoor.Pure
open Go.Proofs.YthifejhdmjoolaaGreatDoorG
set_option linter.unusedVariables false
set_option linter.unusedSimpArgs false

theorem and_sign (a : Nat) (h : a < 18446744073709551616) : Go.bits .and .u64 (a : Int) 9223372036854775808 = ((a / 9223372036854775808 * 9223372036854775808 : Nat) : Int) := by
  have e := u64_and_nat a 9223372036854775808 h (by omega)
  rw [show ((9223372036854775808 : Nat) : Int) = 9223372036854775808 from rfl] at e
  rw [e]
  have h1 : (a &&& 2 ^ 63) / 2 ^ 63 = a / 2 ^ 63 := by
    rw [Nat.and_div_two_pow, show 2 ^ 63 / 2 ^ 63 = 2 ^ 1 - 1 from rfl, Nat.and_two_pow_sub_one_eq_mod]; omega
  have h2 : (a &&& 2 ^ 63) % 2 ^ 63 = 0 := by
    rw [Nat.and_mod_two_pow, show 2 ^ 63 % 2 ^ 63 = 0 from rfl, Nat.and_zero]
  rw [show (2 : Nat) ^ 63 = 9223372036854775808 from rfl] at h1 h2
  congr 1
  omega
theorem or_sign (a : Nat) (h : a < 9223372036854775808) : Go.bits .or .u64 (a : Int) 9223372036854775808 = ((a + 9223372036854775808 : Nat) : Int) := by
  have e := u64_or_nat a 9223372036854775808 (by omega) (by omega)
  rw [show ((9223372036854775808 : Nat) : Int) = 9223372036854775808 from rfl] at e
  rw [e]
  have h1 : (a ||| 2 ^ 63) / 2 ^ 63 = 1 := by
    rw [Nat.or_div_two_pow, show 2 ^ 63 / 2 ^ 63 = 1 from rfl, show a / 2 ^ 63 = 0 by omega, Nat.zero_or]
  have h2 : (a ||| 2 ^ 63) % 2 ^ 63 = a := by
    rw [Nat.or_mod_two_pow, show 2 ^ 63 % 2 ^ 63 = 0 from rfl, Nat.or_zero]; omega
  rw [show (2 : Nat) ^ 63 = 9223372036854775808 from rfl] at h1 h2
  congr 1
  omega
def flip (a : Nat) : Nat := if a < 9223372036854775808 then a + 9223372036854775808 else a - 9223372036854775808
theorem xor_sign (a : Nat) (h : a < 18446744073709551616) : Go.bits .xor .u64 (a : Int) 9223372036854775808 = (flip a : Nat) := by
  have e := u64_xor_nat a 9223372036854775808 h (by omega)
  rw [show ((9223372036854775808 : Nat) : Int) = 9223372036854775808 from rfl] at e
  rw [e]
  have h2 : (a ^^^ 2 ^ 63) % 2 ^ 63 = a % 2 ^ 63 := by
    rw [Nat.xor_mod_two_pow, show 2 ^ 63 % 2 ^ 63 = 0 from rfl, Nat.xor_zero]
  have h1 : (a ^^^ 2 ^ 63) / 2 ^ 63 = 1 - a / 2 ^ 63 := by
    rw [Nat.xor_div_two_pow, show 2 ^ 63 / 2 ^ 63 = 1 from rfl]
    have : a / 2 ^ 63 = 0 ∨ a / 2 ^ 63 = 1 := by omega
    rcases this with c | c <;> rw [c] <;> rfl
  rw [show (2 : Nat) ^ 63 = 9223372036854775808 from rfl] at h1 h2
  unfold flip
  congr 1
  split <;> omega
theorem xor_max (a : Nat) (h : a < 18446744073709551616) : Go.bits .xor .u64 IntKind.u64.max (a : Int) = ((18446744073709551615 - a : Nat) : Int) := by
  have e := u64_xor_nat 18446744073709551615 a (by omega) h
  rw [show (IntKind.u64.max : Int) = ((18446744073709551615 : Nat) : Int) from rfl, e]
  congr 1
  have h1 : (BitVec.allOnes 64 ^^^ BitVec.ofNat 64 a).toNat = 18446744073709551615 ^^^ a := by
    rw [BitVec.toNat_xor, BitVec.toNat_allOnes, BitVec.toNat_ofNat, Nat.mod_eq_of_lt (by omega)]
  rw [← h1, BitVec.allOnes_xor, BitVec.toNat_not, BitVec.toNat_ofNat, Nat.mod_eq_of_lt (by omega)]
theorem or_hidden (a : Nat) (h : a < 4503599627370496) : Go.bits .or .u64 (a : Int) 4503599627370496 = ((a + 4503599627370496 : Nat) : Int) := by
  have e := u64_or_nat a 4503599627370496 (by omega) (by omega)
  rw [show ((4503599627370496 : Nat) : Int) = 4503599627370496 from rfl] at e
  rw [e]
  have h1 : (a ||| 2 ^ 52) / 2 ^ 52 = 1 := by
    rw [Nat.or_div_two_pow, show 2 ^ 52 / 2 ^ 52 = 1 from rfl, show a / 2 ^ 52 = 0 by omega, Nat.zero_or]
  have h2 : (a ||| 2 ^ 52) % 2 ^ 52 = a := by
    rw [Nat.or_mod_two_pow, show 2 ^ 52 % 2 ^ 52 = 0 from rfl, Nat.or_zero]; omega
  rw [show (2 : Nat) ^ 52 = 4503599627370496 from rfl] at h1 h2
  congr 1
  omega

end Go.Proofs.YthifejhdmjoolaaGreatDoor.Pure
