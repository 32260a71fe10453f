/-
  FloatsParts, the plain law without the texts: class, parts, the one NaN, the other sign, the next float, the whole part.
-/
import Derived.Test.YtlhmjmfcngegnaaDoorPureBase
import Derived.Test.YtlhmjmfcngegnaaDoorFloWhole
import Derived.Test.YtlhmjmfcngegnaaDoorQB5
namespace Go.Proofs.YtlhmjmfcngegnaaDoor.Pure
open Go.RowKit Go.Proofs.YtlhmjmfcngegnaaDoorW.PrintWords Go.Proofs.YtlhmjmfcngegnaaDoorW.PrintLast Go.Proofs.YtlhmjmfcngegnaaDoorW.PrintMore
open Go.Proofs.YtlhmjmfcngegnaaDoorG Go.Flo
set_option linter.unusedVariables false
set_option linter.unusedSimpArgs false

theorem class_b (a : Nat) (h : a < 18446744073709551616) : QB.floats_Class.f (a : Int) = some (classN a) := class_eq a h
theorem canon_b (a : Nat) (h : a < 18446744073709551616) : QB.floats_Canon.f (a : Int) = some ((canonN a : Nat) : Int) := canon_eq a h
theorem neg_b (a : Nat) (h : a < 18446744073709551616) : QB.floats_Neg.f (a : Int) = some ((canonN (flip a) : Nat) : Int) := by
  unfold QB.floats_Neg.f
  rw [xor_sign a h, canon_b _ (flip_lt h)]
  rfl

theorem ref_class_b (k a : Nat) (h : a < 18446744073709551616) : QB.foundryref01_Class.f (k + 2) (a : Int) = some (classN a) := by
  unfold QB.foundryref01_Class.f classN rung
  have e : ((a : Int) / 4503599627370496) = ((a / 4503599627370496 : Nat) : Int) := by omega
  rw [e, and_exp _ (by omega), IntKind.wrap_u64]
  have e2 : (a : Int) * 4096 % 18446744073709551616 = ((a % 4503599627370496 * 4096 : Nat) : Int) := by omega
  rw [e2]
  have h1 : a % 9223372036854775808 = a / 4503599627370496 % 2048 * 4503599627370496 + a % 4503599627370496 := by omega
  have h3 : a / 4503599627370496 % 2048 < 2048 := by omega
  have h4 : a % 4503599627370496 < 4503599627370496 := by omega
  rw [h1]
  generalize a / 4503599627370496 % 2048 = x at h3 ⊢
  generalize a % 4503599627370496 = y at h4 ⊢
  by_cases c1 : x = 2047
  · rw [if_pos (by omega)]
    simp only [QB.foundryref01_Class.j0]
    by_cases c2 : y = 0
    · rw [if_neg (by simp [c2]), if_pos (by omega), if_neg (by omega), if_pos (by omega)]
    · rw [if_pos (by simp; omega), if_pos (by omega)]
  · rw [if_neg (by omega)]
    simp only [QB.foundryref01_Class.j0]
    rw [if_neg (by simp), if_neg (by omega)]
    rw [if_neg (c := 9218868437227405312 < _) (by omega), if_neg (c := _ = 9218868437227405312) (by omega)]
    by_cases c2 : x = 0
    · rw [if_pos (by omega)]
      by_cases c3 : y = 0
      · simp only [QB.foundryref01_Class.j1]
        rw [if_pos (by simp [c3]), if_pos (by omega)]
      · simp only [QB.foundryref01_Class.j1]
        rw [if_neg (by simp; omega), if_pos (by omega), if_neg (by omega), if_pos (by omega)]
    · rw [if_neg (by omega)]
      simp only [QB.foundryref01_Class.j1]
      rw [if_neg (by simp), if_neg (by omega), if_neg (by omega), if_neg (by omega)]

theorem class_nan_b (a : Nat) : classN a = 1 ↔ nan a := by
  unfold classN nan
  constructor
  · intro h
    by_cases c : 9218868437227405312 < rung a
    · exact c
    · rw [if_neg c] at h
      split at h <;> first | omega | (split at h <;> first | omega | (split at h <;> omega))
  · intro h; rw [if_pos h]

def nextB (a : Nat) : Nat := if canonN a = 9221120237041090561 then 9221120237041090561 else if canonN a = 9223372036854775808 then 0 else if canonN a < 9223372036854775808 then canonN (canonN a + 1) else canonN a - 1

theorem next_b (a : Nat) (h : a < 18446744073709551616) : QB.floats_Next.f (a : Int) = some ((nextB a : Nat) : Int) := by
  unfold QB.floats_Next.f nextB
  rw [canon_b a h, Option.bind_some]
  have hc := canonN_lt h
  generalize canonN a = c at hc ⊢
  by_cases c1 : c = 9221120237041090561
  · rw [if_pos (by omega), if_pos c1]; rfl
  · rw [if_neg (by omega), if_neg c1]
    by_cases c2 : c = 9223372036854775808
    · rw [if_pos (by omega), if_pos c2]; rfl
    · rw [if_neg (by omega), if_neg c2, and_sign c hc]
      by_cases c3 : c < 9223372036854775808
      · rw [if_pos (by omega), if_pos c3, IntKind.wrap_u64, show ((c : Int) + 1) % 18446744073709551616 = ((c + 1 : Nat) : Int) by omega, canon_b _ (by omega), Option.bind_some]
      · rw [if_neg (by omega), if_neg c3, IntKind.wrap_u64, show ((c : Int) - 1) % 18446744073709551616 = ((c - 1 : Nat) : Int) by omega]

theorem sign_b (a : Nat) (h : a < 18446744073709551616) : ((Go.bits .and .u64 (a : Int) 9223372036854775808) != 0) = isNeg a := by
  rw [and_sign a h]
  unfold isNeg
  by_cases c : a < 9223372036854775808
  · rw [show a / 9223372036854775808 = 0 by omega]; rfl
  · rw [show a / 9223372036854775808 = 1 by omega]; rfl

theorem parts_b (a : Nat) (h : a < 18446744073709551616) : QB.floats_Parts.f (a : Int) =
    some (if 9218868437227405312 < rung a then (false, 0, 0) else if rung a = 9218868437227405312 then (isNeg a, 0, 0) else (isNeg a, ((sg (rung a) : Nat) : Int), -1074 + ((Flo.up (rung a) : Nat) : Int))) := by
  unfold QB.floats_Parts.f
  rw [class_b a h, Option.bind_some, sign_b a h, and_frac a h]
  have e : ((a : Int) / 4503599627370496) = ((a / 4503599627370496 : Nat) : Int) := by omega
  rw [e, and_exp _ (by omega), or_hidden _ (by omega)]
  unfold classN
  have r1 : rung a = a % 9223372036854775808 := rfl
  by_cases c1 : 9218868437227405312 < rung a
  · rw [if_pos c1, if_pos c1]; rfl
  · rw [if_neg c1, if_neg c1]
    by_cases c2 : rung a = 9218868437227405312
    · rw [if_pos c2, if_pos c2]; rfl
    · rw [if_neg c2, if_neg c2]
      by_cases c3 : rung a < 4503599627370496
      · have hs : sg (rung a) = a % 4503599627370496 := by unfold sg; rw [if_pos c3]; omega
        have hu : Flo.up (rung a) = 0 := by unfold Flo.up; omega
        rw [hs, hu]
        by_cases c4 : rung a = 0
        · rw [if_pos c4]; rfl
        · rw [if_neg c4, if_pos c3]; rfl
      · have hs : sg (rung a) = a % 4503599627370496 + 4503599627370496 := by unfold sg; rw [if_neg c3]; omega
        have hu : ((Flo.up (rung a) : Nat) : Int) = ((a / 4503599627370496 % 2048 : Nat) : Int) - 1 := by unfold Flo.up; omega
        rw [if_neg (show ¬ rung a = 0 by omega), if_neg c3, hs, hu]
        rw [if_neg (show ¬ (5 : Int) = 1 by omega), if_neg (show ¬ (5 : Int) = 2 by omega), if_pos rfl]
        have hw : wrap64 (wrap64 ((a / 4503599627370496 % 2048 : Nat) : Int) - 1075) = -1074 + (((a / 4503599627370496 % 2048 : Nat) : Int) - 1) := by unfold wrap64; omega
        rw [hw]


theorem ref_canon_b (a : Nat) (h : a < 18446744073709551616) : QB.foundryref01_Canon.f (a : Int) = some ((canonN a : Nat) : Int) := by
  rw [← refCanonI_nat a h]
  unfold QB.foundryref01_Canon.f refCanonI
  by_cases c : Go.bits .and .u64 ((a : Int) / 4503599627370496) 2047 = 2047
  · rw [if_pos c]
    by_cases d : IntKind.u64.wrap ((a : Int) * 4096) = 0
    · rw [if_pos d, if_neg (fun z => z.2 d)]
    · rw [if_neg d, if_pos ⟨c, d⟩]
  · rw [if_neg c, if_neg (fun z => c z.1)]
theorem ref_neg_b (a : Nat) (h : a < 18446744073709551616) : QB.foundryref01_Neg.f (a : Int) = some ((canonN (flip a) : Nat) : Int) := by
  unfold QB.foundryref01_Neg.f
  rw [xor_sign a h, ref_canon_b _ (flip_lt h)]
  rfl

theorem top_is (a : Nat) (h : a < 18446744073709551616) : (((a : Int) / 9223372036854775808) == 1) = isNeg a := by
  unfold isNeg
  by_cases c : a < 9223372036854775808
  · rw [show a / 9223372036854775808 = 0 by omega, show (a : Int) / 9223372036854775808 = 0 by omega]; rfl
  · rw [show a / 9223372036854775808 = 1 by omega, show (a : Int) / 9223372036854775808 = 1 by omega]; rfl

theorem ref_parts_b (k a : Nat) (h : a < 18446744073709551616) : QB.foundryref01_Parts.f (k + 2) (a : Int) = QB.floats_Parts.f (a : Int) := by
  unfold QB.foundryref01_Parts.f QB.floats_Parts.f
  rw [ref_class_b k a h, class_b a h, top_is a h, sign_b a h]

theorem ref_next_b (k a : Nat) (h : a < 18446744073709551616) : QB.foundryref01_Next.f (k + 2) (a : Int) = some ((nextB a : Nat) : Int) := by
  unfold QB.foundryref01_Next.f
  rw [ref_class_b k a h, Option.bind_some]
  unfold nextB
  have r1 : rung a = a % 9223372036854775808 := rfl
  by_cases n : nan a
  · rw [if_pos ((class_nan_b a).2 n), show canonN a = 9221120237041090561 from if_pos n, if_pos rfl]
    simp only [QB.foundryref01_Next.j0, if_true]
    rfl
  · rw [if_neg (fun z => n ((class_nan_b a).1 z)), show canonN a = a from if_neg n]
    unfold nan at n
    rw [if_neg (by intro e; omega)]
    by_cases c1 : a = 9218868437227405312
    · rw [show ((a : Int) == 9218868437227405312) = true from beq_iff_eq.2 (by omega)]
      simp only [QB.foundryref01_Next.j0, if_true]
      rw [if_neg (by omega), if_pos (by omega), show canonN (a + 1) = 9221120237041090561 from if_pos (by rw [c1]; decide)]
      rfl
    · rw [show ((a : Int) == 9218868437227405312) = false from beq_eq_false_iff_ne.2 (by omega)]
      simp only [QB.foundryref01_Next.j0]
      rw [if_neg (by simp)]
      by_cases c2 : a = 9223372036854775808
      · rw [if_pos (by omega), if_pos c2]; rfl
      · rw [if_neg (by omega), if_neg c2, IntKind.wrap_u64, IntKind.wrap_u64]
        by_cases c3 : a < 9223372036854775808
        · rw [if_neg (by omega), if_pos c3, show canonN (a + 1) = a + 1 from if_neg (by omega)]
          congr 1
          omega
        · rw [if_pos (by omega), if_neg c3]
          congr 1
          omega
end Go.Proofs.YtlhmjmfcngegnaaDoor.Pure
