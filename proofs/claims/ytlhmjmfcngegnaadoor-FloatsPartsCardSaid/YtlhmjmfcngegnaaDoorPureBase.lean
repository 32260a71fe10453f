/-
  The plain law: what each printed function says of bits below 2^64.
-/
import Derived.Test.YtlhmjmfcngegnaaDoorQA1
import Derived.Test.YtlhmjmfcngegnaaDoorPureBits
import Derived.Test.YtlhmjmfcngegnaaDoorFloOps
namespace Go.Proofs.YtlhmjmfcngegnaaDoor.Pure
open Go.RowKit Go.Proofs.YtlhmjmfcngegnaaDoor.QA Go.Proofs.YtlhmjmfcngegnaaDoorW.PrintWords Go.Proofs.YtlhmjmfcngegnaaDoorW.PrintLast
open Go.Proofs.YtlhmjmfcngegnaaDoorG Go.Flo
set_option linter.unusedVariables false
set_option linter.unusedSimpArgs false

theorem alive_holds : foundrylaw01_alive.f 60 = some true := by decide +kernel

theorem u64_is {a : Int} (h : (Lit.int .u64 a).wf = true) : ∃ n : Nat, a = n ∧ n < 18446744073709551616 := by
  have h2 : (0 : Int) ≤ a ∧ a ≤ 18446744073709551615 := by simpa [Lit.wf, IntKind.min, IntKind.max, IntKind.signed, IntKind.bits] using h
  exact ⟨a.toNat, by omega, by omega⟩

def classN (a : Nat) : Int := if 9218868437227405312 < rung a then 1 else if rung a = 9218868437227405312 then 2 else if rung a = 0 then 3 else if rung a < 4503599627370496 then 4 else 5

theorem class_eq (a : Nat) (h : a < 18446744073709551616) : floats_Class.f (a : Int) = some (classN a) := by
  unfold floats_Class.f classN rung
  rw [andNot_sign a h]
  generalize a % 9223372036854775808 = r
  by_cases c1 : 9218868437227405312 < r
  · rw [if_pos (by omega), if_pos c1]
  · rw [if_neg (by omega), if_neg c1]
    by_cases c2 : r = 9218868437227405312
    · rw [if_pos (by omega), if_pos c2]
    · rw [if_neg (by omega), if_neg c2]
      by_cases c3 : r = 0
      · rw [if_pos (by omega), if_pos c3]
      · rw [if_neg (by omega), if_neg c3]
        by_cases c4 : r < 4503599627370496
        · rw [if_pos (by omega), if_pos c4]
        · rw [if_neg (by omega), if_neg c4]

theorem canon_eq (a : Nat) (h : a < 18446744073709551616) : floats_Canon.f (a : Int) = some ((canonN a : Nat) : Int) := by
  unfold floats_Canon.f canonN
  rw [andNot_sign a h]
  by_cases c : 9218868437227405312 < a % 9223372036854775808
  · rw [if_pos (by omega), if_pos c]; rfl
  · rw [if_neg (by omega), if_neg c]

theorem canonN_lt {a : Nat} (h : a < 18446744073709551616) : canonN a < 18446744073709551616 := by unfold canonN; split <;> omega
theorem flip_lt {a : Nat} (h : a < 18446744073709551616) : flip a < 18446744073709551616 := by unfold flip; split <;> omega

theorem neg_eq (a : Nat) (h : a < 18446744073709551616) : floats_Neg.f (a : Int) = some ((canonN (flip a) : Nat) : Int) := by
  unfold floats_Neg.f
  rw [xor_sign a h, canon_eq _ (flip_lt h)]
  rfl

def placeN (a : Nat) : Nat := if canonN a < 9223372036854775808 then canonN a + 9223372036854775808 else 18446744073709551615 - canonN a
theorem place_eq (a : Nat) (h : a < 18446744073709551616) : floats_place.f (a : Int) = some ((placeN a : Nat) : Int) := by
  unfold floats_place.f placeN
  rw [canon_eq a h]
  have hc := canonN_lt h
  generalize canonN a = c at hc ⊢
  rw [Option.bind_some, and_sign c hc, xor_max c hc]
  by_cases c1 : c < 9223372036854775808
  · rw [if_pos (by omega), if_pos c1, or_sign c c1]
  · rw [if_neg (by omega), if_neg c1]

def cmpN (a b : Nat) : Int := if placeN a < placeN b then -1 else if placeN b < placeN a then 1 else 0
theorem compare_eq (a b : Nat) (ha : a < 18446744073709551616) (hb : b < 18446744073709551616) : floats_Compare.f (a : Int) (b : Int) = some (cmpN a b) := by
  unfold floats_Compare.f cmpN
  rw [place_eq a ha, place_eq b hb, Option.bind_some, Option.bind_some]
  generalize placeN a = x
  generalize placeN b = y
  by_cases c1 : x < y
  · rw [if_pos (by omega), if_pos c1]
  · rw [if_neg (by omega), if_neg c1]
    by_cases c2 : y < x
    · rw [if_pos (by omega), if_pos c2]
    · rw [if_neg (by omega), if_neg c2]

theorem order_is (a b : Nat) : ordI (a : Int) (b : Int) = D.order a b := rfl

def eqN (a b : Nat) : Bool := decide (¬ nan a ∧ ¬ nan b ∧ (a = b ∨ (rung a = 0 ∧ rung b = 0)))
def ltN (a b : Nat) : Bool := decide (¬ nan a ∧ ¬ nan b ∧ sv a < sv b)

theorem equal_eq (a b : Nat) (ha : a < 18446744073709551616) (hb : b < 18446744073709551616) : floats_Equal.f (a : Int) (b : Int) = some (eqN a b) := by
  unfold floats_Equal.f eqN
  rw [order_is]
  congr 1
  by_cases c : nan a ∨ nan b
  · rw [order_nan c]
    rw [decide_eq_false (by rcases c with c | c <;> simp [c])]
    rfl
  · have n1 : ¬ nan a := fun z => c (.inl z)
    have n2 : ¬ nan b := fun z => c (.inr z)
    rw [order_eq n1 n2]
    have hs := sv_inj ha hb
    rcases Int.lt_trichotomy (sv a) (sv b) with h1 | h1 | h1
    · rw [cmp_lt h1, decide_eq_false (fun z => by have := hs.2 z.2.2; omega)]; rfl
    · rw [h1, cmp_self, decide_eq_true ⟨n1, n2, hs.1 h1⟩]; rfl
    · rw [cmp_gt h1, decide_eq_false (fun z => by have := hs.2 z.2.2; omega)]; rfl

theorem less_eq (a b : Nat) : floats_Less.f (a : Int) (b : Int) = some (ltN a b) := by
  unfold floats_Less.f ltN
  rw [order_is]
  congr 1
  by_cases c : nan a ∨ nan b
  · rw [order_nan c]
    rw [decide_eq_false (by rcases c with c | c <;> simp [c])]
    rfl
  · have n1 : ¬ nan a := fun z => c (.inl z)
    have n2 : ¬ nan b := fun z => c (.inr z)
    rw [order_eq n1 n2]
    rcases Int.lt_trichotomy (sv a) (sv b) with h1 | h1 | h1
    · rw [cmp_lt h1, decide_eq_true ⟨n1, n2, h1⟩]; rfl
    · rw [h1, cmp_self, decide_eq_false (fun z => by have := z.2.2; omega)]; rfl
    · rw [cmp_gt h1, decide_eq_false (fun z => by have := z.2.2; omega)]; rfl

theorem lesseq_eq (a b : Nat) (ha : a < 18446744073709551616) (hb : b < 18446744073709551616) : floats_LessEq.f (a : Int) (b : Int) = some (ltN a b || eqN a b) := by
  have h1 := equal_eq a b ha hb
  have h2 := less_eq a b
  unfold floats_Equal.f at h1
  unfold floats_Less.f at h2
  unfold floats_LessEq.f
  rw [Option.some.inj h1, Option.some.inj h2]
end Go.Proofs.YtlhmjmfcngegnaaDoor.Pure
