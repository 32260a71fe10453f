/-
  FloatsBack, the plain law.
-/
import Derived.Test.YthifejhdmjoolaaGreatDoorQB1
import Derived.Test.YthifejhdmjoolaaGreatDoorPureParse
import Derived.Test.YthifejhdmjoolaaGreatDoorFloOps
namespace Go.Proofs.YthifejhdmjoolaaGreatDoor.Pure
open Go.RowKit Go.Proofs.YthifejhdmjoolaaGreatDoor.QB Go.Proofs.YthifejhdmjoolaaGreatDoorW.PrintWords Go.Proofs.YthifejhdmjoolaaGreatDoorW.PrintLast
open Go.Proofs.YthifejhdmjoolaaGreatDoorG Go.Flo
set_option linter.unusedVariables false
set_option linter.unusedSimpArgs false

theorem alive_holds : foundrylaw01_alive.f 60 = some true := by decide +kernel

theorem u64_is {a : Int} (h : (Lit.int .u64 a).wf = true) : ∃ n : Nat, a = n ∧ n < 18446744073709551616 := by
  have h2 : (0 : Int) ≤ a ∧ a ≤ 18446744073709551615 := by simpa [Lit.wf, IntKind.min, IntKind.max, IntKind.signed, IntKind.bits] using h
  exact ⟨a.toNat, by omega, by omega⟩

def classN (a : Nat) : Int := if 9218868437227405312 < rung a then 1 else if rung a = 9218868437227405312 then 2 else if rung a = 0 then 3 else if rung a < 4503599627370496 then 4 else 5

theorem class_eq (a : Nat) (h : a < 18446744073709551616) : floats_Class.f (a : Int) = some (classN a) := by
  unfold floats_Class.f classN rung
  rw [andNot_sign a h]
  generalize a % 9223372036854775808 = r
  by_cases c1 : 9218868437227405312 < r
  · rw [if_pos (by omega), if_pos c1]
  · rw [if_neg (by omega), if_neg c1]
    by_cases c2 : r = 9218868437227405312
    · rw [if_pos (by omega), if_pos c2]
    · rw [if_neg (by omega), if_neg c2]
      by_cases c3 : r = 0
      · rw [if_pos (by omega), if_pos c3]
      · rw [if_neg (by omega), if_neg c3]
        by_cases c4 : r < 4503599627370496
        · rw [if_pos (by omega), if_pos c4]
        · rw [if_neg (by omega), if_neg c4]

theorem canon_eq (a : Nat) (h : a < 18446744073709551616) : floats_Canon.f (a : Int) = some ((canonN a : Nat) : Int) := by
  unfold floats_Canon.f canonN
  rw [andNot_sign a h]
  by_cases c : 9218868437227405312 < a % 9223372036854775808
  · rw [if_pos (by omega), if_pos c]; rfl
  · rw [if_neg (by omega), if_neg c]


theorem neg_eq (a : Nat) (h : a < 18446744073709551616) : floats_Neg.f (a : Int) = some ((canonN (flip a) : Nat) : Int) := by
  unfold floats_Neg.f
  rw [xor_sign a h, canon_eq _ (flip_lt h)]
  rfl

def placeN (a : Nat) : Nat := if canonN a < 9223372036854775808 then canonN a + 9223372036854775808 else 18446744073709551615 - canonN a
theorem place_eq (a : Nat) (h : a < 18446744073709551616) : floats_place.f (a : Int) = some ((placeN a : Nat) : Int) := by
  unfold floats_place.f placeN
  rw [canon_eq a h]
  have hc := canonN_lt h
  generalize canonN a = c at hc ⊢
  rw [Option.bind_some, and_sign c hc, xor_max c hc]
  by_cases c1 : c < 9223372036854775808
  · rw [if_pos (by omega), if_pos c1, or_sign c c1]
  · rw [if_neg (by omega), if_neg c1]

def cmpN (a b : Nat) : Int := if placeN a < placeN b then -1 else if placeN b < placeN a then 1 else 0
theorem compare_eq (a b : Nat) (ha : a < 18446744073709551616) (hb : b < 18446744073709551616) : floats_Compare.f (a : Int) (b : Int) = some (cmpN a b) := by
  unfold floats_Compare.f cmpN
  rw [place_eq a ha, place_eq b hb, Option.bind_some, Option.bind_some]
  generalize placeN a = x
  generalize placeN b = y
  by_cases c1 : x < y
  · rw [if_pos (by omega), if_pos c1]
  · rw [if_neg (by omega), if_neg c1]
    by_cases c2 : y < x
    · rw [if_pos (by omega), if_pos c2]
    · rw [if_neg (by omega), if_neg c2]

theorem flip_flip (a : Nat) (h : a < 18446744073709551616) : flip (flip a) = a := by unfold flip; split <;> split <;> omega
theorem canonN_canonN (a : Nat) : canonN (canonN a) = canonN a := by
  unfold canonN
  split <;> simp_all
theorem neg_neg (a : Nat) (h : a < 18446744073709551616) : canonN (flip (canonN (flip a))) = canonN a := by
  by_cases c : 9218868437227405312 < a % 9223372036854775808
  · have e1 : canonN a = 9221120237041090561 := if_pos c
    have e2 : canonN (flip a) = 9221120237041090561 := if_pos (by unfold flip; split <;> omega)
    rw [e1, e2]
    decide
  · have e1 : canonN a = a := if_neg c
    have e2 : canonN (flip a) = flip a := if_neg (by unfold flip; split <;> omega)
    rw [e1, e2, flip_flip a h, e1]

theorem FloatsBack : foundrylaw01_FloatsBack.Pure := by
  intro a0 hwf
  obtain ⟨a, rfl, ha⟩ := u64_is hwf
  obtain ⟨k, g1, g2⟩ := together (g := fun k => floats_Text.f k (a : Int)) (f := fun k => floats_Parse.f k (strOfNums (txtL a))) (fun k => floats_Text.mono _ k) (fun k => floats_Parse.mono _ k) (text_g a ha) (parse_back a ha)
  refine ⟨max k 60, ?_⟩
  replace g1 := at_rounds (g := fun k => floats_Text.f k (a : Int)) (fun k => floats_Text.mono _ k) (Nat.le_max_left k 60) g1
  replace g2 := at_rounds (g := fun k => floats_Parse.f k (strOfNums (txtL a))) (fun k => floats_Parse.mono _ k) (Nat.le_max_left k 60) g2
  have g3 := at_rounds (g := fun k => foundrylaw01_alive.f k) (fun k => foundrylaw01_alive.mono k) (Nat.le_max_right k 60) alive_holds
  have hcl := canonN_lt ha
  have hcmp : cmpN a (canonN a) = 0 := by
    unfold cmpN
    have : placeN (canonN a) = placeN a := by unfold placeN; rw [canonN_canonN]
    rw [this, if_neg (by omega), if_neg (by omega)]
  unfold foundrylaw01_FloatsBack.f
  rw [g1, Option.bind_some, g2, Option.bind_some, canon_eq a ha, Option.bind_some, if_pos rfl, if_pos rfl, neg_eq a ha, Option.bind_some, neg_eq _ (canonN_lt (flip_lt ha)), Option.bind_some, neg_neg a ha, if_pos rfl,
    canon_eq _ hcl, Option.bind_some, canonN_canonN, if_pos rfl, compare_eq a _ ha hcl, Option.bind_some, hcmp, if_pos rfl, class_eq a ha, Option.bind_some, g3, Option.bind_some]
  by_cases c : 9218868437227405312 < rung a
  · have e1 : canonN a = 9221120237041090561 := if_pos c
    rw [show classN a = 1 from if_pos c, if_pos rfl, e1, if_pos (by omega)]
  · have e1 : canonN a = a := if_neg c
    have hne : classN a ≠ 1 := by unfold classN; rw [if_neg c]; split <;> (try split) <;> (try split) <;> omega
    have hr : rung a = a % 9223372036854775808 := rfl
    rw [if_neg hne, e1, if_neg (by omega)]
end Go.Proofs.YthifejhdmjoolaaGreatDoor.Pure
