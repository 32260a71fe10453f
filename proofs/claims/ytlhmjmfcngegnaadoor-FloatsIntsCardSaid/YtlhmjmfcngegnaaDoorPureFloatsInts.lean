/-
  FloatsInts, the plain law: whole numbers there and back, their sums, where there is room.
-/
import Derived.Test.YtlhmjmfcngegnaaDoorPureBase
import Derived.Test.YtlhmjmfcngegnaaDoorFloInts
import Derived.Test.YtlhmjmfcngegnaaDoorQB2
namespace Go.Proofs.YtlhmjmfcngegnaaDoor.Pure
open Go.RowKit Go.Proofs.YtlhmjmfcngegnaaDoor.QB Go.Proofs.YtlhmjmfcngegnaaDoorW.PrintWords Go.Proofs.YtlhmjmfcngegnaaDoorW.PrintLast
open Go.Proofs.YtlhmjmfcngegnaaDoorG Go.Flo
set_option linter.unusedVariables false
set_option linter.unusedSimpArgs false
set_option exponentiation.threshold 3000

theorem alive_b : QB.foundrylaw01_alive.f 60 = some true := by decide +kernel

theorem i64_is {a : Int} (h : (Lit.int .i64 a).wf = true) : -9223372036854775808 ≤ a ∧ a ≤ 9223372036854775807 := by
  simpa [Lit.wf, IntKind.min, IntKind.max, IntKind.signed, IntKind.bits] using h

theorem ofInt_nearest (n : Int) : floatOfInt .f64 n = D.nearest (decide (n < 0)) n.natAbs 0 := rfl

theorem fl_low {m : Nat} (hm : m < 9007199254740992) : fl m 0 < 9218868437227405312 := by
  by_cases h0 : m = 0
  · rw [h0, fl_zero]; omega
  · rw [fl_eq h0]
    have h := exact h0 hm (show (-1074 : Int) ≤ 0 by omega)
    have hi : mg 9218868437227405312 = 4503599627370496 * 2 ^ 2046 := by decide +kernel
    have hlt : mg (rungOf m 0) < mg 9218868437227405312 := by
      rw [h, hi, show ((0 : Int) + 1074).toNat = 1074 from rfl]
      calc m * 2 ^ 1074 < 9007199254740992 * 2 ^ 1074 := Nat.mul_lt_mul_of_pos_right hm (Nat.two_pow_pos _)
        _ ≤ 4503599627370496 * 2 ^ 2046 := by decide +kernel
    have := mg_lt_iff.1 hlt
    omega

theorem FloatsInts : QB.foundrylaw01_FloatsInts.Pure := by
  intro n m w0 w1
  have hn := i64_is w0
  have hm := i64_is w1
  refine ⟨60, ?_⟩
  obtain ⟨a1, a2, a3, a4⟩ := nearest_facts (decide (n < 0)) n.natAbs 0
  obtain ⟨b1, b2, b3, b4⟩ := nearest_facts (decide (m < 0)) m.natAbs 0
  have fa : floats_FromInt.f n = some ((D.nearest (decide (n < 0)) n.natAbs 0 : Nat) : Int) := by
    unfold floats_FromInt.f
    rw [ofInt_nearest]
    congr 2
    exact if_neg a4
  have fb : floats_FromInt.f m = some ((D.nearest (decide (m < 0)) m.natAbs 0 : Nat) : Int) := by
    unfold floats_FromInt.f
    rw [ofInt_nearest]
    congr 2
    exact if_neg b4
  have fr : foundryref01_FromInt.f n = some ((D.nearest (decide (n < 0)) n.natAbs 0 : Nat) : Int) := by
    unfold foundryref01_FromInt.f
    rw [ofInt_nearest]
  unfold QB.foundrylaw01_FloatsInts.f
  rw [fa, fb, fr, alive_b]
  simp only [Option.bind_some, if_true, Bool.not_true, QB.foundrylaw01_FloatsInts.j0, Bool.false_eq_true, if_false]
  have out : ∀ x5 x6 : Int, QB.foundrylaw01_FloatsInts.j1 59 n m x5 x6 true = some true := by
    intro x5 x6
    simp only [QB.foundrylaw01_FloatsInts.j1, if_true]
  by_cases c1 : n < -4503599627370496
  · rw [if_pos c1]; exact out _ _
  · rw [if_neg c1]
    by_cases c2 : n > 4503599627370496
    · rw [if_pos c2]; exact out _ _
    · rw [if_neg c2]
      by_cases c3 : m < -4503599627370496
      · rw [if_pos c3]; exact out _ _
      · rw [if_neg c3]
        by_cases c4 : m > 4503599627370496
        · rw [decide_eq_true c4]; exact out _ _
        · rw [decide_eq_false c4]
          have hqa : n.natAbs < 9007199254740992 := by omega
          have hqb : m.natAbs < 9007199254740992 := by omega
          have hqs : (n + m).natAbs < 9007199254740993 := by omega
          have la := fl_low hqa
          have lb := fl_low hqb
          have sa := sv_int (s := decide (n < 0)) hqa (fun _ => rfl) la
          have sb := sv_int (s := decide (m < 0)) hqb (fun _ => rfl) lb
          have ta : floats_ToInt.f ((D.nearest (decide (n < 0)) n.natAbs 0 : Nat) : Int) = some (n, 0) := toInt_whole hqa (fun _ => rfl) la
          obtain ⟨s, hadd, hs⟩ := add_whole (q := n) (r := m) (by rw [a2]; exact la) (by rw [b2]; exact lb) sa sb
          obtain ⟨s1, s2, s3, s4⟩ := nearest_facts s (n + m).natAbs 0
          have fadd : floats_Add.f ((D.nearest (decide (n < 0)) n.natAbs 0 : Nat) : Int) ((D.nearest (decide (m < 0)) m.natAbs 0 : Nat) : Int) = some ((D.nearest s (n + m).natAbs 0 : Nat) : Int) := by
            unfold floats_Add.f floatsOp
            rw [show floatBits .add .f64 ((D.nearest (decide (n < 0)) n.natAbs 0 : Nat) : Int).toNat ((D.nearest (decide (m < 0)) m.natAbs 0 : Nat) : Int).toNat = D.add (D.nearest (decide (n < 0)) n.natAbs 0) (D.nearest (decide (m < 0)) m.natAbs 0) from rfl, hadd]
            show some ((canonN (D.nearest s (n + m).natAbs 0) : Nat) : Int) = _
            rw [show canonN (D.nearest s (n + m).natAbs 0) = D.nearest s (n + m).natAbs 0 from if_neg s4]
          have ts : floats_ToInt.f ((D.nearest s (n + m).natAbs 0 : Nat) : Int) = some (n + m, 0) := by
            by_cases e : (n + m).natAbs = 9007199254740992
            · -- both are 2^52 or both are -2^52
              have hs' := hs (by omega)
              have : (n = 4503599627370496 ∧ m = 4503599627370496) ∨ (n = -4503599627370496 ∧ m = -4503599627370496) := by omega
              rcases this with ⟨rfl, rfl⟩ | ⟨rfl, rfl⟩
              · rw [hs']; decide +kernel
              · rw [hs']; decide +kernel
            · exact toInt_whole (by omega) hs (fl_low (by omega))
          have hB : (0 : Int) < (2 ^ 1074 : Nat) := by have := Nat.two_pow_pos 1074; omega
          have fl1 := less_eq (D.nearest (decide (n < 0)) n.natAbs 0) (D.nearest (decide (m < 0)) m.natAbs 0)
          have fe1 := equal_eq (D.nearest (decide (n < 0)) n.natAbs 0) (D.nearest (decide (m < 0)) m.natAbs 0) a3 b3
          have hl : ltN (D.nearest (decide (n < 0)) n.natAbs 0) (D.nearest (decide (m < 0)) m.natAbs 0) = decide (n < m) := by
            unfold ltN
            rw [sa, sb]
            by_cases c : n < m
            · rw [decide_eq_true c, decide_eq_true ⟨a4, b4, Int.mul_lt_mul_of_pos_right c hB⟩]
            · rw [decide_eq_false c, decide_eq_false]
              intro q
              exact c (Int.lt_of_mul_lt_mul_right q.2.2 (Int.le_of_lt hB))
          have he : eqN (D.nearest (decide (n < 0)) n.natAbs 0) (D.nearest (decide (m < 0)) m.natAbs 0) = decide (n = m) := by
            unfold eqN
            have hi := sv_inj a3 b3
            rw [sa, sb] at hi
            by_cases c : n = m
            · rw [decide_eq_true c, decide_eq_true ⟨a4, b4, hi.1 (by rw [c])⟩]
            · rw [decide_eq_false c, decide_eq_false]
              intro q
              exact c (Int.eq_of_mul_eq_mul_right (by omega) (hi.2 q.2.2))
          rw [hl] at fl1
          rw [he] at fe1
          simp only [QB.foundrylaw01_FloatsInts.j1]
          rw [ta, fadd]
          simp only [Option.bind_some]
          rw [ts]
          simp only [Option.bind_some]
          rw [fl1, fe1]
          have hw : wrap64 (n + m) = n + m := by unfold wrap64; omega
          rw [hw]
          by_cases c : n < m
          · have c' : ¬ n = m := by omega
            simp [c, c']
          · by_cases c' : n = m
            · simp [c']
            · simp [c, c']
end Go.Proofs.YtlhmjmfcngegnaaDoor.Pure
