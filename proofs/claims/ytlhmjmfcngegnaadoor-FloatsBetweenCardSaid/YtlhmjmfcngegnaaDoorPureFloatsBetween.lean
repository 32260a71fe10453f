/-
  FloatsBetween, the plain law: the place of a float in the order, and of the next one.
-/
import Derived.Test.YtlhmjmfcngegnaaDoorPureFloatsOrders
import Derived.Test.YtlhmjmfcngegnaaDoorQA5
namespace Go.Proofs.YtlhmjmfcngegnaaDoor.Pure
open Go.RowKit Go.Proofs.YtlhmjmfcngegnaaDoor.QA Go.Proofs.YtlhmjmfcngegnaaDoorW.PrintWords Go.Proofs.YtlhmjmfcngegnaaDoorW.PrintLast
open Go.Proofs.YtlhmjmfcngegnaaDoorG Go.Flo
set_option linter.unusedVariables false
set_option linter.unusedSimpArgs false

def nextN (a : Nat) : Nat := if canonN a = 9221120237041090561 then 9221120237041090561 else if canonN a = 9223372036854775808 then 0 else if canonN a < 9223372036854775808 then canonN (canonN a + 1) else canonN a - 1

theorem next_eq (a : Nat) (h : a < 18446744073709551616) : floats_Next.f (a : Int) = some ((nextN a : Nat) : Int) := by
  unfold floats_Next.f nextN
  rw [canon_eq a h, Option.bind_some]
  have hc := canonN_lt h
  generalize canonN a = c at hc ⊢
  by_cases c1 : c = 9221120237041090561
  · rw [if_pos (by omega), if_pos c1]; rfl
  · rw [if_neg (by omega), if_neg c1]
    by_cases c2 : c = 9223372036854775808
    · rw [if_pos (by omega), if_pos c2]; rfl
    · rw [if_neg (by omega), if_neg c2, and_sign c hc]
      by_cases c3 : c < 9223372036854775808
      · rw [if_pos (by omega), if_pos c3, IntKind.wrap_u64, show ((c : Int) + 1) % 18446744073709551616 = ((c + 1 : Nat) : Int) by omega, canon_eq _ (by omega), Option.bind_some]
      · rw [if_neg (by omega), if_neg c3, IntKind.wrap_u64, show ((c : Int) - 1) % 18446744073709551616 = ((c - 1 : Nat) : Int) by omega]

theorem nextN_lt {a : Nat} (h : a < 18446744073709551616) : nextN a < 18446744073709551616 := by
  have hc := canonN_lt h
  unfold nextN
  generalize canonN a = c at hc ⊢
  split
  · omega
  · split
    · omega
    · split
      · exact canonN_lt (by omega)
      · omega

/-- a float's place: a NaN's is the last -/
theorem place_nan {a : Nat} (h : nan a) : placeN a = 18444492273895866369 := by unfold placeN; rw [canon_nan h, if_pos (by omega)]
theorem place_not {a : Nat} (h : ¬ nan a) : placeN a = if a < 9223372036854775808 then a + 9223372036854775808 else 18446744073709551615 - a := by unfold placeN; rw [canon_not h]
theorem place_top {a : Nat} (ha : a < 18446744073709551616) (h : ¬ nan a) : placeN a ≤ 18442240474082181120 := by
  rw [place_not h]; unfold nan rung at h; split <;> omega

theorem place_inj {a b : Nat} (ha : a < 18446744073709551616) (hb : b < 18446744073709551616) (h : placeN a = placeN b) : canonN a = canonN b := by
  have h1 := canonN_lt ha
  have h2 := canonN_lt hb
  unfold placeN at h
  split at h <;> split at h <;> omega

theorem place_next {a : Nat} (ha : a < 18446744073709551616) (h : ¬ nan a) : placeN (nextN a) = placeN a + 1 ∨ (placeN a = 18442240474082181120 ∧ placeN (nextN a) = 18444492273895866369) := by
  have hn : nextN a = if a = 9223372036854775808 then 0 else if a < 9223372036854775808 then canonN (a + 1) else a - 1 := by
    unfold nextN
    rw [canon_not h, if_neg (by intro e; rw [e] at h; exact h (by unfold nan rung; omega))]
  rw [hn]
  by_cases c1 : a = 9223372036854775808
  · left
    have h1 : placeN 0 = 0 + 9223372036854775808 := by rw [place_not (show ¬ nan 0 by unfold nan rung; omega), if_pos (by omega)]
    have h2 : placeN a = 18446744073709551615 - a := by rw [place_not h, if_neg (by omega)]
    rw [if_pos c1]
    omega
  · rw [if_neg c1]
    by_cases c2 : a < 9223372036854775808
    · rw [if_pos c2]
      by_cases c3 : nan (a + 1)
      · right
        have e' : placeN a = a + 9223372036854775808 := by rw [place_not h, if_pos c2]
        rw [canon_nan c3]
        refine ⟨?_, place_nan (by unfold nan rung; omega)⟩
        unfold nan rung at h c3
        omega
      · left
        have e : placeN (a + 1) = a + 1 + 9223372036854775808 := by rw [place_not c3, if_pos (by unfold nan rung at h c3; omega)]
        have e' : placeN a = a + 9223372036854775808 := by rw [place_not h, if_pos c2]
        rw [canon_not c3]
        omega
    · left
      rw [if_neg c2]
      have n : ¬ nan (a - 1) := by unfold nan rung at *; omega
      rw [place_not h, place_not n, if_neg c2, if_neg (by omega)]
      omega

theorem next_nan {a : Nat} (h : nan a) : nextN a = 9221120237041090561 := by unfold nextN; rw [if_pos (canon_nan h)]

theorem class_zero (a : Nat) : classN a = 3 ↔ rung a = 0 := by
  unfold classN
  constructor
  · intro h
    by_cases c : rung a = 0
    · exact c
    · rw [if_neg c] at h
      split at h
      · omega
      · split at h
        · omega
        · split at h <;> omega
  · intro h; rw [h]; rfl

theorem lt_place {a b : Nat} (ha : a < 18446744073709551616) (hb : b < 18446744073709551616) (n1 : ¬ nan a) (n2 : ¬ nan b) : ltN a b = decide (placeN a < placeN b ∧ ¬ (rung a = 0 ∧ rung b = 0)) := by
  unfold ltN
  by_cases z : rung a = 0 ∧ rung b = 0
  · have : sv a = sv b := (sv_inj ha hb).2 (.inr z)
    rw [decide_eq_false (fun q => by have := q.2.2; omega), decide_eq_false (fun q => q.2 z)]
  · have h := rank_lt ha hb z
    have h1 : rankN a < rankN b ↔ placeN a < placeN b := by
      rw [place_not n1, place_not n2]
      unfold rankN
      have r1 : rung a = a % 9223372036854775808 := rfl
      have r2 : rung b = b % 9223372036854775808 := rfl
      split <;> split <;> omega
    by_cases c : placeN a < placeN b
    · rw [decide_eq_true ⟨n1, n2, h.1 (h1.2 c)⟩, decide_eq_true ⟨c, z⟩]
    · rw [decide_eq_false (fun q => c (h1.1 (h.2 q.2.2))), decide_eq_false (fun q => c q.1)]
theorem eq_place {a b : Nat} (ha : a < 18446744073709551616) (hb : b < 18446744073709551616) (n1 : ¬ nan a) (n2 : ¬ nan b) : eqN a b = decide (placeN a = placeN b ∨ (rung a = 0 ∧ rung b = 0)) := by
  unfold eqN
  have h : a = b ↔ placeN a = placeN b := by
    constructor
    · intro e; rw [e]
    · intro e; have := place_inj ha hb e; rwa [canon_not n1, canon_not n2] at this
  by_cases c : a = b ∨ (rung a = 0 ∧ rung b = 0)
  · rw [decide_eq_true ⟨n1, n2, c⟩, decide_eq_true (by rw [← h]; exact c)]
  · rw [decide_eq_false (fun q => c q.2.2), decide_eq_false (by rw [← h]; exact c)]

theorem cmp_cases (a b : Nat) : (placeN a < placeN b ∧ cmpN a b = -1 ∧ cmpN b a = 1) ∨ (placeN a = placeN b ∧ cmpN a b = 0 ∧ cmpN b a = 0) ∨ (placeN b < placeN a ∧ cmpN a b = 1 ∧ cmpN b a = -1) := by
  unfold cmpN
  rcases Nat.lt_trichotomy (placeN a) (placeN b) with h | h | h
  · left; rw [if_pos h, if_neg (by omega), if_pos h]; exact ⟨h, rfl, rfl⟩
  · right; left; rw [if_neg (by omega), if_neg (by omega), if_neg (by omega), if_neg (by omega)]; exact ⟨h, rfl, rfl⟩
  · right; right; rw [if_neg (by omega), if_pos h, if_pos h]; exact ⟨h, rfl, rfl⟩

set_option maxHeartbeats 2000000 in
theorem between_end (k : Nat) {a b : Nat} (ha : a < 18446744073709551616) (hb : b < 18446744073709551616) : foundrylaw01_FloatsBetween.j2 (k + 1) (a : Int) (b : Int) (cmpN a b) (decide (nan a ∨ nan b)) = some true := by
  simp only [foundrylaw01_FloatsBetween.j2]
  rw [class_eq a ha, class_eq b hb, less_eq a b, equal_eq a b ha hb, lesseq_eq a b ha hb]
  simp only [Option.bind_some]
  by_cases n : nan a ∨ nan b
  · rw [if_pos (by simp [n])]
    have e1 : ltN a b = false := decide_eq_false (fun q => n.elim q.1 q.2.1)
    have e2 : eqN a b = false := decide_eq_false (fun q => n.elim q.1 q.2.1)
    simp [e1, e2]
  · rw [if_neg (by simp only [decide_eq_true_eq]; exact n)]
    have n1 : ¬ nan a := fun z => n (.inl z)
    have n2 : ¬ nan b := fun z => n (.inr z)
    rw [lt_place ha hb n1 n2, eq_place ha hb n1 n2]
    have c1 := class_zero a
    have c2 := class_zero b
    rcases cmp_cases a b with ⟨h, e, _⟩ | ⟨h, e, _⟩ | ⟨h, e, _⟩ <;> rw [e] <;> by_cases z1 : rung a = 0 <;> by_cases z2 : rung b = 0
    all_goals
      simp only [z1, z2, iff_true, iff_false] at c1 c2
      have q1 : (placeN a < placeN b) ↔ (placeN a < placeN b) := Iff.rfl
      first
        | (simp [c1, c2, z1, z2, h]; done)
        | (simp [c1, c2, z1, z2, h]; rw [if_neg (by omega), if_neg (by omega)])
        | (simp [c1, c2, z1, z2, h]; omega)

theorem FloatsBetween : foundrylaw01_FloatsBetween.Pure := by
  intro a0 a1 a2 w0 w1 w2
  obtain ⟨a, rfl, ha⟩ := u64_is w0
  obtain ⟨b, rfl, hb⟩ := u64_is w1
  obtain ⟨c, rfl, hc⟩ := u64_is w2
  refine ⟨60, ?_⟩
  have J1 : foundrylaw01_FloatsBetween.j1 59 (a : Int) (b : Int) (cmpN a b) false = some true := by
    simp only [foundrylaw01_FloatsBetween.j1]
    rw [class_eq a ha, class_eq b hb]
    simp only [Option.bind_some, Bool.false_eq_true, if_false]
    have E := between_end 57 ha hb
    by_cases n1 : nan a
    · rw [if_pos ((class_nan a).2 n1)]
      rw [decide_eq_true (.inl n1)] at E
      exact E
    · rw [if_neg (fun z => n1 ((class_nan a).1 z))]
      by_cases n2 : nan b
      · rw [decide_eq_true (.inr n2)] at E
        rw [(class_nan b).2 n2]
        exact E
      · rw [decide_eq_false (fun z => z.elim n1 n2)] at E
        rw [show (classN b == 1) = false from beq_eq_false_iff_ne.2 (fun z => n2 ((class_nan b).1 z))]
        exact E
  have J0 : foundrylaw01_FloatsBetween.j0 60 (a : Int) (b : Int) (cmpN a b) false = some true := by
    simp only [foundrylaw01_FloatsBetween.j0]
    rw [next_eq a ha, class_eq a ha]
    simp only [Option.bind_some, Bool.false_eq_true, if_false]
    rw [compare_eq _ b (nextN_lt ha) hb, compare_eq a _ ha (nextN_lt ha)]
    simp only [Option.bind_some]
    have key : ¬ nan a → placeN a < placeN (nextN a) := fun n => by rcases place_next ha n with h | ⟨h1, h2⟩ <;> omega
    have key2 : placeN a < placeN b → ¬ 0 < cmpN (nextN a) b := by
      intro h
      have n1 : ¬ nan a := by
        intro n
        have := place_nan n
        by_cases n2 : nan b
        · rw [place_nan n2] at h; omega
        · have := place_top hb n2; omega
      have : placeN (nextN a) ≤ placeN b := by
        rcases place_next ha n1 with e | ⟨e1, e2⟩
        · omega
        · by_cases n2 : nan b
          · rw [place_nan n2]; omega
          · have := place_top hb n2; omega
      rcases cmp_cases (nextN a) b with ⟨h, e, _⟩ | ⟨h, e, _⟩ | ⟨h, e, _⟩ <;> omega
    have key3 : cmpN a b < 0 → placeN a < placeN b := by
      intro h
      rcases cmp_cases a b with ⟨h1, e, _⟩ | ⟨h1, e, _⟩ | ⟨h1, e, _⟩ <;> omega
    by_cases n1 : nan a
    · rw [if_pos ((class_nan a).2 n1)]
      by_cases x : cmpN a b < 0
      · rw [if_pos x, decide_eq_false (key2 (key3 x))]; exact J1
      · rw [if_neg x]; exact J1
    · rw [if_neg (fun z => n1 ((class_nan a).1 z))]
      rw [if_pos (show cmpN a (nextN a) = -1 by unfold cmpN; rw [if_pos (key n1)])]
      by_cases x : cmpN a b < 0
      · rw [if_pos x, decide_eq_false (key2 (key3 x))]; exact J1
      · rw [if_neg x]; exact J1
  unfold foundrylaw01_FloatsBetween.f
  rw [compare_eq a b ha hb, compare_eq b c hb hc, compare_eq b a hb ha, compare_eq a c ha hc, canon_eq a ha, canon_eq b hb, alive_holds]
  simp only [Option.bind_some, Bool.not_true]
  rw [if_pos (show cmpN a b = wrap64 (-cmpN b a) by rcases cmp_cases a b with ⟨_, e1, e2⟩ | ⟨_, e1, e2⟩ | ⟨_, e1, e2⟩ <;> rw [e1, e2] <;> unfold wrap64 <;> rfl)]
  have hz : cmpN a b = 0 → ((canonN a : Nat) : Int) = (canonN b : Nat) := by
    intro z
    rw [place_inj ha hb (by rcases cmp_cases a b with ⟨_, e1, e2⟩ | ⟨e, e1, e2⟩ | ⟨_, e1, e2⟩ <;> first | exact e | omega)]
  have T : (if cmpN a b = 0 then (if ((canonN a : Nat) : Int) = (canonN b : Nat) then foundrylaw01_FloatsBetween.j0 60 (a : Int) (b : Int) (cmpN a b) false else foundrylaw01_FloatsBetween.j0 60 (a : Int) (b : Int) (cmpN a b) true) else foundrylaw01_FloatsBetween.j0 60 (a : Int) (b : Int) (cmpN a b) false) = some true := by
    split
    · rename_i z; rw [if_pos (hz z)]; exact J0
    · exact J0
  split
  · split
    · rename_i x y
      rw [if_neg]
      · exact T
      · rcases cmp_cases a b with ⟨h1, e1, _⟩ | ⟨h1, e1, _⟩ | ⟨h1, e1, _⟩ <;> rcases cmp_cases b c with ⟨h2, e2, _⟩ | ⟨h2, e2, _⟩ | ⟨h2, e2, _⟩ <;> rcases cmp_cases a c with ⟨h3, e3, _⟩ | ⟨h3, e3, _⟩ | ⟨h3, e3, _⟩ <;> omega
    · exact T
  · exact T
end Go.Proofs.YtlhmjmfcngegnaaDoor.Pure
