/-
  The sum of a list is that of its beginning and then of the rest: the plain law behind IntsPrefix; no condition of its own.
-/
import Derived.Test.YtjgccgjdonjlaaaDoorPureSum
import Derived.Test.YtjgccgjdonjlaaaDoorQAll6
namespace Go.Proofs.YtjgccgjdonjlaaaDoor.Pure
open Go.RowKit Go.Proofs.YtjgccgjdonjlaaaDoor.QAll Go.Proofs.YtjgccgjdonjlaaaDoorW.PrintWords Go.Proofs.YtjgccgjdonjlaaaDoorW.PrintLast
open Go.Proofs.YtjgccgjdonjlaaaDoorG
set_option linter.unusedVariables false
set_option linter.unusedSimpArgs false

/-- Two lists, one behind the other: the first alone tells the error, or the second goes on. -/
theorem sumS_append : ∀ (l r : List Int) (acc i : Int), I64 acc →
    (∃ n, sumS acc l i = (0, n, 80) ∧ sumS acc (l ++ r) i = (0, n, 80) ∧ i ≤ n ∧ n < i + l.length) ∨
    (∃ a, I64 a ∧ sumS acc l i = (a, 0, 0) ∧ sumS acc (l ++ r) i = sumS a r (i + l.length))
  | [], r, acc, i, ha => .inr ⟨acc, ha, rfl, by simp⟩
  | x :: l, r, acc, i, ha => by
    simp only [List.cons_append, sumS]
    by_cases h : I64 (acc + x)
    · rw [if_pos h, if_pos h]
      rcases sumS_append l r (acc + x) (i + 1) h with ⟨n, h1, h2, h3, h4⟩ | ⟨a, h1, h2, h3⟩
      · exact .inl ⟨n, h1, h2, by omega, by simp; omega⟩
      · refine .inr ⟨a, h1, h2, ?_⟩
        rw [h3]; congr 1; simp; omega
    · rw [if_neg h, if_neg h]
      exact .inl ⟨i, rfl, rfl, by omega, by simp; omega⟩

/-- The same list told from another place on. -/
theorem sumS_place : ∀ (l : List Int) (acc i : Int), I64 acc →
    (∃ n, 0 ≤ n ∧ n < l.length ∧ ∀ j, sumS acc l j = (0, j + n, 80)) ∨ (∃ a, ∀ j, sumS acc l j = (a, 0, 0))
  | [], acc, i, ha => .inr ⟨acc, fun _ => rfl⟩
  | x :: l, acc, i, ha => by
    by_cases h : I64 (acc + x)
    · rcases sumS_place l (acc + x) i h with ⟨n, h0, h1, h2⟩ | ⟨a, h2⟩
      · refine .inl ⟨n + 1, by omega, by simp; omega, fun j => ?_⟩
        rw [sumS, if_pos h, h2]; congr 2; omega
      · exact .inr ⟨a, fun j => by rw [sumS, if_pos h, h2]⟩
    · exact .inl ⟨0, by omega, by simp, fun j => by rw [sumS, if_neg h]; simp⟩

theorem IntsPrefix : foundrylaw02_IntsPrefix.Pure := by
  intro l c _ hl hw hc
  have hl2 : l.length < 17592186043905 := by omega
  have hw2 : ∀ x ∈ l, I64 x := fun x hx => i64_of (hw x hx)
  refine ⟨l.length + 10, ?_⟩
  unfold foundrylaw02_IntsPrefix.f
  rw [live_at (l.length + 5)]
  simp only [Option.bind_some, if_true]
  have hout : foundrylaw02_IntsPrefix.j0 (l.length + 10) l c true = some true := by
    rw [foundrylaw02_IntsPrefix.j0]; rfl
  by_cases h0 : c < 0
  · rw [if_pos h0]; exact hout
  rw [if_neg h0]
  by_cases h1 : c > l.length
  · rw [decide_eq_true h1]; exact hout
  rw [decide_eq_false h1]
  obtain ⟨n, rfl⟩ : ∃ n : Nat, c = n := ⟨c.toNat, by omega⟩
  have hn : n ≤ l.length := by omega
  rw [foundrylaw02_IntsPrefix.j0, if_neg (by decide), if_pos (by omega), if_pos (by omega)]
  simp only [Int.toNat_natCast]
  have htl : (l.take n).length = n := by rw [List.length_take]; omega
  have hdl : (l.drop n).length = l.length - n := by rw [List.length_drop]
  rw [sum_eq (l.take n) (by omega) (fun x hx => hw2 x (List.mem_of_mem_take hx)) (by omega), sum_eq l (by omega) hw2 (by omega)]
  simp only [Option.bind_some]
  have hall := sumS_append (l.take n) (l.drop n) 0 0 (by decide)
  rw [List.take_append_drop] at hall
  rcases hall with ⟨m, e1, e2, e3, e4⟩ | ⟨a, ha, e1, e2⟩
  · rw [e1, e2]
    simp only
    rw [if_neg (by decide)]
    simp
    omega
  · rw [e1, e2]
    simp only [if_true]
    rw [if_pos (by simp; omega)]
    have hw3 : ∀ x ∈ [a] ++ l.drop n, I64 x := by
      intro x hx
      rcases List.mem_append.1 hx with h | h
      · rw [List.mem_singleton.1 h]; exact ha
      · exact hw2 x (List.mem_of_mem_drop h)
    rw [sum_eq ([a] ++ l.drop n) (by simp; omega) hw3 (by simp; omega)]
    simp only [Option.bind_some, List.singleton_append]
    have e5 : sumS 0 (a :: l.drop n) 0 = sumS a (l.drop n) 1 := by
      rw [sumS, if_pos (by rw [Int.zero_add]; exact ha)]; simp
    rw [e5]
    rcases sumS_place (l.drop n) a 0 ha with ⟨m, h2, h3, h4⟩ | ⟨b, h4⟩
    · rw [h4, h4]
      simp only
      rw [if_neg (by decide), if_pos trivial]
      have e6 : wrap64 (wrap64 ((n : Int) + (1 + m)) - 1) = n + m := by unfold wrap64; omega
      rw [e6, htl]
      simp
      omega
    · rw [h4, h4]
      simp

end Go.Proofs.YtjgccgjdonjlaaaDoor.Pure
