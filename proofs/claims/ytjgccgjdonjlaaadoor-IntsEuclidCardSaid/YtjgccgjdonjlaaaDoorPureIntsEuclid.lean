/-
  a is b times the quotient and the rest, which is the lesser one and has a's sign: the plain law behind IntsEuclid; no condition of its own.
-/
import Derived.Test.YtjgccgjdonjlaaaDoorPureBase
import Derived.Test.YtjgccgjdonjlaaaDoorQAll4
namespace Go.Proofs.YtjgccgjdonjlaaaDoor.Pure
open Go.RowKit Go.Proofs.YtjgccgjdonjlaaaDoor.QAll Go.Proofs.YtjgccgjdonjlaaaDoorW.PrintWords Go.Proofs.YtjgccgjdonjlaaaDoorW.PrintLast
open Go.Proofs.YtjgccgjdonjlaaaDoorG
set_option linter.unusedVariables false
set_option linter.unusedSimpArgs false

theorem amount_eq {a : Int} (h : I64 a) : foundrylaw02_amount.f a = some (a.natAbs : Int) := by
  unfold I64 at h
  have w : ∀ x, IntKind.u64.wrap x = x % 18446744073709551616 := fun x => by simp [IntKind.wrap, IntKind.signed, IntKind.bits]
  unfold foundrylaw02_amount.f
  simp only [w]
  split
  · congr 1; omega
  · congr 1; omega

theorem IntsEuclid : foundrylaw02_IntsEuclid.Pure := by
  intro a b ha hb
  have A := i64_of ha
  have B := i64_of hb
  refine ⟨7, ?_⟩
  unfold foundrylaw02_IntsEuclid.f
  rw [live_at 2, div_eq A B, rem_eq]
  simp only [Option.bind_some, if_true]
  by_cases h0 : b = 0
  · simp [h0]
  · rw [if_neg h0, if_neg h0, if_neg h0, if_pos rfl]
    have hr1 : (a.tmod b).natAbs < b.natAbs := by rw [Int.natAbs_tmod]; exact Nat.mod_lt _ (by omega)
    have hrs : a < 0 → a.tmod b ≤ 0 := fun h => by
      have := Int.tmod_nonneg b (a := -a) (by omega)
      rw [Int.neg_tmod] at this
      omega
    have hrp : ¬ a < 0 → 0 ≤ a.tmod b := fun h => Int.tmod_nonneg b (by omega)
    have R : I64 (a.tmod b) := by unfold I64 at B ⊢; omega
    rw [amount_eq R, amount_eq B]
    simp only [Option.bind_some]
    rw [if_neg (by omega)]
    have hend : foundrylaw02_IntsEuclid.j0 7 a b (fit (a.tdiv b)).1 (fit (a.tdiv b)).2 (a.tmod b) false = some true := by
      rw [foundrylaw02_IntsEuclid.j0]
      simp only [Bool.false_eq_true, if_false]
      have hq := Int.mul_tdiv_add_tmod a b
      by_cases hf : I64 (a.tdiv b)
      · rw [fit_in hf]
        simp only [if_true]
        have hab : b * a.tdiv b = a - a.tmod b := by omega
        have hp : I64 (a.tdiv b * b) := by
          rw [Int.mul_comm, hab]
          unfold I64 at A R ⊢
          by_cases h : a < 0
          · have := hrs h; omega
          · have := hrp h; omega
        rw [mul_eq hf B, fit_in hp]
        simp only [Option.bind_some]
        rw [add_eq hp R, fit_in (by rw [Int.mul_comm, hq]; exact A)]
        simp only [Option.bind_some, if_true]
        rw [Int.mul_comm, hq]; simp
      · rw [fit_out hf]
        simp only [if_true]
        rw [if_neg (by decide)]
        have h1 : b = -1 := by
          refine Classical.byContradiction fun h1 => hf ?_
          have e1 : (a.tdiv b).natAbs = a.natAbs / b.natAbs := Int.natAbs_tdiv a b
          have e2 : a.natAbs / b.natAbs ≤ a.natAbs := Nat.div_le_self _ _
          unfold I64 at A B ⊢
          by_cases h2 : b.natAbs = 1
          · have : b = 1 := by omega
            subst this
            simpa using A
          · have e3 : a.natAbs / b.natAbs ≤ a.natAbs / 2 := Nat.div_le_div_left (by omega) (by omega)
            omega
        subst h1
        have h2 : a = -9223372036854775808 := by
          simp at hf
          unfold I64 at hf A
          omega
        subst h2
        decide
    by_cases h1 : a.tmod b = 0
    · rw [if_pos h1]; exact hend
    · rw [if_neg h1]
      by_cases h : a < 0
      · have := hrs h
        rw [if_pos (by omega), if_pos h]; exact hend
      · have := hrp h
        rw [if_neg (by omega), if_neg h]; exact hend

end Go.Proofs.YtjgccgjdonjlaaaDoor.Pure
