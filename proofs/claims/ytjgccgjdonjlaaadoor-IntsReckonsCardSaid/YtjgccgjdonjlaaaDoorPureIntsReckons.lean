/-
  Each of the operators answers as the reference does, for any two numbers: the plain law behind IntsReckons; no condition of its own.
-/
import Derived.Test.YtjgccgjdonjlaaaDoorPureSum
import Derived.Test.YtjgccgjdonjlaaaDoorQAll7
namespace Go.Proofs.YtjgccgjdonjlaaaDoor.Pure
open Go.RowKit Go.Proofs.YtjgccgjdonjlaaaDoor.QAll Go.Proofs.YtjgccgjdonjlaaaDoorW.PrintWords Go.Proofs.YtjgccgjdonjlaaaDoorW.PrintLast
open Go.Proofs.YtjgccgjdonjlaaaDoorG
set_option linter.unusedVariables false
set_option linter.unusedSimpArgs false

theorem refsub_eq {a b : Int} (ha : I64 a) (hb : I64 b) : foundryref02_Sub.f a b = some (fit (a - b)) := by
  by_cases h : I64 (a - b)
  · rw [fit_in h]
    unfold I64 at ha hb h
    unfold foundryref02_Sub.f
    have e : wrap64 (a - b) = a - b := by unfold wrap64; omega
    rw [e]
    unfold wrap64
    repeat' split
    all_goals first | rfl | (exfalso; omega)
  · rw [fit_out h]
    unfold I64 at ha hb h
    unfold foundryref02_Sub.f wrap64
    repeat' split
    all_goals first | rfl | (exfalso; omega)

theorem refneg_eq {a : Int} (ha : I64 a) : foundryref02_Neg.f a = some (fit (-a)) := by
  unfold foundryref02_Neg.f
  rw [refsub_eq (by decide) ha]
  simp

theorem refmul_eq (k : Nat) {a b : Int} (ha : I64 a) (hb : I64 b) : foundryref02_Mul.f (k + 2) a b = some (fit (a * b)) := by
  have hz : foundryref02_Mul.j0 (k + 2) a b true = some (0, 0) := by rw [foundryref02_Mul.j0]; rfl
  unfold foundryref02_Mul.f
  by_cases h0 : a = 0
  · rw [if_pos h0, hz, h0]; simp [fit, I64]
  rw [if_neg h0]
  by_cases h1 : b = 0
  · rw [h1]; rw [h1] at hz; simp [fit, I64]; exact hz
  rw [beq_eq_false_iff_ne.2 h1, foundryref02_Mul.j0, if_neg (by decide)]
  have hbad : foundryref02_Mul.j1 (k + 1) a b true = some (0, 80) := by rw [foundryref02_Mul.j1]; rfl
  have hgood : ¬ (a = -9223372036854775808 ∧ b = -1) → ¬ (a = -1 ∧ b = -9223372036854775808) → foundryref02_Mul.j1 (k + 1) a b false = some (fit (a * b)) := by
    intro n1 n2
    rw [foundryref02_Mul.j1, if_neg (by decide), if_neg h1]
    have hq := Int.mul_tdiv_add_tmod (wrap64 (a * b)) b
    have hr : ((wrap64 (a * b)).tmod b).natAbs < b.natAbs := by rw [Int.natAbs_tmod]; exact Nat.mod_lt _ (by omega)
    unfold I64 at ha hb
    by_cases hf : I64 (a * b)
    · rw [fit_in hf]
      unfold I64 at hf
      have e : wrap64 (a * b) = a * b := by unfold wrap64; omega
      rw [e, Int.mul_tdiv_cancel _ h1, if_pos (by unfold wrap64; omega)]
    · rw [fit_out hf, if_neg]
      intro hc
      have hp : wrap64 (a * b) ≠ a * b ∧ -9223372036854775808 ≤ wrap64 (a * b) ∧ wrap64 (a * b) ≤ 9223372036854775807 ∧ (wrap64 (a * b) - a * b) % 18446744073709551616 = 0 := by
        unfold I64 at hf; unfold wrap64; omega
      generalize hP : wrap64 (a * b) = p at *
      by_cases hs : p = -9223372036854775808 ∧ b = -1
      · obtain ⟨hs1, hs2⟩ := hs
        subst hs2
        subst hs1
        apply n1
        refine ⟨?_, rfl⟩
        rw [← hc]; decide +kernel
      · have hin : wrap64 (p.tdiv b) = p.tdiv b := by
          have e1 : (p.tdiv b).natAbs = p.natAbs / b.natAbs := Int.natAbs_tdiv p b
          have e2 : p.natAbs / b.natAbs ≤ p.natAbs := Nat.div_le_self _ _
          unfold wrap64
          by_cases h2 : b.natAbs = 1
          · rcases (by omega : b = 1 ∨ b = -1) with h | h
            · subst h; simp; omega
            · subst h; simp; omega
          · have e3 : p.natAbs / b.natAbs ≤ p.natAbs / 2 := Nat.div_le_div_left (by omega) (by omega)
            omega
        rw [hin] at hc
        rw [hc, Int.mul_comm] at hq
        omega
  by_cases h2 : a = -1
  · rw [if_pos h2]
    by_cases h3 : b = -9223372036854775808
    · rw [if_pos h3, hbad, h2, h3]; rfl
    · rw [if_neg h3]
      have e : (a == -9223372036854775808) = false := beq_eq_false_iff_ne.2 (by omega)
      rw [e]
      have := hgood (by omega) (by omega)
      split <;> exact this
  · rw [if_neg h2]
    by_cases h3 : b = -1
    · rw [if_pos h3]
      by_cases h4 : a = -9223372036854775808
      · rw [beq_iff_eq.2 h4, hbad, h4, h3]; rfl
      · rw [beq_eq_false_iff_ne.2 h4]
        exact hgood (by omega) (by omega)
    · rw [if_neg h3]
      exact hgood (by omega) (by omega)

theorem refdiv_eq {a b : Int} (ha : I64 a) (hb : I64 b) : foundryref02_Div.f a b = some (if b = 0 then (0, 81) else fit (a.tdiv b)) := by
  unfold foundryref02_Div.f
  by_cases h0 : b = 0
  · rw [if_pos h0, if_pos h0]
  · rw [if_neg h0, if_neg h0]
    have hin : ¬ (a = -9223372036854775808 ∧ b = -1) → I64 (a.tdiv b) := by
      intro hs
      have e1 : (a.tdiv b).natAbs = a.natAbs / b.natAbs := Int.natAbs_tdiv a b
      have e2 : a.natAbs / b.natAbs ≤ a.natAbs := Nat.div_le_self _ _
      unfold I64 at ha hb ⊢
      by_cases h2 : b.natAbs = 1
      · rcases (by omega : b = 1 ∨ b = -1) with h | h
        · subst h; simp; omega
        · subst h; simp; omega
      · have e3 : a.natAbs / b.natAbs ≤ a.natAbs / 2 := Nat.div_le_div_left (by omega) (by omega)
        omega
    have hok : I64 (a.tdiv b) → wrap64 (a.tdiv b) = a.tdiv b := fun h => by unfold I64 at h; unfold wrap64; omega
    by_cases h1 : a = -9223372036854775808
    · rw [if_pos h1]
      by_cases h2 : b = -1
      · rw [if_pos h2, h1, h2]; rfl
      · rw [if_neg h2, hok (hin (by omega)), fit_in (hin (by omega))]
    · rw [if_neg h1, hok (hin (by omega)), fit_in (hin (by omega))]

theorem IntsReckons : foundrylaw02_IntsReckons.Pure := by
  intro a b ha hb
  have A := i64_of ha
  have B := i64_of hb
  refine ⟨12, ?_⟩
  unfold foundrylaw02_IntsReckons.f
  rw [add_eq A B, refadd_eq A B]
  simp only [Option.bind_some, if_true, bne_self_eq_false]
  rw [foundrylaw02_IntsReckons.j0, if_neg (by decide), sub_eq A B, refsub_eq A B]
  simp only [Option.bind_some, if_true, bne_self_eq_false]
  rw [foundrylaw02_IntsReckons.j1, if_neg (by decide), mul_eq A B, refmul_eq 8 A B]
  simp only [Option.bind_some, if_true, bne_self_eq_false]
  rw [foundrylaw02_IntsReckons.j2, if_neg (by decide), div_eq A B, refdiv_eq A B]
  simp only [Option.bind_some, if_true, bne_self_eq_false]
  have er : foundryref02_Rem.f a b = ints_Rem.f a b := rfl
  rw [foundrylaw02_IntsReckons.j3, if_neg (by decide), er, rem_eq]
  simp only [Option.bind_some, if_true, bne_self_eq_false]
  have ec : foundryref02_Cmp.f a b = ints_Cmp.f a b := rfl
  rw [foundrylaw02_IntsReckons.j4, if_neg (by decide), neg_eq A, refneg_eq A, ec]
  simp only [Option.bind_some, if_true]
  obtain ⟨s, hs⟩ : ∃ s, ints_Cmp.f a b = some s := by
    unfold ints_Cmp.f
    split
    · exact ⟨_, rfl⟩
    · split <;> exact ⟨_, rfl⟩
  rw [hs, live_at 2]
  simp

end Go.Proofs.YtjgccgjdonjlaaaDoor.Pure
