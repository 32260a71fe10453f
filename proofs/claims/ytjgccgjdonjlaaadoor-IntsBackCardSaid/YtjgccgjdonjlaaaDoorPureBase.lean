/-
  The plain laws' common ground: what sums, differences and products come to, and that the chapter's examples hold.
-/
import Derived.Test.YtjgccgjdonjlaaaDoorQAll4
namespace Go.Proofs.YtjgccgjdonjlaaaDoor.Pure
open Go.RowKit Go.Proofs.YtjgccgjdonjlaaaDoor.QAll Go.Proofs.YtjgccgjdonjlaaaDoorW.PrintWords Go.Proofs.YtjgccgjdonjlaaaDoorW.PrintLast
open Go.Proofs.YtjgccgjdonjlaaaDoorG
set_option linter.unusedVariables false
set_option linter.unusedSimpArgs false

def I64 (a : Int) : Prop := -9223372036854775808 ≤ a ∧ a ≤ 9223372036854775807
instance (a : Int) : Decidable (I64 a) := inferInstanceAs (Decidable (_ ∧ _))

theorem i64_of {a : Int} (h : (Lit.int .i64 a).wf = true) : I64 a := by
  simp [Lit.wf, IntKind.min, IntKind.max, IntKind.signed, IntKind.bits] at h
  unfold I64; omega

/-- a whole number, if it is one of 64 bits; else 0 and ErrRange -/
def fit (x : Int) : Int × Int := if I64 x then (x, 0) else (0, 80)

theorem fit_in {x : Int} (h : I64 x) : fit x = (x, 0) := if_pos h
theorem fit_out {x : Int} (h : ¬ I64 x) : fit x = (0, 80) := if_neg h

theorem add_eq {a b : Int} (ha : I64 a) (hb : I64 b) : ints_Add.f a b = some (fit (a + b)) := by
  by_cases h : I64 (a + b)
  · rw [fit_in h]
    unfold I64 at ha hb h
    have e : wrap64 (a + b) = a + b := by unfold wrap64; omega
    unfold ints_Add.f
    rw [e]
    repeat' split
    all_goals first | rfl | (exfalso; omega)
  · rw [fit_out h]
    unfold I64 at ha hb h
    unfold ints_Add.f wrap64
    repeat' split
    all_goals first | rfl | (exfalso; omega)

theorem sub_eq {a b : Int} (ha : I64 a) (hb : I64 b) : ints_Sub.f a b = some (fit (a - b)) := by
  by_cases h : I64 (a - b)
  · rw [fit_in h]
    unfold I64 at ha hb h
    have e : wrap64 (a - b) = a - b := by unfold wrap64; omega
    unfold ints_Sub.f
    rw [e]
    repeat' split
    all_goals first | rfl | (exfalso; omega)
  · rw [fit_out h]
    unfold I64 at ha hb h
    unfold ints_Sub.f wrap64
    repeat' split
    all_goals first | rfl | (exfalso; omega)

theorem mul_eq {a b : Int} (ha : I64 a) (hb : I64 b) : ints_Mul.f a b = some (fit (a * b)) := by
  unfold I64 at ha hb
  by_cases h : I64 (a * b)
  · rw [fit_in h]
    unfold ints_Mul.f
    rw [if_pos (by omega), if_pos (show _ ∧ _ from h)]
  · rw [fit_out h]
    unfold ints_Mul.f
    rw [if_pos (by omega), if_neg (show ¬ (_ ∧ _) from h)]

theorem neg_eq {a : Int} (ha : I64 a) : ints_Neg.f a = some (fit (-a)) := by
  unfold ints_Neg.f
  rw [sub_eq (by unfold I64; omega) ha]
  simp

theorem fit_second {x : Int} : ((fit x).2 = 0 ∧ I64 x) ∨ ((fit x).2 = 80 ∧ ¬ I64 x) := by
  by_cases h : I64 x
  · exact .inl ⟨by rw [fit_in h], h⟩
  · exact .inr ⟨by rw [fit_out h], h⟩

theorem div_eq {a b : Int} (ha : I64 a) (hb : I64 b) : ints_Div.f a b = some (if b = 0 then (0, 81) else fit (a.tdiv b)) := by
  unfold ints_Div.f
  by_cases h0 : b = 0
  · rw [if_pos h0, if_pos h0]
  · rw [if_neg h0, if_neg h0]
    by_cases h1 : b = -1
    · rw [if_pos h1, neg_eq ha, h1, show a.tdiv (-1) = -a by simp]
      rfl
    · rw [if_neg h1]
      have h : I64 (a.tdiv b) := by
        have e1 : (a.tdiv b).natAbs = a.natAbs / b.natAbs := Int.natAbs_tdiv a b
        have e2 : a.natAbs / b.natAbs ≤ a.natAbs := Nat.div_le_self _ _
        unfold I64 at ha hb ⊢
        by_cases h2 : b.natAbs = 1
        · have : b = 1 := by omega
          subst this
          simpa using ha
        · have e3 : a.natAbs / b.natAbs ≤ a.natAbs / 2 := Nat.div_le_div_left (by omega) (by omega)
          omega
      rw [fit_in h]
      have : wrap64 (a.tdiv b) = a.tdiv b := by unfold I64 at h; unfold wrap64; omega
      rw [this]

theorem rem_eq {a b : Int} : ints_Rem.f a b = some (if b = 0 then (0, 81) else (a.tmod b, 0)) := by
  unfold ints_Rem.f
  by_cases h0 : b = 0
  · rw [if_pos h0, if_pos h0]
  · rw [if_neg h0, if_neg h0]
    by_cases h1 : b = -1
    · rw [if_pos h1, h1]; simp
    · rw [if_neg h1]

theorem live_ok : foundrylaw02_live.f 5 = some true := by
  decide +kernel

theorem live_at (k : Nat) : foundrylaw02_live.f (k + 5) = some true := at_rounds foundrylaw02_live.mono (Nat.le_add_left 5 k) live_ok

end Go.Proofs.YtjgccgjdonjlaaaDoor.Pure
