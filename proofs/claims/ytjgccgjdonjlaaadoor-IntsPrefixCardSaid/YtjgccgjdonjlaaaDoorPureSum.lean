/-
  What ints.Sum and the reference's Sum come to: a plain function of the list.
-/
import Derived.Test.YtjgccgjdonjlaaaDoorPureBase
import Derived.Test.YtjgccgjdonjlaaaDoorQAll5
namespace Go.Proofs.YtjgccgjdonjlaaaDoor.Pure
open Go.RowKit Go.Proofs.YtjgccgjdonjlaaaDoor.QAll Go.Proofs.YtjgccgjdonjlaaaDoorW.PrintWords Go.Proofs.YtjgccgjdonjlaaaDoorW.PrintLast
open Go.Proofs.YtjgccgjdonjlaaaDoorG
set_option linter.unusedVariables false
set_option linter.unusedSimpArgs false

/-- the sum from place i on, over what was reckoned so far -/
def sumS (acc : Int) : List Int → Int → Int × Int × Int
  | [], _ => (acc, 0, 0)
  | x :: r, i => if I64 (acc + x) then sumS (acc + x) r (i + 1) else (0, i, 80)

theorem wrap_up {i : Int} (h0 : 0 ≤ i) (h : i < 17592186044416) : wrap64 (i + 1) = i + 1 := by unfold wrap64; omega

theorem drop_rd (l : List Int) (i : Int) (h0 : 0 ≤ i) (h : i < l.length) : l.drop i.toNat = rd l i :: l.drop (i + 1).toNat := by
  have e : (i + 1).toNat = i.toNat + 1 := by omega
  have hl : i.toNat < l.length := by omega
  rw [e, List.drop_eq_getElem_cons hl]
  unfold rd
  rw [List.getD_eq_getElem?_getD, List.getElem?_eq_getElem hl]; rfl

theorem rd_mem (l : List Int) (i : Int) (h0 : 0 ≤ i) (h : i < l.length) : rd l i ∈ l := by
  have hl : i.toNat < l.length := by omega
  unfold rd
  rw [List.getD_eq_getElem?_getD, List.getElem?_eq_getElem hl]
  exact List.getElem_mem hl

theorem sum_loop (l : List Int) (hl : l.length < 17592186044416) (hw : ∀ x ∈ l, I64 x) (d : Nat) : ∀ (k : Nat) (acc i : Int), I64 acc → 0 ≤ i → i ≤ l.length → (l.length : Int) - i = d → d < k →
    ints_Sum.l0 k acc l (l.length : Int) i = some (sumS acc (l.drop i.toNat) i) := by
  induction d with
  | zero =>
    intro k acc i ha h0 h1 hd hk
    obtain ⟨k, rfl⟩ : ∃ m, k = m + 1 := ⟨k - 1, by omega⟩
    rw [ints_Sum.l0, if_neg (by omega), List.drop_of_length_le (by omega), sumS]
  | succ d ih =>
    intro k acc i ha h0 h1 hd hk
    obtain ⟨k, rfl⟩ : ∃ m, k = m + 1 := ⟨k - 1, by omega⟩
    have hlt : i < (l.length : Int) := by omega
    rw [ints_Sum.l0, if_pos hlt, if_pos h0, if_pos hlt, add_eq ha (hw _ (rd_mem l i h0 hlt)), drop_rd l i h0 hlt, sumS]
    simp only [Option.bind_some]
    by_cases hf : I64 (acc + rd l i)
    · rw [fit_in hf, if_pos hf, if_pos rfl, wrap_up h0 (by omega)]
      exact ih k _ (i + 1) hf (by omega) (by omega) (by omega) (by omega)
    · rw [fit_out hf, if_neg hf, if_neg (by decide)]

theorem sum_eq (l : List Int) (hl : l.length < 17592186044416) (hw : ∀ x ∈ l, I64 x) {k : Nat} (hk : l.length < k) : ints_Sum.f k l = some (sumS 0 l 0) := by
  unfold ints_Sum.f
  rw [sum_loop l hl hw l.length k 0 0 (by decide) (by omega) (by omega) (by omega) hk]
  rfl

theorem refadd_eq {a b : Int} (ha : I64 a) (hb : I64 b) : foundryref02_Add.f a b = some (fit (a + b)) := by
  by_cases h : I64 (a + b)
  · rw [fit_in h]
    unfold I64 at ha hb h
    unfold foundryref02_Add.f
    have e : wrap64 (a + b) = a + b := by unfold wrap64; omega
    rw [e]
    unfold wrap64
    repeat' split
    all_goals first | rfl | (exfalso; omega)
  · rw [fit_out h]
    unfold I64 at ha hb h
    unfold foundryref02_Add.f wrap64
    repeat' split
    all_goals first | rfl | (exfalso; omega)

theorem refsum_loop (l : List Int) (hl : l.length < 17592186044416) (hw : ∀ x ∈ l, I64 x) (d : Nat) : ∀ (k : Nat) (acc i : Int), I64 acc → 0 ≤ i → i ≤ l.length → (l.length : Int) - i = d → d < k →
    foundryref02_Sum.l0 k l acc i = some (sumS acc (l.drop i.toNat) i) := by
  induction d with
  | zero =>
    intro k acc i ha h0 h1 hd hk
    obtain ⟨k, rfl⟩ : ∃ m, k = m + 1 := ⟨k - 1, by omega⟩
    rw [foundryref02_Sum.l0, if_neg (by omega), List.drop_of_length_le (by omega), sumS]
  | succ d ih =>
    intro k acc i ha h0 h1 hd hk
    obtain ⟨k, rfl⟩ : ∃ m, k = m + 1 := ⟨k - 1, by omega⟩
    have hlt : i < (l.length : Int) := by omega
    rw [foundryref02_Sum.l0, if_pos hlt, if_pos h0, refadd_eq ha (hw _ (rd_mem l i h0 hlt)), drop_rd l i h0 hlt, sumS]
    simp only [Option.bind_some]
    by_cases hf : I64 (acc + rd l i)
    · rw [fit_in hf, if_pos hf, if_pos rfl, wrap_up h0 (by omega)]
      exact ih k _ (i + 1) hf (by omega) (by omega) (by omega) (by omega)
    · rw [fit_out hf, if_neg hf, if_neg (by decide)]

theorem refsum_eq (l : List Int) (hl : l.length < 17592186044416) (hw : ∀ x ∈ l, I64 x) {k : Nat} (hk : l.length < k) : foundryref02_Sum.f k l = some (sumS 0 l 0) := by
  unfold foundryref02_Sum.f
  rw [refsum_loop l hl hw l.length k 0 0 (by decide) (by omega) (by omega) (by omega) hk]
  rfl

end Go.Proofs.YtjgccgjdonjlaaaDoor.Pure
