/-
  The sum of a list is the reference's: the plain law behind IntsSums; no condition of its own.
-/
import Derived.Test.YtjgccgjdonjlaaaDoorPureSum
namespace Go.Proofs.YtjgccgjdonjlaaaDoor.Pure
open Go.RowKit Go.Proofs.YtjgccgjdonjlaaaDoor.QAll Go.Proofs.YtjgccgjdonjlaaaDoorW.PrintWords Go.Proofs.YtjgccgjdonjlaaaDoorW.PrintLast
open Go.Proofs.YtjgccgjdonjlaaaDoorG
set_option linter.unusedVariables false
set_option linter.unusedSimpArgs false

theorem sums_loop (l : List Int) (hl : l.length < 17592186044416) (a b c : Int) (d : Nat) : ∀ (k : Nat) (i : Int), 0 ≤ i → i ≤ l.length → (l.length : Int) - i = d → d + 5 < k →
    foundrylaw02_IntsSums.l0 k l l a b c a b c i = some true := by
  induction d with
  | zero =>
    intro k i h0 h1 hd hk
    obtain ⟨k, rfl⟩ : ∃ m, k = m + 5 + 1 := ⟨k - 6, by omega⟩
    rw [foundrylaw02_IntsSums.l0, if_neg (by omega), if_pos rfl, if_pos rfl, if_pos rfl, live_at]
    rfl
  | succ d ih =>
    intro k i h0 h1 hd hk
    obtain ⟨k, rfl⟩ : ∃ m, k = m + 1 := ⟨k - 1, by omega⟩
    have hlt : i < (l.length : Int) := by omega
    rw [foundrylaw02_IntsSums.l0, if_pos hlt, if_pos h0, if_pos hlt, if_pos rfl, wrap_up h0 (by omega)]
    exact ih k (i + 1) (by omega) (by omega) (by omega) (by omega)

theorem IntsSums : foundrylaw02_IntsSums.Pure := by
  intro l _ hl hw
  have hl2 : l.length < 17592186044416 := by omega
  have hw2 : ∀ x ∈ l, I64 x := fun x hx => i64_of (hw x hx)
  refine ⟨l.length + 10, ?_⟩
  unfold foundrylaw02_IntsSums.f
  simp only [Option.bind_some, List.nil_append, List.length_nil, Nat.zero_add]
  rw [if_pos hl2, sum_eq l hl2 hw2 (by omega), refsum_eq l hl2 hw2 (by omega)]
  simp only [Option.bind_some]
  exact sums_loop l hl2 _ _ _ l.length _ 0 (by omega) (by omega) (by omega) (by omega)

end Go.Proofs.YtjgccgjdonjlaaaDoor.Pure
