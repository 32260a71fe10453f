import Derived.Test.YtbhgpegcdiohlaaGreatDoorTrN
import Derived.WalkKit
namespace Go.Proofs.YtbhgpegcdiohlaaGreatDoor.Tr
open Go Go.RowKit Go.Proofs
set_option linter.unusedVariables false
theorem wpOp_doP {P : Program} {ops : Array Oper} {Q : Exit → Act → World → Prop} {i : Nat} {o : Oper} {a : Act} {w : World} {I : Act → World → Prop} (ho : ops[i]? = some o) (hw : Region.wanted o (yielded ops a.tmps) = true) (h : ∀ K : Act → World → Prop, (∀ a' w', I a' w' → K a' w') → o.wp P a w K Q) : wpOp P ops Q i I a w := by
  unfold wpOp
  rw [ho]
  simp only [hw, if_true]
  exact .inl (h I fun _ _ x => x)
theorem gneP {L : Array Bool} {i j : Nat} (h : i ≠ j) : (L.setIfInBounds i true).getD j false = L.getD j false := getD_set_ne false h
theorem geqP {L : Array Bool} {i : Nat} (h : i < L.size) : (L.setIfInBounds i true).getD i false = true := by simp [h]
theorem hac_ofP {ops : Array Oper} (h : (List.range ops.size).all (fun i => match ops[i]? with | some o => o.after.all (fun e => decide (e.on < i)) | none => true) = true) : ∀ (i : Nat) (o : Oper), ops[i]? = some o → ∀ e ∈ o.after, e.on < i := by
  intro i o ho e he
  have hi := (Array.getElem?_eq_some_iff.1 ho).1
  have := List.all_eq_true.1 h i (List.mem_range.2 hi)
  rw [ho] at this
  have := Array.all_eq_true_iff_forall_mem.1 this e he
  exact of_decide_eq_true this
theorem nofP {L : Array Bool} {i : Nat} (h : L.getD i true = false) : ¬ L.getD i false = true := by
  intro g
  rcases Nat.lt_or_ge i L.size with hlt | hge
  · simp [hlt] at h g; rw [h] at g; cases g
  · simp [hge] at h
end Go.Proofs.YtbhgpegcdiohlaaGreatDoor.Tr
