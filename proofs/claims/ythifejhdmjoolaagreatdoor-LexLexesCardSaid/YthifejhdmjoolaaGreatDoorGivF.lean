/-
  strconv.FormatFloat at the precision -1 and 64 bits: a buffer of the call's own, what ftoa64 appends to it, the string of it.
-/
import Derived.Test.YthifejhdmjoolaaGreatDoorQFx3
import Derived.Laws.MakeOwn
namespace Go.Proofs.YthifejhdmjoolaaGreatDoorG
open Go Go.RowKit Go.Proofs.YthifejhdmjoolaaGreatDoorW.PrintWords Go.Proofs.YthifejhdmjoolaaGreatDoorW.PrintLast Go.Proofs.YthifejhdmjoolaaGreatDoorW.PrintMore
attribute [local go_sem] max2_int min2_int max_two min_two max_three min_three max_four min_four
set_option linter.unusedVariables false
set_option linter.unusedSimpArgs false

theorem info5 : (Tryz.prog.info? 5).map (fun i => (i.zero, i.size, i.bytes)) = some (some (.int .u8 0), 1, 1) := by kernel_rfl

set_option maxRecDepth 100000 in
set_option maxHeartbeats 1000000 in
theorem format_core (k : Nat) (a0 : Nat) (a1 : Int) (r : List Int) (w : World) (h : YthifejhdmjoolaaGreatDoor.QFx.strconv_ftoa64.f k [] a0 a1 (-1) = some r) :
    Calls Tryz.prog 60 #[.float .f64 a0, .int .u8 a1, .int .i64 (-1), .int .i64 64] w fun e w' => e = .returned (.string (strOfNums r)) ∧ Below w.heap.size w w' := by
  obtain ⟨i, hi, hi'⟩ := Option.map_eq_some_iff.mp info5
  simp only [Prod.mk.injEq] at hi'
  obtain ⟨hz, hs, hb⟩ := hi'
  obtain ⟨w1, hmk, hown, hgr⟩ := run_make_own (P := Tryz.prog) w w.heap.size 82 5 i (.int .u8 0) 1 Tryz.underlying82 hi hz hs .i64 .i64 24 (by rw [hb]; decide) (by decide) (Nat.le_refl _)
  clear hi hz hs hb
  rw [show ((24 : Nat) : Int) = 24 from rfl] at hmk
  have hB : Below w.heap.size w w1 := (Below.refl _ w).grown hgr (Nat.le_refl _) (by simp)
  have ho : Kd.R (Kd.int .u8) 5 w1 w.heap.size (fun _ => True) (.slice (some ⟨w.heap.size, 0, none⟩) 0 24) [] := ⟨fun _ _ => trivial, [], hown, Reps.none _ _⟩
  have HC := Aside0.mk (YthifejhdmjoolaaGreatDoor.QFx.strconv_ftoa64.calls k (fun _ => True) _ [] a0 a1 (-1) r w w1 hB ho h)
  clear h ho hown hB hgr
  go_enter Tryz.func60, Tryz.ntmps60
  go_wp2_with (first | rw [hmk] | (go_at_call 93; refine Calls.mono HC.out ?_; rintro e w' ⟨v0, rfl, hR, hBel, hK⟩; have hcv := own_string (P := Tryz.prog) Tryz.underlying82 Tryz.underlying5 Tryz.underlying9 (Kd.own_of_R hR)) | rw [hcv])
  go_ret
  exact ⟨rfl, hBel⟩

def strconv_FormatFloat.f (k : Nat) (a0 : Nat) (a1 a2 a3 : Int) : Option ByteArray :=
  if a2 = -1 ∧ a3 = 64 then (YthifejhdmjoolaaGreatDoor.QFx.strconv_ftoa64.f k [] a0 a1 (-1)).map strOfNums else none

theorem strconv_FormatFloat.mono : ∀ a0 a1 a2 a3 k, LeO (strconv_FormatFloat.f k a0 a1 a2 a3) (strconv_FormatFloat.f (k + 1) a0 a1 a2 a3) := by
  intro a0 a1 a2 a3 k r h
  unfold strconv_FormatFloat.f at *
  split at h
  · rename_i c
    rw [if_pos c]
    obtain ⟨z, hz, e⟩ := Option.map_eq_some_iff.mp h
    exact Option.map_eq_some_iff.mpr ⟨z, YthifejhdmjoolaaGreatDoor.QFx.strconv_ftoa64.mono _ _ _ _ k z hz, e⟩
  · cases h

theorem strconv_FormatFloat.calls (k : Nat) (a0 : Nat) (a1 a2 a3 : Int) (r : ByteArray) (w : World) (h : strconv_FormatFloat.f k a0 a1 a2 a3 = some r) :
    Calls Tryz.prog 35 #[.float .f64 a0, .int .u8 a1, .int .i64 a2, .int .i64 a3] w fun e w' => e = .returned (.string r) ∧ Below w.heap.size w w' := by
  unfold strconv_FormatFloat.f at h
  split at h
  · rename_i c
    obtain ⟨rfl, rfl⟩ := c
    obtain ⟨z, hz, rfl⟩ := Option.map_eq_some_iff.mp h
    have HC := Aside0.mk (format_core k a0 a1 z w hz)
    clear h hz
    go_enter Tryz.func35, Tryz.ntmps35
    go_wp2_with (go_at_call 60; refine Calls.mono HC.out ?_; rintro e w' ⟨rfl, hBel⟩)
    go_ret
    exact ⟨rfl, hBel⟩
  · cases h
end Go.Proofs.YthifejhdmjoolaaGreatDoorG
