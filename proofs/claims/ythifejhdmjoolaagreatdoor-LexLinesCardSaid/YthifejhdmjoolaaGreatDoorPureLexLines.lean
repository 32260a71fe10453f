/-
  LexLines, the plain law: a place's line and column, counted, are what strings.Count and LastIndexByte tell.
-/
import Derived.Test.YthifejhdmjoolaaGreatDoorQL4
namespace Go.Proofs.YthifejhdmjoolaaGreatDoor.Pure
open Go.RowKit Go.Proofs.YthifejhdmjoolaaGreatDoor.QL Go.Proofs.YthifejhdmjoolaaGreatDoorW.PrintWords Go.Proofs.YthifejhdmjoolaaGreatDoorW.PrintLast Go.Proofs.YthifejhdmjoolaaGreatDoorW.PrintMore
open Go.Proofs.YthifejhdmjoolaaGreatDoorG
set_option linter.unusedVariables false
set_option linter.unusedSimpArgs false

theorem alive_holds : foundrylaw05_alive.f 60 = some true := by decide +kernel

def pre (s : ByteArray) (m : Nat) : ByteArray := s.extract 0 m
theorem pre_list (s : ByteArray) (m : Nat) : (pre s m).data.toList = s.data.toList.take m := by
  unfold pre; rw [ByteArray.data_extract]; simp
theorem pre_at (s : ByteArray) (m i : Nat) (hm : m ≤ s.size) (hi : i < m) : ((pre s m).data[i]!) = s[i]'(by omega) := by
  unfold pre
  have h1 : i < (s.extract 0 m).data.size := by
    have : (s.extract 0 m).data.size = (s.extract 0 m).size := rfl
    rw [this, ByteArray.size_extract]; omega
  rw [getElem!_pos (s.extract 0 m).data i h1]
  simp only [ByteArray.data_extract, Array.getElem_extract, Nat.zero_add]
  rfl
theorem last_bd (p : ByteArray) (c : Int) (k : Nat) : -1 ≤ Lib.lastIdx p c k ∧ Lib.lastIdx p c k < k := by
  rcases Lib.lastIdx_spec p c k with ⟨h, _⟩ | ⟨i, h1, h2, _⟩ <;> omega
theorem bt_nat (s : ByteArray) (i : Nat) (h : i < s.size) : bt s (i : Int) = ((s[i]'h).toNat : Int) := by
  unfold bt
  rw [dif_pos (by simpa using h)]
  simp
theorem count_succ (s : ByteArray) (i : Nat) (h : i < s.size) : (s.data.toList.take (i + 1)).count (10 : UInt8) = (s.data.toList.take i).count (10 : UInt8) + if s[i] = (10 : UInt8) then 1 else 0 := by
  rw [List.take_succ_eq_append_getElem (by simpa using h), List.count_append]
  congr 1
  have e : (s.data.toList[i]'(by simpa using h)) = s[i] := by simp; rfl
  rw [e, List.count_singleton]
  by_cases c : s[i] = 10
  · simp [c]
  · simp [c]

theorem l0_lines (s : ByteArray) (m : Nat) (hs : s.size ≤ 140737488355328) (hm : m ≤ s.size) : ∀ (d i : Nat), i + d = m →
    ∃ k, foundryref05_Line.l0 k s (m : Int) (((s.data.toList.take i).count (10 : UInt8) : Nat) : Int) (Lib.lastIdx (pre s m) 10 i + 1) (i : Int) = some ((((s.data.toList.take m).count (10 : UInt8) : Nat) : Int), (m : Int) - (Lib.lastIdx (pre s m) 10 m + 1))
  | 0, i, h => by
    obtain rfl : i = m := by omega
    have := last_bd (pre s i) 10 i
    refine ⟨1, ?_⟩
    simp only [foundryref05_Line.l0]
    rw [if_neg (by omega), show wrap64 ((i : Int) - (Lib.lastIdx (pre s i) 10 i + 1)) = (i : Int) - (Lib.lastIdx (pre s i) 10 i + 1) by unfold wrap64; omega]
  | d + 1, i, h => by
    obtain ⟨k, hk⟩ := l0_lines s m hs hm d (i + 1) (by omega)
    have hi : i < s.size := by omega
    have hl := last_bd (pre s m) 10 i
    have hc := count_succ s i hi
    have hcl : (s.data.toList.take i).count (10 : UInt8) ≤ i := Nat.le_trans List.count_le_length (List.length_take_le _ _)
    have hstep : Lib.lastIdx (pre s m) 10 (i + 1) = if ((pre s m).data[i]!.toNat : Int) = 10 then (i : Int) else Lib.lastIdx (pre s m) 10 i := rfl
    rw [pre_at s m i hm (by omega)] at hstep
    refine ⟨k + 1, ?_⟩
    simp only [foundryref05_Line.l0]
    rw [if_pos (by omega), if_pos (by omega), if_pos (by omega), bt_nat s i hi, show wrap64 ((i : Int) + 1) = ((i + 1 : Nat) : Int) by unfold wrap64; omega]
    by_cases c : s[i] = (10 : UInt8)
    · have c2 : ((s[i]'hi).toNat : Int) = 10 := by rw [c]; rfl
      rw [if_pos c2] at hstep
      rw [if_pos c] at hc
      rw [hstep, hc] at hk
      rw [if_pos c2, show wrap64 ((((s.data.toList.take i).count (10 : UInt8) : Nat) : Int) + 1) = (((s.data.toList.take i).count (10 : UInt8) + 1 : Nat) : Int) by unfold wrap64; omega]
      exact hk
    · have c2 : ¬ ((s[i]'hi).toNat : Int) = 10 := by
        intro e
        exact c (UInt8.toNat_inj.1 (by have : (10 : UInt8).toNat = 10 := rfl; omega))
      rw [if_neg c2] at hstep
      rw [if_neg c] at hc
      rw [hstep, hc] at hk
      rw [if_neg c2]
      exact hk

/-- YOURS: ∀ (a0 : ByteArray) (a1 : Int), a0.size ≤ 140737488351232 → (Lit.int .i64 a1).wf = true → ∃ k, foundrylaw05_LexLines.f k a0 a1 = some true -/
theorem LexLines : foundrylaw05_LexLines.Pure := by
  intro s at_ hs hw
  obtain ⟨m, hm0, hm⟩ : ∃ m : Nat, mn (mx at_ 0) (s.size : Int) = (m : Int) ∧ m ≤ s.size := by
    refine ⟨(mn (mx at_ 0) (s.size : Int)).toNat, ?_, ?_⟩ <;> (unfold mn mx; split <;> split <;> omega)
  obtain ⟨k, hk⟩ := l0_lines s m (by omega) hm m 0 (by omega)
  have hk2 : foundryref05_Line.f (k + 2) s at_ = some ((((s.data.toList.take m).count (10 : UInt8) : Nat) : Int), (m : Int) - (Lib.lastIdx (pre s m) 10 m + 1)) := by
    have e0 : ((List.take 0 s.data.toList).count (10 : UInt8) : Nat) = 0 := rfl
    have e1 : Lib.lastIdx (pre s m) 10 0 + 1 = 0 := rfl
    rw [e0, e1] at hk
    have fin : ∀ x : Int, x = (m : Int) → foundryref05_Line.j1 (k + 1) s x = some ((((s.data.toList.take m).count (10 : UInt8) : Nat) : Int), (m : Int) - (Lib.lastIdx (pre s m) 10 m + 1)) := by
      intro x hx
      subst hx
      simp only [foundryref05_Line.j1]
      exact hk
    unfold foundryref05_Line.f
    simp only [foundryref05_Line.j0]
    unfold mn mx at hm0
    by_cases c1 : at_ < 0
    · rw [if_pos c1, if_neg (by omega)]
      exact fin _ (by split at hm0 <;> first | omega | (split at hm0 <;> omega))
    · rw [if_neg c1]
      by_cases c2 : at_ > (s.size : Int)
      · rw [if_pos c2]
        exact fin _ (by split at hm0 <;> first | omega | (split at hm0 <;> omega))
      · rw [if_neg c2]
        exact fin _ (by split at hm0 <;> first | omega | (split at hm0 <;> omega))
  have hl : lex_Line.f s at_ = some ((((s.data.toList.take m).count (10 : UInt8) : Nat) : Int), (m : Int) - (Lib.lastIdx (pre s m) 10 m + 1)) := by
    unfold lex_Line.f
    have hz : (pre s m).size = m := by unfold pre; rw [ByteArray.size_extract]; omega
    have hb := last_bd (pre s m) 10 m
    rw [hm0, if_pos (by omega), if_pos (by omega), Int.toNat_natCast]
    show ((strings_Count.f (pre s m) ⟨#[10]⟩).bind fun t178 => ((strings_LastIndexByte.f (pre s m) 10).bind fun t179 => (some (t178, wrap64 ((wrap64 (((pre s m).size : Int) - 1)) - t179))))) = _
    unfold strings_Count.f strings_LastIndexByte.f
    rw [if_pos (by rfl), Option.bind_some, if_pos (by omega), Option.bind_some, pre_list]
    unfold Lib.lastIndexByte Lib.countByte
    rw [hz]
    congr 2
    unfold wrap64
    omega
  have ha := at_rounds (fun k => foundrylaw05_alive.mono k) (show 60 ≤ k + 62 by omega) alive_holds
  have hk3 := at_rounds (fun k => foundryref05_Line.mono s at_ k) (show k + 2 ≤ k + 62 by omega) hk2
  refine ⟨k + 62, ?_⟩
  unfold foundrylaw05_LexLines.f
  rw [hl, Option.bind_some, hk3, Option.bind_some, if_pos rfl, if_pos rfl, ha]
  rfl
end Go.Proofs.YthifejhdmjoolaaGreatDoor.Pure
