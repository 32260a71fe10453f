/-
  There and back: a number's text is read as the number, and what is read is the one text of its number: the plain law behind IntsBack; no condition of its own.
-/
import Derived.Test.YtjgccgjdonjlaaaDoorPureIntsReads
import Derived.Test.YtjgccgjdonjlaaaDoorQAll3
namespace Go.Proofs.YtjgccgjdonjlaaaDoor.Pure
open Go.RowKit Go.Proofs.YtjgccgjdonjlaaaDoor.QAll Go.Proofs.YtjgccgjdonjlaaaDoorW.PrintWords Go.Proofs.YtjgccgjdonjlaaaDoorW.PrintLast
open Go Go.Proofs.YtjgccgjdonjlaaaDoorG
set_option linter.unusedVariables false
set_option linter.unusedSimpArgs false

theorem head_no_minus (n : Nat) : (Lib.decDigits n).getD 0 0 ≠ 45 := by
  obtain ⟨h1, h2, _, _⟩ := decDigits_tells n
  intro e
  cases hd : Lib.decDigits n with
  | nil => exact h2 hd
  | cons c r =>
    rw [hd] at e h1
    have : c = 45 := e
    have := h1 c (List.mem_cons_self ..)
    rw [‹c = 45›] at this
    exact absurd this.1 (by decide)

theorem read_itoa {v : Int} (hv : I64 v) : readS (Lib.itoa v) = (v, 0, 0) := by
  unfold I64 at hv
  unfold readS Lib.itoa natS
  by_cases hn : v < 0
  · rw [if_pos hn, if_pos (by rfl)]
    simp only [List.drop_succ_cons, List.drop_zero]
    rw [dig_decDigits, if_pos (show v.natAbs ≤ 9223372036854775808 by omega)]
    simp only [if_true]
    rw [if_neg (by omega)]
    congr 1; omega
  · rw [if_neg hn, if_neg (head_no_minus _), dig_decDigits, if_pos (by omega)]
    congr 1; omega

theorem nat_itoa {v : Int} (hv : I64 v) : (0 ≤ v → natS (Lib.itoa v) = (v, 0, 0)) ∧ (v < 0 → (natS (Lib.itoa v)).2.2 ≠ 0) := by
  unfold I64 at hv
  constructor
  · intro h
    unfold natS Lib.itoa
    rw [if_neg (by omega), dig_decDigits, if_pos (by omega)]
    congr 1; omega
  · intro h
    unfold natS Lib.itoa
    rw [if_pos h]
    intro e
    obtain ⟨v2, a2, e2⟩ : ∃ v2 a2, dig 9223372036854775807 (45 :: Lib.decDigits v.natAbs) = (v2, a2, 0) := ⟨_, _, by rw [← e]⟩
    have := (dig_ok _ _ _ _ e2).2.2.2
    have h3 := head_no_minus v2.toNat
    rw [this] at h3
    exact h3 rfl

theorem read_ok (l : List UInt8) (x a : Int) (h : readS l = (x, a, 0)) : a = 0 ∧ I64 x ∧ Lib.itoa x = l := by
  unfold readS at h
  by_cases hm : l.getD 0 0 = 45
  · rw [if_pos hm] at h
    have hl : l = 45 :: l.drop 1 := by
      cases l with
      | nil => exact absurd hm (by decide)
      | cons c r => have : c = 45 := hm; rw [this]; rfl
    generalize hD : dig 9223372036854775808 (l.drop 1) = D at h
    obtain ⟨v, b, e⟩ := D
    simp only at h
    by_cases he : e = 0
    · rw [if_pos he] at h
      subst he
      obtain ⟨h1, h2, h3, h4⟩ := dig_ok _ _ _ _ hD
      by_cases hv : v = 0
      · rw [if_pos hv] at h; simp at h
      · rw [if_neg hv] at h
        simp only [Prod.mk.injEq] at h
        obtain ⟨rfl, rfl, _⟩ := h
        refine ⟨rfl, by unfold I64; omega, ?_⟩
        unfold Lib.itoa
        rw [if_pos (by omega), hl, ← h4]
        congr 2; omega
    · rw [if_neg he] at h
      simp only [Prod.mk.injEq] at h
      exact absurd h.2.2 he
  · rw [if_neg hm] at h
    unfold natS at h
    obtain ⟨h1, h2, h3, h4⟩ := dig_ok _ _ _ _ h
    refine ⟨h1, by unfold I64; omega, ?_⟩
    unfold Lib.itoa
    rw [if_neg (by omega), h4]

theorem read_no (l : List UInt8) (h : (readS l).2.2 ≠ 0) : (readS l).1 = 0 ∧ 0 ≤ (readS l).2.1 ∧ (readS l).2.1 ≤ l.length := by
  unfold readS at h ⊢
  by_cases hm : l.getD 0 0 = 45
  · rw [if_pos hm] at h ⊢
    have hl : 1 ≤ l.length := by
      cases l with
      | nil => exact absurd hm (by decide)
      | cons c r => simp
    have hp := dig_place 9223372036854775808 (l.drop 1)
    generalize hD : dig 9223372036854775808 (l.drop 1) = D at h hp ⊢
    obtain ⟨v, b, e⟩ := D
    simp only at h hp ⊢
    by_cases he : e = 0
    · rw [if_pos he] at h ⊢
      by_cases hv : v = 0
      · rw [if_pos hv]; simp; omega
      · rw [if_neg hv] at h; simp at h
    · rw [if_neg he] at h ⊢
      have := hp he
      rw [List.length_drop] at this
      simp; omega
  · rw [if_neg hm] at h ⊢
    exact dig_place _ _ h

theorem itoa_small {v : Int} (hv : I64 v) : (Lib.itoa v).length ≤ 22 := by
  unfold I64 at hv
  unfold Lib.itoa
  split
  · have := itoa_len 20 v.natAbs (by omega)
    simp; omega
  · have := itoa_len 20 v.toNat (by omega)
    omega

theorem IntsBack : foundrylaw02_IntsBack.Pure := by
  intro v s hv hs
  have V := i64_of hv
  refine ⟨12, ?_⟩
  have hz : (⟨(Lib.itoa v).toArray⟩ : ByteArray).size ≤ 140737488351232 := by
    have := itoa_small V
    show (Lib.itoa v).length ≤ _
    omega
  unfold foundrylaw02_IntsBack.f
  rw [live_at 7, dec_eq V]
  simp only [Option.bind_some, if_true]
  rw [read_eq _ hz 10]
  simp only [Option.bind_some]
  rw [read_itoa V]
  simp only [if_true, bne_self_eq_false]
  rw [foundrylaw02_IntsBack.j0, if_neg (by decide), dec_eq V]
  simp only [Option.bind_some]
  rw [nat_eq _ hz 10]
  simp only [Option.bind_some]
  have hend : foundrylaw02_IntsBack.j1 11 s false = some true := by
    rw [foundrylaw02_IntsBack.j1, if_neg (by decide), read_eq s hs 8]
    simp only [Option.bind_some]
    by_cases he : (readS s.data.toList).2.2 = 0
    · rw [if_pos he]
      obtain ⟨h1, h2, h3⟩ := read_ok s.data.toList (readS s.data.toList).1 (readS s.data.toList).2.1 (by rw [← he])
      rw [dec_eq h2]
      simp only [Option.bind_some]
      rw [if_pos (by rw [ByteArray.toList_eq, ByteArray.toList_eq]; exact h3), h1]
      rfl
    · rw [if_neg he]
      obtain ⟨h1, h2, h3⟩ := read_no _ he
      rw [len_size] at h3
      rw [if_pos h1, if_pos h2, if_pos h3]
  by_cases h : 0 ≤ v
  · rw [(nat_itoa V).1 h]
    simp only [if_true, bne_self_eq_false]
    rw [if_pos h]; exact hend
  · rw [if_neg ((nat_itoa V).2 (by omega)), if_neg h]; exact hend

end Go.Proofs.YtjgccgjdonjlaaaDoor.Pure
