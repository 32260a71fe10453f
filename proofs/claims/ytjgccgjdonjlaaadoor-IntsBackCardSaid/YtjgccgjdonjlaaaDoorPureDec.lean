/-
  Decimal texts: what their digits mean, that a number's text means it, and that it is the only one: plain lists of bytes, no program.
-/
import Derived.Test.YtjgccgjdonjlaaaDoorGivD
import Derived.Lib.ItoaNum
namespace Go.Proofs.YtjgccgjdonjlaaaDoor.Pure
open Go Go.Proofs.YtjgccgjdonjlaaaDoorG
set_option linter.unusedVariables false
set_option linter.unusedSimpArgs false

/-- what digits mean, behind acc -/
def dstep (a : Nat) (c : UInt8) : Nat := 10 * a + (c.toNat - 48)
def dval (acc : Nat) (l : List UInt8) : Nat := l.foldl dstep acc
theorem dval_nil (acc : Nat) : dval acc [] = acc := rfl
theorem dval_cons (acc : Nat) (c : UInt8) (r : List UInt8) : dval acc (c :: r) = dval (10 * acc + (c.toNat - 48)) r := by
  simp only [dval, List.foldl_cons, dstep]

def Dig (l : List UInt8) : Prop := ∀ c ∈ l, 48 ≤ c.toNat ∧ c.toNat ≤ 57

theorem val_ge : ∀ (l : List UInt8) (acc : Nat), acc ≤ dval acc l
  | [], acc => Nat.le_refl _
  | c :: r, acc => by have := val_ge r (10 * acc + (c.toNat - 48)); rw [dval_cons]; omega

theorem val_snoc (c : UInt8) (l : List UInt8) (acc : Nat) : dval acc (l ++ [c]) = 10 * dval acc l + (c.toNat - 48) := by
  unfold dval; rw [List.foldl_append]; rfl

theorem bad_none : ∀ (l : List UInt8) (i : Nat), bad l i = none ↔ Dig l
  | [], i => by simp [bad, Dig]
  | c :: r, i => by
    rw [bad]
    by_cases h : 48 ≤ c.toNat ∧ c.toNat ≤ 57
    · rw [if_pos h, bad_none r (i + 1)]
      constructor
      · intro hr x hx
        rcases List.mem_cons.1 hx with e | e
        · rw [e]; exact h
        · exact hr x e
      · intro hr x hx; exact hr x (List.mem_cons_of_mem _ hx)
    · rw [if_neg h]
      constructor
      · intro e; cases e
      · intro hr; exact absurd (hr c (List.mem_cons_self ..)) h

theorem bad_some : ∀ (l : List UInt8) (i j : Nat), bad l i = some j → i ≤ j ∧ j < i + l.length
  | [], i, j, h => by simp [bad] at h
  | c :: r, i, j, h => by
    rw [bad] at h
    split at h
    · have := bad_some r (i + 1) j h; simp; omega
    · obtain rfl := Option.some.inj h; simp

theorem parseM : ∀ (l : List UInt8), Dig l → ∀ acc, acc ≤ 18446744073709551615 →
    Lib.parseUintM (2 ^ 64 - 1) acc l = if dval acc l ≤ 18446744073709551615 then .ok (dval acc l) else .range
  | [], _, acc, ha => by rw [Lib.parseUintM, dval_nil, if_pos ha]
  | c :: r, h, acc, ha => by
    have hc := h c (List.mem_cons_self ..)
    have hr : Dig r := fun x hx => h x (List.mem_cons_of_mem _ hx)
    have hg := val_ge r (10 * acc + (c.toNat - 48))
    rw [Lib.parseUintM, if_pos hc, dval_cons]
    by_cases h1 : 1844674407370955162 ≤ acc
    · rw [if_pos h1, if_neg (by omega)]
    · rw [if_neg h1]
      by_cases h2 : 2 ^ 64 - 1 < acc * 10 + (c.toNat - 48)
      · rw [if_pos h2, if_neg (by omega)]
      · rw [if_neg h2, Nat.mul_comm acc 10]
        exact parseM r hr _ (by omega)

/-- what a text of digits is read as, where numbers may go up to most -/
def dig (most : Nat) (l : List UInt8) : Int × Int × Int :=
  if l = [] then (0, 0, 10)
  else match bad l 0 with
    | some i => (0, i, 10)
    | none => if 1 < l.length ∧ l.getD 0 0 = 48 then (0, 0, 10) else if dval 0 l ≤ most then (dval 0 l, 0, 0) else (0, 0, 80)

theorem digits_eq (s : ByteArray) (hs : s.size ≤ 140737488355328) : ints_digits.f s = some (dig 18446744073709551615 s.data.toList) := by
  have hl : s.data.toList.length = s.size := by simp
  unfold ints_digits.f dig
  rw [if_pos hs]
  by_cases h0 : s.size = 0
  · rw [if_pos h0, if_pos (List.length_eq_zero_iff.1 (by omega))]
  · rw [if_neg h0, if_neg (show ¬ s.data.toList = [] from fun e => h0 (by rw [← hl, e]; rfl))]
    cases hb : bad s.data.toList 0 with
    | some i => rfl
    | none =>
      simp only []
      rw [hl]
      by_cases hz : 1 < s.size ∧ s.data.toList.getD 0 0 = 48
      · rw [if_pos hz, if_pos hz]
      · rw [if_neg hz, if_neg hz]
        unfold digitsTail Lib.parseUintB
        rw [if_neg (show ¬ s.data.toList = [] from fun e => h0 (by rw [← hl, e]; rfl)), parseM _ ((bad_none _ 0).1 hb) 0 (by omega)]
        by_cases hv : dval 0 s.data.toList ≤ 18446744073709551615
        · rw [if_pos hv, if_pos hv]
        · rw [if_neg hv, if_neg hv]

/-! ### the text of a number -/

theorem decDigits_small {n : Nat} (h : n < 10) : Lib.decDigits n = [UInt8.ofNat (48 + n)] := by rw [Lib.decDigits, dif_pos h]
theorem decDigits_big {n : Nat} (h : ¬ n < 10) : Lib.decDigits n = Lib.decDigits (n / 10) ++ [UInt8.ofNat (48 + n % 10)] := by rw [Lib.decDigits, dif_neg h]

theorem byte_of {d : Nat} (h : d < 10) : (UInt8.ofNat (48 + d)).toNat = 48 + d := by
  rw [UInt8.toNat_ofNat']; exact Nat.mod_eq_of_lt (by omega)

/-- A number's text: digits, not none, without a leading nought, and it means the number. -/
theorem decDigits_tells (n : Nat) : Dig (Lib.decDigits n) ∧ Lib.decDigits n ≠ [] ∧ dval 0 (Lib.decDigits n) = n ∧ (0 < n → (Lib.decDigits n).getD 0 0 ≠ 48) := by
  induction n using Nat.strongRecOn with
  | _ n ih =>
    by_cases h : n < 10
    · rw [decDigits_small h]
      refine ⟨?_, by simp, ?_, ?_⟩
      · intro c hc
        rw [List.mem_singleton.1 hc, byte_of h]; omega
      · rw [dval_cons, dval_nil, byte_of h]; omega
      · intro h0 e
        have : (UInt8.ofNat (48 + n)).toNat = 48 := by
          have e2 : UInt8.ofNat (48 + n) = 48 := e
          rw [e2]; rfl
        rw [byte_of h] at this; omega
    · rw [decDigits_big h]
      obtain ⟨h1, h2, h3, h4⟩ := ih (n / 10) (by omega)
      have hm : n % 10 < 10 := Nat.mod_lt _ (by decide)
      refine ⟨?_, by simp, ?_, ?_⟩
      · intro c hc
        rcases List.mem_append.1 hc with e | e
        · exact h1 c e
        · rw [List.mem_singleton.1 e, byte_of hm]; omega
      · rw [val_snoc, h3, byte_of hm]; omega
      · intro _
        have := h4 (by omega)
        rw [List.getD_eq_getElem?_getD] at this ⊢
        rw [List.getElem?_append_left (by cases hd : Lib.decDigits (n / 10) with | nil => exact absurd hd h2 | cons => simp)]
        exact this

theorem val_pos : ∀ (l : List UInt8), l ≠ [] → Dig l → l.getD 0 0 ≠ 48 → 0 < dval 0 l
  | [], h, _, _ => absurd rfl h
  | c :: r, _, hd, h0 => by
    have hc := hd c (List.mem_cons_self ..)
    have hg := val_ge r (10 * 0 + (c.toNat - 48))
    rw [dval_cons]
    have : c.toNat ≠ 48 := by
      intro e
      apply h0
      show c = 48
      exact UInt8.toNat_inj.1 e
    omega

/-- The text that means a number, without a leading nought, is the number's text. -/
theorem decDigits_unique : ∀ (m : Nat) (l : List UInt8), l.length = m → l ≠ [] → Dig l → ¬ (1 < l.length ∧ l.getD 0 0 = 48) → Lib.decDigits (dval 0 l) = l
  | 0, l, hm, h0, _, _ => absurd (List.length_eq_zero_iff.1 hm) h0
  | m + 1, l, hm, h0, hd, hz => by
    obtain ⟨r, c, rfl⟩ : ∃ r c, l = r ++ [c] := ⟨l.dropLast, l.getLast h0, (List.dropLast_concat_getLast h0).symm⟩
    have hc := hd c (by simp)
    have hr : Dig r := fun x hx => hd x (by simp [hx])
    have eb : UInt8.ofNat (48 + (c.toNat - 48)) = c := by
      apply UInt8.toNat_inj.1
      rw [byte_of (by omega)]; omega
    rw [val_snoc]
    by_cases hr0 : r = []
    · subst hr0
      rw [dval_nil, decDigits_small (by omega)]
      simp only [Nat.mul_zero, Nat.zero_add, List.nil_append]
      rw [eb]
    · have hz2 : r.getD 0 0 ≠ 48 := by
        intro e
        apply hz
        refine ⟨by have : 0 < r.length := List.length_pos_iff.2 hr0; simp; omega, ?_⟩
        rw [List.getD_eq_getElem?_getD] at e ⊢
        rw [List.getElem?_append_left (List.length_pos_iff.2 hr0)]
        exact e
      have hp := val_pos r hr0 hr hz2
      have ih := decDigits_unique m r (by simp at hm; omega) hr0 hr (fun h => hz2 h.2)
      rw [decDigits_big (by omega), show (10 * dval 0 r + (c.toNat - 48)) / 10 = dval 0 r by omega, show (10 * dval 0 r + (c.toNat - 48)) % 10 = c.toNat - 48 by omega, ih, eb]

theorem dig_decDigits (most n : Nat) : dig most (Lib.decDigits n) = if n ≤ most then ((n : Int), 0, 0) else (0, 0, 80) := by
  obtain ⟨h1, h2, h3, h4⟩ := decDigits_tells n
  unfold dig
  rw [if_neg h2, (bad_none _ 0).2 h1]
  simp only []
  have hz : ¬ (1 < (Lib.decDigits n).length ∧ (Lib.decDigits n).getD 0 0 = 48) := by
    rintro ⟨a, b⟩
    by_cases h : n = 0
    · subst h; rw [decDigits_small (by decide)] at a; simp at a
    · exact h4 (by omega) b
  rw [if_neg hz, h3]

/-- What is read without an error is the one text of its number. -/
theorem dig_ok (most : Nat) (l : List UInt8) (v a : Int) (h : dig most l = (v, a, 0)) : a = 0 ∧ 0 ≤ v ∧ v ≤ most ∧ Lib.decDigits v.toNat = l := by
  unfold dig at h
  split at h
  · simp at h
  · rename_i h0
    split at h
    · simp at h
    · rename_i hb
      split at h
      · simp at h
      · rename_i hz
        split at h
        · rename_i hv
          simp only [Prod.mk.injEq] at h
          obtain ⟨rfl, rfl, _⟩ := h
          refine ⟨rfl, by omega, by omega, ?_⟩
          simp only [Int.toNat_natCast]
          exact decDigits_unique _ l rfl h0 ((bad_none _ 0).1 hb) hz
        · simp at h

theorem dig_place (most : Nat) (l : List UInt8) : (dig most l).2.2 ≠ 0 → (dig most l).1 = 0 ∧ 0 ≤ (dig most l).2.1 ∧ (dig most l).2.1 ≤ l.length := by
  unfold dig
  by_cases h0 : l = []
  · rw [if_pos h0]; simp
  · rw [if_neg h0]
    cases hb : bad l 0 with
    | some i =>
      have := bad_some l 0 i hb
      simp; omega
    | none =>
      simp only []
      by_cases hz : 1 < l.length ∧ l.getD 0 0 = 48
      · rw [if_pos hz]; simp
      · rw [if_neg hz]
        by_cases hv : dval 0 l ≤ most
        · rw [if_pos hv]; simp
        · rw [if_neg hv]; simp

end Go.Proofs.YtjgccgjdonjlaaaDoor.Pure
