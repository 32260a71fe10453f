/-
  What the reference's Natural, Read and Decimal, and the program's Natural and Read come to, as plain functions of the text.
-/
import Derived.Test.YtjgccgjdonjlaaaDoorPureDec
import Derived.Test.YtjgccgjdonjlaaaDoorPureBase
namespace Go.Proofs.YtjgccgjdonjlaaaDoor.Pure
open Go.RowKit Go.Proofs.YtjgccgjdonjlaaaDoor.QAll Go.Proofs.YtjgccgjdonjlaaaDoorW.PrintWords Go.Proofs.YtjgccgjdonjlaaaDoorW.PrintLast
open Go Go.Proofs.YtjgccgjdonjlaaaDoorG
set_option linter.unusedVariables false
set_option linter.unusedSimpArgs false

theorem wrap_on {i : Int} (h0 : 0 ≤ i) (h : i < 140737488355328) : wrap64 (i + 1) = i + 1 := by unfold wrap64; omega

theorem len_size (s : ByteArray) : s.data.toList.length = s.size := by simp

theorem drop_bt (s : ByteArray) (i : Int) (h0 : 0 ≤ i) (h : i < s.size) : ∃ c : UInt8, s.data.toList.drop i.toNat = c :: s.data.toList.drop (i + 1).toNat ∧ bt s i = c.toNat := by
  have hl : i.toNat < s.size := by omega
  refine ⟨s[i.toNat], ?_, ?_⟩
  · rw [drop_cons s i.toNat hl, show (i + 1).toNat = i.toNat + 1 by omega]
  · unfold bt; rw [dif_pos hl]

/-- the second loop: the number -/
theorem refnum (s : ByteArray) (most : Nat) (hm0 : 9 ≤ most) (hm : most ≤ 9223372036854775808) (hs : s.size ≤ 140737488351232) (d : Nat) :
    ∀ (k : Nat) (v : Nat) (i : Int), v ≤ most → Dig (s.data.toList.drop i.toNat) → 0 ≤ i → i ≤ s.size → (s.size : Int) - i = d → d < k →
    foundryref02_digits.l1 k s most v i = some (if dval v (s.data.toList.drop i.toNat) ≤ most then ((dval v (s.data.toList.drop i.toNat) : Int), 0, 0) else (0, 0, 80)) := by
  induction d with
  | zero =>
    intro k v i hv hd h0 h1 hdd hk
    obtain ⟨k, rfl⟩ : ∃ m, k = m + 1 := ⟨k - 1, by omega⟩
    have e : s.data.toList.drop i.toNat = [] := List.drop_of_length_le (by rw [len_size]; omega)
    rw [foundryref02_digits.l1, if_neg (by omega), e, dval_nil, if_pos hv]
  | succ d ih =>
    intro k v i hv hd h0 h1 hdd hk
    obtain ⟨k, rfl⟩ : ∃ m, k = m + 1 := ⟨k - 1, by omega⟩
    have hlt : i < (s.size : Int) := by omega
    obtain ⟨c, hc, hb⟩ := drop_bt s i h0 hlt
    rw [hc] at hd
    have hcd := hd c (List.mem_cons_self ..)
    have hr : Dig (s.data.toList.drop (i + 1).toNat) := fun x hx => hd x (List.mem_cons_of_mem _ hx)
    have w : ∀ x, IntKind.u64.wrap x = x % 18446744073709551616 := fun x => by simp [IntKind.wrap, IntKind.signed, IntKind.bits]
    have e1 : IntKind.u64.wrap (Int.tdiv (IntKind.u64.wrap ((most : Int) - ((bt s i - 48) % 256))) 10) = ((most - (c.toNat - 48)) / 10 : Nat) := by
      rw [hb, w, w]
      rw [show ((most : Int) - (((c.toNat : Int) - 48) % 256)) % 18446744073709551616 = ((most - (c.toNat - 48) : Nat) : Int) by omega]
      rw [show ((most - (c.toNat - 48) : Nat) : Int).tdiv 10 = ((most - (c.toNat - 48) : Nat) : Int) / 10 from Int.tdiv_eq_ediv_of_nonneg (by omega)]
      omega
    rw [foundryref02_digits.l1, if_pos hlt, if_pos h0, e1, hc, dval_cons]
    by_cases hg : (v : Int) > ((most - (c.toNat - 48)) / 10 : Nat)
    · rw [if_pos hg, if_neg]
      have := val_ge (s.data.toList.drop (i + 1).toNat) (10 * v + (c.toNat - 48))
      omega
    · rw [if_neg hg]
      have e2 : IntKind.u64.wrap (IntKind.u64.wrap (10 * (v : Int)) + ((bt s i - 48) % 256)) = ((10 * v + (c.toNat - 48) : Nat) : Int) := by
        rw [hb, w, w]; omega
      rw [e2, wrap_on h0 (by omega)]
      exact ih k _ (i + 1) (by omega) hr (by omega) (by omega) (by omega) (by omega)

/-- the first loop: every byte is looked at -/
theorem reflook (s : ByteArray) (most : Nat) (hm0 : 9 ≤ most) (hm : most ≤ 9223372036854775808) (hs : s.size ≤ 140737488351232) (hn : 0 < s.size) (d : Nat) :
    ∀ (k : Nat) (i : Int), 0 ≤ i → i ≤ s.size → (s.size : Int) - i = d → d + s.size + 3 < k → (bad (s.data.toList.drop i.toNat) i.toNat = none → Dig s.data.toList) →
    foundryref02_digits.l0 k s most i = some (match bad (s.data.toList.drop i.toNat) i.toNat with
      | some j => (0, (j : Int), 10)
      | none => if 1 < s.data.toList.length ∧ s.data.toList.getD 0 0 = 48 then (0, 0, 10) else if dval 0 s.data.toList ≤ most then ((dval 0 s.data.toList : Int), 0, 0) else (0, 0, 80)) := by
  induction d with
  | zero =>
    intro k i h0 h1 hdd hk hD
    obtain ⟨k, rfl⟩ : ∃ m, k = m + 1 + 1 := ⟨k - 2, by omega⟩
    have e : s.data.toList.drop i.toNat = [] := List.drop_of_length_le (by rw [len_size]; omega)
    rw [e] at hD ⊢
    have hd := hD rfl
    rw [foundryref02_digits.l0, if_neg (by omega)]
    simp only [bad]
    have hlast : foundryref02_digits.l1 k s most 0 0 = some (if dval 0 s.data.toList ≤ most then ((dval 0 s.data.toList : Int), 0, 0) else (0, 0, 80)) := by
      have := refnum s most hm0 hm hs s.size k 0 0 (by omega) hd (by omega) (by omega) (by omega) (by omega)
      simpa using this
    have h00 : bt s 0 = (s.data.toList.getD 0 0).toNat := by
      obtain ⟨c, hc, hb⟩ := drop_bt s 0 (by omega) (by omega)
      rw [hb]
      have : s.data.toList = c :: s.data.toList.drop 1 := by simpa using hc
      rw [this]; rfl
    have h48 : (bt s 0 == 48) = decide (s.data.toList.getD 0 0 = 48) := by
      rw [h00]
      by_cases h : s.data.toList.getD 0 0 = 48
      · rw [decide_eq_true h, h]; rfl
      · rw [decide_eq_false h, beq_eq_false_iff_ne]
        intro e2
        apply h
        apply UInt8.toNat_inj.1
        have : (48 : UInt8).toNat = 48 := rfl
        omega
    rw [len_size]
    by_cases h2 : (s.size : Int) > 1
    · rw [if_pos h2, if_pos (by omega), foundryref02_digits.j1, h48]
      by_cases h : s.data.toList.getD 0 0 = 48
      · rw [decide_eq_true h, if_pos rfl, if_pos ⟨by omega, h⟩]
      · rw [decide_eq_false h, if_neg (by decide), if_neg (fun z => h z.2)]; exact hlast
    · rw [if_neg h2, foundryref02_digits.j1, if_neg (by decide), if_neg (fun z => h2 (by omega))]; exact hlast
  | succ d ih =>
    intro k i h0 h1 hdd hk hD
    obtain ⟨k, rfl⟩ : ∃ m, k = m + 1 := ⟨k - 1, by omega⟩
    have hlt : i < (s.size : Int) := by omega
    obtain ⟨c, hc, hb⟩ := drop_bt s i h0 hlt
    rw [foundryref02_digits.l0, if_pos hlt, if_pos h0, hb, hc, bad]
    rw [hc, bad] at hD
    by_cases h : 48 ≤ c.toNat ∧ c.toNat ≤ 57
    · rw [if_pos h] at hD ⊢
      rw [if_neg (by omega), if_neg (by omega), wrap_on h0 (by omega)]
      have e : i.toNat + 1 = (i + 1).toNat := by omega
      rw [e] at hD ⊢
      exact ih k (i + 1) (by omega) (by omega) (by omega) (by omega) hD
    · rw [if_neg h]
      by_cases h3 : (c.toNat : Int) < 48
      · rw [if_pos h3]; simp only []; congr 2; rw [Int.toNat_of_nonneg h0]
      · rw [if_neg h3, if_pos (by omega)]; simp only []; congr 2; rw [Int.toNat_of_nonneg h0]

theorem refdigits_eq (s : ByteArray) (most : Nat) (hm0 : 9 ≤ most) (hm : most ≤ 9223372036854775808) (hs : s.size ≤ 140737488351232) {k : Nat} (hk : 2 * s.size + 3 < k) :
    foundryref02_digits.f k s most = some (dig most s.data.toList) := by
  unfold foundryref02_digits.f dig
  by_cases h0 : s.size = 0
  · rw [if_pos (by omega), if_pos (List.length_eq_zero_iff.1 (by rw [len_size]; exact h0))]
  · rw [if_neg (by omega), if_neg (show ¬ s.data.toList = [] from fun e => h0 (by rw [← len_size, e]; rfl))]
    rw [reflook s most hm0 hm hs (by omega) s.size k 0 (by omega) (by omega) (by omega) (by omega) (fun h => (bad_none _ 0).1 (by simpa using h))]
    rfl

/-! ### Natural, Read -/

def natS (l : List UInt8) : Int × Int × Int := dig 9223372036854775807 l
def readS (l : List UInt8) : Int × Int × Int :=
  if l.getD 0 0 = 45 then
    (if (dig 9223372036854775808 (l.drop 1)).2.2 = 0 then (if (dig 9223372036854775808 (l.drop 1)).1 = 0 then (0, 1, 10) else (-(dig 9223372036854775808 (l.drop 1)).1, 0, 0))
     else (0, (dig 9223372036854775808 (l.drop 1)).2.1 + 1, (dig 9223372036854775808 (l.drop 1)).2.2))
  else natS l

/-- one bound and another -/
theorem dig_bound (m1 m2 : Nat) (h : m1 ≤ m2) (l : List UInt8) : dig m1 l = if (dig m2 l).2.2 = 0 ∧ (m1 : Int) < (dig m2 l).1 then (0, 0, 80) else dig m2 l := by
  unfold dig
  by_cases h0 : l = []
  · rw [if_pos h0, if_pos h0]; simp
  · rw [if_neg h0, if_neg h0]
    cases hb : bad l 0 with
    | some i => simp
    | none =>
      simp only []
      by_cases hz : 1 < l.length ∧ l.getD 0 0 = 48
      · rw [if_pos hz, if_pos hz]; simp
      · rw [if_neg hz, if_neg hz]
        by_cases h1 : dval 0 l ≤ m1
        · rw [if_pos h1, if_pos (Nat.le_trans h1 h), if_neg]
          simp; omega
        · rw [if_neg h1]
          by_cases h2 : dval 0 l ≤ m2
          · rw [if_pos h2, if_pos]
            refine ⟨rfl, ?_⟩
            simp; omega
          · rw [if_neg h2]; simp

theorem dig_first (m : Nat) (l : List UInt8) : (dig m l).2.2 = 0 → (dig m l).2.1 = 0 ∧ 0 ≤ (dig m l).1 ∧ (dig m l).1 ≤ m := fun h => by
  obtain ⟨v, a, e⟩ : ∃ v a, dig m l = (v, a, 0) := ⟨(dig m l).1, (dig m l).2.1, by rw [← h]⟩
  have := dig_ok m l v a e
  rw [e]; exact ⟨this.1, this.2.1, this.2.2.1⟩

theorem nat_eq (s : ByteArray) (hs : s.size ≤ 140737488351232) (k : Nat) : ints_Natural.f (k + 1) s = some (natS s.data.toList) := by
  unfold ints_Natural.f natS
  rw [digits_eq s (by omega), dig_bound 9223372036854775807 18446744073709551615 (by decide)]
  simp only [Option.bind_some]
  generalize hD : dig 18446744073709551615 s.data.toList = D
  obtain ⟨v, a, e⟩ := D
  have hf := dig_first 18446744073709551615 s.data.toList
  rw [hD] at hf
  simp only at hf ⊢
  by_cases he : e = 0
  · obtain ⟨h1, h2, h3⟩ := hf he
    rw [if_pos he, ints_Natural.j0]
    by_cases hv : v ≥ 9223372036854775808
    · rw [decide_eq_true hv, if_pos rfl, if_pos ⟨he, by omega⟩, h1]
    · rw [decide_eq_false hv, if_neg (by decide), if_pos he, if_neg (by omega), h1, he]
      congr 2
      unfold wrap64; omega
  · rw [if_neg he, ints_Natural.j0, if_neg (by decide), if_neg he, if_neg (fun z => he z.1)]
    have := dig_place 18446744073709551615 s.data.toList
    rw [hD] at this
    simp only at this
    rw [(this he).1]

theorem refnat_eq (s : ByteArray) (hs : s.size ≤ 140737488351232) {k : Nat} (hk : 2 * s.size + 3 < k) : foundryref02_Natural.f k s = some (natS s.data.toList) := by
  unfold foundryref02_Natural.f natS
  have e := refdigits_eq s 9223372036854775807 (by decide) (by decide) hs hk
  rw [show ((9223372036854775807 : Nat) : Int) = 9223372036854775807 from rfl] at e
  rw [e]
  simp only [Option.bind_some]
  have hw : wrap64 (dig 9223372036854775807 s.data.toList).1 = (dig 9223372036854775807 s.data.toList).1 := by
    by_cases h : (dig 9223372036854775807 s.data.toList).2.2 = 0
    · have := dig_first _ _ h
      unfold wrap64; omega
    · rw [(dig_place _ _ h).1]; unfold wrap64; omega
  rw [hw]

theorem extract_tail (s : ByteArray) (h : 1 ≤ s.size) : (s.extract 1 s.size).data.toList = s.data.toList.drop 1 ∧ (s.extract 1 s.size).size = s.size - 1 := by
  constructor
  · rw [ByteArray.data_extract, Array.toList_extract]
    simp only [List.extract]
    rw [List.take_of_length_le (by rw [List.length_drop, len_size]; omega)]
  · simp

theorem bt_zero (s : ByteArray) (h : 0 < s.size) : (bt s 0 != 45) = !decide (s.data.toList.getD 0 0 = 45) := by
  obtain ⟨c, hc, hb⟩ := drop_bt s 0 (by omega) (by omega)
  have h1 : s.data.toList = c :: s.data.toList.drop 1 := by simpa using hc
  have h2 : s.data.toList.getD 0 0 = c := by rw [h1]; rfl
  rw [hb, h2]
  by_cases h : c = 45
  · rw [decide_eq_true h, h]; rfl
  · rw [decide_eq_false h]
    simp only [Bool.not_false, bne_iff_ne]
    intro e
    apply h
    apply UInt8.toNat_inj.1
    have : (45 : UInt8).toNat = 45 := rfl
    omega

theorem read_eq (s : ByteArray) (hs : s.size ≤ 140737488351232) (k : Nat) : ints_Read.f (k + 2) s = some (readS s.data.toList) := by
  unfold ints_Read.f readS
  by_cases h0 : s.size = 0
  · have e : s.data.toList = [] := List.length_eq_zero_iff.1 (by rw [len_size]; exact h0)
    rw [if_pos (by rw [ByteArray.toList_eq]; exact e), ints_Read.j0, if_pos rfl, nat_eq s hs, e]
    rfl
  · have e : s.data.toList ≠ [] := fun e => h0 (by rw [← len_size, e]; rfl)
    rw [if_neg (by rw [ByteArray.toList_eq]; exact e), if_pos (by omega), bt_zero s (by omega)]
    by_cases h : s.data.toList.getD 0 0 = 45
    · rw [decide_eq_true h, if_pos h, ints_Read.j0, if_neg (by decide), if_pos (by omega)]
      obtain ⟨x1, x2⟩ := extract_tail s (by omega)
      rw [digits_eq _ (by rw [x2]; omega), x1, dig_bound 9223372036854775808 18446744073709551615 (by decide)]
      simp only [Option.bind_some]
      generalize hD : dig 18446744073709551615 (s.data.toList.drop 1) = D
      obtain ⟨v, a, e⟩ := D
      have hf := dig_first 18446744073709551615 (s.data.toList.drop 1)
      have hp := dig_place 18446744073709551615 (s.data.toList.drop 1)
      rw [hD] at hf hp
      simp only at hf hp ⊢
      by_cases he : e = 0
      · obtain ⟨h1, h2, h3⟩ := hf he
        subst he
        rw [if_pos rfl]
        by_cases hv0 : v = 0
        · rw [if_pos hv0, if_neg (show ¬ ((0 : Int) = 0 ∧ ((9223372036854775808 : Nat) : Int) < v) by omega)]
          simp [hv0]
        · rw [if_neg hv0]
          by_cases hv : v > 9223372036854775808
          · rw [if_pos hv, if_pos (show (0 : Int) = 0 ∧ ((9223372036854775808 : Nat) : Int) < v by omega)]
            rfl
          · rw [if_neg hv, if_neg (show ¬ ((0 : Int) = 0 ∧ ((9223372036854775808 : Nat) : Int) < v) by omega)]
            have e3 : wrap64 (-wrap64 v) = -v := by unfold wrap64; omega
            simp [hv0, e3]
      · have hl : a ≤ s.size := by
          have := (hp he).2.2
          rw [List.length_drop, len_size] at this; omega
        have := (hp he).2.1
        rw [if_neg he, if_neg (show ¬ (e = 0 ∧ ((9223372036854775808 : Nat) : Int) < v) from fun z => he z.1), wrap_on (by omega) (by omega)]
        simp [he]
    · rw [decide_eq_false h, if_neg h, Bool.not_false, ints_Read.j0, if_pos rfl, nat_eq s hs]
      rfl

theorem refread_eq (s : ByteArray) (hs : s.size ≤ 140737488351232) {k : Nat} (hk : 2 * s.size + 4 < k) : foundryref02_Read.f k s = some (readS s.data.toList) := by
  obtain ⟨k, rfl⟩ : ∃ m, k = m + 1 := ⟨k - 1, by omega⟩
  unfold foundryref02_Read.f readS
  by_cases h0 : s.size = 0
  · have e : s.data.toList = [] := List.length_eq_zero_iff.1 (by rw [len_size]; exact h0)
    rw [if_pos (by omega), foundryref02_Read.j0, if_pos rfl, refnat_eq s hs (by omega), e]
    rfl
  · rw [if_neg (by omega), if_pos (by omega), bt_zero s (by omega)]
    by_cases h : s.data.toList.getD 0 0 = 45
    · rw [decide_eq_true h, if_pos h, foundryref02_Read.j0, if_neg (by decide), if_pos (by omega)]
      obtain ⟨x1, x2⟩ := extract_tail s (by omega)
      have e := refdigits_eq (s.extract 1 s.size) 9223372036854775808 (by decide) (by decide) (by rw [x2]; omega) (k := k) (by rw [x2]; omega)
      rw [show ((9223372036854775808 : Nat) : Int) = 9223372036854775808 from rfl, x1] at e
      rw [e]
      simp only [Option.bind_some]
      generalize hD : dig 9223372036854775808 (s.data.toList.drop 1) = D
      obtain ⟨v, a, e⟩ := D
      have hf := dig_first 9223372036854775808 (s.data.toList.drop 1)
      have hp := dig_place 9223372036854775808 (s.data.toList.drop 1)
      rw [hD] at hf hp
      simp only at hf hp ⊢
      by_cases he : e = 0
      · obtain ⟨h1, h2, h3⟩ := hf he
        rw [if_pos he, if_pos he]
        by_cases hv0 : v = 0
        · rw [if_pos hv0, if_pos hv0]
        · rw [if_neg hv0, if_neg hv0]
          congr 2
          have w : ∀ x, IntKind.u64.wrap x = x % 18446744073709551616 := fun x => by simp [IntKind.wrap, IntKind.signed, IntKind.bits]
          rw [w]; unfold wrap64; omega
      · have hl : a ≤ s.size := by
          have := (hp he).2.2
          rw [List.length_drop, len_size] at this; omega
        have := (hp he).2.1
        rw [if_neg he, if_neg he, wrap_on (by omega) (by omega)]
    · rw [decide_eq_false h, if_neg h, Bool.not_false, foundryref02_Read.j0, if_pos rfl, refnat_eq s hs (by omega)]
      rfl

end Go.Proofs.YtjgccgjdonjlaaaDoor.Pure
