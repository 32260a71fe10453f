/-
  The document's lexer is the one in plain words: bytes, what is skipped, whole numbers, words.
-/
import Derived.Test.YthifejhdmjoolaaGreatDoorQE12
import Derived.Test.YthifejhdmjoolaaGreatDoorLxN
import Derived.Test.YthifejhdmjoolaaGreatDoorRefParse
import Derived.Test.YthifejhdmjoolaaGreatDoorLxE
namespace Go.Proofs.YthifejhdmjoolaaGreatDoor.Lx
open Go Go.RowKit Go.Proofs.YthifejhdmjoolaaGreatDoorG Go.Proofs.YthifejhdmjoolaaGreatDoorW.PrintWords Go.Proofs.YthifejhdmjoolaaGreatDoorW.PrintLast Go.Proofs.YthifejhdmjoolaaGreatDoorW.PrintMore
set_option linter.unusedVariables false
set_option linter.unusedSimpArgs false

theorem rlet_fin : ∀ i : Fin 256, QE.foundryref05_letter.f ((i.val : Nat) : Int) = some (letB (UInt8.ofNat i.val)) := by decide +kernel
theorem rlet (c : UInt8) : QE.foundryref05_letter.f (c.toNat : Int) = some (letB c) := by
  have h := rlet_fin ⟨c.toNat, c.toNat_lt⟩
  dsimp only at h
  rw [UInt8.ofNat_toNat] at h
  exact h
theorem rdig_fin : ∀ i : Fin 256, QE.foundryref05_digit.f ((i.val : Nat) : Int) = some (digB (UInt8.ofNat i.val)) := by decide +kernel
theorem rdig (c : UInt8) : QE.foundryref05_digit.f (c.toNat : Int) = some (digB c) := by
  have h := rdig_fin ⟨c.toNat, c.toNat_lt⟩
  dsimp only at h
  rw [UInt8.ofNat_toNat] at h
  exact h
theorem rhex_fin : ∀ i : Fin 256, QE.foundryref05_hex.f ((i.val : Nat) : Int) = some (hexB (UInt8.ofNat i.val)) := by decide +kernel
theorem rhex (c : UInt8) : QE.foundryref05_hex.f (c.toNat : Int) = some (hexB c) := by
  have h := rhex_fin ⟨c.toNat, c.toNat_lt⟩
  dsimp only at h
  rw [UInt8.ofNat_toNat] at h
  exact h
theorem byte_eq {c : UInt8} {n : Nat} (hn : n < 256) : ((c.toNat : Int) = (n : Int)) ↔ c = UInt8.ofNat n := by
  constructor
  · intro h
    apply UInt8.toNat_inj.1
    rw [UInt8.toNat_ofNat']
    omega
  · rintro rfl
    rw [UInt8.toNat_ofNat']
    omega

theorem rskip_j1 (s : ByteArray) (x k : Nat) (c : UInt8) (hb : bt s (x : Int) = (c.toNat : Int)) (hx : x < s.size) :
    QE.foundryref05_skip.l0 (k + 1) s (x : Int) = QE.foundryref05_skip.j1 k s (x : Int) (blankB c) := by
  simp only [QE.foundryref05_skip.l0]
  rw [if_pos (by omega), if_pos (by omega), hb]
  unfold blankB
  by_cases c1 : (c.toNat : Int) = 32
  · rw [if_pos c1, (byte_eq (n := 32) (by decide)).1 c1]; rfl
  rw [if_neg c1]
  by_cases c2 : (c.toNat : Int) = 9
  · rw [if_pos c2, (byte_eq (n := 9) (by decide)).1 c2]; rfl
  rw [if_neg c2]
  by_cases c3 : (c.toNat : Int) = 10
  · rw [if_pos c3, (byte_eq (n := 10) (by decide)).1 c3]; rfl
  rw [if_neg c3]
  have n1 : (c == 32) = false := beq_eq_false_iff_ne.mpr (fun e => c1 (by rw [e]; rfl))
  have n2 : (c == 9) = false := beq_eq_false_iff_ne.mpr (fun e => c2 (by rw [e]; rfl))
  have n3 : (c == 10) = false := beq_eq_false_iff_ne.mpr (fun e => c3 (by rw [e]; rfl))
  rw [n1, n2, n3]
  by_cases c4 : (c.toNat : Int) = 13
  · rw [(byte_eq (n := 13) (by decide)).1 c4]; rfl
  · have n4 : (c == 13) = false := beq_eq_false_iff_ne.mpr (fun e => c4 (by rw [e]; rfl))
    have n5 : ((c.toNat : Int) == 13) = false := beq_eq_false_iff_ne.mpr c4
    rw [n4, n5]; rfl

theorem rskip_loop (s : ByteArray) (hs : s.size ≤ 100000) : ∀ (l : List UInt8) (x k : Nat), (L s).drop x = l → x ≤ s.size → 6 * l.length + 20 ≤ k →
    QE.foundryref05_skip.l1 k s (x : Int) = some ((x + sk true l : Nat) : Int) ∧ QE.foundryref05_skip.l0 k s (x : Int) = some ((x + sk false l : Nat) : Int)
  | [], x, k, h, hx, hk => by
    have he := drop_end s h
    obtain ⟨k, rfl⟩ : ∃ j, k = j + 2 := ⟨k - 2, by omega⟩
    have h0 : ∀ k, QE.foundryref05_skip.l0 (k + 1) s (x : Int) = some (x : Int) := fun k => by
      simp only [QE.foundryref05_skip.l0]
      rw [if_neg (by omega)]
    refine ⟨?_, h0 _⟩
    simp only [QE.foundryref05_skip.l1]
    rw [if_neg (by omega), h0 k]; rfl
  | c :: l, x, k, h, hx, hk => by
    obtain ⟨h1, h2, h3⟩ := drop_at s h
    have hk : 6 * (l.length + 1) + 20 ≤ k := hk
    have hw : wrap64 ((x : Int) + 1) = ((x + 1 : Nat) : Int) := by rw [w64 _ (by omega) (by omega)]; omega
    have blank0 : ∀ k, 6 * l.length + 22 ≤ k → blankB c = true → QE.foundryref05_skip.l0 k s (x : Int) = some ((x + (1 + sk false l) : Nat) : Int) := by
      intro k hk b
      obtain ⟨k, rfl⟩ : ∃ j, k = j + 2 := ⟨k - 2, by omega⟩
      rw [rskip_j1 s x (k + 1) c h2 h1, b]
      simp only [QE.foundryref05_skip.j1]
      rw [if_pos trivial, hw, (rskip_loop s hs l (x + 1) k h3 (by omega) (by omega)).2]
      congr 1; omega
    have line : ∀ k, 6 * l.length + 23 ≤ k → QE.foundryref05_skip.l1 k s (x : Int) = some ((x + sk true (c :: l) : Nat) : Int) := by
      intro k hk
      obtain ⟨k, rfl⟩ : ∃ j, k = j + 1 := ⟨k - 1, by omega⟩
      simp only [QE.foundryref05_skip.l1]
      rw [if_pos (by omega), if_pos (by omega), h2, hw]
      by_cases c1 : c = 10
      · subst c1
        rw [if_pos (by decide), blank0 k (by omega) (by decide)]
        rfl
      · have hb : (c == 10) = false := beq_eq_false_iff_ne.mpr c1
        have hn : ¬ ((c.toNat : Int) = 10) := fun e => c1 ((byte_eq (n := 10) (by decide)).1 e)
        rw [if_neg hn, (rskip_loop s hs l (x + 1) k h3 (by omega) (by omega)).1]
        simp only [sk, hb]
        show some _ = some ((x + (1 + sk true l) : Nat) : Int)
        congr 1; omega
    refine ⟨line k (by omega), ?_⟩
    by_cases b : blankB c = true
    · rw [blank0 k (by omega) b]
      simp only [sk]
      rw [if_pos b]
    · obtain ⟨k, rfl⟩ : ∃ j, k = j + 3 := ⟨k - 3, by omega⟩
      have b2 : blankB c = false := by simpa using b
      rw [rskip_j1 s x (k + 2) c h2 h1, b2]
      simp only [QE.foundryref05_skip.j1]
      rw [if_neg (by simp), if_pos (by omega), if_pos (by omega), h2, hw]
      have stay : QE.foundryref05_skip.j2 (k + 1) s (x : Int) false = some (x : Int) := by
        simp only [QE.foundryref05_skip.j2]
        rw [if_neg (by simp)]
      by_cases r : c = 47 ∧ l.head? = some 47
      · obtain ⟨rfl, hr⟩ := r
        cases hl : l with
        | nil => rw [hl] at hr; cases hr
        | cons d l2 =>
          rw [hl] at hr
          simp only [List.head?_cons, Option.some.injEq] at hr
          subst hr
          have h3' := h3
          rw [hl] at h3'
          obtain ⟨g1, g2, g3⟩ := drop_at s h3'
          rw [if_pos (by decide), if_pos (by omega), if_pos (by omega), g2]
          simp only [QE.foundryref05_skip.j2]
          rw [if_pos (by decide), line k (by omega), ← hl]
          simp only [sk]
          rw [if_neg b, if_pos (by rw [hl]; simp)]
          rfl
      · have hsk : sk false (c :: l) = 0 := by
          simp only [sk]
          rw [if_neg b, if_neg r]
        rw [hsk]
        by_cases c1 : (c.toNat : Int) = 47
        · have hc47 : c = 47 := (byte_eq (n := 47) (by decide)).1 c1
          rw [if_pos c1]
          cases hl : l with
          | nil =>
            rw [hl] at h3
            have := drop_end s h3
            rw [if_neg (by omega), stay]; rfl
          | cons d l2 =>
            have h3' := h3
            rw [hl] at h3'
            obtain ⟨g1, g2, g3⟩ := drop_at s h3'
            rw [if_pos (by omega), if_pos (by omega), g2]
            have hd : ((d.toNat : Int) == 47) = false := beq_eq_false_iff_ne.mpr (fun e => r ⟨hc47, by rw [hl, (byte_eq (n := 47) (by decide)).1 e]; rfl⟩)
            rw [hd, stay]; rfl
        · rw [if_neg c1, stay]; rfl
theorem rskip_is (s : ByteArray) (hs : s.size ≤ 100000) (x k : Nat) (hx : x ≤ s.size) (hk : 6 * s.size + 20 ≤ k) : QE.foundryref05_skip.f k s (x : Int) = some ((x + sk false ((L s).drop x) : Nat) : Int) := by
  unfold QE.foundryref05_skip.f
  exact (rskip_loop s hs _ x k rfl hx (by rw [List.length_drop, L_size]; omega)).2

/-- the value of digits -/
def dval : List UInt8 → Nat → Nat
  | [], a => a
  | c :: l, a => dval l (a * 10 + (c.toNat - 48))
theorem dval_le : ∀ (l : List UInt8) (a : Nat), a ≤ dval l a
  | [], a => Nat.le_refl _
  | c :: l, a => by
    have := dval_le l (a * 10 + (c.toNat - 48))
    simp only [dval]
    omega
theorem dig_cases {c : UInt8} (h : digB c = true) : 48 ≤ c.toNat ∧ c.toNat ≤ 57 := by
  simpa [digB] using h

theorem rnum_loop (s : ByteArray) (hs : s.size ≤ 100000) (hd : ∀ c ∈ L s, digB c = true) : ∀ (l : List UInt8) (x k a : Nat), (L s).drop x = l → x ≤ s.size → a < 9223372036854775808 → l.length + 2 ≤ k →
    QE.foundryref05_number.l0 k s (a : Int) (x : Int) = some (if dval l a < 9223372036854775808 then ((dval l a : Int), true) else (0, false))
  | [], x, k, a, h, hx, ha, hk => by
    have he := drop_end s h
    obtain ⟨k, rfl⟩ : ∃ j, k = j + 1 := ⟨k - 1, by omega⟩
    simp only [QE.foundryref05_number.l0]
    rw [if_neg (by omega), if_pos (show dval [] a < 9223372036854775808 from ha)]
    rfl
  | c :: l, x, k, a, h, hx, ha, hk => by
    obtain ⟨h1, h2, h3⟩ := drop_at s h
    obtain ⟨k, rfl⟩ : ∃ j, k = j + 1 := ⟨k - 1, by omega⟩
    have hc := dig_cases (hd c (by
      have : c ∈ (L s).drop x := by rw [h]; simp
      exact List.mem_of_mem_drop this))
    have e1 : ((c.toNat : Int) - 48) % 256 = ((c.toNat - 48 : Nat) : Int) := by omega
    have hv := dval_le l (a * 10 + (c.toNat - 48))
    simp only [QE.foundryref05_number.l0]
    rw [if_pos (by omega), if_pos (by omega), h2, e1, show dval (c :: l) a = dval l (a * 10 + (c.toNat - 48)) from rfl]
    generalize c.toNat - 48 = d at *
    have hd9 : d ≤ 9 := by omega
    by_cases g : a * 10 + d < 9223372036854775808
    · have e2 : IntKind.u64.wrap (10 * (a : Int)) = ((10 * a : Nat) : Int) := by rw [IntKind.wrap_u64]; omega
      have e3 : IntKind.u64.wrap (((10 * a : Nat) : Int) + (d : Int)) = ((a * 10 + d : Nat) : Int) := by rw [IntKind.wrap_u64]; omega
      rw [if_neg (by omega), e2, e3, w64 _ (by omega) (by omega), show ((x : Int) + 1) = ((x + 1 : Nat) : Int) by omega]
      exact rnum_loop s hs hd l (x + 1) k _ h3 (by omega) g (by simp at hk; omega)
    · rw [if_pos (by omega), if_neg (by omega)]

theorem puint_dval : ∀ (l : List UInt8) (a : Nat), (∀ c ∈ l, digB c = true) → a < 18446744073709551616 → Lib.parseUintM (2 ^ 64 - 1) a l = if dval l a < 18446744073709551616 then .ok (dval l a) else .range
  | [], a, h, ha => by
    rw [if_pos (show dval [] a < 18446744073709551616 from ha)]; rfl
  | c :: l, a, h, ha => by
    have hc := dig_cases (h c (List.mem_cons_self ..))
    have hv := dval_le l (a * 10 + (c.toNat - 48))
    unfold Lib.parseUintM
    rw [if_pos hc, show dval (c :: l) a = dval l (a * 10 + (c.toNat - 48)) from rfl]
    by_cases g2 : 1844674407370955162 ≤ a
    · rw [if_pos g2, if_neg (by omega)]
    · rw [if_neg g2]
      by_cases g : a * 10 + (c.toNat - 48) < 18446744073709551616
      · rw [if_neg (by omega)]
        exact puint_dval l _ (fun d hd => h d (List.mem_cons_of_mem _ hd)) g
      · rw [if_pos (by omega), if_neg (by omega)]
theorem IV_dval (l : List UInt8) (hne : l ≠ []) (h : ∀ c ∈ l, digB c = true) : IV l = if dval l 0 < 9223372036854775808 then some ((dval l 0 : Nat) : Int) else none := by
  cases l with
  | nil => exact absurd rfl hne
  | cons c l =>
    have hc := dig_cases (h c (List.mem_cons_self ..))
    have hp := puint_dval (c :: l) 0 h (by decide)
    unfold IV Lib.parseIntB
    dsimp only
    rw [if_neg (by omega)]
    unfold Lib.parseUintB
    rw [if_neg (by simp), hp]
    generalize dval (c :: l) 0 = v
    by_cases g1 : v < 18446744073709551616
    · rw [if_pos g1]
      dsimp only
      by_cases g2 : v < 9223372036854775808
      · rw [if_neg (by omega), if_neg (by omega), if_neg (by omega), if_pos g2]
        dsimp only
        rw [IntKind.wrap_u64]
        congr 1; omega
      · rw [if_pos ⟨by omega, by omega⟩, if_neg g2]
    · rw [if_neg g1, if_neg (by omega)]
theorem rnum_is (l : List UInt8) (hl : l.length ≤ 100000) (h : ∀ c ∈ l, digB c = true) (k : Nat) (hk : l.length + 2 ≤ k) : QE.foundryref05_number.f k (B l) = some (if dval l 0 < 9223372036854775808 then ((dval l 0 : Int), true) else (0, false)) := by
  unfold QE.foundryref05_number.f
  exact rnum_loop (B l) hl h l 0 k 0 rfl (by omega) (by decide) hk

theorem find_loop (a : ByteArray) (W : List ByteArray) (hW : W.length ≤ 1000) : ∀ (d i k : Nat), i + d = W.length → d + 1 ≤ k → ∃ n, QE.foundryref04_Find.l0 k W a (i : Int) = some (n, decide (L a ∈ (W.drop i).map L))
  | 0, i, k, hi, hk => by
    obtain ⟨k, rfl⟩ : ∃ j, k = j + 1 := ⟨k - 1, by omega⟩
    simp only [QE.foundryref04_Find.l0]
    rw [if_neg (by omega), List.drop_of_length_le (by omega)]
    exact ⟨0, by simp⟩
  | d + 1, i, k, hi, hk => by
    obtain ⟨k, rfl⟩ : ∃ j, k = j + 1 := ⟨k - 1, by omega⟩
    have hil : i < W.length := by omega
    have hrd : rdOf ByteArray.empty W (i : Int) = W[i] := by
      unfold rdOf
      rw [Int.toNat_natCast, List.getD_eq_getElem?_getD, List.getElem?_eq_getElem hil]
      rfl
    simp only [QE.foundryref04_Find.l0]
    rw [if_pos (by omega), if_pos (by omega), hrd, List.drop_eq_getElem_cons hil, List.map_cons]
    by_cases c : (W[i]).toList = a.toList
    · rw [if_pos c]
      rw [ByteArray.toList_eq, ByteArray.toList_eq] at c
      refine ⟨(i : Int), ?_⟩
      have c2 : L a = L W[i] := c.symm
      rw [c2]
      simp
    · rw [if_neg c, w64 _ (by omega) (by omega), show ((i : Int) + 1) = ((i + 1 : Nat) : Int) by omega]
      obtain ⟨n, hn⟩ := find_loop a W hW d (i + 1) k (by omega) (by omega)
      refine ⟨n, ?_⟩
      rw [hn]
      have c2 : L a ≠ L W[i] := by
        intro e
        apply c
        rw [ByteArray.toList_eq, ByteArray.toList_eq]
        exact e.symm
      simp [c2]
theorem rresv (a : ByteArray) (k : Nat) (hk : 40 ≤ k) : QE.foundryref04_Reserved.f k a = some (decide (L a ∈ resL)) := by
  obtain ⟨n, hn⟩ := find_loop a ((QE.foundryref04_Words.f).getD []) (by decide) 23 0 k rfl (by omega)
  show ((QE.foundryref04_Find.l0 k ((QE.foundryref04_Words.f).getD []) a ((0 : Nat) : Int)).bind fun bt => some bt.2) = _
  rw [hn]
  rfl
end Go.Proofs.YthifejhdmjoolaaGreatDoor.Lx

namespace Go.Proofs.YthifejhdmjoolaaGreatDoor.Lx
open Go Go.RowKit Go.Flo Go.Proofs.YthifejhdmjoolaaGreatDoorG Go.Proofs.YthifejhdmjoolaaGreatDoor.QC Go.Proofs.YthifejhdmjoolaaGreatDoorW.PrintWords Go.Proofs.YthifejhdmjoolaaGreatDoorW.PrintLast Go.Proofs.YthifejhdmjoolaaGreatDoorW.PrintMore
open Go.Proofs.YthifejhdmjoolaaGreatDoor.Pure (hv hvI dig_is)
set_option linter.unusedVariables false
set_option linter.unusedSimpArgs false

theorem hvI_dig {c : UInt8} (h : digB c = true) : hvI c = ((c.toNat - 48 : Nat) : Int) := by
  have hc := dig_cases h
  unfold hvI hv
  rw [if_pos hc]

/-- the quotient, as the document takes it -/
def quoR (m b : Nat) : Option (Int × Int) :=
  if (floatBits .quo .f64 (floatOfInt .f64 (m : Int)) (floatOfInt .f64 ((10 ^ b : Nat) : Int))).isSome = true then some (((((floatBits .quo .f64 (floatOfInt .f64 (m : Int)) (floatOfInt .f64 ((10 ^ b : Nat) : Int))).getD 0) : Nat) : Int), 0) else none

theorem lit_l1 (m b : Nat) (hb : b ≤ 15) : ∀ (d j k : Nat), j + d = b → d + 1 ≤ k → QE.foundryref01_Literal.l1 k (m : Int) (b : Int) ((10 ^ j : Nat) : Int) (j : Int) = quoR m b
  | 0, j, k, h, hk => by
    obtain ⟨k, rfl⟩ : ∃ i, k = i + 1 := ⟨k - 1, by omega⟩
    have : j = b := by omega
    subst this
    simp only [QE.foundryref01_Literal.l1]
    rw [if_neg (by omega)]
    rfl
  | d + 1, j, k, h, hk => by
    obtain ⟨k, rfl⟩ : ∃ i, k = i + 1 := ⟨k - 1, by omega⟩
    simp only [QE.foundryref01_Literal.l1]
    have hp : 10 ^ j ≤ 10 ^ 14 := Nat.pow_le_pow_right (by decide) (by omega)
    have e : wrap64 (10 * ((10 ^ j : Nat) : Int)) = ((10 ^ (j + 1) : Nat) : Int) := by
      rw [Nat.pow_succ]
      generalize 10 ^ j = p at *
      unfold wrap64
      omega
    rw [if_pos (by omega), e, w64 _ (by omega) (by omega), show ((j : Int) + 1) = ((j + 1 : Nat) : Int) by omega]
    exact lit_l1 m b hb d (j + 1) k (by omega) (by omega)

/-- what comes out of n digits in all, b of them behind the point, of the value m -/
def litEnd (m n b : Nat) : Option (Int × Int) := if b = 0 then some (0, 10) else if 15 < n then some (0, 3) else quoR m b

theorem step10 {n m d : Nat} (hn : n + 1 ≤ 15) (hm : m < 10 ^ n) (hd : d ≤ 9) : m * 10 + d < 10 ^ (n + 1) ∧ wrap64 (wrap64 (10 * (m : Int)) + (d : Int)) = ((m * 10 + d : Nat) : Int) := by
  have hp : 10 ^ n ≤ 10 ^ 14 := Nat.pow_le_pow_right (by decide) (by omega)
  rw [Nat.pow_succ]
  generalize 10 ^ n = p at *
  refine ⟨by omega, ?_⟩
  have e1 : wrap64 (10 * (m : Int)) = 10 * (m : Int) := by unfold wrap64; omega
  rw [e1]
  unfold wrap64
  omega

theorem lit_tail (s : ByteArray) (hs : s.size ≤ 100000) : ∀ (l : List UInt8) (x n b m k : Nat), (L s).drop x = l → (∀ c ∈ l, digB c = true) → b ≤ n → n ≤ x → (n ≤ 15 → m < 10 ^ n) → 60 + 3 * l.length ≤ k →
    QE.foundryref01_Literal.l0 k s (m : Int) (n : Int) (b : Int) true (x : Int) = litEnd (dval l m) (n + l.length) (b + l.length)
  | [], x, n, b, m, k, h, hd, hb, hnx, hm, hk => by
    have he := drop_end s h
    obtain ⟨k, rfl⟩ : ∃ i, k = i + 1 := ⟨k - 1, by omega⟩
    simp only [QE.foundryref01_Literal.l0]
    rw [if_neg (by omega)]
    unfold litEnd
    simp only [List.length_nil, Nat.add_zero]
    by_cases c1 : b = 0
    · rw [if_pos (by omega), if_pos c1]
    · rw [if_neg (by omega), if_neg c1]
      by_cases c2 : 15 < n
      · rw [if_pos (by omega), if_pos c2]
      · rw [if_neg (by omega), if_neg c2]
        exact lit_l1 m b (by omega) b 0 k (by omega) (by omega)
  | c :: l, x, n, b, m, k, h, hd, hb, hnx, hm, hk => by
    obtain ⟨h1, h2, h3⟩ := drop_at s h
    obtain ⟨k, rfl⟩ : ∃ i, k = i + 3 := ⟨k - 3, by omega⟩
    have hc := hd c (List.mem_cons_self ..)
    have hc2 := dig_cases hc
    have hl : ∀ d ∈ l, digB d = true := fun d hm => hd d (List.mem_cons_of_mem _ hm)
    have e5 : ∀ y : Nat, y ≤ 100000 → wrap64 ((y : Int) + 1) = ((y + 1 : Nat) : Int) := fun y hy => by rw [w64 _ (by omega) (by omega)]; omega
    simp only [List.length_cons] at hk
    simp only [QE.foundryref01_Literal.l0]
    rw [if_pos (by omega), if_pos (by omega), h2, dig_is (by omega) c, Option.bind_some, if_neg (by omega)]
    simp only [QE.foundryref01_Literal.j1]
    rw [if_neg (by simp), hvI_dig hc, if_neg (by omega)]
    simp only [QE.foundryref01_Literal.j2]
    rw [if_neg (by rw [decide_eq_true_iff]; omega), e5 n (by omega), e5 x (by omega)]
    have el : (c :: l).length = l.length + 1 := rfl
    rw [el, show n + (l.length + 1) = (n + 1) + l.length by omega, show b + (l.length + 1) = (b + 1) + l.length by omega]
    by_cases c1 : n + 1 ≤ 15
    · obtain ⟨g1, g2⟩ := step10 c1 (hm (by omega)) (show c.toNat - 48 ≤ 9 by omega)
      rw [if_pos (by omega), if_pos trivial, g2, e5 b (by omega)]
      exact lit_tail s hs l (x + 1) (n + 1) (b + 1) _ k h3 hl (by omega) (by omega) (fun _ => g1) (by omega)
    · rw [if_neg (by omega), if_pos trivial, e5 b (by omega), lit_tail s hs l (x + 1) (n + 1) (b + 1) m k h3 hl (by omega) (by omega) (fun h => absurd h c1) (by omega)]
      unfold litEnd
      rw [if_neg (by omega), if_pos (by omega), if_neg (by omega), if_pos (by omega)]

theorem lit_head (s : ByteArray) (hs : s.size ≤ 100000) (d1 : List UInt8) (hd1 : ∀ c ∈ d1, digB c = true) (h0 : 0 < d1.length) : ∀ (d : List UInt8) (x n m k : Nat), (L s).drop x = d ++ 46 :: d1 → (∀ c ∈ d, digB c = true) → n ≤ x → 1 ≤ n + d.length → (n ≤ 15 → m < 10 ^ n) → 80 + 3 * (d.length + d1.length) ≤ k →
    QE.foundryref01_Literal.l0 k s (m : Int) (n : Int) 0 false (x : Int) = litEnd (dval (d ++ d1) m) (n + d.length + d1.length) d1.length
  | [], x, n, m, k, h, hd, hnx, hn, hm, hk => by
    obtain ⟨h1, h2, h3⟩ := drop_at s (show (L s).drop x = 46 :: d1 from h)
    obtain ⟨k, rfl⟩ : ∃ i, k = i + 2 := ⟨k - 2, by omega⟩
    simp only [List.length_nil] at hk hn
    simp only [QE.foundryref01_Literal.l0]
    rw [if_pos (by omega), if_pos (by omega), h2, dig_is (by omega) 46, Option.bind_some, if_pos (by decide), if_neg (by simp)]
    simp only [QE.foundryref01_Literal.j1]
    rw [if_pos (by rw [decide_eq_true_iff]; omega), w64 _ (by omega) (by omega), show ((x : Int) + 1) = ((x + 1 : Nat) : Int) by omega]
    have := lit_tail s hs d1 (x + 1) n 0 m k h3 hd1 (by omega) (by omega) hm (by omega)
    simp only [List.nil_append, List.length_nil, Nat.add_zero]
    rw [Nat.zero_add] at this
    exact this
  | c :: l, x, n, m, k, h, hd, hnx, hn, hm, hk => by
    obtain ⟨h1, h2, h3⟩ := drop_at s (show (L s).drop x = c :: (l ++ 46 :: d1) from h)
    obtain ⟨k, rfl⟩ : ∃ i, k = i + 3 := ⟨k - 3, by omega⟩
    have hc := hd c (List.mem_cons_self ..)
    have hc2 := dig_cases hc
    have hl : ∀ d ∈ l, digB d = true := fun d hm => hd d (List.mem_cons_of_mem _ hm)
    have e5 : ∀ y : Nat, y ≤ 100000 → wrap64 ((y : Int) + 1) = ((y + 1 : Nat) : Int) := fun y hy => by rw [w64 _ (by omega) (by omega)]; omega
    simp only [List.length_cons] at hk
    simp only [QE.foundryref01_Literal.l0]
    rw [if_pos (by omega), if_pos (by omega), h2, dig_is (by omega) c, Option.bind_some, if_neg (by omega)]
    simp only [QE.foundryref01_Literal.j1]
    rw [if_neg (by simp), hvI_dig hc, if_neg (by omega)]
    simp only [QE.foundryref01_Literal.j2]
    rw [if_neg (by rw [decide_eq_true_iff]; omega), e5 n (by omega), e5 x (by omega)]
    have el : (c :: l).length = l.length + 1 := rfl
    rw [el, show n + (l.length + 1) + d1.length = (n + 1) + l.length + d1.length by omega]
    by_cases c1 : n + 1 ≤ 15
    · obtain ⟨g1, g2⟩ := step10 c1 (hm (by omega)) (show c.toNat - 48 ≤ 9 by omega)
      rw [if_pos (by omega), if_neg (by simp), g2]
      exact lit_head s hs d1 hd1 h0 l (x + 1) (n + 1) _ k h3 hl (by omega) (by omega) (fun _ => g1) (by omega)
    · rw [if_neg (by omega), if_neg (by simp), lit_head s hs d1 hd1 h0 l (x + 1) (n + 1) m k h3 hl (by omega) (by omega) (fun h => absurd h c1) (by omega)]
      unfold litEnd
      rw [if_neg (by omega), if_pos (by omega), if_neg (by omega), if_pos (by omega)]

theorem index_dot (d1 : List UInt8) : ∀ d : List UInt8, (∀ c ∈ d, digB c = true) → Lib.indexByte (d ++ 46 :: d1) 46 = (d.length : Int)
  | [], h => by unfold Lib.indexByte; rfl
  | c :: d, h => by
    have hc := dig_cases (h c (List.mem_cons_self ..))
    have hne : c ≠ 46 := by rintro rfl; exact absurd hc.1 (by decide)
    have ih := index_dot d1 d (fun c hm => h c (List.mem_cons_of_mem _ hm))
    rw [List.cons_append]
    unfold Lib.indexByte
    rw [if_neg (by simpa using hne), ih, if_neg (by simp)]
    simp only [List.length_cons]
    omega

theorem cut_dot (d d1 : List UInt8) (hd : ∀ c ∈ d, digB c = true) (hz : d.length + d1.length ≤ 90000) : strings_Cut.f (B (d ++ 46 :: d1)) ⟨#[46]⟩ = some (B d, B d1, true) := by
  have h1 : ((⟨#[46]⟩ : ByteArray)).size = 1 := rfl
  have hi := index_dot d1 d hd
  have hsz : (B (d ++ 46 :: d1)).size = d.length + 1 + d1.length := by rw [B_size, List.length_append, List.length_cons]; omega
  unfold strings_Cut.f stringslite_Cut.f stringslite_Index.f
  rw [if_pos h1, h1, Option.bind_some]
  have e46 : ((⟨#[46]⟩ : ByteArray)).data.toList.getD 0 0 = 46 := rfl
  rw [e46]
  have e0 : (B (d ++ 46 :: d1)).data.toList = d ++ 46 :: d1 := L_B _
  rw [e0, hi]
  have ew : wrap64 ((d.length : Int) + ((1 : Nat) : Int)) = ((d.length + 1 : Nat) : Int) := by rw [w64 _ (by omega) (by omega)]; omega
  rw [ew, if_pos (by omega), if_pos (by omega), if_pos (by omega), if_pos (by omega)]
  rw [Int.toNat_natCast, Int.toNat_natCast, cut_B, cut_B, hsz, L_B]
  have a1 : ((d ++ 46 :: d1).drop 0).take (d.length - 0) = d := by simp
  have a2 : ((d ++ 46 :: d1).drop (d.length + 1)).take (d.length + 1 + d1.length - (d.length + 1)) = d1 := by
    rw [List.drop_append, List.drop_of_length_le (by omega), show d.length + 1 - d.length = 1 by omega, show d.length + 1 + d1.length - (d.length + 1) = d1.length by omega]
    simp
  rw [a1, a2, if_pos (by omega)]
  rfl

theorem digits_ok (d : List UInt8) (hd : ∀ c ∈ d, digB c = true) (h : 0 < d.length) : digitsB (B d) = true := by
  unfold digitsB
  rw [Bool.and_eq_true]
  constructor
  · unfold digsB
    rw [List.all_eq_true]
    intro c hc
    have : c ∈ d := hc
    rw [← dig_dgB]
    exact hd c this
  · have : (B d).size ≠ 0 := by rw [B_size]; omega
    exact decide_eq_true this

theorem ten_fin : ∀ b : Fin 16, floatOfInt .f64 ((10 ^ b.val : Nat) : Int) = tenW b.val := by decide +kernel
theorem word_canon (neg : Bool) (r : Nat) (h : r ≤ 9218868437227405312) : canonN (D.word neg r) = D.word neg r := by
  have := (word_rung neg (show r < 9223372036854775808 by omega)).1
  unfold canonN
  rw [if_neg (by unfold rung at this; omega)]
theorem near_canon (neg : Bool) (m : Nat) (p : Int) : canonN (D.nearest neg m p) = D.nearest neg m p := by
  by_cases h : m = 0
  · unfold Ieee.Format.nearest
    rw [if_pos h]
    exact word_canon neg 0 (by decide)
  · rw [nearest_eq _ _ _ h]
    exact word_canon neg _ (Nat.min_le_right _ _)
theorem quo_canon (n : Int) (b : Nat) (hb : b ≤ 15) : ∃ r, floatBits .quo .f64 (floatOfInt .f64 n) (tenW b) = some r ∧ canonN r = r := by
  obtain ⟨t1, t2⟩ := tenW_fin ⟨b, by omega⟩
  have hy := read_finite t1
  have hx := ofInt_rung n
  show ∃ r, ((D.read (floatOfInt .f64 n)).quotient (D.fractionBits + 2) (D.read (tenW b))).map D.write = some r ∧ canonN r = r
  generalize floatOfInt .f64 n = x at *
  rw [hy]
  by_cases c : rung x = 9218868437227405312
  · rw [read_inf c]
    exact ⟨_, rfl, word_canon _ _ (by decide)⟩
  · rw [read_finite (by omega)]
    simp only [Ieee.Datum.quotient]
    rw [if_neg t2]
    exact ⟨_, rfl, near_canon _ _ _⟩

theorem dval_lt : ∀ (l : List UInt8) (a : Nat), (∀ c ∈ l, digB c = true) → dval l a < (a + 1) * 10 ^ l.length
  | [], a, h => by simp [dval]
  | c :: l, a, h => by
    have hc := dig_cases (h c (List.mem_cons_self ..))
    have ih := dval_lt l (a * 10 + (c.toNat - 48)) (fun d hd => h d (List.mem_cons_of_mem _ hd))
    simp only [dval, List.length_cons, Nat.pow_succ]
    refine Nat.lt_of_lt_of_le ih ?_
    rw [Nat.mul_comm (10 ^ l.length) 10, ← Nat.mul_assoc]
    exact Nat.mul_le_mul_right _ (by omega)

theorem rlit (u : List UInt8) (hlen : u.length ≤ 4096) (d d1 : List UInt8) (hd : ∀ c ∈ d, digB c = true) (hd1 : ∀ c ∈ d1, digB c = true) (h1 : 1 ≤ d.length) (h2 : 0 < d1.length) (hu : ∃ rest, u = d ++ 46 :: d1 ++ rest) (k : Nat) (hk : 30000 ≤ k) :
    QE.foundryref01_Literal.f k (B (u.take (d.length + 1 + d1.length))) = some (LV (u.take (d.length + 1 + d1.length))) := by
  obtain ⟨rest, rfl⟩ := hu
  have hl : d.length + 1 + d1.length ≤ 4096 := by
    simp only [List.length_append, List.length_cons] at hlen
    omega
  have e : (d ++ 46 :: d1 ++ rest).take (d.length + 1 + d1.length) = d ++ 46 :: d1 := by
    rw [List.take_append_of_le_length (by simp only [List.length_append, List.length_cons]; omega)]
    exact List.take_of_length_le (by simp only [List.length_append, List.length_cons]; omega)
  rw [e]
  have hsz : (B (d ++ 46 :: d1)).size = d.length + 1 + d1.length := by rw [B_size, List.length_append, List.length_cons]; omega
  have hT := lit_head (B (d ++ 46 :: d1)) (by omega) d1 hd1 h2 d 0 0 0 k (by rw [L_B]; rfl) hd (Nat.le_refl _) (by omega) (by decide) (by omega)
  rw [← LV_is _ (by simp only [List.length_append, List.length_cons]; omega)]
  refine hT.trans ?_
  have hP : floats_Literal.f (B (d ++ 46 :: d1)) = if 15 < d.length + d1.length then some (0, 3) else (litBits (B d) (B d1)).map fun r => (r, 0) := by
    unfold floats_Literal.f
    rw [if_pos (by omega), cut_dot d d1 hd (by omega), Option.bind_some]
    simp only [litTail]
    rw [if_neg (by simp), digits_ok d hd (by omega), digits_ok d1 hd1 h2, if_neg (by simp), if_neg (by simp), B_size, B_size]
  rw [hP]
  unfold litEnd
  rw [if_neg (by omega)]
  by_cases c : 15 < d.length + d1.length
  · rw [if_pos (by omega), if_pos c]
  · rw [if_neg (by omega), if_neg c]
    have ha : ∀ c ∈ d ++ d1, digB c = true := by
      intro c hc
      rcases List.mem_append.1 hc with h | h
      · exact hd c h
      · exact hd1 c h
    have hv := dval_lt (d ++ d1) 0 ha
    have hp : 10 ^ (d ++ d1).length ≤ 10 ^ 15 := Nat.pow_le_pow_right (by decide) (by rw [List.length_append]; omega)
    have hpu := puint_dval (d ++ d1) 0 ha (by decide)
    rw [if_pos (by have : (10 : Nat) ^ 15 < 18446744073709551616 := by decide
                   omega)] at hpu
    obtain ⟨r, hr, hc⟩ := quo_canon ((dval (d ++ d1) 0 : Nat) : Int) d1.length (by omega)
    have et := ten_fin ⟨d1.length, by omega⟩
    dsimp only at et
    have eb : (B d ++ B d1).data.toList = d ++ d1 := by
      rw [show (B d ++ B d1).data.toList = (B d).data.toList ++ (B d1).data.toList by simp]
      rfl
    have hne : d ++ d1 ≠ [] := by
      intro h
      have := congrArg List.length h
      rw [List.length_append, List.length_nil] at this
      omega
    unfold quoR litBits Lib.parseUintB
    rw [et, hr, eb, if_neg hne, hpu]
    dsimp only
    rw [B_size, hr]
    simp only [Option.map_some, Option.getD_some, Option.isSome_some, if_true]
    rw [hc]
end Go.Proofs.YthifejhdmjoolaaGreatDoor.Lx

namespace Go.Proofs.YthifejhdmjoolaaGreatDoor.Lx
open Go Go.RowKit Go.Proofs.YthifejhdmjoolaaGreatDoorG Go.Proofs.YthifejhdmjoolaaGreatDoorW.PrintWords Go.Proofs.YthifejhdmjoolaaGreatDoorW.PrintLast Go.Proofs.YthifejhdmjoolaaGreatDoorW.PrintMore
set_option linter.unusedVariables false
set_option linter.unusedSimpArgs false

theorem i1 (x : Nat) (hx : x ≤ 100000) : wrap64 ((x : Int) + 1) = ((x + 1 : Nat) : Int) := by rw [w64 _ (by omega) (by omega)]; omega

/-! numerals -/
def hexFin (k : Nat) (s : ByteArray) (a y : Nat) : Option (Int × ByteArray × Int × Int × Int × Int) :=
  (QE.foundryref01_Parse.f k (s.extract a y)).bind fun bt178 => (if bt178.2 = 0 then (some (4, s.extract a y, 2, bt178.1, (a : Int), 0)) else (some (4, s.extract a y, 0, 0, (a : Int), 10)))
theorem rn_l0 (s : ByteArray) (hs : s.size ≤ 4096) (a y : Nat) (R : Int × ByteArray × Int × Int × Int × Int) (K0 : Nat) (hF : ∀ k, K0 ≤ k → hexFin k s a y = some R) :
    ∀ (l : List UInt8) (x k : Nat), (L s).drop x = l → x + (l.takeWhile hexB).length = y → x ≤ s.size → a ≤ x → K0 + l.length + 2 ≤ k → QE.foundryref05_numeral.l0 k s (a : Int) (x : Int) 3 ⟨#[]⟩ 0 0 (a : Int) = some R
  | [], x, k, h, hy, hx, ha, hk => by
    have he := drop_end s h
    obtain ⟨k, rfl⟩ : ∃ j, k = j + 1 := ⟨k - 1, by omega⟩
    have hxy : y = x := by rw [← hy]; simp
    subst hxy
    simp only [QE.foundryref05_numeral.l0]
    rw [if_neg (by omega), if_pos (by omega), if_pos (by omega), if_pos (by omega), Int.toNat_natCast, Int.toNat_natCast]
    exact hF k (by simp at hk; omega)
  | c :: l, x, k, h, hy, hx, ha, hk => by
    obtain ⟨h1, h2, h3⟩ := drop_at s h
    obtain ⟨k, rfl⟩ : ∃ j, k = j + 1 := ⟨k - 1, by omega⟩
    simp only [List.length_cons] at hk
    rw [List.takeWhile_cons] at hy
    simp only [QE.foundryref05_numeral.l0]
    rw [if_pos (by omega), if_pos (by omega), h2, rhex, Option.bind_some]
    by_cases c1 : hexB c = true
    · rw [if_pos c1] at hy ⊢
      rw [i1 x (by omega)]
      exact rn_l0 s hs a y R K0 hF l (x + 1) k h3 (by simp only [List.length_cons] at hy; omega) (by omega) (by omega) (by omega)
    · rw [if_neg c1] at hy ⊢
      have hxy : y = x := by rw [← hy]; simp
      subst hxy
      rw [if_pos (by omega), if_pos (by omega), if_pos (by omega), Int.toNat_natCast, Int.toNat_natCast]
      exact hF k (by omega)

theorem rn_l2 (s : ByteArray) (hs : s.size ≤ 4096) (a y : Nat) (R : Int × ByteArray × Int × Int × Int × Int) (K0 : Nat) (hF : ∀ k, K0 ≤ k → QE.foundryref05_numeral.j6 k s (a : Int) (y : Int) 3 ⟨#[]⟩ 0 0 (a : Int) = some R) :
    ∀ (l : List UInt8) (x k : Nat), (L s).drop x = l → x + (l.takeWhile digB).length = y → x ≤ s.size → K0 + l.length + 2 ≤ k → QE.foundryref05_numeral.l2 k s (a : Int) (x : Int) 3 ⟨#[]⟩ 0 0 (a : Int) = some R
  | [], x, k, h, hy, hx, hk => by
    have he := drop_end s h
    obtain ⟨k, rfl⟩ : ∃ j, k = j + 1 := ⟨k - 1, by omega⟩
    have hxy : y = x := by rw [← hy]; simp
    subst hxy
    simp only [QE.foundryref05_numeral.l2]
    rw [if_neg (by omega)]
    exact hF k (by simp at hk; omega)
  | c :: l, x, k, h, hy, hx, hk => by
    obtain ⟨h1, h2, h3⟩ := drop_at s h
    obtain ⟨k, rfl⟩ : ∃ j, k = j + 1 := ⟨k - 1, by omega⟩
    simp only [List.length_cons] at hk
    rw [List.takeWhile_cons] at hy
    simp only [QE.foundryref05_numeral.l2]
    rw [if_pos (by omega), if_pos (by omega), h2, rdig, Option.bind_some]
    by_cases c1 : digB c = true
    · rw [if_pos c1] at hy ⊢
      rw [i1 x (by omega)]
      exact rn_l2 s hs a y R K0 hF l (x + 1) k h3 (by simp only [List.length_cons] at hy; omega) (by omega) (by omega)
    · rw [if_neg c1] at hy ⊢
      have hxy : y = x := by rw [← hy]; simp
      subst hxy
      exact hF k (by omega)

theorem rn_l1 (s : ByteArray) (hs : s.size ≤ 4096) (a y : Nat) (R : Int × ByteArray × Int × Int × Int × Int) (K0 : Nat) (hF : ∀ k, K0 ≤ k → QE.foundryref05_numeral.j3 k s (a : Int) (y : Int) 3 ⟨#[]⟩ 0 0 (a : Int) = some R) :
    ∀ (l : List UInt8) (x k : Nat), (L s).drop x = l → x + (l.takeWhile digB).length = y → x ≤ s.size → K0 + l.length + 2 ≤ k → QE.foundryref05_numeral.l1 k s (a : Int) (x : Int) 3 ⟨#[]⟩ 0 0 (a : Int) = some R
  | [], x, k, h, hy, hx, hk => by
    have he := drop_end s h
    obtain ⟨k, rfl⟩ : ∃ j, k = j + 1 := ⟨k - 1, by omega⟩
    have hxy : y = x := by rw [← hy]; simp
    subst hxy
    simp only [QE.foundryref05_numeral.l1]
    rw [if_neg (by omega)]
    exact hF k (by simp at hk; omega)
  | c :: l, x, k, h, hy, hx, hk => by
    obtain ⟨h1, h2, h3⟩ := drop_at s h
    obtain ⟨k, rfl⟩ : ∃ j, k = j + 1 := ⟨k - 1, by omega⟩
    simp only [List.length_cons] at hk
    rw [List.takeWhile_cons] at hy
    simp only [QE.foundryref05_numeral.l1]
    rw [if_pos (by omega), if_pos (by omega), h2, rdig, Option.bind_some]
    by_cases c1 : digB c = true
    · rw [if_pos c1] at hy ⊢
      rw [i1 x (by omega)]
      exact rn_l1 s hs a y R K0 hF l (x + 1) k h3 (by simp only [List.length_cons] at hy; omega) (by omega) (by omega)
    · rw [if_neg c1] at hy ⊢
      have hxy : y = x := by rw [← hy]; simp
      subst hxy
      exact hF k (by omega)

theorem extract_take (s : ByteArray) (a n : Nat) (u : List UInt8) (hu : (L s).drop a = u) : s.extract a (a + n) = B (u.take n) := by
  rw [cut_B, hu, show a + n - a = n by omega]

/-- a numeral of digits -/
theorem rnum_told (s : ByteArray) (hs : s.size ≤ 4096) (a : Nat) (u : List UInt8) (hu : (L s).drop a = u) (ha : a < s.size) (h1 : f1 u = true) (k : Nat) (hk : 50000 ≤ k) :
    ∃ R, QE.foundryref05_numeral.l1 k s (a : Int) (a : Int) 3 ⟨#[]⟩ 0 0 (a : Int) = some R ∧ Told (num V u) u a R := by
  have hul : u.length = s.size - a := by rw [← hu, List.length_drop, L_size]
  have hnle : (u.takeWhile digB).length ≤ u.length := (List.takeWhile_prefix _).length_le
  have hn1 : 1 ≤ (u.takeWhile digB).length := (tw_pos u).2 h1
  have hok := tw_ok digB u
  have hut := tw_take digB u
  have hdrop : u.drop (u.takeWhile digB).length = (L s).drop (a + (u.takeWhile digB).length) := by rw [← hu, List.drop_drop]
  have whole : ∀ k, 6000 ≤ k → ∃ R, QE.foundryref05_numeral.j4 k s (a : Int) ((a + (u.takeWhile digB).length : Nat) : Int) false 3 ⟨#[]⟩ 0 0 (a : Int) = some R ∧ Told (match V.int (u.takeWhile digB) with | some v => ⟨3, (u.takeWhile digB).length, 1, v, 0⟩ | none => ⟨0, 0, 0, 0, 80⟩) u a R := by
    intro k hk
    obtain ⟨k, rfl⟩ : ∃ j, k = j + 1 := ⟨k - 1, by omega⟩
    simp only [QE.foundryref05_numeral.j4]
    rw [if_neg (by simp), if_pos (by omega), if_pos (by omega), if_pos (by omega), Int.toNat_natCast, Int.toNat_natCast, extract_take s a _ u hu, hut, rnum_is _ (by omega) hok k (by omega), Option.bind_some]
    have hI : V.int (u.takeWhile digB) = if dval (u.takeWhile digB) 0 < 9223372036854775808 then some ((dval (u.takeWhile digB) 0 : Nat) : Int) else none := IV_dval _ (by intro h; rw [h] at hn1; simp at hn1) hok
    rw [hI]
    by_cases g : dval (u.takeWhile digB) 0 < 9223372036854775808
    · rw [if_pos g, if_pos g, if_pos rfl]
      exact ⟨_, rfl, rfl, fun _ => by dsimp only; rw [hut]⟩
    · rw [if_neg g, if_neg g, if_neg (by simp)]
      exact ⟨_, rfl, rfl, fun h => absurd h (show ¬ ((80 : Int) = 0) by decide)⟩
  have main : ∃ R, (∀ k, 40000 ≤ k → QE.foundryref05_numeral.j3 k s (a : Int) ((a + (u.takeWhile digB).length : Nat) : Int) 3 ⟨#[]⟩ 0 0 (a : Int) = some R) ∧ Told (num V u) u a R := by
    have steady : ∀ (k0 : Nat) (R), QE.foundryref05_numeral.j3 k0 s (a : Int) ((a + (u.takeWhile digB).length : Nat) : Int) 3 ⟨#[]⟩ 0 0 (a : Int) = some R → ∀ k, k0 ≤ k → QE.foundryref05_numeral.j3 k s (a : Int) ((a + (u.takeWhile digB).length : Nat) : Int) 3 ⟨#[]⟩ 0 0 (a : Int) = some R := fun k0 R h k hk =>
      at_rounds (g := fun k => QE.foundryref05_numeral.j3 k s (a : Int) ((a + (u.takeWhile digB).length : Nat) : Int) 3 ⟨#[]⟩ 0 0 (a : Int)) (fun k => (QE.foundryref05_numeral.mono_l k).2.2.1 _ _ _ _ _ _ _ _) hk h
    unfold num
    by_cases hc : (u.drop (u.takeWhile digB).length).head? = some 46 ∧ 0 < (((u.drop (u.takeWhile digB).length).drop 1).takeWhile digB).length
    · rw [if_pos hc]
      obtain ⟨c1, c2⟩ := hc
      cases hv : u.drop (u.takeWhile digB).length with
      | nil => rw [hv] at c1; cases c1
      | cons c v =>
        rw [hv] at c1 c2 hdrop
        simp only [List.head?_cons, Option.some.injEq] at c1
        subst c1
        simp only [List.drop_succ_cons, List.drop_zero] at c2 ⊢
        obtain ⟨d1, d2, d3⟩ := drop_at s hdrop.symm
        have hf1 := (tw_pos v).1 c2
        cases v with
        | nil => cases hf1
        | cons d v =>
          obtain ⟨g1, g2, g3⟩ := drop_at s d3
          have hlit := rlit u (by omega) (List.takeWhile digB u) (List.takeWhile digB (d :: v)) hok (tw_ok digB (d :: v)) hn1 c2 (by
            have := tw_split digB u
            rw [hv] at this
            have h2 := tw_split digB (d :: v)
            refine ⟨List.drop (List.takeWhile digB (d :: v)).length (d :: v), this.trans ?_⟩
            rw [List.append_assoc, List.cons_append, ← h2])
          have hml : (List.takeWhile digB (d :: v)).length ≤ (d :: v).length := (List.takeWhile_prefix _).length_le
          have hvl : (d :: v).length = s.size - (a + (u.takeWhile digB).length + 1) := by rw [← d3, List.length_drop, L_size]
          refine ⟨(4, B (u.take ((u.takeWhile digB).length + 1 + (List.takeWhile digB (d :: v)).length)), 2, (LV (u.take ((u.takeWhile digB).length + 1 + (List.takeWhile digB (d :: v)).length))).1, (a : Int), (LV (u.take ((u.takeWhile digB).length + 1 + (List.takeWhile digB (d :: v)).length))).2), ?_, rfl, fun h0 => ?_⟩
          · intro k hk
            obtain ⟨k, rfl⟩ : ∃ j, k = j + 2 := ⟨k - 2, by omega⟩
            simp only [QE.foundryref05_numeral.j3]
            rw [i1 _ (by omega), if_pos (by omega), if_pos (by omega), if_pos (by omega), d2, if_pos (by decide), if_pos (by omega), g2, rdig, Option.bind_some]
            simp only [QE.foundryref05_numeral.j4]
            rw [if_pos (show digB d = true from hf1), i1 _ (by omega)]
            refine rn_l2 s hs a (a + ((u.takeWhile digB).length + 1 + (List.takeWhile digB (d :: v)).length)) _ 30001 ?_ (d :: v) (a + (u.takeWhile digB).length + 1) k d3 (by omega) (by omega) (by omega)
            intro k hk
            obtain ⟨k, rfl⟩ : ∃ j, k = j + 1 := ⟨k - 1, by omega⟩
            simp only [QE.foundryref05_numeral.j6]
            rw [if_pos (by omega), if_pos (by omega), if_pos (by omega), Int.toNat_natCast, Int.toNat_natCast, extract_take s a _ u hu, hlit k (by omega), Option.bind_some]
          · have h0 : (LV (u.take ((u.takeWhile digB).length + 1 + (List.takeWhile digB (d :: v)).length))).2 = 0 := h0
            show (4, _, 2, (LV _).1, (a : Int), (LV _).2) = _
            rw [h0]
            rfl
    · rw [if_neg hc]
      obtain ⟨R, hR, hT⟩ := whole 6000 (Nat.le_refl _)
      refine ⟨R, fun k hk => ?_, hT⟩
      refine steady 6001 R ?_ k (by omega)
      simp only [QE.foundryref05_numeral.j3]
      rw [i1 _ (by omega)]
      by_cases c1 : ((a + (u.takeWhile digB).length + 1 : Nat) : Int) < (s.size : Int)
      · rw [if_pos c1, if_pos (by omega), if_pos (by omega)]
        cases hv : u.drop (u.takeWhile digB).length with
        | nil => rw [hv] at hdrop; have := drop_end s hdrop.symm; omega
        | cons c v =>
          rw [hv] at hdrop hc
          obtain ⟨d1, d2, d3⟩ := drop_at s hdrop.symm
          rw [d2]
          by_cases c2 : c = 46
          · subst c2
            cases v with
            | nil => have := drop_end s d3; omega
            | cons d v =>
              obtain ⟨g1, g2, g3⟩ := drop_at s d3
              have hd : digB d = false := by
                cases hdd : digB d with
                | false => rfl
                | true =>
                  exfalso
                  exact hc ⟨rfl, (tw_pos (d :: v)).2 hdd⟩
              rw [if_pos (by decide), if_pos (by omega), g2, rdig, hd, Option.bind_some]
              exact hR
          · have hn : ¬ ((c.toNat : Int) = 46) := fun e => c2 ((byte_eq (n := 46) (by decide)).1 e)
            rw [if_neg hn]
            exact hR
      · rw [if_neg c1]
        exact hR
  obtain ⟨R, hR, hT⟩ := main
  exact ⟨R, rn_l1 s hs a _ R 40000 hR u a k hu rfl (by omega) (by omega), hT⟩

theorem rnumeral (s : ByteArray) (hs : s.size ≤ 4096) (a : Nat) (c : UInt8) (l : List UInt8) (hu : (L s).drop a = c :: l) (hd : digB c = true) (hlt : letB c = false) :
    ∃ R, Told (tok V (c :: l)) (c :: l) a R ∧ ∀ k, 60000 ≤ k → QE.foundryref05_numeral.f k s (a : Int) = some R := by
  obtain ⟨h1, h2, h3⟩ := drop_at s hu
  have hul : (c :: l).length = s.size - a := by rw [← hu, List.length_drop, L_size]
  have start : ∀ k, QE.foundryref05_numeral.f k s (a : Int) = QE.foundryref05_numeral.j0 k s (a : Int) (a : Int) (decide (c = 48 ∧ l.head? = some 120)) 3 ⟨#[]⟩ 0 0 (a : Int) := by
    intro k
    unfold QE.foundryref05_numeral.f
    rw [if_pos (by omega), if_pos (by omega), h2, i1 a (by omega)]
    by_cases c1 : c = 48
    · rw [if_pos (by rw [c1]; rfl)]
      cases l with
      | nil =>
        have := drop_end s h3
        rw [if_neg (by omega)]
        rw [decide_eq_false (by simp)]
      | cons d l =>
        obtain ⟨g1, g2, g3⟩ := drop_at s h3
        rw [if_pos (by omega), if_pos (by omega), g2]
        congr 1
        by_cases c2 : d = 120
        · subst c2
          rw [decide_eq_true ⟨c1, rfl⟩]; rfl
        · have hn : ((d.toNat : Int) == 120) = false := beq_eq_false_iff_ne.mpr (fun e => c2 ((byte_eq (n := 120) (by decide)).1 e))
          rw [hn, decide_eq_false (by simp [c2])]
    · have hn : ¬ ((c.toNat : Int) = 48) := fun e => c1 ((byte_eq (n := 48) (by decide)).1 e)
      rw [if_neg hn, decide_eq_false (by simp [c1])]
  have hl0 : ¬ letB c = true := by rw [hlt]; simp
  by_cases c2 : c = 48 ∧ l.head? = some 120
  · have htok : tok V (c :: l) = ⟨4, 2 + ((l.drop 1).takeWhile hexB).length, 2, (V.par (48 :: 120 :: (l.drop 1).takeWhile hexB)).1, (V.par (48 :: 120 :: (l.drop 1).takeWhile hexB)).2⟩ := by
      simp only [tok]
      rw [if_neg hl0, if_pos c2]
    rw [htok]
    obtain ⟨rfl, hl⟩ := c2
    cases l with
    | nil => cases hl
    | cons d l =>
      simp only [List.head?_cons, Option.some.injEq] at hl
      subst hl
      have d2 : (L s).drop (a + 2) = l := (drop_at s h3).2.2
      simp only [List.drop_succ_cons, List.drop_zero]
      simp only [List.length_cons] at hul
      have hle : (l.takeWhile hexB).length ≤ l.length := (List.takeWhile_prefix _).length_le
      have hut : (48 :: 120 :: l).take (2 + (l.takeWhile hexB).length) = 48 :: 120 :: l.takeWhile hexB := by
        rw [show 2 + (l.takeWhile hexB).length = (l.takeWhile hexB).length + 1 + 1 by omega, List.take_succ_cons, List.take_succ_cons]
        congr 2
        exact tw_take hexB l
      have hok := tw_ok hexB l
      obtain ⟨t1, t2, t3, t4⟩ := txt_hex (l.takeWhile hexB) hok (by omega)
      obtain ⟨r, ⟨k0, hr⟩, href⟩ := Pure.parse_same (B (48 :: 120 :: l.takeWhile hexB)) t1 t2 t3 t4
      have hPV := PV_is hr
      have hr2 : r.2 = 0 ∨ r.2 = 10 := by
        have h := href 300 (Nat.le_refl _)
        rw [Pure.refparse_is _ (by omega) t3 300 (Nat.le_refl _)] at h
        split at h
        · injection h with h; rw [← h]; exact .inl rfl
        · injection h with h; rw [← h]; exact .inr rfl
      have e : s.extract a (a + (2 + (l.takeWhile hexB).length)) = B (48 :: 120 :: l.takeWhile hexB) := by
        rw [extract_take s a _ _ hu, hut]
      have hVp : V.par (48 :: 120 :: l.takeWhile hexB) = r := hPV
      rw [hVp]
      refine ⟨if r.2 = 0 then (4, B (48 :: 120 :: l.takeWhile hexB), 2, r.1, (a : Int), 0) else (4, B (48 :: 120 :: l.takeWhile hexB), 0, 0, (a : Int), 10), ⟨?_, fun h0 => ?_⟩, fun k hk => ?_⟩
      · dsimp only
        rcases hr2 with h | h
        · rw [if_pos h, h]
        · rw [if_neg (by rw [h]; decide), h]
      · have h0 : r.2 = 0 := h0
        rw [if_pos h0]
        dsimp only
        rw [hut]
      · rw [start k, decide_eq_true ⟨rfl, rfl⟩]
        obtain ⟨k, rfl⟩ : ∃ j, k = j + 1 := ⟨k - 1, by omega⟩
        simp only [QE.foundryref05_numeral.j0]
        rw [if_pos trivial, show ((a : Int) + 2) = ((a + 2 : Nat) : Int) by omega, w64 _ (by omega) (by omega)]
        refine rn_l0 s hs a (a + (2 + (l.takeWhile hexB).length)) _ 400 ?_ l (a + 2) k d2 (by omega) (by omega) (by omega) (by omega)
        intro k hk
        unfold hexFin
        rw [e, href k (by omega), Option.bind_some]
        split <;> rfl
  · obtain ⟨R, hR, hT⟩ := rnum_told s hs a (c :: l) hu h1 hd 50000 (Nat.le_refl _)
    have htok : tok V (c :: l) = num V (c :: l) := by
      simp only [tok]
      rw [if_neg hl0, if_neg c2, if_pos hd]
    rw [htok]
    refine ⟨R, hT, fun k hk => ?_⟩
    have h5 : QE.foundryref05_numeral.f 60000 s (a : Int) = some R := by
      rw [start 60000, decide_eq_false c2]
      show QE.foundryref05_numeral.j0 (59999 + 1) s (a : Int) (a : Int) false 3 ⟨#[]⟩ 0 0 (a : Int) = some R
      simp only [QE.foundryref05_numeral.j0]
      rw [if_neg (by simp)]
      exact at_rounds (g := fun k => QE.foundryref05_numeral.l1 k s (a : Int) (a : Int) 3 ⟨#[]⟩ 0 0 (a : Int)) (fun k => (QE.foundryref05_numeral.mono_l k).2.2.2.2.2.2 _ _ _ _ _ _ _ _) (by omega : 50000 ≤ 59999) hR
    exact at_rounds (g := fun k => QE.foundryref05_numeral.f k s (a : Int)) (fun k => QE.foundryref05_numeral.mono _ _ k) hk h5
end Go.Proofs.YthifejhdmjoolaaGreatDoor.Lx

namespace Go.Proofs.YthifejhdmjoolaaGreatDoor.Lx
open Go Go.RowKit Go.Proofs.YthifejhdmjoolaaGreatDoorG Go.Proofs.YthifejhdmjoolaaGreatDoorW.PrintWords Go.Proofs.YthifejhdmjoolaaGreatDoorW.PrintLast Go.Proofs.YthifejhdmjoolaaGreatDoorW.PrintMore
set_option linter.unusedVariables false
set_option linter.unusedSimpArgs false

theorem rmark_loop (s : ByteArray) (a : Nat) (ha : a < s.size) (c : UInt8) (hb : bt s (a : Int) = (c.toNat : Int)) : ∀ (m : List UInt8) (i k : Nat), (L (B marks1)).drop i = m → i ≤ 17 → m.length + 1 ≤ k →
    QE.foundryref05_mark.l0 k s (a : Int) (B marks1) (i : Int) = some (if c ∈ m then 1 else 0)
  | [], i, k, h, hi, hk => by
    have he := drop_end (B marks1) h
    obtain ⟨k, rfl⟩ : ∃ j, k = j + 1 := ⟨k - 1, by omega⟩
    simp only [QE.foundryref05_mark.l0]
    rw [if_neg (by omega), if_neg (by simp)]
  | d :: m, i, k, h, hi, hk => by
    obtain ⟨h1, h2, h3⟩ := drop_at (B marks1) h
    have hz : (B marks1).size = 17 := rfl
    obtain ⟨k, rfl⟩ : ∃ j, k = j + 1 := ⟨k - 1, by omega⟩
    simp only [List.length_cons] at hk
    simp only [QE.foundryref05_mark.l0]
    rw [if_pos (by omega), if_pos (by omega), if_pos (by omega), if_pos (by omega), h2, hb]
    by_cases e : d = c
    · subst e
      rw [if_pos rfl, if_pos (by simp)]
    · have hn : ¬ ((d.toNat : Int) = (c.toNat : Int)) := fun h => e (UInt8.toNat_inj.1 (by omega))
      rw [if_neg hn, w64 _ (by omega) (by omega), show ((i : Int) + 1) = ((i + 1 : Nat) : Int) by omega, rmark_loop s a ha c hb m (i + 1) k h3 (by omega) (by omega)]
      have hne : c ≠ d := fun h => e h.symm
      simp only [List.mem_cons, hne, false_or]

theorem rmark (s : ByteArray) (hs : s.size ≤ 100000) (a : Nat) (c : UInt8) (l : List UInt8) (hu : (L s).drop a = c :: l) (k : Nat) (hk : 30 ≤ k) :
    QE.foundryref05_mark.f k s (a : Int) = some (if (c :: l).take 2 ∈ marks2 then 2 else if c ∈ marks1 then 1 else 0) := by
  obtain ⟨h1, h2, h3⟩ := drop_at s hu
  have hul : (c :: l).length = s.size - a := by rw [← hu, List.length_drop, L_size]
  have rest : QE.foundryref05_mark.j0 k s (a : Int) = some (if c ∈ marks1 then 1 else 0) := by
    obtain ⟨k, rfl⟩ : ∃ j, k = j + 1 := ⟨k - 1, by omega⟩
    simp only [QE.foundryref05_mark.j0]
    exact rmark_loop s a h1 c h2 marks1 0 k rfl (by decide) (by show 18 ≤ k; omega)
  unfold QE.foundryref05_mark.f
  rw [w64 _ (by omega) (by omega)]
  by_cases c0 : (a : Int) + 2 ≤ (s.size : Int)
  · have e : (s.extract ((a : Int)).toNat ((a : Int) + 2).toNat).toList = (c :: l).take 2 := by
      rw [ByteArray.toList_eq, Int.toNat_natCast, show ((a : Int) + 2).toNat = a + 2 by omega]
      show L _ = _
      rw [L_cut, hu, show a + 2 - a = 2 by omega]
    rw [if_pos c0, if_pos (by omega), if_pos (by omega), e]
    generalize (c :: l).take 2 = t at *
    by_cases m0 : t = [60, 61]
    · rw [if_pos m0, if_pos (by rw [m0]; decide)]
    rw [if_neg m0]
    by_cases m1 : t = [62, 61]
    · rw [if_pos m1, if_pos (by rw [m1]; decide)]
    rw [if_neg m1]
    by_cases m2 : t = [61, 61]
    · rw [if_pos m2, if_pos (by rw [m2]; decide)]
    rw [if_neg m2]
    by_cases m3 : t = [33, 61]
    · rw [if_pos m3, if_pos (by rw [m3]; decide)]
    rw [if_neg m3]
    by_cases m4 : t = [38, 38]
    · rw [if_pos m4, if_pos (by rw [m4]; decide)]
    rw [if_neg m4]
    by_cases m5 : t = [124, 124]
    · rw [if_pos m5, if_pos (by rw [m5]; decide)]
    rw [if_neg m5]
    have hn : t ∉ marks2 := by simp only [marks2, List.mem_cons, List.not_mem_nil, or_false, m0, m1, m2, m3, m4, m5, not_false_eq_true]
    rw [if_neg hn]
    exact rest
  · rw [if_neg c0]
    have hn : (c :: l).take 2 ∉ marks2 := by
      have hl : l = [] := by
        cases l with
        | nil => rfl
        | cons d l => simp only [List.length_cons] at hul; omega
      rw [hl]
      simp [marks2]
    rw [if_neg hn]
    exact rest

theorem rword (s : ByteArray) (hs : s.size ≤ 4096) (a y : Nat) (R : Int × ByteArray × Int × Int × Int × Int) (K0 : Nat) (hF : ∀ k, K0 ≤ k → QE.foundryref05_next.j1 k s (a : Int) (y : Int) 0 ⟨#[]⟩ 0 0 (a : Int) = some R) :
    ∀ (l : List UInt8) (x k : Nat), (L s).drop x = l → x + (l.takeWhile wordB).length = y → x ≤ s.size → K0 + l.length + 2 ≤ k → QE.foundryref05_next.l0 k s (a : Int) (x : Int) 0 ⟨#[]⟩ 0 0 (a : Int) = some R
  | [], x, k, h, hy, hx, hk => by
    have he := drop_end s h
    obtain ⟨k, rfl⟩ : ∃ j, k = j + 1 := ⟨k - 1, by omega⟩
    have hxy : y = x := by rw [← hy]; simp
    subst hxy
    simp only [QE.foundryref05_next.l0]
    rw [if_neg (by omega)]
    exact hF k (by simp at hk; omega)
  | c :: l, x, k, h, hy, hx, hk => by
    obtain ⟨h1, h2, h3⟩ := drop_at s h
    obtain ⟨k, rfl⟩ : ∃ j, k = j + 1 := ⟨k - 1, by omega⟩
    simp only [List.length_cons] at hk
    rw [List.takeWhile_cons] at hy
    simp only [QE.foundryref05_next.l0]
    rw [if_pos (by omega), if_pos (by omega), h2, rlet, Option.bind_some, rdig, i1 x (by omega)]
    by_cases c1 : letB c = true
    · have hw : wordB c = true := by unfold wordB; rw [c1]; rfl
      rw [if_pos hw] at hy
      rw [if_pos c1]
      exact rword s hs a y R K0 hF l (x + 1) k h3 (by simp only [List.length_cons] at hy; omega) (by omega) (by omega)
    · rw [if_neg c1, Option.bind_some]
      have c1' : letB c = false := by simpa using c1
      by_cases c2 : digB c = true
      · have hw : wordB c = true := by unfold wordB; rw [c1', c2]; rfl
        rw [if_pos hw] at hy
        rw [if_pos c2]
        exact rword s hs a y R K0 hF l (x + 1) k h3 (by simp only [List.length_cons] at hy; omega) (by omega) (by omega)
      · have c2' : digB c = false := by simpa using c2
        have hw : ¬ wordB c = true := by unfold wordB; rw [c1', c2']; decide
        rw [if_neg hw] at hy
        rw [if_neg c2]
        have hxy : y = x := by rw [← hy]; simp
        subst hxy
        exact hF k (by omega)

theorem res_short : ∀ x ∈ resL, x.length ≤ 32 := by decide

theorem rnext (s : ByteArray) (hs : s.size ≤ 4096) (a : Nat) (ha : a < s.size) :
    ∃ R, Told (tok V ((L s).drop a)) ((L s).drop a) a R ∧ ∀ k, 70000 ≤ k → QE.foundryref05_next.f k s (a : Int) = some R := by
  cases hu : (L s).drop a with
  | nil => have := drop_end s hu; omega
  | cons c l =>
  obtain ⟨h1, h2, h3⟩ := drop_at s hu
  have hul : (c :: l).length = s.size - a := by rw [← hu, List.length_drop, L_size]
  by_cases c1 : letB c = true
  · have hle : ((c :: l).takeWhile wordB).length ≤ (c :: l).length := (List.takeWhile_prefix _).length_le
    have hut : (c :: l).take ((c :: l).takeWhile wordB).length = (c :: l).takeWhile wordB := tw_take wordB (c :: l)
    simp only [tok]
    rw [if_pos c1]
    have loop := fun R K0 hF k hk => rword s hs a (a + ((c :: l).takeWhile wordB).length) R K0 hF (c :: l) a k hu rfl (by omega) hk
    generalize hT : (c :: l).takeWhile wordB = x at *
    have e : s.extract ((a : Int)).toNat (((a + x.length : Nat) : Int)).toNat = B x := by
      rw [cut_B, Int.toNat_natCast, Int.toNat_natCast, hu, show a + x.length - a = x.length by omega, hut]
    refine ⟨(if x ∈ resL then 2 else 1, B x, 0, 0, (a : Int), if 32 < x.length then 12 else 0), ⟨rfl, fun h0 => ?_⟩, fun k hk => ?_⟩
    · dsimp only at h0 ⊢
      rw [h0, hut]
    · unfold QE.foundryref05_next.f
      rw [if_pos (by omega), if_pos (by omega), h2, rlet, Option.bind_some, if_pos c1]
      refine loop _ 100 ?_ k (by omega)
      intro k hk
      obtain ⟨k, rfl⟩ : ∃ j, k = j + 1 := ⟨k - 1, by omega⟩
      simp only [QE.foundryref05_next.j1]
      rw [if_pos (by omega), if_pos (by omega), if_pos (by omega), e, rresv _ k (by omega), Option.bind_some, L_B, B_size]
      by_cases r : x ∈ resL
      · have := res_short x r
        rw [if_pos (by simpa using r), if_pos r, if_neg (by omega)]
      · rw [if_neg (by simpa using r), if_neg r]
        by_cases g : 32 < x.length
        · rw [if_pos (by omega), if_pos g]
        · rw [if_neg (by omega), if_neg g]
  · have c1' : letB c = false := by simpa using c1
    by_cases c2 : digB c = true
    · obtain ⟨R, hT, hR⟩ := rnumeral s hs a c l hu c2 c1'
      refine ⟨R, hT, fun k hk => ?_⟩
      unfold QE.foundryref05_next.f
      rw [if_pos (by omega), if_pos (by omega), h2, rlet, Option.bind_some, if_neg c1, rdig, Option.bind_some, if_pos c2, hR k (by omega), Option.bind_some]
    · have hz : ¬ (c = 48 ∧ l.head? = some 120) := by
        rintro ⟨rfl, _⟩
        exact c2 (by decide)
      simp only [tok]
      rw [if_neg c1, if_neg hz, if_neg c2]
      have start : ∀ k, 70000 ≤ k → QE.foundryref05_next.f k s (a : Int) = _ := fun k hk => by
        unfold QE.foundryref05_next.f
        rw [if_pos (by omega), if_pos (by omega), h2, rlet, Option.bind_some, if_neg c1, rdig, Option.bind_some, if_neg c2, rmark s (by omega) a c l hu k (by omega), Option.bind_some]
      by_cases m2 : (c :: l).take 2 ∈ marks2
      · have hl2 : 2 ≤ (c :: l).length := by
          cases l with
          | nil => exfalso; revert m2; simp [marks2]
          | cons d l => simp
        rw [if_pos m2]
        refine ⟨(5, B ((c :: l).take 2), 0, 0, (a : Int), 0), ⟨rfl, fun _ => rfl⟩, fun k hk => ?_⟩
        rw [start k hk, if_pos m2, if_neg (by decide), w64 _ (by omega) (by omega), if_pos (by omega), if_pos (by omega)]
        have e : s.extract ((a : Int)).toNat ((a : Int) + 2).toNat = B ((c :: l).take 2) := by
          rw [cut_B, Int.toNat_natCast, hu, show ((a : Int) + 2).toNat - a = 2 by omega]
        rw [e]
      · rw [if_neg m2]
        by_cases m1 : c ∈ marks1
        · rw [if_pos m1]
          refine ⟨(5, B ((c :: l).take 1), 0, 0, (a : Int), 0), ⟨rfl, fun _ => rfl⟩, fun k hk => ?_⟩
          rw [start k hk, if_neg m2, if_pos m1, if_neg (by decide), w64 _ (by omega) (by omega), if_pos (by omega), if_pos (by omega)]
          have e : s.extract ((a : Int)).toNat ((a : Int) + 1).toNat = B ((c :: l).take 1) := by
            rw [cut_B, Int.toNat_natCast, hu, show ((a : Int) + 1).toNat - a = 1 by omega]
          rw [e]
        · rw [if_neg m1]
          refine ⟨(0, ⟨#[]⟩, 0, 0, (a : Int), 10), ⟨rfl, fun h => absurd h (show ¬ ((10 : Int) = 0) by decide)⟩, fun k hk => ?_⟩
          rw [start k hk, if_neg m2, if_neg m1, if_pos rfl]

def toR (t : T) : QE.S43 := ⟨t.kind, B t.text, ⟨t.ty, t.bits⟩, (t.place : Int)⟩
def answerR (out : List QE.S43) : Except (Nat × Int) (List T) → List QE.S43 × Int × Int
  | .ok ts => (out ++ ts.map toR, 0, 0)
  | .error x => ([], (x.1 : Int), x.2)

theorem rlex_loop (s : ByteArray) (hs : s.size ≤ 4096) : ∀ (f q c : Nat) (out : List QE.S43), q ≤ s.size → s.size - q < f → out.length = c → c ≤ 1024 →
    ∀ k, 100000 + f ≤ k → QE.foundryref05_Lex.l0 k s out ((q + sk false ((L s).drop q) : Nat) : Int) = some (answerR out (lexS V f q c ((L s).drop q)))
  | 0, q, c, out, hq, hf, ho, hc, k, hk => by omega
  | f + 1, q, c, out, hq, hf, ho, hc, k, hk => by
    have hul : ((L s).drop q).length = s.size - q := by rw [List.length_drop, L_size]
    have hsk := sk_le false ((L s).drop q)
    unfold lexS
    generalize hj : sk false ((L s).drop q) = j at *
    obtain ⟨k, rfl⟩ : ∃ j, k = j + 1 := ⟨k - 1, by omega⟩
    by_cases c1 : ((L s).drop q).length ≤ j
    · rw [if_pos c1]
      simp only [QE.foundryref05_Lex.l0]
      rw [if_neg (by omega)]
      simp [answerR]
    rw [if_neg c1, List.drop_drop]
    obtain ⟨R, ⟨hT1, hT2⟩, hR⟩ := rnext s hs (q + j) (by omega)
    have hd2 : ((L s).drop (q + j)).drop (tok V ((L s).drop (q + j))).n = (L s).drop (q + j + (tok V ((L s).drop (q + j))).n) := by rw [List.drop_drop]
    rw [hd2]
    have htn := tok_n V ((L s).drop (q + j))
    have hul2 : ((L s).drop (q + j)).length = s.size - (q + j) := by rw [List.length_drop, L_size]
    generalize htk : tok V ((L s).drop (q + j)) = t at *
    simp only [QE.foundryref05_Lex.l0]
    rw [if_pos (by omega), hR k (by omega), Option.bind_some]
    by_cases c2 : t.e ≠ 0
    · rw [if_pos c2, if_neg (by rw [hT1]; exact c2), hT1]
      rfl
    rw [if_neg c2]
    have c2 : t.e = 0 := Decidable.not_not.1 c2
    obtain ⟨n1, n2⟩ := htn c2
    have hR2 := hT2 c2
    subst hR2
    rw [if_pos rfl]
    by_cases c3 : c = 1024
    · rw [if_pos c3, if_pos (by omega)]
      rfl
    rw [if_neg c3, if_neg (by omega), if_pos (by omega)]
    have hBz : ((B (((L s).drop (q + j)).take t.n)).size : Int) = (t.n : Int) := by
      rw [B_size, List.length_take]; omega
    have ih := rlex_loop s hs f (q + j + t.n) (c + 1) (out ++ [toR ⟨t.kind, ((L s).drop (q + j)).take t.n, t.ty, t.bits, q + j⟩]) (by omega) (by omega) (by simp; omega) (by omega) k (by omega)
    dsimp only
    rw [hBz, w64 _ (by omega) (by omega), show (((q + j : Nat) : Int) + (t.n : Int)) = ((q + j + t.n : Nat) : Int) by omega]
    rw [rskip_is s (by omega) (q + j + t.n) k (by omega) (by omega), Option.bind_some]
    simp only [toR] at ih
    rw [ih]
    congr 1
    cases lexS V f (q + j + t.n) (c + 1) ((L s).drop (q + j + t.n)) with
    | ok ts => simp [answerR, toR]
    | error x => rfl

theorem rlex_is (s : ByteArray) (hs : s.size ≤ 4096) (k : Nat) (hk : 110000 ≤ k) : QE.foundryref05_Lex.f k s = some (answerR [] (lexS V (s.size + 1) 0 0 (L s))) := by
  unfold QE.foundryref05_Lex.f
  have h0 := rskip_is s (by omega) 0 k (by omega) (by omega)
  rw [if_neg (by omega), show ((0 : Int)) = ((0 : Nat) : Int) from rfl, h0, Option.bind_some]
  have h1 := rlex_loop s hs (s.size + 1) 0 0 [] (by omega) (by omega) rfl (by omega) k (by omega)
  rw [List.drop_zero] at h1
  exact h1
theorem rlex_big (s : ByteArray) (hs : 4096 < s.size) (k : Nat) : QE.foundryref05_Lex.f k s = some ([], 0, 3) := by
  unfold QE.foundryref05_Lex.f
  rw [if_pos (by omega)]

/-! the law -/
theorem alive_holds : QE.foundrylaw05_alive.f 60 = some true := by decide +kernel
theorem alive_k {k : Nat} (hk : 60 ≤ k) : QE.foundrylaw05_alive.f k = some true := at_rounds (fun k => QE.foundrylaw05_alive.mono k) hk alive_holds

theorem rd44 (l : List T) (i : Nat) (hi : i < l.length) : QE.rd_T44 (l.map toS) (i : Int) = toS l[i] := by
  unfold QE.rd_T44
  rw [Int.toNat_natCast, List.getD_eq_getElem?_getD, List.getElem?_map, List.getElem?_eq_getElem hi]
  rfl
theorem rd43 (l : List T) (i : Nat) (hi : i < l.length) : QE.rd_T43 (l.map toR) (i : Int) = toR l[i] := by
  unfold QE.rd_T43
  rw [Int.toNat_natCast, List.getD_eq_getElem?_getD, List.getElem?_map, List.getElem?_eq_getElem hi]
  rfl
theorem tokens_loop (l : List T) (hl : l.length ≤ 1024) : ∀ (d i k : Nat), i + d = l.length → d + 1 ≤ k → QE.foundrylaw05_Tokens.l0 k (l.map toS) ((l.take i).map toR) (i : Int) = some (l.map toR)
  | 0, i, k, hi, hk => by
    obtain ⟨k, rfl⟩ : ∃ j, k = j + 1 := ⟨k - 1, by omega⟩
    simp only [QE.foundrylaw05_Tokens.l0, List.length_map]
    rw [if_neg (by omega), List.take_of_length_le (by omega)]
  | d + 1, i, k, hi, hk => by
    obtain ⟨k, rfl⟩ : ∃ j, k = j + 1 := ⟨k - 1, by omega⟩
    have hil : i < l.length := by omega
    simp only [QE.foundrylaw05_Tokens.l0, List.length_map]
    rw [if_pos (by omega), if_pos (by omega), if_pos (by rw [List.length_take]; omega), rd44 l i hil, w64 _ (by omega) (by omega), show ((i : Int) + 1) = ((i + 1 : Nat) : Int) by omega]
    have ih := tokens_loop l hl d (i + 1) k (by omega) (by omega)
    rw [List.take_succ_eq_append_getElem hil, List.map_append] at ih
    exact ih
theorem tokens_is (l : List T) (hl : l.length ≤ 1024) (k : Nat) (hk : 1030 ≤ k) : QE.foundrylaw05_Tokens.f k (l.map toS) = some (l.map toR) :=
  tokens_loop l hl l.length 0 k (by omega) (by omega)
theorem law_loop (l : List T) (hl : l.length ≤ 1024) : ∀ (d i k : Nat), i + d = l.length → d + 1 ≤ k → QE.foundrylaw05_LexLexes.l0 k (l.map toR) (l.map toR) (i : Int) = some true
  | 0, i, k, hi, hk => by
    obtain ⟨k, rfl⟩ : ∃ j, k = j + 1 := ⟨k - 1, by omega⟩
    simp only [QE.foundrylaw05_LexLexes.l0, List.length_map]
    rw [if_neg (by omega)]
  | d + 1, i, k, hi, hk => by
    obtain ⟨k, rfl⟩ : ∃ j, k = j + 1 := ⟨k - 1, by omega⟩
    simp only [QE.foundrylaw05_LexLexes.l0, List.length_map]
    rw [if_pos (by omega), if_pos (by omega), if_pos (by omega), if_neg (by simp), w64 _ (by omega) (by omega), show ((i : Int) + 1) = ((i + 1 : Nat) : Int) by omega]
    exact law_loop l hl d (i + 1) k (by omega) (by omega)

theorem law_end (l : List T) (hl : l.length ≤ 1024) (k : Nat) (hk : 2000 ≤ k) : ((QE.foundrylaw05_alive.f k).bind fun t245 => (if t245 = true then ((QE.foundrylaw05_Tokens.f k (l.map toS)).bind fun t246 => (QE.foundrylaw05_LexLexes.l0 k (l.map toR) t246 0)) else (none))) = some true := by
  rw [alive_k (by omega), Option.bind_some, if_pos rfl, tokens_is l hl k (by omega), Option.bind_some]
  exact law_loop l hl l.length 0 k (by omega) (by omega)

theorem LexLexes : QE.foundrylaw05_LexLexes.Pure := by
  intro a0 h0
  by_cases hb : 4096 < a0.size
  · refine ⟨2000, ?_⟩
    unfold QE.foundrylaw05_LexLexes.f
    rw [lex_big a0 hb, rlex_big a0 hb, Option.bind_some, Option.bind_some, if_pos rfl, if_pos rfl]
    exact (if_pos rfl).trans (law_end [] (by decide) 2000 (by omega))
  · obtain ⟨K, hK⟩ := lex_is a0 (by omega)
    refine ⟨K + 110000, ?_⟩
    unfold QE.foundrylaw05_LexLexes.f
    rw [hK _ (by omega), rlex_is a0 (by omega) _ (by omega), Option.bind_some, Option.bind_some]
    cases hl : lexS V (a0.size + 1) 0 0 (L a0) with
    | error x =>
      exact (if_pos rfl).trans ((if_pos rfl).trans ((if_pos rfl).trans (law_end [] (by decide) _ (by omega))))
    | ok ts =>
      obtain ⟨_, hn⟩ := lexS_ok V _ _ _ _ _ (by rw [L_size]; omega) (by omega) hl
      exact (if_pos rfl).trans <| (if_pos rfl).trans <| (if_pos (show (((ts.map toS).length : Nat) : Int) = (((ts.map toR).length : Nat) : Int) by rw [List.length_map, List.length_map])).trans (law_end ts (by omega) _ (by omega))
end Go.Proofs.YthifejhdmjoolaaGreatDoor.Lx

namespace Go.Proofs.YthifejhdmjoolaaGreatDoor.Pure
theorem LexLexes : QE.foundrylaw05_LexLexes.Pure := Lx.LexLexes
end Go.Proofs.YthifejhdmjoolaaGreatDoor.Pure
