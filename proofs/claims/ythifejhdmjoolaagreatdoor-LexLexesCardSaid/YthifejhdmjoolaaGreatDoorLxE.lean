/-
  The printed lexer is the one in plain words.
-/
import Derived.Test.YthifejhdmjoolaaGreatDoorLxN
import Derived.Test.YthifejhdmjoolaaGreatDoorQE3
namespace Go.Proofs.YthifejhdmjoolaaGreatDoor.Lx
open Go Go.RowKit Go.Proofs.YthifejhdmjoolaaGreatDoorG Go.Proofs.YthifejhdmjoolaaGreatDoorW.PrintWords Go.Proofs.YthifejhdmjoolaaGreatDoorW.PrintLast Go.Proofs.YthifejhdmjoolaaGreatDoorW.PrintMore
set_option linter.unusedVariables false
set_option linter.unusedSimpArgs false

theorem kind_fin : ∀ i : Fin 256, QR.lex_kind.f 8 ((i.val : Nat) : Int) = some (blankB (UInt8.ofNat i.val), letB (UInt8.ofNat i.val), digB (UInt8.ofNat i.val), hexB (UInt8.ofNat i.val)) := by decide +kernel
theorem kind_is {k : Nat} (hk : 8 ≤ k) (c : UInt8) : QR.lex_kind.f k (c.toNat : Int) = some (blankB c, letB c, digB c, hexB c) := by
  have h := kind_fin ⟨c.toNat, c.toNat_lt⟩
  dsimp only at h
  rw [UInt8.ofNat_toNat] at h
  exact at_rounds (fun k => QR.lex_kind.mono _ k) hk h

theorem run_71 (s : ByteArray) (hs : s.size ≤ 100000) (a : Nat) : ∀ (l : List UInt8) (x k : Nat), (L s).drop x = l → x ≤ s.size → a ≤ x → l.length + 10 ≤ k → QR.lex_run_of_71.l0 k s (a : Int) (x : Int) = some (((x - a + (l.takeWhile wordB).length : Nat)) : Int)
  | [], x, k, h, hx, ha, hk => by
    have he := drop_end s h
    obtain ⟨k, rfl⟩ : ∃ j, k = j + 1 := ⟨k - 1, by omega⟩
    simp only [QR.lex_run_of_71.l0]
    rw [if_neg (by omega), w64 _ (by omega) (by omega)]
    congr 1
    simp
    omega
  | c :: l, x, k, h, hx, ha, hk => by
    obtain ⟨h1, h2, h3⟩ := drop_at s h
    obtain ⟨k, rfl⟩ : ∃ j, k = j + 1 := ⟨k - 1, by omega⟩
    have hcl : QR.lex_one_1.f (blankB c) (letB c) (digB c) (hexB c) = some (wordB c) := by
      unfold QR.lex_one_1.f wordB
      cases letB c <;> rfl
    simp only [QR.lex_run_of_71.l0]
    rw [if_pos (by omega), if_pos (by omega), h2, kind_is (by simp at hk; omega), Option.bind_some]
    dsimp only
    rw [hcl, Option.bind_some]
    rw [List.takeWhile_cons]
    by_cases c1 : wordB c = true
    · rw [if_pos c1, if_pos c1, w64 _ (by omega) (by omega)]
      have ih := run_71 s hs a l (x + 1) k h3 (by omega) (by omega) (by simp at hk; omega)
      rw [show ((x : Int) + 1) = ((x + 1 : Nat) : Int) by omega, ih]
      congr 1
      simp only [List.length_cons]
      omega
    · rw [if_neg c1, if_neg c1, w64 _ (by omega) (by omega)]
      congr 1
      simp
      omega
theorem run71 (s : ByteArray) (hs : s.size ≤ 100000) (a : Nat) (ha : a ≤ s.size) (k : Nat) (hk : s.size + 10 ≤ k) : QR.lex_run_of_71.f k s (a : Int) = some ((((L s).drop a).takeWhile wordB).length : Int) := by
  unfold QR.lex_run_of_71.f
  rw [run_71 s hs a ((L s).drop a) a k rfl ha (Nat.le_refl _) (by rw [List.length_drop, L_size]; omega)]
  congr 1
  omega

theorem run_73 (s : ByteArray) (hs : s.size ≤ 100000) (a : Nat) : ∀ (l : List UInt8) (x k : Nat), (L s).drop x = l → x ≤ s.size → a ≤ x → l.length + 10 ≤ k → QR.lex_run_of_73.l0 k s (a : Int) (x : Int) = some (((x - a + (l.takeWhile hexB).length : Nat)) : Int)
  | [], x, k, h, hx, ha, hk => by
    have he := drop_end s h
    obtain ⟨k, rfl⟩ : ∃ j, k = j + 1 := ⟨k - 1, by omega⟩
    simp only [QR.lex_run_of_73.l0]
    rw [if_neg (by omega), w64 _ (by omega) (by omega)]
    congr 1
    simp
    omega
  | c :: l, x, k, h, hx, ha, hk => by
    obtain ⟨h1, h2, h3⟩ := drop_at s h
    obtain ⟨k, rfl⟩ : ∃ j, k = j + 1 := ⟨k - 1, by omega⟩
    have hcl : QR.lex_one_2.f (blankB c) (letB c) (digB c) (hexB c) = some (hexB c) := rfl
    simp only [QR.lex_run_of_73.l0]
    rw [if_pos (by omega), if_pos (by omega), h2, kind_is (by simp at hk; omega), Option.bind_some]
    dsimp only
    rw [hcl, Option.bind_some]
    rw [List.takeWhile_cons]
    by_cases c1 : hexB c = true
    · rw [if_pos c1, if_pos c1, w64 _ (by omega) (by omega)]
      have ih := run_73 s hs a l (x + 1) k h3 (by omega) (by omega) (by simp at hk; omega)
      rw [show ((x : Int) + 1) = ((x + 1 : Nat) : Int) by omega, ih]
      congr 1
      simp only [List.length_cons]
      omega
    · rw [if_neg c1, if_neg c1, w64 _ (by omega) (by omega)]
      congr 1
      simp
      omega
theorem run73 (s : ByteArray) (hs : s.size ≤ 100000) (a : Nat) (ha : a ≤ s.size) (k : Nat) (hk : s.size + 10 ≤ k) : QR.lex_run_of_73.f k s (a : Int) = some ((((L s).drop a).takeWhile hexB).length : Int) := by
  unfold QR.lex_run_of_73.f
  rw [run_73 s hs a ((L s).drop a) a k rfl ha (Nat.le_refl _) (by rw [List.length_drop, L_size]; omega)]
  congr 1
  omega

theorem hp_is (s b : ByteArray) : QE.strings_HasPrefix.f s b = some ((L s).take (L b).length == L b) := by
  unfold QE.strings_HasPrefix.f QE.stringslite_HasPrefix.f
  by_cases c : (s.size : Int) ≥ (b.size : Int)
  · rw [if_pos c, if_pos (by omega), if_pos c, Option.bind_some, Int.toNat_natCast, ByteArray.toList_eq, ByteArray.toList_eq]
    show some (L (s.extract 0 b.size) == L b) = _
    rw [L_cut]
    rfl
  · rw [if_neg c, Option.bind_some]
    congr 1
    symm
    apply beq_eq_false_iff_ne.mpr
    intro h
    have := congrArg List.length h
    rw [List.length_take, L_size, L_size] at this
    omega
theorem tail_L (s : ByteArray) (x : Nat) : L (s.extract x s.size) = (L s).drop x := by
  rw [L_cut, List.take_of_length_le (by rw [List.length_drop, L_size]; omega)]

theorem sk_rem : ∀ l : List UInt8, (Lib.indexByte l 10 = -1 ∧ sk true l = l.length) ∨ (∃ i : Nat, Lib.indexByte l 10 = (i : Int) ∧ i < l.length ∧ (l.drop i).head? = some 10 ∧ sk true l = i + sk false (l.drop i))
  | [] => .inl ⟨rfl, rfl⟩
  | c :: l => by
    by_cases h : c = 10
    · subst h
      refine .inr ⟨0, rfl, by simp, rfl, ?_⟩
      simp only [List.drop_zero, sk]
      rw [if_pos (show blankB 10 = true by decide), show (!((10 : UInt8) == 10)) = false by decide]
      omega
    · have hb : (c == 10) = false := beq_eq_false_iff_ne.mpr h
      unfold Lib.indexByte
      simp only [sk, hb]
      rcases sk_rem l with ⟨h1, h2⟩ | ⟨i, h1, h2, h3, h4⟩
      · refine .inl ⟨?_, ?_⟩
        · rw [h1]; rfl
        · show 1 + sk true l = _
          rw [h2, List.length_cons]; omega
      · refine .inr ⟨i + 1, ?_, by simp; omega, by simpa using h3, ?_⟩
        · rw [h1, if_neg (by simp), if_neg (by simp)]; omega
        · show 1 + sk true l = _
          rw [h4, List.drop_succ_cons]; omega

theorem skip_loop (s : ByteArray) (hs : s.size ≤ 100000) : ∀ (n : Nat) (l : List UInt8) (x k : Nat), l.length < n → (L s).drop x = l → x ≤ s.size → l.length + 10 ≤ k → QE.lex_skipped.l0 k s (x : Int) = some ((x + sk false l : Nat) : Int)
  | 0, l, x, k, hn, h, hx, hk => by omega
  | n + 1, [], x, k, hn, h, hx, hk => by
    have he := drop_end s h
    obtain ⟨k, rfl⟩ : ∃ j, k = j + 1 := ⟨k - 1, by omega⟩
    simp only [QE.lex_skipped.l0]
    rw [if_neg (by omega)]
    rfl
  | n + 1, c :: l, x, k, hn, h, hx, hk => by
    obtain ⟨h1, h2, h3⟩ := drop_at s h
    have hlen : (c :: l).length = s.size - x := by rw [← h, List.length_drop, L_size]
    obtain ⟨k, rfl⟩ : ∃ j, k = j + 1 := ⟨k - 1, by omega⟩
    simp only [QE.lex_skipped.l0]
    rw [if_pos (by omega), if_pos (by omega), h2, kind_is (by simp at hk; omega), Option.bind_some]
    dsimp only
    by_cases b : blankB c = true
    · rw [if_pos b, w64 _ (by omega) (by omega), show ((x : Int) + 1) = ((x + 1 : Nat) : Int) by omega]
      rw [skip_loop s hs n l (x + 1) k (by simp at hn; omega) h3 (by omega) (by simp at hk; omega)]
      simp only [sk]
      rw [if_pos b]
      congr 1
      omega
    · rw [if_neg b, if_pos (by omega), Int.toNat_natCast, hp_is, Option.bind_some, tail_L, h]
      have e2 : L ⟨#[47, 47]⟩ = [47, 47] := rfl
      rw [e2]
      by_cases r : c = 47 ∧ l.head? = some 47
      · obtain ⟨rfl, hr⟩ := r
        cases l with
        | nil => cases hr
        | cons d l =>
          simp only [List.head?_cons, Option.some.injEq] at hr
          subst hr
          rw [if_pos (by simp)]
          unfold strings_IndexByte.f
          rw [Option.bind_some]
          have e3 : (s.extract x s.size).data.toList = 47 :: 47 :: l := by
            have := tail_L s x
            rw [h] at this
            exact this
          have e4 : ((10 : Int).toNat.toUInt8) = 10 := rfl
          have hsk : sk false (47 :: 47 :: l) = sk true (47 :: 47 :: l) := by
            simp only [sk]
            rw [if_neg (show ¬ blankB 47 = true by decide), if_pos (by simp)]
            rfl
          rw [e3, e4, hsk]
          rcases sk_rem (47 :: 47 :: l) with ⟨g1, g2⟩ | ⟨i, g1, g2, g3, g4⟩
          · rw [g1, if_pos (by decide), g2, hlen]
            congr 1
            omega
          · rw [g1, if_neg (by omega), w64 _ (by omega) (by omega), show ((x : Int) + (i : Int)) = ((x + i : Nat) : Int) by omega]
            have hi : i ≠ 0 := by
              intro h0
              subst h0
              simp at g3
            have hl2 : ((47 :: 47 :: l).drop i).length = (47 :: 47 :: l).length - i := List.length_drop
            rw [skip_loop s hs n ((47 :: 47 :: l).drop i) (x + i) k (by omega) (by rw [← h, List.drop_drop]) (by omega) (by omega), g4]
            congr 1
            omega
      · have hne : ¬ (((c :: l).take [(47 : UInt8), 47].length == [47, 47]) = true) := by
          intro hh
          have hh := eq_of_beq hh
          apply r
          cases l with
          | nil => simp at hh
          | cons d l => simp at hh; simp [hh]
        rw [if_neg hne]
        simp only [sk]
        rw [if_neg b, if_neg r]
        rfl
theorem skip_is (s : ByteArray) (hs : s.size ≤ 100000) (x k : Nat) (hx : x ≤ s.size) (hk : s.size + 10 ≤ k) : QE.lex_skipped.f k s (x : Int) = some ((x + sk false ((L s).drop x) : Nat) : Int) := by
  unfold QE.lex_skipped.f
  exact skip_loop s hs _ _ x k (Nat.lt_succ_self _) rfl hx (by rw [List.length_drop, L_size]; omega)

theorem resv_is (a : ByteArray) : QE.names_Reserved.f a = some (decide (L a ∈ resL)) := by
  unfold QE.names_Reserved.f resL
  rw [ByteArray.toList_eq]
  show _ = some (decide (L a ∈ _))
  generalize hL : a.data.toList = l
  have hL : L a = l := hL
  rw [hL]
  clear hL
  by_cases w0 : l = [98, 111, 111, 108]
  · subst w0; rfl
  rw [if_neg w0]
  by_cases w1 : l = [99, 97, 116, 99, 104]
  · subst w1; rfl
  rw [if_neg w1]
  by_cases w2 : l = [99, 111, 110, 115, 116]
  · subst w2; rfl
  rw [if_neg w2]
  by_cases w3 : l = [101, 108, 115, 101]
  · subst w3; rfl
  rw [if_neg w3]
  by_cases w4 : l = [101, 120, 112, 111, 114, 116]
  · subst w4; rfl
  rw [if_neg w4]
  by_cases w5 : l = [102, 97, 105, 108]
  · subst w5; rfl
  rw [if_neg w5]
  by_cases w6 : l = [102, 97, 108, 115, 101]
  · subst w6; rfl
  rw [if_neg w6]
  by_cases w7 : l = [102, 108, 111, 97, 116]
  · subst w7; rfl
  rw [if_neg w7]
  by_cases w8 : l = [102, 110]
  · subst w8; rfl
  rw [if_neg w8]
  by_cases w9 : l = [105, 102]
  · subst w9; rfl
  rw [if_neg w9]
  by_cases w10 : l = [105, 109, 112, 111, 114, 116]
  · subst w10; rfl
  rw [if_neg w10]
  by_cases w11 : l = [105, 110, 102]
  · subst w11; rfl
  rw [if_neg w11]
  by_cases w12 : l = [105, 110, 112, 117, 116]
  · subst w12; rfl
  rw [if_neg w12]
  by_cases w13 : l = [105, 110, 116]
  · subst w13; rfl
  rw [if_neg w13]
  by_cases w14 : l = [108, 101, 116]
  · subst w14; rfl
  rw [if_neg w14]
  by_cases w15 : l = [109, 111, 100, 117, 108, 101]
  · subst w15; rfl
  rw [if_neg w15]
  by_cases w16 : l = [110, 97, 110]
  · subst w16; rfl
  rw [if_neg w16]
  by_cases w17 : l = [114, 101, 116, 117, 114, 110]
  · subst w17; rfl
  rw [if_neg w17]
  by_cases w18 : l = [115, 104, 111, 119]
  · subst w18; rfl
  rw [if_neg w18]
  by_cases w19 : l = [116, 114, 117, 101]
  · subst w19; rfl
  rw [if_neg w19]
  by_cases w20 : l = [116, 114, 121]
  · subst w20; rfl
  rw [if_neg w20]
  by_cases w21 : l = [118, 97, 114]
  · subst w21; rfl
  rw [if_neg w21]
  by_cases w22 : l = [119, 104, 105, 108, 101]
  · subst w22; rfl
  rw [if_neg w22]
  congr 1; symm; apply decide_eq_false; simp only [List.mem_cons, List.not_mem_nil, or_false, w0, w1, w2, w3, w4, w5, w6, w7, w8, w9, w10, w11, w12, w13, w14, w15, w16, w17, w18, w19, w20, w21, w22, not_false_eq_true]

def M6 : List ByteArray := [(⟨#[60, 61]⟩ : ByteArray), (⟨#[62, 61]⟩ : ByteArray), (⟨#[61, 61]⟩ : ByteArray), (⟨#[33, 61]⟩ : ByteArray), (⟨#[38, 38]⟩ : ByteArray), (⟨#[124, 124]⟩ : ByteArray)]
theorem mark_step (s : ByteArray) (a : Nat) (ha : a < s.size) (i : Nat) (hi : i < 6) (k : Nat) (m : ByteArray) (hm : rdOf ByteArray.empty M6 (i : Int) = m) : QE.lex_one.l0 (k + 1) s (a : Int) M6 6 (i : Int) = if (((L s).drop a).take (L m).length == L m) = true then some (5, m, 0, 0, (a : Int), 0) else QE.lex_one.l0 k s (a : Int) M6 6 ((i + 1 : Nat) : Int) := by
  simp only [QE.lex_one.l0]
  have h6 : ((M6.length : Nat) : Int) = 6 := rfl
  rw [h6, if_pos (by omega), if_pos (by omega), if_pos (by omega), if_pos (by omega), if_pos (by omega), Int.toNat_natCast, hm, hp_is, Option.bind_some, tail_L, w64 _ (by omega) (by omega), show ((i : Int) + 1) = ((i + 1 : Nat) : Int) by omega]
theorem ib_neg (c : UInt8) : ∀ l : List UInt8, Lib.indexByte l c < 0 ↔ c ∉ l
  | [] => by simp [Lib.indexByte]
  | b :: l => by
    have ih := ib_neg c l
    have hge := Lib.indexByte_ge l c
    unfold Lib.indexByte
    by_cases h : b = c
    · subst h
      simp
    · rw [if_neg (by simpa using h)]
      have h2 : c ≠ b := fun e => h e.symm
      by_cases h1 : Lib.indexByte l c = -1
      · rw [h1, if_pos (by decide)]
        have := ih.1 (by omega)
        simp [h2, this]
      · rw [if_neg (by simpa using h1)]
        constructor
        · intro h; omega
        · intro h
          have := ih.2 (by simp [h2] at h; exact h)
          omega

theorem marks_is (s : ByteArray) (hs : s.size ≤ 100000) (a : Nat) (c : UInt8) (l : List UInt8) (hu : (L s).drop a = c :: l) (k : Nat) (hk : 10 ≤ k) : QE.lex_one.l0 k s (a : Int) M6 6 0 = if (c :: l).take 2 ∈ marks2 then some (5, B ((c :: l).take 2), 0, 0, (a : Int), 0) else if c ∈ marks1 then some (5, B [c], 0, 0, (a : Int), 0) else some (0, ⟨#[]⟩, 0, 0, 0, 10) := by
  obtain ⟨h1, h2, h3⟩ := drop_at s hu
  obtain ⟨k, rfl⟩ : ∃ j, k = j + 7 := ⟨k - 7, by omega⟩
  show QE.lex_one.l0 (k + 7) s (a : Int) M6 6 ((0 : Nat) : Int) = _
  rw [mark_step s a h1 0 (by decide) (k + 6) ⟨#[60, 61]⟩ rfl, hu, show (L ⟨#[60, 61]⟩).length = 2 from rfl, show L ⟨#[60, 61]⟩ = [60, 61] from rfl]
  by_cases m0 : (c :: l).take 2 = [60, 61]
  · rw [if_pos (by rw [m0]; decide), m0, if_pos (by decide)]; rfl
  rw [if_neg (by simpa using m0)]
  rw [mark_step s a h1 1 (by decide) (k + 5) ⟨#[62, 61]⟩ rfl, hu, show (L ⟨#[62, 61]⟩).length = 2 from rfl, show L ⟨#[62, 61]⟩ = [62, 61] from rfl]
  by_cases m1 : (c :: l).take 2 = [62, 61]
  · rw [if_pos (by rw [m1]; decide), m1, if_pos (by decide)]; rfl
  rw [if_neg (by simpa using m1)]
  rw [mark_step s a h1 2 (by decide) (k + 4) ⟨#[61, 61]⟩ rfl, hu, show (L ⟨#[61, 61]⟩).length = 2 from rfl, show L ⟨#[61, 61]⟩ = [61, 61] from rfl]
  by_cases m2 : (c :: l).take 2 = [61, 61]
  · rw [if_pos (by rw [m2]; decide), m2, if_pos (by decide)]; rfl
  rw [if_neg (by simpa using m2)]
  rw [mark_step s a h1 3 (by decide) (k + 3) ⟨#[33, 61]⟩ rfl, hu, show (L ⟨#[33, 61]⟩).length = 2 from rfl, show L ⟨#[33, 61]⟩ = [33, 61] from rfl]
  by_cases m3 : (c :: l).take 2 = [33, 61]
  · rw [if_pos (by rw [m3]; decide), m3, if_pos (by decide)]; rfl
  rw [if_neg (by simpa using m3)]
  rw [mark_step s a h1 4 (by decide) (k + 2) ⟨#[38, 38]⟩ rfl, hu, show (L ⟨#[38, 38]⟩).length = 2 from rfl, show L ⟨#[38, 38]⟩ = [38, 38] from rfl]
  by_cases m4 : (c :: l).take 2 = [38, 38]
  · rw [if_pos (by rw [m4]; decide), m4, if_pos (by decide)]; rfl
  rw [if_neg (by simpa using m4)]
  rw [mark_step s a h1 5 (by decide) (k + 1) ⟨#[124, 124]⟩ rfl, hu, show (L ⟨#[124, 124]⟩).length = 2 from rfl, show L ⟨#[124, 124]⟩ = [124, 124] from rfl]
  by_cases m5 : (c :: l).take 2 = [124, 124]
  · rw [if_pos (by rw [m5]; decide), m5, if_pos (by decide)]; rfl
  rw [if_neg (by simpa using m5)]
  have hn : (c :: l).take 2 ∉ marks2 := by
    simp only [marks2, List.mem_cons, List.not_mem_nil, or_false, m0, m1, m2, m3, m4, m5, not_false_eq_true]
  rw [if_neg hn]
  simp only [QE.lex_one.l0]
  rw [if_neg (by omega), if_pos (by omega), if_pos (by omega), h2]
  unfold strings_IndexByte.f
  have e5 : ((c.toNat : Int).toNat.toUInt8) = c := by
    rw [Int.toNat_natCast]
    exact UInt8.ofNat_toNat
  rw [Option.bind_some, e5]
  have hib := ib_neg c marks1
  by_cases hc : c ∈ marks1
  · have h9 : ¬ (Lib.indexByte marks1 c < 0) := fun h => hib.1 h hc
    rw [if_pos hc]
    show (if Lib.indexByte marks1 c < 0 then _ else _) = _
    rw [if_neg h9, w64 _ (by omega) (by omega), if_pos (by omega), if_pos (by omega)]
    have e6 : s.extract ((a : Int)).toNat ((a : Int) + 1).toNat = B [c] := by
      rw [cut_B, Int.toNat_natCast, hu, show ((a : Int) + 1).toNat - a = 1 by omega]
      rfl
    rw [e6]
  · have h9 : Lib.indexByte marks1 c < 0 := hib.2 hc
    rw [if_neg hc]
    show (if Lib.indexByte marks1 c < 0 then _ else _) = _
    rw [if_pos h9]

theorem hex_ne (c : UInt8) (h : hexB c = true) : c ≠ 95 := by
  rintro rfl
  revert h; decide
theorem txt_hex (hx : List UInt8) (hh : ∀ c ∈ hx, hexB c = true) (hl : hx.length ≤ 5000) : Pure.Txt (B (48 :: 120 :: hx)) ∧ 2 ≤ (B (48 :: 120 :: hx)).size ∧ bt (B (48 :: 120 :: hx)) 0 = 48 ∧ bt (B (48 :: 120 :: hx)) 1 = 120 := by
  have hz : (B (48 :: 120 :: hx)).size = hx.length + 2 := rfl
  have hb : ∀ (i : Nat) (c : UInt8) (l : List UInt8), (48 :: 120 :: hx).drop i = c :: l → bt (B (48 :: 120 :: hx)) (i : Int) = (c.toNat : Int) := fun i c l h => (drop_at (B (48 :: 120 :: hx)) h).2.1
  refine ⟨⟨by omega, ?_⟩, by omega, hb 0 48 _ rfl, hb 1 120 _ rfl⟩
  intro i h0 h1
  obtain ⟨n, rfl⟩ := Int.eq_ofNat_of_zero_le h0
  have hn : n < (48 :: 120 :: hx).length := by simp; omega
  rw [hb n _ _ (List.drop_eq_getElem_cons hn)]
  have hne : (48 :: 120 :: hx)[n] ≠ 95 := by
    match n, hn with
    | 0, _ => simp
    | 1, _ => simp
    | n + 2, hn =>
      simp only [List.getElem_cons_succ]
      exact hex_ne _ (hh _ (List.getElem_mem _))
  intro h9
  apply hne
  apply UInt8.toNat_inj.1
  have : (95 : UInt8).toNat = 95 := rfl
  omega

theorem one_told (s : ByteArray) (hs : s.size ≤ 4096) (a : Nat) (ha : a < s.size) : ∃ R, Told (tok V ((L s).drop a)) ((L s).drop a) a R ∧ ∃ K, ∀ k, K ≤ k → QE.lex_one.f k s (a : Int) = some R := by
  cases hu : (L s).drop a with
  | nil => have := drop_end s hu; omega
  | cons c l =>
  obtain ⟨h1, h2, h3⟩ := drop_at s hu
  have hul : (c :: l).length = s.size - a := by rw [← hu, List.length_drop, L_size]
  have start : ∀ k, s.size + 30 ≤ k → QE.lex_one.f k s (a : Int) = (if letB c = true then _ else _) := fun k hk => by
    unfold QE.lex_one.f
    rw [if_pos (by omega), if_pos (by omega), h2, kind_is (by omega), Option.bind_some]
  simp only [tok]
  by_cases c1 : letB c = true
  · rw [if_pos c1]
    have hn := fun k hk => run71 s (by omega) a (by omega) k hk
    rw [hu] at hn
    have hle : ((c :: l).takeWhile wordB).length ≤ (c :: l).length := (List.takeWhile_prefix _).length_le
    have hut : (c :: l).take ((c :: l).takeWhile wordB).length = (c :: l).takeWhile wordB := by
      exact tw_take wordB (c :: l)
    generalize hT : (c :: l).takeWhile wordB = x at *
    have e : s.extract ((a : Int)).toNat ((a : Int) + (x.length : Int)).toNat = B x := by
      rw [cut_B, Int.toNat_natCast, hu, show ((a : Int) + (x.length : Int)).toNat - a = x.length by omega, hut]
    refine ⟨(if x ∈ resL then 2 else 1, B x, 0, 0, (a : Int), if 32 < x.length then 12 else 0), ⟨rfl, fun h0 => ?_⟩, s.size + 30, fun k hk => ?_⟩
    · dsimp only at h0 ⊢
      rw [h0, hut]
    · rw [start k hk, if_pos c1, hn k (by omega), Option.bind_some, w64 _ (by omega) (by omega), if_pos (by omega), if_pos (by omega), e, resv_is, Option.bind_some, L_B]
      by_cases r : x ∈ resL
      · rw [if_pos (by simpa using r), if_pos r]
        by_cases d : 32 < x.length
        · rw [if_pos (by omega), if_pos d]
        · rw [if_neg (by omega), if_neg d]
      · rw [if_neg (by simpa using r), if_neg r]
        by_cases d : 32 < x.length
        · rw [if_pos (by omega), if_pos d]
        · rw [if_neg (by omega), if_neg d]
  rw [if_neg c1]
  have e2 : L ⟨#[48, 120]⟩ = [48, 120] := rfl
  have start2 : ∀ k, s.size + 30 ≤ k → QE.lex_one.f k s (a : Int) = (if ((c :: l).take 2 == [48, 120]) = true then _ else _) := fun k hk => by
    rw [start k hk, if_neg c1, if_pos (by omega), Int.toNat_natCast, hp_is, Option.bind_some, tail_L, hu, e2]
    rfl
  by_cases c2 : c = 48 ∧ l.head? = some 120
  · rw [if_pos c2]
    obtain ⟨rfl, hl⟩ := c2
    cases l with
    | nil => cases hl
    | cons d l =>
      simp only [List.head?_cons, Option.some.injEq] at hl
      subst hl
      have d2 : (L s).drop (a + 2) = l := by
        have := (drop_at s h3).2.2
        exact this
      have hn := fun k hk => run73 s (by omega) (a + 2) (by simp at hul; omega) k hk
      rw [d2] at hn
      simp only [List.drop_succ_cons, List.drop_zero]
      have hle : (l.takeWhile hexB).length ≤ l.length := (List.takeWhile_prefix _).length_le
      have hut : (48 :: 120 :: l).take (2 + (l.takeWhile hexB).length) = 48 :: 120 :: l.takeWhile hexB := by
        rw [show 2 + (l.takeWhile hexB).length = (l.takeWhile hexB).length + 1 + 1 by omega, List.take_succ_cons, List.take_succ_cons]
        congr 2
        exact tw_take hexB l
      have hok := tw_ok hexB l
      simp only [List.length_cons] at hul
      obtain ⟨t1, t2, t3, t4⟩ := txt_hex (l.takeWhile hexB) hok (by omega)
      obtain ⟨k0, r, hr⟩ := Pure.parse_tot (B (48 :: 120 :: l.takeWhile hexB)) t1 t2 t3 t4
      have hPV := PV_is hr
      have e : s.extract a ((a : Int) + (2 + ((l.takeWhile hexB).length : Int))).toNat = B (48 :: 120 :: l.takeWhile hexB) := by
        rw [cut_B, hu, show ((a : Int) + (2 + ((l.takeWhile hexB).length : Int))).toNat - a = 2 + (l.takeWhile hexB).length by omega, hut]
      refine ⟨(4, B (48 :: 120 :: l.takeWhile hexB), 2, r.1, (a : Int), r.2), ⟨?_, fun h0 => ?_⟩, max k0 (s.size + 30), fun k hk => ?_⟩
      · show r.2 = (PV _).2
        rw [hPV]
      · have h0 : (PV (48 :: 120 :: l.takeWhile hexB)).2 = 0 := h0
        show _ = (4, B (List.take (2 + (l.takeWhile hexB).length) (48 :: 120 :: l)), 2, (PV (48 :: 120 :: l.takeWhile hexB)).1, (a : Int), 0)
        rw [hPV] at h0 ⊢
        rw [hut, h0]
      · have hk1 : k0 ≤ k := Nat.le_trans (Nat.le_max_left _ _) hk
        have hk2 : s.size + 30 ≤ k := Nat.le_trans (Nat.le_max_right _ _) hk
        have hp := at_rounds (g := fun k => floats_ParseV.f k (B (48 :: 120 :: l.takeWhile hexB))) (fun k => floats_ParseV.mono _ k) hk1 hr
        rw [start2 k hk2, if_pos (by simp), w64 _ (by omega) (by omega), show ((a : Int) + 2) = ((a + 2 : Nat) : Int) by omega, hn k (by omega), Option.bind_some, w64 (2 + _) (by omega) (by omega), w64 _ (by omega) (by omega), if_pos (by omega), if_pos (by omega), e, hp, Option.bind_some]
  rw [if_neg c2]
  have c3 : ¬ (((c :: l).take 2 == [48, 120]) = true) := by
    intro hh
    have hh := eq_of_beq hh
    apply c2
    cases l with
    | nil => simp at hh
    | cons d l => simp at hh; simp [hh]
  by_cases c4 : digB c = true
  · rw [if_pos c4]
    obtain ⟨R, hR, hT⟩ := num_told s (by omega) a (c :: l) hu h1 (show f1 (c :: l) = true from c4) (s.size + 20) (Nat.le_refl _)
    refine ⟨R, hT, s.size + 30, fun k hk => ?_⟩
    have := at_rounds (g := fun k => lex_number.f k s (a : Int)) (fun k => lex_number.mono _ _ k) (show s.size + 20 ≤ k by omega) hR
    rw [start2 k hk, if_neg c3, if_pos c4, this]
    rfl
  rw [if_neg c4]
  have hm := fun k hk => marks_is s (by omega) a c l hu k hk
  have start3 : ∀ k, s.size + 30 ≤ k → QE.lex_one.f k s (a : Int) = QE.lex_one.l0 k s (a : Int) M6 6 0 := fun k hk => by
    rw [start2 k hk, if_neg c3, if_neg c4]
    rfl
  by_cases c5 : (c :: l).take 2 ∈ marks2
  · rw [if_pos c5]
    refine ⟨_, ⟨rfl, fun _ => rfl⟩, s.size + 30, fun k hk => ?_⟩
    rw [start3 k hk, hm k (by omega), if_pos c5]
  rw [if_neg c5]
  by_cases c6 : c ∈ marks1
  · rw [if_pos c6]
    refine ⟨_, ⟨rfl, fun _ => rfl⟩, s.size + 30, fun k hk => ?_⟩
    rw [start3 k hk, hm k (by omega), if_neg c5, if_pos c6]
    rfl
  · rw [if_neg c6]
    refine ⟨(0, ⟨#[]⟩, 0, 0, 0, 10), ⟨rfl, fun h => absurd h (by decide)⟩, s.size + 30, fun k hk => ?_⟩
    rw [start3 k hk, hm k (by omega), if_neg c5, if_neg c6]

def toS (t : T) : QE.S44 := ⟨t.kind, B t.text, ⟨t.ty, t.bits⟩, (t.place : Int)⟩
def answer (out : List QE.S44) : Except (Nat × Int) (List T) → (List QE.S44) × Int × Int
  | .ok ts => (out ++ ts.map toS, 0, 0)
  | .error x => ([], (x.1 : Int), x.2)

theorem lex_loop (s : ByteArray) (hs : s.size ≤ 4096) : ∀ (f q c : Nat) (out : List QE.S44), q ≤ s.size → s.size - q < f → out.length = c → c ≤ 1024 →
    ∃ K, ∀ k, K ≤ k → QE.lex_Lex.l0 k s out ((q + sk false ((L s).drop q) : Nat) : Int) = some (answer out (lexS V f q c ((L s).drop q)))
  | 0, q, c, out, hq, hf, ho, hc => by omega
  | f + 1, q, c, out, hq, hf, ho, hc => by
    have hul : ((L s).drop q).length = s.size - q := by rw [List.length_drop, L_size]
    have hsk := sk_le false ((L s).drop q)
    unfold lexS
    generalize hj : sk false ((L s).drop q) = j at *
    by_cases c1 : ((L s).drop q).length ≤ j
    · rw [if_pos c1]
      refine ⟨1, fun k hk => ?_⟩
      obtain ⟨k, rfl⟩ : ∃ j, k = j + 1 := ⟨k - 1, by omega⟩
      simp only [QE.lex_Lex.l0]
      rw [if_neg (by omega)]
      simp [answer]
    rw [if_neg c1, List.drop_drop]
    obtain ⟨R, ⟨hT1, hT2⟩, K1, hR⟩ := one_told s hs (q + j) (by omega)
    have hd2 : ((L s).drop (q + j)).drop (tok V ((L s).drop (q + j))).n = (L s).drop (q + j + (tok V ((L s).drop (q + j))).n) := by rw [List.drop_drop]
    rw [hd2]
    have htn := tok_n V ((L s).drop (q + j))
    have hul2 : ((L s).drop (q + j)).length = s.size - (q + j) := by rw [List.length_drop, L_size]
    generalize htk : tok V ((L s).drop (q + j)) = t at *
    by_cases c2 : t.e ≠ 0
    · rw [if_pos c2]
      refine ⟨K1 + 3, fun k hk => ?_⟩
      obtain ⟨k, rfl⟩ : ∃ j, k = j + 2 := ⟨k - 2, by omega⟩
      simp only [QE.lex_Lex.l0]
      rw [if_pos (by omega), hR (k + 1) (by omega), Option.bind_some, if_neg (by rw [hT1]; exact c2)]
      simp only [QE.lex_Lex.j1]
      rw [if_neg (by simp), if_neg (by rw [hT1]; exact c2), hT1]
      rfl
    rw [if_neg c2]
    have c2 : t.e = 0 := Decidable.not_not.1 c2
    obtain ⟨n1, n2⟩ := htn c2
    have hR2 := hT2 c2
    subst hR2
    by_cases c3 : c = 1024
    · rw [if_pos c3]
      refine ⟨K1 + 3, fun k hk => ?_⟩
      obtain ⟨k, rfl⟩ : ∃ j, k = j + 2 := ⟨k - 2, by omega⟩
      simp only [QE.lex_Lex.l0]
      rw [if_pos (by omega), hR (k + 1) (by omega), Option.bind_some, if_pos rfl]
      simp only [QE.lex_Lex.j1]
      rw [if_pos (by simp; omega)]
      rfl
    rw [if_neg c3]
    have hBz : ((B (((L s).drop (q + j)).take t.n)).size : Int) = (t.n : Int) := by
      rw [B_size, List.length_take]; omega
    obtain ⟨K2, ih⟩ := lex_loop s hs f (q + j + t.n) (c + 1) (out ++ [toS ⟨t.kind, ((L s).drop (q + j)).take t.n, t.ty, t.bits, q + j⟩]) (by omega) (by omega) (by simp; omega) (by omega)
    refine ⟨K1 + K2 + s.size + 30, fun k hk => ?_⟩
    obtain ⟨k, rfl⟩ : ∃ j, k = j + 2 := ⟨k - 2, by omega⟩
    simp only [QE.lex_Lex.l0]
    rw [if_pos (by omega), hR (k + 1) (by omega), Option.bind_some, if_pos rfl]
    simp only [QE.lex_Lex.j1]
    rw [if_neg (by simp; omega), if_pos trivial, if_pos (by omega), hBz, w64 _ (by omega) (by omega), show (((q + j : Nat) : Int) + (t.n : Int)) = ((q + j + t.n : Nat) : Int) by omega]
    rw [skip_is s (by omega) (q + j + t.n) k (by omega) (by omega), Option.bind_some]
    have ih := ih k (by omega)
    simp only [toS] at ih
    rw [ih]
    congr 1
    cases lexS V f (q + j + t.n) (c + 1) ((L s).drop (q + j + t.n)) with
    | ok ts => simp [answer, toS]
    | error x => rfl

theorem lex_is (s : ByteArray) (hs : s.size ≤ 4096) : ∃ K, ∀ k, K ≤ k → QE.lex_Lex.f k s = some (answer [] (lexS V (s.size + 1) 0 0 (L s))) := by
  obtain ⟨K, h⟩ := lex_loop s hs (s.size + 1) 0 0 [] (by omega) (by omega) rfl (by omega)
  refine ⟨K + s.size + 30, fun k hk => ?_⟩
  unfold QE.lex_Lex.f
  have h0 := skip_is s (by omega) 0 k (by omega) (by omega)
  rw [if_neg (by omega), show ((0 : Int)) = ((0 : Nat) : Int) from rfl, h0, Option.bind_some]
  have h1 := h k (by omega)
  rw [List.drop_zero] at h1
  exact h1
theorem lex_big (s : ByteArray) (hs : 4096 < s.size) (k : Nat) : QE.lex_Lex.f k s = some ([], 0, 3) := by
  unfold QE.lex_Lex.f
  rw [if_pos (by omega)]
end Go.Proofs.YthifejhdmjoolaaGreatDoor.Lx
