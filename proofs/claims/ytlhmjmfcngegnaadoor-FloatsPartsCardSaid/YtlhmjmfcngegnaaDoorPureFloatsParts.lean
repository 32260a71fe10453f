/-
  FloatsParts, the plain law: the document's text is the program's; and all together.
-/
import Derived.Test.YtlhmjmfcngegnaaDoorPurePartsC
namespace Go.Proofs.YtlhmjmfcngegnaaDoor.Pure
open Go.RowKit Go.Proofs.YtlhmjmfcngegnaaDoorW.PrintWords Go.Proofs.YtlhmjmfcngegnaaDoorW.PrintLast Go.Proofs.YtlhmjmfcngegnaaDoorW.PrintMore
open Go.Proofs.YtlhmjmfcngegnaaDoorG Go.Flo
set_option linter.unusedVariables false
set_option linter.unusedSimpArgs false

theorem lit_str (a b : Int) (x y : UInt8) (ha : UInt8.ofNat a.toNat = x) (hb : UInt8.ofNat b.toNat = y) : (⟨#[x, y]⟩ : ByteArray) = strOfNums [a, b] := by
  subst ha; subst hb; rfl

theorem ref_l1_end (s : ByteArray) (e : Int) (hs : s.size < 1000) (h0 : -1200 < e) (h1 : e < 1200) : ∃ k, QB.foundryref01_Text.l1 k s 0 e = some (s ++ strOfNums (expd e)) := by
  refine ⟨7, ?_⟩
  simp only [QB.foundryref01_Text.l1]
  rw [if_pos trivial]
  unfold expd
  have d := decimal_is ⟨e.natAbs, by omega⟩
  dsimp only at d
  have dl : (decs e.natAbs).length ≤ 4 := by unfold decs; split <;> (try split) <;> (try split) <;> simp
  by_cases c : e < 0
  · rw [if_pos c, if_pos c, if_pos (by omega), show wrap64 (-e) = ((e.natAbs : Nat) : Int) by unfold wrap64; omega, d, Option.bind_some, if_pos (by rw [ByteArray.size_append, strOfNums_size]; show s.size + 2 + _ ≤ _; omega)]
    rw [show (⟨#[112, 45]⟩ : ByteArray) = strOfNums [112, 45] from lit_str _ _ _ _ rfl rfl, ByteArray.append_assoc, ← str_append]
    rfl
  · rw [if_neg c, if_neg c, if_pos (by omega)]
    rw [show ((e.natAbs : Nat) : Int) = e by omega] at d
    rw [d, Option.bind_some, if_pos (by rw [ByteArray.size_append, strOfNums_size]; show s.size + 2 + _ ≤ _; omega)]
    rw [show (⟨#[112, 43]⟩ : ByteArray) = strOfNums [112, 43] from lit_str _ _ _ _ rfl rfl, ByteArray.append_assoc, ← str_append]
    rfl

theorem ref_l0_end (s : ByteArray) (m : Nat) (e : Int) (hs : s.size < 100) (h0 : -1200 < e + 52) (h1 : e + 52 < 1200) (h2 : 4503599627370496 ≤ m) (h3 : m < 9007199254740992) :
    ∃ k, QB.foundryref01_Text.l0 k s (m : Int) e = some (s ++ strOfNums (ahead (m * 256) ++ expd (e + 52))) := by
  have hx0 : m * 4096 % 18446744073709551616 < 18446744073709551616 := Nat.mod_lt _ (by omega)
  have hm : m * 256 * 16 % 18446744073709551616 = m * 4096 % 18446744073709551616 := by rw [Nat.mul_assoc]
  have ew : IntKind.u64.wrap ((m : Int) * 4096) = ((m * 4096 % 18446744073709551616 : Nat) : Int) := by rw [IntKind.wrap_u64]; omega
  have e52 : wrap64 (e + 52) = e + 52 := by unfold wrap64; omega
  have s3 : (⟨#[48, 120, 49]⟩ : ByteArray) = strOfNums [48, 120, 49] := rfl
  have s1 : (⟨#[46]⟩ : ByteArray) = strOfNums [46] := rfl
  unfold ahead
  rw [hm]
  by_cases c : m * 4096 % 18446744073709551616 = 0
  · obtain ⟨k, hk⟩ := ref_l1_end (s ++ strOfNums [48, 120, 49]) (e + 52) (by rw [ByteArray.size_append, strOfNums_size]; simp; omega) h0 h1
    refine ⟨k + 2, ?_⟩
    simp only [QB.foundryref01_Text.l0]
    rw [if_neg (by omega), if_pos (by omega), ew, if_pos (by omega), e52]
    simp only [QB.foundryref01_Text.j2]
    rw [c, if_pos rfl, s3]
    rw [show ((0 : Nat) : Int) = 0 from rfl, hk, ByteArray.append_assoc, ← str_append]
    rfl
  · have hl := hx_len 16 (m * 4096 % 18446744073709551616)
    obtain ⟨k, hk⟩ := ref_l1_x (e + 52) _ 16 (m * 4096 % 18446744073709551616) (s ++ strOfNums [48, 120, 49] ++ strOfNums [46]) hx0 (pow16 _) (by rw [ByteArray.size_append, ByteArray.size_append, strOfNums_size, strOfNums_size]; simp; omega)
      (ref_l1_end _ (e + 52) (by rw [ByteArray.size_append, ByteArray.size_append, ByteArray.size_append, strOfNums_size, strOfNums_size, strOfNums_size]; simp; omega) h0 h1)
    refine ⟨k + 2, ?_⟩
    simp only [QB.foundryref01_Text.l0]
    rw [if_neg (by omega), if_pos (by omega), ew, if_neg (by omega), e52, if_pos (by rw [ByteArray.size_append]; show s.size + 3 + 1 ≤ _; omega)]
    simp only [QB.foundryref01_Text.j2]
    rw [s3, s1, hk, if_neg c, ByteArray.append_assoc, ByteArray.append_assoc, ByteArray.append_assoc, ← str_append, ← str_append, ← str_append]
    congr 2

theorem ref_l0_x (s : ByteArray) (j : Nat) (hs : s.size < 100) : ∀ (m : Nat) (e : Int), 4503599627370496 ≤ m * 2 ^ j → m * 2 ^ j < 9007199254740992 → -1200 < e - j + 52 → e + 52 < 1200 →
    ∃ k, QB.foundryref01_Text.l0 k s (m : Int) e = some (s ++ strOfNums (ahead (m * 2 ^ j * 256) ++ expd (e - j + 52))) := by
  induction j with
  | zero =>
    intro m e h1 h2 h3 h4
    rw [Nat.pow_zero, Nat.mul_one] at h1 h2 ⊢
    have := ref_l0_end s m e hs (by omega) h4 h1 h2
    rw [show e - ((0 : Nat) : Int) + 52 = e + 52 by omega]
    exact this
  | succ j ih =>
    intro m e h1 h2 h3 h4
    have hp : 0 < 2 ^ j := Nat.two_pow_pos j
    have e1 : m * 2 ^ (j + 1) = m * 2 * 2 ^ j := by rw [Nat.pow_succ', Nat.mul_assoc]
    rw [e1] at h1 h2 ⊢
    have hlt : m * 2 < 9007199254740992 := by
      have : m * 2 * 1 ≤ m * 2 * 2 ^ j := Nat.mul_le_mul_left _ hp
      generalize m * 2 * 2 ^ j = Z at this h2
      omega
    obtain ⟨k, hk⟩ := ih (m * 2) (e - 1) h1 h2 (by omega) (by omega)
    refine ⟨k + 1, ?_⟩
    simp only [QB.foundryref01_Text.l0]
    rw [if_pos (by omega), IntKind.wrap_u64, show (m : Int) * 2 % 18446744073709551616 = ((m * 2 : Nat) : Int) by omega, show wrap64 (e - 1) = e - 1 by unfold wrap64; omega, hk,
      show e - 1 - (j : Int) + 52 = e - ((j + 1 : Nat) : Int) + 52 by omega]

theorem ref_j0_x (a : Nat) (ha : a < 18446744073709551616) (hn : ¬ 9218868437227405312 < rung a) : ∃ k, QB.foundryref01_Text.j0 k (a : Int) (strOfNums (sgn (isNeg a))) = some (strOfNums (txtL a)) := by
  have r1 : rung a = a % 9223372036854775808 := rfl
  have hl := sgn_len (isNeg a)
  have hs : (strOfNums (sgn (isNeg a))).size ≤ 1 := by rw [strOfNums_size]; exact hl
  unfold txtL
  rw [if_neg hn]
  by_cases c2 : rung a = 9218868437227405312
  · refine ⟨3, ?_⟩
    simp only [QB.foundryref01_Text.j0]
    rw [ref_class_b 0 a ha, Option.bind_some]
    unfold classN
    rw [if_neg hn, if_pos c2, if_neg (by omega), if_pos rfl, if_pos (by omega), if_pos c2, str_append]
    rfl
  rw [if_neg c2]
  by_cases c3 : rung a = 0
  · refine ⟨3, ?_⟩
    simp only [QB.foundryref01_Text.j0]
    rw [ref_class_b 0 a ha, Option.bind_some]
    unfold classN
    rw [if_neg hn, if_neg c2, if_pos c3, if_neg (by omega), if_neg (by omega), if_pos rfl, if_pos (by omega), if_pos c3, str_append]
    rfl
  rw [if_neg c3]
  obtain ⟨j1, j2, j3⟩ := shf_is (sg (rung a)) (sg_ne _ c3) (sg_lt _)
  obtain ⟨b1, b2⟩ := expT_bd (rung a) c3 (by omega)
  have hu : up (rung a) < 2047 := by unfold Flo.up; omega
  have he : -1074 + ((up (rung a) : Nat) : Int) - ((shf (sg (rung a)) : Nat) : Int) + 52 = expT (rung a) := by unfold expT; omega
  obtain ⟨k, hk⟩ := ref_l0_x (strOfNums (sgn (isNeg a))) (shf (sg (rung a))) (by omega) (sg (rung a)) (-1074 + ((up (rung a) : Nat) : Int)) j2 j3 (by omega) (by omega)
  have hk2 := at_rounds (fun k => (QB.foundryref01_Text.mono_l k).2.1 (strOfNums (sgn (isNeg a))) ((sg (rung a) : Nat) : Int) (-1074 + ((up (rung a) : Nat) : Int))) (show k ≤ k + 2 by omega) hk
  refine ⟨k + 3, ?_⟩
  simp only [QB.foundryref01_Text.j0]
  rw [ref_class_b k a ha, Option.bind_some, ref_parts_b k a ha, parts_b a ha, if_neg hn, if_neg c2, Option.bind_some]
  unfold classN
  rw [if_neg hn, if_neg c2, if_neg c3]
  by_cases c4 : rung a < 4503599627370496
  · rw [if_pos c4, if_neg (by omega), if_neg (by omega), if_neg (by omega), hk2, he, ← str_append]
    rfl
  · rw [if_neg c4, if_neg (by omega), if_neg (by omega), if_neg (by omega), hk2, he, ← str_append]
    rfl

theorem ref_text_x (a : Nat) (ha : a < 18446744073709551616) : ∃ k, QB.foundryref01_Text.f k (a : Int) = some (strOfNums (txtL a)) := by
  by_cases hn : 9218868437227405312 < rung a
  · refine ⟨3, ?_⟩
    have : ∀ s, QB.foundryref01_Text.j0 3 (a : Int) s = some (strOfNums (txtL a)) := by
      intro s
      simp only [QB.foundryref01_Text.j0]
      rw [ref_class_b 0 a ha, Option.bind_some]
      unfold classN txtL
      rw [if_pos hn, if_pos rfl, if_pos hn]
      rfl
    unfold QB.foundryref01_Text.f
    rw [this, this]
    split <;> rfl
  · obtain ⟨k, hk⟩ := ref_j0_x a ha hn
    refine ⟨k, ?_⟩
    unfold QB.foundryref01_Text.f
    by_cases c : a < 9223372036854775808
    · have hg : sgn (isNeg a) = [] := by unfold sgn isNeg; rw [show a / 9223372036854775808 = 0 by omega]; rfl
      rw [hg] at hk
      rw [if_neg (by omega)]
      exact hk
    · have hg : sgn (isNeg a) = [45] := by unfold sgn isNeg; rw [show a / 9223372036854775808 = 1 by omega]; rfl
      rw [hg] at hk
      rw [if_pos (by omega)]
      exact hk

/-- YOURS: ∀ (a0 : Int), (Lit.int .u64 a0).wf = true → ∃ k, foundrylaw01_FloatsParts.f k a0 = some true -/
theorem FloatsParts : QB.foundrylaw01_FloatsParts.Pure := by
  intro a0 w0
  obtain ⟨a, rfl, ha⟩ := u64_is w0
  obtain ⟨k, h1, h2⟩ := together (fun k => QB.floats_Text.mono _ k) (fun k => QB.foundryref01_Text.mono _ k) (text_x a ha) (ref_text_x a ha)
  have h1 := at_rounds (fun k => QB.floats_Text.mono _ k) (show k ≤ k + 64 by omega) h1
  have h2 := at_rounds (fun k => QB.foundryref01_Text.mono _ k) (show k ≤ k + 64 by omega) h2
  have hal : QB.foundrylaw01_alive.f (k + 64) = some true := at_rounds (fun k => QB.foundrylaw01_alive.mono k) (show 60 ≤ k + 64 by omega) (show QB.foundrylaw01_alive.f 60 = some true by decide +kernel)
  refine ⟨k + 64, ?_⟩
  have hp := ref_parts_b (k + 62) a ha
  have hc := ref_class_b (k + 62) a ha
  have ht := ref_toInt_b (k + 60) a ha
  have hx := ref_next_b (k + 62) a ha
  have hti : QB.foundryref01_ToInt.f (k + 64) (a : Int) = floats_ToInt.f (a : Int) := ht.trans (by unfold floats_ToInt.f; simp)
  obtain ⟨⟨v, e⟩, hv⟩ : ∃ r, floats_ToInt.f (a : Int) = some r := by
    unfold floats_ToInt.f
    rw [Int.toNat_natCast]
    by_cases n : nan a
    · exact ⟨(0, 82), by unfold toIntN; rw [if_pos n]⟩
    · unfold nan at n
      by_cases hi : rung a = 9218868437227405312
      · exact ⟨_, toInt_inf hi⟩
      · exact ⟨_, toInt_finite ha (by omega)⟩
  unfold QB.foundrylaw01_FloatsParts.f
  rw [hp, parts_b a ha]
  generalize (if 9218868437227405312 < rung a then (false, (0 : Int), (0 : Int)) else if rung a = 9218868437227405312 then (isNeg a, 0, 0) else (isNeg a, ((sg (rung a) : Nat) : Int), -1074 + ((Flo.up (rung a) : Nat) : Int))) = P
  obtain ⟨s, m, x⟩ := P
  rw [hti, hv, canon_b a ha, ref_canon_b a ha, class_b a ha, hc, neg_b a ha, ref_neg_b a ha, next_b a ha, hx, h1, h2, hal]
  cases s <;> simp
end Go.Proofs.YtlhmjmfcngegnaaDoor.Pure
