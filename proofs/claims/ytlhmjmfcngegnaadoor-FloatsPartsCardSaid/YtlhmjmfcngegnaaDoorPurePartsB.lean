/-
  FloatsParts, the plain law: the document's ToInt is the whole part, if that is an int64.
-/
import Derived.Test.YtlhmjmfcngegnaaDoorPurePartsA
namespace Go.Proofs.YtlhmjmfcngegnaaDoor.Pure
open Go.RowKit Go.Proofs.YtlhmjmfcngegnaaDoorW.PrintWords Go.Proofs.YtlhmjmfcngegnaaDoorW.PrintLast Go.Proofs.YtlhmjmfcngegnaaDoorW.PrintMore
open Go.Proofs.YtlhmjmfcngegnaaDoorG Go.Flo
set_option linter.unusedVariables false
set_option linter.unusedSimpArgs false
set_option exponentiation.threshold 3000

/-- what is said of a sign and a whole part -/
def outI (s : Bool) (Q : Nat) : Int × Int := if -9223372036854775808 ≤ signedI s Q ∧ signedI s Q < 9223372036854775808 then (signedI s Q, 0) else (0, 82)
theorem out_in {s : Bool} {Q : Nat} (h : Q < 9223372036854775808) : outI s Q = (signedI s Q, 0) := by
  unfold outI signedI
  cases s
  · rw [if_pos]; constructor <;> simp <;> omega
  · rw [if_pos]; constructor <;> simp <;> omega
theorem out_zero (s : Bool) : outI s 0 = (0, 0) := by rw [out_in (by omega)]; unfold signedI; cases s <;> rfl
theorem out_far {s : Bool} {Q : Nat} (h : 9223372036854775808 < Q ∨ (Q = 9223372036854775808 ∧ s = false)) : outI s Q = (0, 82) := by
  unfold outI signedI
  cases s
  · rw [if_neg]; simp; omega
  · rw [if_neg]; simp at h ⊢; omega

/-- the whole part of m · 2^e -/
def wholeE (m : Nat) (e : Int) : Nat := m <<< e.toNat / 2 ^ (-e).toNat

theorem tail_b (k m : Nat) (e : Int) (s : Bool) (hm : m < 9223372036854775808) (h0 : -1100 ≤ e) (h1 : e ≤ 0) (hm2 : e < 0 → m < 9007199254740992) :
    QB.foundryref01_ToInt.j2 (k + 1) s (m : Int) e = some (outI s (m / 2 ^ (-e).toNat)) := by
  simp only [QB.foundryref01_ToInt.j2]
  by_cases c : e < 0
  · rw [if_pos c]
    have hm3 := hm2 c
    by_cases c2 : e < -60
    · rw [if_pos c2]
      have : m / 2 ^ (-e).toNat = 0 := by
        apply Nat.div_eq_of_lt
        calc m < 2 ^ 53 := hm3
          _ ≤ 2 ^ (-e).toNat := Nat.pow_le_pow_right (by decide) (by omega)
      rw [this, out_zero]
    · rw [if_neg c2]
      obtain ⟨n, hn⟩ : ∃ n : Nat, -e = n := ⟨(-e).toNat, by omega⟩
      have w1 : wrap64 (-e) = (n : Int) := by rw [hn]; unfold wrap64; omega
      have w2 : IntKind.u64.wrap (n : Int) = (n : Int) := by rw [IntKind.wrap_u64]; omega
      rw [w1, w2, if_pos (by omega), hn, Int.toNat_natCast]
      have w3 : shr .u64 (m : Int) (n : Int) = ((m / 2 ^ n : Nat) : Int) := by
        unfold shr
        rw [show min ((n : Int).toNat) IntKind.u64.bits = n by rw [Int.toNat_natCast]; exact Nat.min_eq_left (by show n ≤ 64; omega)]
        push_cast
        rfl
      rw [w3]
      have hq : m / 2 ^ n < 9007199254740992 := Nat.lt_of_le_of_lt (Nat.div_le_self _ _) hm3
      generalize m / 2 ^ n = Q at hq ⊢
      rw [out_in (by omega)]
      unfold signedI
      cases s
      · rw [if_neg (by simp), if_neg (by simp)]
        congr 2
        unfold wrap64; omega
      · rw [if_pos rfl, if_pos rfl]
        congr 2
        unfold wrap64; omega
  · have e0 : e = 0 := by omega
    subst e0
    rw [if_neg (by omega), show (-(0 : Int)).toNat = 0 from rfl, Nat.pow_zero, Nat.div_one, out_in hm]
    unfold signedI
    cases s
    · rw [if_neg (by simp), if_neg (by simp)]
      congr 2
      unfold wrap64; omega
    · rw [if_pos rfl, if_pos rfl]
      congr 2
      unfold wrap64; omega

theorem ref_toInt_b (k a : Nat) (h : a < 18446744073709551616) : QB.foundryref01_ToInt.f (k + 4) (a : Int) = toIntN a := by
  unfold QB.foundryref01_ToInt.f
  rw [ref_class_b (k + 2) a h, Option.bind_some, ref_parts_b (k + 2) a h, parts_b a h, Option.bind_some]
  by_cases n : nan a
  · rw [if_pos (show classN a < 3 by rw [(class_nan_b a).2 n]; omega)]
    unfold toIntN
    rw [if_pos n]
  · by_cases hi : rung a = 9218868437227405312
    · rw [toInt_inf hi, if_pos]
      unfold classN
      rw [if_neg (by omega), if_pos hi]; omega
    · have n' : ¬ 9218868437227405312 < rung a := n
      have hf : rung a < 9218868437227405312 := by omega
      rw [if_neg (show ¬ classN a < 3 by
        unfold classN; rw [if_neg n', if_neg hi]
        split
        · omega
        · split <;> omega), if_neg n', if_neg hi, toInt_finite h hf]
      have hw : (if -9223372036854775808 ≤ signedI (isNeg a) (whole (rung a)) ∧ signedI (isNeg a) (whole (rung a)) < 9223372036854775808 then (signedI (isNeg a) (whole (rung a)), (0 : Int)) else (0, 82)) = outI (isNeg a) (wholeE (sg (rung a)) (-1074 + (Flo.up (rung a) : Int))) := by unfold outI wholeE whole; rfl
      rw [hw]
      have hm := sg_lt (rung a)
      have hbig : -1074 < -1074 + (Flo.up (rung a) : Int) → 4503599627370496 ≤ sg (rung a) := by
        intro c
        unfold Flo.up at c
        unfold sg
        rw [if_neg (by omega)]
        omega
      have hup : Flo.up (rung a) < 2047 := by unfold Flo.up; omega
      generalize isNeg a = s
      have he : -1074 ≤ -1074 + (Flo.up (rung a) : Int) ∧ -1074 + (Flo.up (rung a) : Int) < 1000 := by omega
      dsimp only
      generalize -1074 + (Flo.up (rung a) : Int) = e at hbig he ⊢
      generalize sg (rung a) = m at hm hbig ⊢
      have hlow : e ≤ 0 → wholeE m e = m / 2 ^ (-e).toNat := by
        intro c
        unfold wholeE
        rw [show e.toNat = 0 by omega, Nat.shiftLeft_eq, Nat.pow_zero, Nat.mul_one]
      have hhigh : 0 ≤ e → wholeE m e = m * 2 ^ e.toNat := by
        intro c
        unfold wholeE
        rw [show (-e).toNat = 0 by omega, Nat.pow_zero, Nat.div_one, Nat.shiftLeft_eq]
      by_cases m0 : m = 0
      · rw [if_pos (by omega)]
        have : wholeE m e = 0 := by unfold wholeE; rw [m0, Nat.zero_shiftLeft, Nat.zero_div]
        rw [this, out_zero]
        simp only [QB.foundryref01_ToInt.j0, if_true]
      · rw [if_neg (by omega)]
        simp only [QB.foundryref01_ToInt.j0]
        by_cases c1 : e < -1000
        · rw [decide_eq_true c1, if_pos rfl, hlow (by omega)]
          have : m / 2 ^ (-e).toNat = 0 := by
            apply Nat.div_eq_of_lt
            calc m < 2 ^ 53 := hm
              _ ≤ 2 ^ (-e).toNat := Nat.pow_le_pow_right (by decide) (by omega)
          rw [this, out_zero]
        · rw [decide_eq_false c1, if_neg (by simp)]
          have hb : 4503599627370496 ≤ m := hbig (by omega)
          by_cases c2 : e > 11
          · rw [if_pos c2, hhigh (by omega), out_far]
            left
            calc 9223372036854775808 < 4503599627370496 * 2 ^ 12 := by decide
              _ ≤ m * 2 ^ e.toNat := Nat.mul_le_mul hb (Nat.pow_le_pow_right (by decide) (by omega))
          · rw [if_neg c2]
            have J : QB.foundryref01_ToInt.j1 (k + 3) s (m : Int) e false = some (if e = 11 then (0, 82) else outI s (wholeE m e)) := by
              simp only [QB.foundryref01_ToInt.j1]
              rw [if_neg (by simp)]
              by_cases d1 : e = 11
              · rw [if_pos d1, if_pos d1]
              · rw [if_neg d1, if_neg d1]
                by_cases d2 : e > 0
                · obtain ⟨q, hq⟩ : ∃ q : Nat, e = q := ⟨e.toNat, by omega⟩
                  subst hq
                  have w2 : IntKind.u64.wrap (q : Int) = (q : Int) := by rw [IntKind.wrap_u64]; omega
                  have hp : 2 ^ q ≤ 1024 := Nat.pow_le_pow_right (n := 2) (by decide) (show q ≤ 10 by omega)
                  have hq2 : m * 2 ^ q < 9223372036854775808 := by
                    have h1 : m * 2 ^ q ≤ 9007199254740991 * 1024 := Nat.mul_le_mul (by omega) hp
                    generalize m * 2 ^ q = Q at h1 ⊢
                    clear hlow hhigh hbig hp
                    omega
                  have w3 : shl .u64 (m : Int) (q : Int) = ((m * 2 ^ q : Nat) : Int) := by
                    unfold shl
                    rw [show min ((q : Int).toNat) IntKind.u64.bits = q by rw [Int.toNat_natCast]; exact Nat.min_eq_left (by show q ≤ 64; omega)]
                    have e1 : (m : Int) * 2 ^ q = ((m * 2 ^ q : Nat) : Int) := by push_cast; rfl
                    rw [e1, IntKind.wrap_u64]
                    clear e1
                    generalize m * 2 ^ q = Q at hq2 ⊢
                    clear hlow hhigh hbig
                    omega
                  have hq0 : (0 : Int) ≤ (q : Int) := Int.natCast_nonneg q
                  rw [if_pos d2, w2, if_pos hq0, w3, hhigh hq0, Int.toNat_natCast]
                  clear hlow hhigh hbig w2 w3 hp
                  generalize m * 2 ^ q = Q at hq2 ⊢
                  simp only [QB.foundryref01_ToInt.j2]
                  rw [if_neg (by omega), out_in hq2]
                  unfold signedI
                  cases s
                  · rw [if_neg (by simp), if_neg (by simp)]
                    congr 2
                    unfold wrap64; omega
                  · rw [if_pos rfl, if_pos rfl]
                    congr 2
                    unfold wrap64; omega
                · have tb := tail_b (k + 1) m e s (by omega) (by omega) (by omega) (fun _ => hm)
                  rw [show k + 1 + 1 = k + 2 from rfl] at tb
                  rw [if_neg d2, hlow (by omega)]
                  exact tb
            have far : ¬ (s = true ∧ m = 4503599627370496 ∧ e = 11) → (if e = 11 then ((0 : Int), (82 : Int)) else outI s (wholeE m e)) = outI s (wholeE m e) := by
              intro hne
              by_cases d1 : e = 11
              · rw [if_pos d1, hhigh (by omega), out_far]
                rw [d1, show (11 : Int).toNat = 11 from rfl]
                cases s
                · by_cases z : m = 4503599627370496
                  · right; exact ⟨by omega, rfl⟩
                  · left; omega
                · left
                  have : m ≠ 4503599627370496 := fun z => hne ⟨rfl, z, d1⟩
                  omega
              · rw [if_neg d1]
            cases hs : s
            · subst hs
              rw [if_neg (by simp), J, far (by simp)]
            · subst hs
              rw [if_pos rfl]
              by_cases d3 : m = 4503599627370496
              · rw [if_pos (by omega)]
                by_cases d4 : e = 11
                · subst d4
                  simp only [QB.foundryref01_ToInt.j1]
                  rw [if_pos (by decide), hhigh (by omega), d3]
                  decide +kernel
                · rw [show (e == 11) = false from beq_eq_false_iff_ne.2 d4, J, far (fun z => d4 z.2.2)]
              · rw [if_neg (by omega), J, far (fun z => d3 z.2.1)]
end Go.Proofs.YtlhmjmfcngegnaaDoor.Pure
