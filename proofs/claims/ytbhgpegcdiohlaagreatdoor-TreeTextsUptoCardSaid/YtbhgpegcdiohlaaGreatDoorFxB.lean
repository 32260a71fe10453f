import Derived.WalkKit
import Derived.WalkMore
import Derived.Laws.BitsAllLaws
import Derived.Laws.BytesArg
import Derived.Lib.Bytealg
import Derived.Test.YtbhgpegcdiohlaaGreatDoorLvQ
namespace Go.Proofs.YtbhgpegcdiohlaaGreatDoor.Tr
open Go Go.RowKit Go.Proofs
set_option linter.unusedVariables false
/-- the mantissa with its top bit at place 60, and the exponent that goes with it -/
def nrm : Nat → Int → Int → Int × Int
  | 0, m, e => (m, e)
  | k + 1, m, e => if m < 1152921504606846976 then nrm k (m * 2) (e - 1) else (m, e)
theorem nrm_at {k : Nat} {m e : Int} (h : 1152921504606846976 ≤ m) : nrm k m e = (m, e) := by
  cases k
  · rfl
  · rw [nrm, if_neg (by omega)]
theorem and_bit (n k : Nat) : n &&& 2 ^ k = if n.testBit k = true then 2 ^ k else 0 := by
  apply Nat.eq_of_testBit_eq
  intro i
  rw [Nat.testBit_and, Nat.testBit_two_pow]
  by_cases h : k = i
  · subst h
    by_cases g : n.testBit k = true
    · rw [if_pos g, g, Nat.testBit_two_pow]; simp
    · rw [if_neg g]; simp at g; simp [g]
  · by_cases g : n.testBit k = true
    · rw [if_pos g, Nat.testBit_two_pow]; simp [h]
    · rw [if_neg g]; simp [h]
theorem bit60_lo {M : Int} (h0 : 0 < M) (h1 : M < 1152921504606846976) : Go.bits .and .u64 M 1152921504606846976 = 0 := by
  obtain ⟨n, rfl⟩ := Int.eq_ofNat_of_zero_le (Int.le_of_lt h0)
  have e : n &&& 2 ^ 60 = 0 := by
    rw [and_bit, Nat.testBit_lt_two_pow (by omega)]; rfl
  have h := bits_and_u64_nat n (2 ^ 60) (by omega) (by decide)
  rw [e] at h
  exact h
theorem bit60_hi {M : Int} (h0 : 1152921504606846976 ≤ M) (h1 : M < 2305843009213693952) : Go.bits .and .u64 M 1152921504606846976 = 1152921504606846976 := by
  obtain ⟨n, rfl⟩ := Int.eq_ofNat_of_zero_le (by omega : 0 ≤ M)
  have ht : n.testBit 60 = true := by
    rw [Nat.testBit_eq_decide_div_mod_eq]; simp; omega
  have e : n &&& 2 ^ 60 = 2 ^ 60 := by
    rw [and_bit, if_pos ht]
  have h := bits_and_u64_nat n (2 ^ 60) (by omega) (by decide)
  rw [e] at h
  exact h
theorem nib {X : Int} (h0 : 0 ≤ X) (h1 : X < 18446744073709551616) : Go.bits .and .u64 (X / 1152921504606846976) 15 = X / 1152921504606846976 := by
  obtain ⟨n, rfl⟩ := Int.eq_ofNat_of_zero_le h0
  have h := bits_and_u64_nat (n / 1152921504606846976) 15 (by omega) (by decide)
  have e : n / 1152921504606846976 &&& 15 = n / 1152921504606846976 := by
    rw [show (15 : Nat) = 2 ^ 4 - 1 from rfl, Nat.and_two_pow_sub_one_eq_mod]
    omega
  rw [e] at h
  exact h
/-- a hexadecimal digit -/
def hexc (d : Int) : Int := if d < 10 then 48 + d else 87 + d
/-- the digits of what stands ahead of the point's place, from the top -/
def hexL : Nat → Int → List Int
  | 0, _ => []
  | k + 1, X => if X = 0 then [] else hexc (X / 1152921504606846976) :: hexL k (X * 16 % 18446744073709551616)
def fracL (X : Int) : List Int := if X = 0 then [] else 46 :: hexL 16 X
def expL (n : Int) : List Int := if n < 100 then [n / 10 + 48, n % 10 + 48] else if n < 1000 then [n / 100 + 48, n / 10 % 10 + 48, n % 10 + 48] else [n / 1000 + 48, n / 100 % 10 + 48, n / 10 % 10 + 48, n % 10 + 48]
/-- what fmtX appends for no sign, a mantissa above zero -/
def fmtL (m e : Int) : List Int := [48, 120, 49] ++ fracL ((nrm 52 (m * 256) e).1 * 16 % 18446744073709551616) ++ [112] ++ [if (nrm 52 (m * 256) e).2 < 0 then 45 else 43] ++ expL (if (nrm 52 (m * 256) e).2 < 0 then -(nrm 52 (m * 256) e).2 else (nrm 52 (m * 256) e).2)
theorem hexL_zero (k : Nat) : hexL k 0 = [] := by
  cases k
  · rfl
  · rw [hexL, if_pos rfl]
/-- a round of the digits: what is left after j of them is a multiple of 16 to the j-th -/
theorem hex_next {j : Nat} {X : Int} (h0 : 0 ≤ X) (h1 : X < 18446744073709551616) (hd : ∃ Y : Int, X = Y * 16 ^ j) : ∃ Y : Int, X * 16 % 18446744073709551616 = Y * 16 ^ (j + 1) ∨ 16 ≤ j := by
  obtain ⟨Y, rfl⟩ := hd
  by_cases hj : 16 ≤ j
  · exact ⟨0, .inr hj⟩
  · refine ⟨Y % 16 ^ (15 - j), .inl ?_⟩
    have e : (18446744073709551616 : Int) = 16 ^ (15 - j) * 16 ^ (j + 1) := by
      rw [← Int.pow_add, show 15 - j + (j + 1) = 16 by omega]; rfl
    rw [e, Int.mul_assoc, show (16 : Int) ^ j * 16 = 16 ^ (j + 1) from (Int.pow_succ 16 j).symm, Int.mul_comm Y, Int.mul_comm (16 ^ (15 - j)), Int.mul_emod_mul_of_pos _ _ (Int.pow_pos (by decide)), Int.mul_comm]
theorem hex_last {X : Int} (h0 : 0 ≤ X) (h1 : X < 18446744073709551616) (hd : ∃ Y : Int, X = Y * 16 ^ 16) : X = 0 := by
  obtain ⟨Y, rfl⟩ := hd
  rw [show (16 : Int) ^ 16 = 18446744073709551616 from rfl] at *
  omega
theorem and_frac {b : Int} (h0 : 0 ≤ b) (h1 : b < 9223372036854775808) : Go.bits .and .u64 b 4503599627370495 = b % 4503599627370496 := by
  obtain ⟨n, rfl⟩ := Int.eq_ofNat_of_zero_le h0
  have h := bits_and_u64_nat n 4503599627370495 (by omega) (by decide)
  rw [show (4503599627370495 : Nat) = 2 ^ 52 - 1 from rfl, Nat.and_two_pow_sub_one_eq_mod] at h
  exact h
theorem or_hid {m : Int} (h0 : 0 ≤ m) (h1 : m < 4503599627370496) : Go.bits .or .u64 m 4503599627370496 = m + 4503599627370496 := by
  obtain ⟨a, rfl⟩ := Int.eq_ofNat_of_zero_le h0
  have e := bits_or_u64_nat a 4503599627370496 (by omega) (by omega)
  rw [show ((4503599627370496 : Nat) : Int) = 4503599627370496 from rfl] at e
  rw [e]
  have h1 : (a ||| 2 ^ 52) / 2 ^ 52 = 1 := by
    rw [Nat.or_div_two_pow, show 2 ^ 52 / 2 ^ 52 = 1 from rfl, show a / 2 ^ 52 = 0 by omega, Nat.zero_or]
  have h2 : (a ||| 2 ^ 52) % 2 ^ 52 = a := by
    rw [Nat.or_mod_two_pow, show 2 ^ 52 % 2 ^ 52 = 0 from rfl, Nat.or_zero]; omega
  rw [show (2 : Nat) ^ 52 = 4503599627370496 from rfl] at h1 h2
  omega
theorem andNot63 {b : Int} (h0 : 0 ≤ b) (h1 : b < 9223372036854775808) : Go.bits .andNot .u64 b 9223372036854775808 = b := by
  obtain ⟨n, rfl⟩ := Int.eq_ofNat_of_zero_le h0
  have h := u64_andNot_nat n 9223372036854775808 (by omega) (by decide)
  rw [show (18446744073709551615 - 9223372036854775808 : Nat) = 2 ^ 63 - 1 from rfl, Nat.and_two_pow_sub_one_eq_mod, Nat.mod_eq_of_lt (by omega)] at h
  exact h
theorem and_expo {x : Int} (h0 : 0 ≤ x) (h1 : x < 2048) : Go.bits .and .i64 x 2047 = x := by
  obtain ⟨n, rfl⟩ := Int.eq_ofNat_of_zero_le h0
  have e1 : (BitVec.ofInt 64 (n : Int)).toNat = n := by
    rw [BitVec.ofInt_natCast, BitVec.toNat_ofNat]; exact Nat.mod_eq_of_lt (by omega)
  have e2 : (BitVec.ofInt 64 2047).toNat = 2047 := by decide
  have hand : n &&& 2047 = n := by
    rw [show (2047 : Nat) = 2 ^ 11 - 1 from rfl, Nat.and_two_pow_sub_one_eq_mod, Nat.mod_eq_of_lt (by omega)]
  show IntKind.i64.wrap ((BitVec.ofInt 64 (n : Int) &&& BitVec.ofInt 64 2047).toNat : Int) = _
  rw [BitVec.toNat_and, e1, e2, hand, IntKind.wrap_i64]
  omega
/-- a number's digits, without a zero ahead -/
def decL (n : Int) : List Int := if n < 10 then [n + 48] else if n < 100 then [n / 10 + 48, n % 10 + 48] else if n < 1000 then [n / 100 + 48, n / 10 % 10 + 48, n % 10 + 48] else [n / 1000 + 48, n / 100 % 10 + 48, n / 10 % 10 + 48, n % 10 + 48]
/-- the mantissa and the exponent that fmtX is given -/
def manB (b : Int) : Int := if b / 4503599627370496 = 0 then b % 4503599627370496 else b % 4503599627370496 + 4503599627370496
def expB (b : Int) : Int := if b / 4503599627370496 = 0 then -1022 else b / 4503599627370496 - 1023
def finL (m e : Int) : List Int := [48, 120, 49] ++ fracL ((nrm 52 (m * 256) e).1 * 16 % 18446744073709551616) ++ [112] ++ [if (nrm 52 (m * 256) e).2 < 0 then 45 else 43] ++ decL (if (nrm 52 (m * 256) e).2 < 0 then -(nrm 52 (m * 256) e).2 else (nrm 52 (m * 256) e).2)
/-- a float's text -/
def txtL (b : Int) : List Int := if b = 9221120237041090561 then [110, 97, 110] else if b = 9218868437227405312 then [105, 110, 102] else if b = 0 then [48, 120, 48, 112, 43, 48] else finL (manB b) (expB b)
theorem nrm_lo : ∀ (k : Nat) (m e : Int), e - k ≤ (nrm k m e).2 ∧ (nrm k m e).2 ≤ e
  | 0, m, e => by simp [nrm]
  | k + 1, m, e => by
    rw [nrm]
    split
    · have := nrm_lo k (m * 2) (e - 1)
      omega
    · dsimp only
      omega
theorem hexL_len : ∀ (k : Nat) (X : Int), (hexL k X).length ≤ k
  | 0, X => by simp [hexL]
  | k + 1, X => by
    rw [hexL]
    split
    · simp
    · have := hexL_len k (X * 16 % 18446744073709551616)
      simp; omega
theorem hexL_mem : ∀ (k : Nat) (X : Int), 0 ≤ X → X < 18446744073709551616 → ∀ c ∈ hexL k X, 48 ≤ c ∧ c ≤ 102
  | 0, X, _, _, c, h => by simp [hexL] at h
  | k + 1, X, h0, h1, c, h => by
    rw [hexL] at h
    split at h
    · simp at h
    · rcases List.mem_cons.1 h with rfl | h
      · unfold hexc; split <;> omega
      · exact hexL_mem k _ (by omega) (by omega) c h
theorem decL_len (n : Int) : (decL n).length ≤ 4 := by
  unfold decL; split
  · simp
  · split
    · simp
    · split <;> simp
theorem txtL_len (b : Int) : (txtL b).length ≤ 26 := by
  unfold txtL finL fracL
  have := decL_len (if (nrm 52 (manB b * 256) (expB b)).2 < 0 then -(nrm 52 (manB b * 256) (expB b)).2 else (nrm 52 (manB b * 256) (expB b)).2)
  have := hexL_len 16 ((nrm 52 (manB b * 256) (expB b)).1 * 16 % 18446744073709551616)
  split
  · simp
  · split
    · simp
    · split
      · simp
      · split <;> simp <;> omega
theorem idx_at : ∀ (l r : List UInt8), (∀ c ∈ l, c ≠ 112) → Lib.indexByte (l ++ 112 :: r) 112 = l.length
  | [], r, _ => by simp [Lib.indexByte]
  | c :: l, r, h => by
    have hc : (c == 112) = false := beq_eq_false_iff_ne.mpr (h c (by simp))
    have ih := idx_at l r fun d hd => h d (by simp [hd])
    rw [List.cons_append, Lib.indexByte, hc, ih]
    have : ((l.length : Int) == -1) = false := beq_eq_false_iff_ne.mpr (by omega)
    simp [this]
end Go.Proofs.YtbhgpegcdiohlaaGreatDoor.Tr

namespace Go.Proofs.YtbhgpegcdiohlaaGreatDoor.Tr
open Go Go.RowKit Go.Proofs
set_option linter.unusedVariables false
set_option maxRecDepth 100000
set_option maxHeartbeats 1000000
theorem infoU8 : (Tryz.prog.info? 5).map (fun i => (i.zero, i.size, i.bytes)) = some (some (.int .u8 0), 1, 1) := by kernel_rfl
/-- a few new values appended to a row of bytes of the call's own -/
theorem app_lit {ops : Array Oper} {rest : List Oper} {o : Oper} {a : Act} {Q : Exit → Act → World → Prop} {w : World} (hgd : o.guard = none) (s x : Operand)
    (ho : o.op = .call { callee := .builtin .append, args := #[s, x], argTypes := #[68, 68] }) (base n : Nat) (A : Option Addr) (c : Nat) (xs : List Value) (hs : a.eval s = .slice A n c)
    (hown : w.ownsRow base 5 1 (.slice A n c) n xs) (hb : base ≤ w.heap.size) (cs : Array Value) (t : TypeId) (m cc : Nat) (hx : a.eval x = .slice (some ⟨w.heap.size, 0, none⟩) m cc) (hm : cs.size = m) (hm0 : 0 < m)
    (h1 : ∀ u ∈ cs.toList, u.oneCell' = true) (hmax : n + m ≤ 1000000)
    (h : ∀ (A' : Option Addr) (c' N : Nat) (w' : World), N = n + m → w'.ownsRow base 5 1 (.slice A' N c') N (xs ++ cs.toList) → Below base w w' → wpList Tryz.prog ops Q rest (a.put o.dst (.slice A' N c')) w') :
    wpList Tryz.prog ops Q (o :: rest) a (w.alloc (.cells cs t (0, 0))) := by
  obtain ⟨i0, hi0, hz0, hz1, hz2⟩ := info_parts infoU8
  refine wpList_append_own _ hgd s x 68 ho base 5 i0 _ 1 1 Tryz.underlying68 hi0 hz0 hz1 hz2 rfl (by decide) _ n xs hs (own_below hown (up (up0 _) _)) ⟨w.heap.size, 0, none⟩ m cc cs.toList hx (by simp [hm]) (fun jj u hu => by rw [new_add]; rw [← Array.getElem?_toList]; exact hu) h1 (by unfold maxLen; omega) (by omega) (by simp; omega) ?_
  intro v' w' ho' hg _
  obtain ⟨A', N, c', rfl, e⟩ := own_slice ho' (by omega)
  subst e
  exact h A' c' _ w' rfl ho' (((Below.refl base w).alloc hb _).grown hg (by simp; omega) (fun k hk => (hown.lt k hk).1))
theorem le_step {N N' m L : Nat} (h : N ≤ L) (e : N' = N + m) : N' ≤ L + m := by omega
theorem lower120 (w : World) : Calls Tryz.prog 235 #[.int .u8 120] w (fun e w' => e = .returned (.int .u8 120) ∧ w' = w) := by
  go_enter Tryz.func235, Tryz.ntmps235
  go_wp2
  go_ret
  exact ⟨rfl, rfl⟩
end Go.Proofs.YtbhgpegcdiohlaaGreatDoor.Tr
