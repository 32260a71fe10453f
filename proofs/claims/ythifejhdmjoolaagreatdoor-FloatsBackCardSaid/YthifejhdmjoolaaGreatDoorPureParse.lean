/-
  The plain law of the texts: hexadecimal digits, decimals, fmtX, FormatFloat, floats.Text of every float in a closed form (txtL).
-/
import Derived.Test.YthifejhdmjoolaaGreatDoorQT1
import Derived.Test.YthifejhdmjoolaaGreatDoorPureBits
import Derived.Test.YthifejhdmjoolaaGreatDoorFloOps
import Derived.Test.YthifejhdmjoolaaGreatDoorQX2
import Derived.Test.YthifejhdmjoolaaGreatDoorQH2
import Derived.Test.YthifejhdmjoolaaGreatDoorGivP
namespace Go.Proofs.YthifejhdmjoolaaGreatDoor.Pure
open Go.RowKit Go.Proofs.YthifejhdmjoolaaGreatDoorW.PrintWords Go.Proofs.YthifejhdmjoolaaGreatDoorW.PrintLast Go.Proofs.YthifejhdmjoolaaGreatDoorW.PrintMore
open Go.Proofs.YthifejhdmjoolaaGreatDoorG Go.Flo
set_option linter.unusedVariables false
set_option linter.unusedSimpArgs false

theorem canon_t (a : Nat) (h : a < 18446744073709551616) : QT.floats_Canon.f (a : Int) = some ((canonN a : Nat) : Int) := by
  unfold QT.floats_Canon.f canonN
  rw [andNot_sign a h]
  by_cases c : 9218868437227405312 < a % 9223372036854775808
  · rw [if_pos (by omega), if_pos c]; rfl
  · rw [if_neg (by omega), if_neg c]

theorem canonN_lt {a : Nat} (h : a < 18446744073709551616) : canonN a < 18446744073709551616 := by unfold canonN; split <;> omega
theorem flip_lt {a : Nat} (h : a < 18446744073709551616) : flip a < 18446744073709551616 := by unfold flip; split <;> omega

abbrev HEX : ByteArray := ⟨#[48, 49, 50, 51, 52, 53, 54, 55, 56, 57, 97, 98, 99, 100, 101, 102]⟩
/-- a hexadecimal digit's byte -/
def dg (d : Nat) : Int := if d < 10 then 48 + d else 87 + d
/-- the digits of x from the top, as long as anything is left -/
def hx : Nat → Nat → List Int
  | 0, _ => []
  | n + 1, x => if x = 0 then [] else dg (x / 1152921504606846976) :: hx n (x * 16 % 18446744073709551616)

theorem bt_hex : ∀ d : Fin 16, bt HEX (d.val : Int) = dg d.val := by decide +kernel
theorem and_15 (a : Nat) (h : a < 16) : Go.bits .and .u64 (a : Int) 15 = (a : Int) := by
  have e := u64_and_nat a 15 (by omega) (by omega)
  rw [show ((15 : Nat) : Int) = 15 from rfl] at e
  rw [e, show 15 = 2 ^ 4 - 1 from rfl, Nat.and_two_pow_sub_one_eq_mod]
  congr 1
  omega

theorem hx_len : ∀ n x, (hx n x).length ≤ n
  | 0, _ => Nat.le_refl _
  | n + 1, x => by
    unfold hx
    split
    · simp
    · simp; exact hx_len n _

theorem l1_stop (k : Nat) (x0 : List Int) (e : Int) : QFx.strconv_fmtX.l1 (k + 1) x0 120 0 e HEX = QFx.strconv_fmtX.j10 k x0 120 e := by
  simp only [QFx.strconv_fmtX.l1, if_true]
theorem l1_step (k x : Nat) (x0 : List Int) (e : Int) (h0 : x ≠ 0) (hx0 : x < 18446744073709551616) (hl : x0.length < 140737488355328) :
    QFx.strconv_fmtX.l1 (k + 1) x0 120 (x : Int) e HEX = QFx.strconv_fmtX.l1 k (x0 ++ [dg (x / 1152921504606846976)]) 120 ((x * 16 % 18446744073709551616 : Nat) : Int) e HEX := by
  have hd : x / 1152921504606846976 < 16 := by omega
  simp only [QFx.strconv_fmtX.l1]
  have e1 : ((x : Int) / 1152921504606846976) = ((x / 1152921504606846976 : Nat) : Int) := by omega
  rw [if_neg (by omega), e1, and_15 _ hd, if_pos (by omega), if_pos (show ((x / 1152921504606846976 : Nat) : Int) < (HEX.size : Int) by show _ < (16 : Int); omega), if_pos (by omega)]
  rw [bt_hex ⟨x / 1152921504606846976, hd⟩, IntKind.wrap_u64, show (x : Int) * 16 % 18446744073709551616 = ((x * 16 % 18446744073709551616 : Nat) : Int) by omega]

theorem l1_x (e : Int) (r : List Int) (n : Nat) : ∀ (x : Nat) (x0 : List Int), x < 18446744073709551616 → x * 16 ^ n % 18446744073709551616 = 0 → x0.length + n < 140737488355328 →
    (∃ k, QFx.strconv_fmtX.j10 k (x0 ++ hx n x) 120 e = some r) → ∃ k, QFx.strconv_fmtX.l1 k x0 120 (x : Int) e HEX = some r := by
  induction n with
  | zero =>
    intro x x0 hx0 hz hl hk
    have hx1 : x = 0 := by rw [Nat.pow_zero, Nat.mul_one] at hz; omega
    subst hx1
    obtain ⟨k, hk⟩ := hk
    refine ⟨k + 1, (l1_stop k x0 e).trans ?_⟩
    rw [show hx 0 0 = [] from rfl, List.append_nil] at hk
    exact hk
  | succ n ih =>
    intro x x0 hx0 hz hl hk
    by_cases c : x = 0
    · subst c
      obtain ⟨k, hk⟩ := hk
      refine ⟨k + 1, (l1_stop k x0 e).trans ?_⟩
      rw [show hx (n + 1) 0 = [] from rfl, List.append_nil] at hk
      exact hk
    · have hh : hx (n + 1) x = dg (x / 1152921504606846976) :: hx n (x * 16 % 18446744073709551616) := by
        show (if x = 0 then [] else _) = _
        rw [if_neg c]
      rw [hh] at hk
      have hz2 : x * 16 % 18446744073709551616 * 16 ^ n % 18446744073709551616 = 0 := by
        rw [Nat.mod_mul_mod, Nat.mul_assoc, ← Nat.pow_succ']; exact hz
      obtain ⟨k, h2⟩ := ih (x * 16 % 18446744073709551616) (x0 ++ [dg (x / 1152921504606846976)]) (Nat.mod_lt _ (by omega)) hz2 (by simp; omega) (by rw [List.append_assoc]; exact hk)
      exact ⟨k + 1, (l1_step k x x0 e c hx0 (by omega)).trans h2⟩

theorem str_append (a b : List Int) : strOfNums (a ++ b) = strOfNums a ++ strOfNums b := by
  apply ByteArray.ext
  simp [strOfNums, ByteArray.data_append]
theorem str_nil (s : ByteArray) : s ++ strOfNums [] = s := by
  apply ByteArray.ext
  simp [strOfNums, ByteArray.data_append]
theorem str_cons (s : ByteArray) (a : Int) (b : List Int) : s ++ strOfNums (a :: b) = s ++ strOfNums [a] ++ strOfNums b := by
  rw [show a :: b = [a] ++ b from rfl, str_append]
  apply ByteArray.ext
  simp [ByteArray.data_append]
theorem hex_cut : ∀ d : Fin 16, HEX.extract d.val (d.val + 1) = strOfNums [dg d.val] := by decide +kernel

/-- decimals of a number below 10000, without leading zeros -/
def decs (n : Nat) : List Int := if n < 10 then [48 + n] else if n < 100 then [48 + n / 10, 48 + n % 10] else if n < 1000 then [48 + n / 100, 48 + n / 10 % 10, 48 + n % 10] else [48 + n / 1000, 48 + n / 100 % 10, 48 + n / 10 % 10, 48 + n % 10]

/-- decimals as fmtX writes them: two at least -/
def pad (n : Nat) : List Int := if n < 10 then [48, 48 + n] else decs n
def dd2 (x5 : Int) : List Int := [(((wrap64 (Int.tdiv x5 10)) % 256) + 48) % 256, (((Int.tmod x5 10) % 256) + 48) % 256]
def dd3 (x5 : Int) : List Int := [(((wrap64 (Int.tdiv x5 100)) % 256) + 48) % 256, (((Int.tmod (wrap64 (Int.tdiv x5 10)) 10) % 256) + 48) % 256, (((Int.tmod x5 10) % 256) + 48) % 256]
def dd4 (x5 : Int) : List Int := [(((wrap64 (Int.tdiv x5 1000)) % 256) + 48) % 256, (((wrap64 (Int.tdiv x5 100)) % 256) % 10) + 48, (((Int.tmod (wrap64 (Int.tdiv x5 10)) 10) % 256) + 48) % 256, (((Int.tmod x5 10) % 256) + 48) % 256]
def dd (x5 : Int) : List Int := if x5 < 100 then dd2 x5 else if x5 < 1000 then dd3 x5 else dd4 x5
theorem dd_pad : ∀ n : Fin 1200, dd (n.val : Int) = pad n.val := by decide +kernel

theorem j12_x (k n : Nat) (x0 : List Int) (c : Int) (hn : n < 1200) (hl : x0.length < 1000000) :
    QFx.strconv_fmtX.j12 (k + 1) x0 (n : Int) c = some (x0 ++ c :: pad n) := by
  have h := dd_pad ⟨n, hn⟩
  dsimp only at h
  rw [show x0 ++ c :: pad n = (x0 ++ [c]) ++ pad n by simp, ← h]
  simp only [QFx.strconv_fmtX.j12]
  rw [if_pos (by omega), Option.bind_some, Option.bind_some, Option.bind_some, Option.bind_some]
  unfold dd
  by_cases c1 : (n : Int) < 100
  · rw [if_pos c1, if_pos c1, if_pos (by simp; omega)]; rfl
  · rw [if_neg c1, if_neg c1]
    by_cases c2 : (n : Int) < 1000
    · rw [if_pos c2, if_pos c2, if_pos (by simp; omega)]; rfl
    · rw [if_neg c2, if_neg c2, if_pos (by simp; omega)]; rfl

/-- p, the sign, the decimals -/
def expo (e : Int) : List Int := 112 :: (if e < 0 then 45 else 43) :: pad e.natAbs

theorem j10_x (k : Nat) (x0 : List Int) (e : Int) (h0 : -1200 < e) (h1 : e < 1200) (hl : x0.length < 900000) :
    QFx.strconv_fmtX.j10 (k + 3) x0 120 e = some (x0 ++ expo e) := by
  have hlow : QFx.strconv_lower.f 120 = some 120 := by decide +kernel
  have j11 : QFx.strconv_fmtX.j11 (k + 2) x0 e 112 = some (x0 ++ expo e) := by
    simp only [QFx.strconv_fmtX.j11]
    rw [if_pos (by omega), Option.bind_some]
    unfold expo
    by_cases c : e < 0
    · rw [if_pos c, if_pos c, show wrap64 (-e) = ((e.natAbs : Nat) : Int) by unfold wrap64; omega, j12_x k _ _ _ (by omega) (by simp; omega)]
      simp
    · have j := j12_x k e.natAbs (x0 ++ [112]) 43 (by omega) (by simp; omega)
      rw [show ((e.natAbs : Nat) : Int) = e by omega] at j
      rw [if_neg c, if_neg c, j]
      simp
  simp only [QFx.strconv_fmtX.j10]
  rw [hlow, Option.bind_some, if_pos rfl]
  exact j11

theorem and_60 (a : Nat) (h : a < 2305843009213693952) : Go.bits .and .u64 (a : Int) 1152921504606846976 = ((a / 1152921504606846976 * 1152921504606846976 : Nat) : Int) := by
  have e := u64_and_nat a 1152921504606846976 (by omega) (by omega)
  rw [show ((1152921504606846976 : Nat) : Int) = 1152921504606846976 from rfl] at e
  rw [e]
  have h1 : (a &&& 2 ^ 60) / 2 ^ 60 = a / 2 ^ 60 := by
    rw [Nat.and_div_two_pow, show 2 ^ 60 / 2 ^ 60 = 2 ^ 1 - 1 from rfl, Nat.and_two_pow_sub_one_eq_mod]; omega
  have h2 : (a &&& 2 ^ 60) % 2 ^ 60 = 0 := by
    rw [Nat.and_mod_two_pow, show 2 ^ 60 % 2 ^ 60 = 0 from rfl, Nat.and_zero]
  rw [show (2 : Nat) ^ 60 = 1152921504606846976 from rfl] at h1 h2
  congr 1
  omega
theorem and_one (a : Nat) (h : a < 18446744073709551616) : Go.bits .and .u64 (a : Int) 1 = ((a % 2 : Nat) : Int) := by
  have e := u64_and_nat a 1 h (by omega)
  rw [show ((1 : Nat) : Int) = 1 from rfl] at e
  rw [e, Nat.and_one_is_mod]

/-- what stands behind the sign: 0x1, the digits, the exponent; M: the mantissa with its leading one at place 60 -/
def body (M : Nat) (e : Int) : List Int := [48, 120, 49] ++ (if M * 16 % 18446744073709551616 = 0 then [] else 46 :: hx 16 (M * 16 % 18446744073709551616)) ++ expo e
def sgn (s : Bool) : List Int := if s then [45] else []

theorem pow16 (x : Nat) : x * 16 ^ 16 % 18446744073709551616 = 0 := by
  rw [show (16 : Nat) ^ 16 = 18446744073709551616 from rfl, Nat.mul_mod_left]

theorem j7_x (M : Nat) (e : Int) (x0 : List Int) (hl : x0.length < 800000) (h0 : -1200 < e) (h1 : e < 1200) :
    ∃ k, QFx.strconv_fmtX.j7 k x0 (-1) 120 ((M * 16 % 18446744073709551616 : Nat) : Int) e HEX (((M * 16 % 18446744073709551616 : Nat) : Int) != 0) =
      some (x0 ++ (if M * 16 % 18446744073709551616 = 0 then [] else 46 :: hx 16 (M * 16 % 18446744073709551616)) ++ expo e) := by
  have hx0 : M * 16 % 18446744073709551616 < 18446744073709551616 := Nat.mod_lt _ (by omega)
  generalize M * 16 % 18446744073709551616 = x at hx0 ⊢
  by_cases c : x = 0
  · subst c
    refine ⟨4, ?_⟩
    simp only [QFx.strconv_fmtX.j7]
    rw [if_neg (by decide), if_neg (by omega), j10_x 0 x0 e h0 h1 (by omega)]
    simp
  · rw [if_neg c]
    have l := hx_len 16 x
    obtain ⟨k, hk⟩ := l1_x e (x0 ++ [46] ++ hx 16 x ++ expo e) 16 x (x0 ++ [46]) hx0 (pow16 x) (by simp; omega) ⟨3, j10_x 0 _ e h0 h1 (by simp; omega)⟩
    refine ⟨k + 1, ?_⟩
    simp only [QFx.strconv_fmtX.j7]
    rw [if_pos (by rw [bne_iff_ne]; omega), if_pos (by omega), hk]
    simp

theorem j6_x (M : Nat) (e : Int) (x0 : List Int) (hl : x0.length < 700000) (h0 : -1200 < e) (h1 : e < 1200) (hM : 1152921504606846976 ≤ M) (hM2 : M < 2305843009213693952) :
    ∃ k, QFx.strconv_fmtX.j6 k x0 (-1) 120 (M : Int) e HEX = some (x0 ++ body M e) := by
  obtain ⟨k, hk⟩ := j7_x M e (x0 ++ [48, 120, 49]) (by simp; omega) h0 h1
  refine ⟨k + 1, ?_⟩
  simp only [QFx.strconv_fmtX.j6]
  have e1 : ((M : Int) / 1152921504606846976) = ((1 : Nat) : Int) := by omega
  rw [e1, and_one 1 (by omega), Option.bind_some]
  have e2 : (48 + ((1 % 2 : Nat) : Int) % 256) % 256 = 49 := by decide
  rw [e2, if_pos (by simp; omega), Option.bind_some, if_pos (by omega), IntKind.wrap_u64, show (M : Int) * 16 % 18446744073709551616 = ((M * 16 % 18446744073709551616 : Nat) : Int) by omega, hk]
  unfold body
  simp

theorem j5_x (M : Nat) (e : Int) (s : Bool) (h0 : -1200 < e) (h1 : e < 1200) (hM : 1152921504606846976 ≤ M) (hM2 : M < 2305843009213693952) :
    ∃ k, QFx.strconv_fmtX.j5 k [] (-1) 120 s (M : Int) e HEX = some (sgn s ++ body M e) := by
  cases s
  · obtain ⟨k, hk⟩ := j6_x M e [] (by simp) h0 h1 hM hM2
    refine ⟨k + 1, ?_⟩
    simp only [QFx.strconv_fmtX.j5]
    rw [if_neg (by simp), hk]
    rfl
  · obtain ⟨k, hk⟩ := j6_x M e [45] (by simp) h0 h1 hM hM2
    refine ⟨k + 1, ?_⟩
    simp only [QFx.strconv_fmtX.j5]
    rw [if_pos trivial, if_pos (by simp), show ([] : List Int) ++ [45] = [45] from rfl, hk]
    rfl

theorem j2_x (M : Nat) (e : Int) (s : Bool) (h0 : -1200 < e) (h1 : e < 1200) (hM : 1152921504606846976 ≤ M) (hM2 : M < 2305843009213693952) :
    ∃ k, QFx.strconv_fmtX.j2 k [] (-1) 120 s (M : Int) e = some (sgn s ++ body M e) := by
  obtain ⟨k, hk⟩ := j5_x M e s h0 h1 hM hM2
  refine ⟨k + 3, ?_⟩
  simp only [QFx.strconv_fmtX.j2]
  rw [if_neg (by omega)]
  simp only [QFx.strconv_fmtX.j3]
  rw [if_neg (by simp)]
  simp only [QFx.strconv_fmtX.j4]
  rw [if_neg (by omega)]
  exact hk

theorem l0_stop_x (k M : Nat) (e : Int) (s : Bool) (hM : 1152921504606846976 ≤ M) (hM2 : M < 2305843009213693952) :
    QFx.strconv_fmtX.l0 (k + 1) [] (-1) 120 s (M : Int) e = QFx.strconv_fmtX.j2 k [] (-1) 120 s (M : Int) e := by
  simp only [QFx.strconv_fmtX.l0]
  rw [if_neg (by omega), and_60 M hM2, if_neg (by omega)]
theorem l0_step_x (k M : Nat) (e : Int) (s : Bool) (h0 : M ≠ 0) (hM : M < 1152921504606846976) (he : -2000 < e) (he2 : e < 2000) :
    QFx.strconv_fmtX.l0 (k + 1) [] (-1) 120 s (M : Int) e = QFx.strconv_fmtX.l0 k [] (-1) 120 s ((M * 2 : Nat) : Int) (e - 1) := by
  simp only [QFx.strconv_fmtX.l0]
  rw [if_neg (by omega), and_60 M (by omega), if_pos (by omega), IntKind.wrap_u64, show wrap64 (e - 1) = e - 1 by unfold wrap64; omega, show (M : Int) * 2 % 18446744073709551616 = ((M * 2 : Nat) : Int) by omega]

theorem l0_x (s : Bool) (e : Int) (j : Nat) : ∀ (M : Nat), 1152921504606846976 ≤ M * 2 ^ j → M * 2 ^ j < 2305843009213693952 → -1150 < e - j → e < 1150 →
    ∃ k, QFx.strconv_fmtX.l0 k [] (-1) 120 s (M : Int) e = some (sgn s ++ body (M * 2 ^ j) (e - j)) := by
  induction j generalizing e with
  | zero =>
    intro M h1 h2 h3 h4
    rw [Nat.pow_zero, Nat.mul_one] at h1 h2 ⊢
    obtain ⟨k, hk⟩ := j2_x M e s (by omega) (by omega) h1 h2
    refine ⟨k + 1, (l0_stop_x k M e s h1 h2).trans ?_⟩
    rw [hk, show e - ((0 : Nat) : Int) = e by omega]
  | succ j ih =>
    intro M h1 h2 h3 h4
    have hp : 0 < 2 ^ j := Nat.two_pow_pos j
    have e1 : M * 2 ^ (j + 1) = M * 2 * 2 ^ j := by rw [Nat.pow_succ', Nat.mul_assoc]
    rw [e1] at h1 h2 ⊢
    have hM0 : M ≠ 0 := by intro z; rw [z] at h1; simp at h1
    have hlt : M * 2 < 2305843009213693952 := by
      have : M * 2 * 1 ≤ M * 2 * 2 ^ j := Nat.mul_le_mul_left _ hp
      generalize M * 2 * 2 ^ j = Z at this h2
      omega
    obtain ⟨k, hk⟩ := ih (e - 1) (M * 2) h1 h2 (by omega) (by omega)
    refine ⟨k + 1, (l0_step_x k M e s hM0 (by omega) (by omega) (by omega)).trans ?_⟩
    rw [hk, show e - 1 - (j : Int) = e - ((j + 1 : Nat) : Int) by omega]

/-- the shift that brings n to 53 bits -/
def shf (n : Nat) : Nat := 52 - n.log2
theorem shf_is (n : Nat) (h0 : n ≠ 0) (h1 : n < 9007199254740992) : shf n ≤ 52 ∧ 4503599627370496 ≤ n * 2 ^ shf n ∧ n * 2 ^ shf n < 9007199254740992 := by
  unfold shf
  have l1 := Nat.log2_self_le h0
  have l2 := Nat.lt_log2_self (n := n)
  have l3 : n.log2 ≤ 52 := by
    rcases Nat.lt_or_ge 52 n.log2 with c | c
    · have : 2 ^ 53 ≤ 2 ^ n.log2 := Nat.pow_le_pow_right (by omega) c
      omega
    · exact c
  refine ⟨by omega, ?_, ?_⟩
  · have : 2 ^ n.log2 * 2 ^ (52 - n.log2) ≤ n * 2 ^ (52 - n.log2) := Nat.mul_le_mul_right _ l1
    rw [← Nat.pow_add, show n.log2 + (52 - n.log2) = 52 by omega] at this
    exact this
  · have : n * 2 ^ (52 - n.log2) < 2 ^ (n.log2 + 1) * 2 ^ (52 - n.log2) := Nat.mul_lt_mul_of_pos_right l2 (Nat.two_pow_pos _)
    rw [← Nat.pow_add, show n.log2 + 1 + (52 - n.log2) = 53 by omega] at this
    exact this

theorem fmtX_num (s : Bool) (n j : Nat) (E : Int) (h0 : n ≠ 0) (hn : n < 9007199254740992) (h1 : 4503599627370496 ≤ n * 2 ^ j) (h2 : n * 2 ^ j < 9007199254740992) (hj : j ≤ 52) (e0 : -1030 < E) (e1 : E < 1030) :
    ∃ k, QFx.strconv_fmtX.f k [] (-1) 120 s (n : Int) E 52 = some (sgn s ++ body (n * 256 * 2 ^ j) (E - j)) := by
  have hm : n * 256 * 2 ^ j = n * 2 ^ j * 256 := by rw [Nat.mul_assoc, Nat.mul_comm 256, ← Nat.mul_assoc]
  obtain ⟨k, hk⟩ := l0_x s E j (n * 256) (by rw [hm]; omega) (by rw [hm]; omega) (by omega) (by omega)
  refine ⟨k + 1, ?_⟩
  unfold QFx.strconv_fmtX.f
  rw [if_neg (by omega)]
  simp only [QFx.strconv_fmtX.j0]
  have w8 : wrap64 (60 - 52) = 8 := by unfold wrap64; omega
  have s8 : shl .u64 (n : Int) 8 = ((n * 256 : Nat) : Int) := by
    unfold shl
    rw [IntKind.wrap_u64, show (2 : Int) ^ min (8 : Int).toNat (IntKind.bits .u64) = 256 from rfl]
    omega
  rw [w8, if_pos (by omega), s8]
  exact hk

def zeroT : List Int := [48, 120, 48, 112, 43, 48, 48]
theorem fmtX_zero (s : Bool) (E : Int) : ∃ k, QFx.strconv_fmtX.f k [] (-1) 120 s 0 E 52 = some (sgn s ++ zeroT) := by
  refine ⟨20, ?_⟩
  unfold QFx.strconv_fmtX.f
  rw [if_pos rfl]
  cases s <;> decide +kernel

theorem i64_and2047 (n : Int) : Go.bits .and .i64 n 2047 = n % 2048 := by
  have h127 : (BitVec.ofInt 64 2047).toNat = 2 ^ 11 - 1 := by decide
  have key : (BitVec.ofInt 64 n &&& BitVec.ofInt 64 2047).toNat = (n % ((2 ^ 64 : Nat) : Int)).toNat % 2 ^ 11 := by
    rw [BitVec.toNat_and, BitVec.toNat_ofInt, h127, Nat.and_two_pow_sub_one_eq_mod]
  show IntKind.i64.wrap ((BitVec.ofInt 64 n &&& BitVec.ofInt 64 2047).toNat : Nat) = n % 2048
  rw [key, IntKind.wrap_i64]
  omega

theorem top_ne (a : Nat) (h : a < 18446744073709551616) : (((a : Int) / 9223372036854775808) != 0) = isNeg a := by
  unfold isNeg
  by_cases c : a < 9223372036854775808
  · rw [show a / 9223372036854775808 = 0 by omega, show (a : Int) / 9223372036854775808 = 0 by omega]; rfl
  · rw [show a / 9223372036854775808 = 1 by omega, show (a : Int) / 9223372036854775808 = 1 by omega]; rfl

theorem ftoa_x (a : Nat) (ha : a < 18446744073709551616) (hf : rung a < 9218868437227405312) (R : List Int)
    (h : ∃ k, QFx.strconv_fmtX.f k [] (-1) 120 (isNeg a) (sg (rung a) : Nat) (((up (rung a) : Nat) : Int) - 1022) 52 = some R) :
    ∃ k, QFx.strconv_ftoa64.f k [] a 120 (-1) = some R := by
  obtain ⟨k, hk⟩ := h
  refine ⟨k + 2, ?_⟩
  unfold QFx.strconv_ftoa64.f
  have e : Go.bits .and .i64 (wrap64 ((a : Int) / 4503599627370496)) 2047 = ((a / 4503599627370496 % 2048 : Nat) : Int) := by
    rw [show wrap64 ((a : Int) / 4503599627370496) = (a : Int) / 4503599627370496 by unfold wrap64; omega, i64_and2047]; omega
  have r1 : rung a = a % 9223372036854775808 := rfl
  rw [e, if_neg (by omega), top_ne a ha, and_frac a ha]
  have fin : ∀ (x14 x15 : Int), x14 = ((up (rung a) : Nat) : Int) + 1 → x15 = ((sg (rung a) : Nat) : Int) → QFx.strconv_ftoa64.j0 (k + 2) [] 120 (-1) 52 (-1023) (isNeg a) x14 x15 = some R := by
    intro x14 x15 h14 h15
    subst h14; subst h15
    have hu : up (rung a) < 3000 := by unfold Flo.up; omega
    simp only [QFx.strconv_ftoa64.j0]
    rw [if_neg (by omega), if_pos trivial]
    simp only [QFx.strconv_ftoa64.j1]
    rw [if_pos trivial, show wrap64 (((up (rung a) : Nat) : Int) + 1 + -1023) = ((up (rung a) : Nat) : Int) - 1022 by unfold wrap64; omega, hk]
    rfl
  by_cases c : a / 4503599627370496 % 2048 = 0
  · rw [if_pos (by omega)]
    refine fin _ _ ?_ ?_
    · rw [c]
      have hu : up (rung a) = 0 := by unfold Flo.up; omega
      rw [hu]
      unfold wrap64
      omega
    · have hs : sg (rung a) = a % 4503599627370496 := by unfold sg; rw [if_pos (by omega)]; omega
      rw [hs]
  · rw [if_neg (by omega)]
    refine fin _ _ ?_ ?_
    · unfold Flo.up; omega
    · rw [or_hidden _ (by omega)]
      have hs : sg (rung a) = a % 4503599627370496 + 4503599627370496 := by unfold sg; rw [if_neg (by omega)]; omega
      rw [hs]

theorem sg_lt (r : Nat) : sg r < 9007199254740992 := by unfold sg; split <;> omega
theorem sg_ne (r : Nat) (h : r ≠ 0) : sg r ≠ 0 := by unfold sg; split <;> omega

/-- what stands ahead of the p -/
def ahead (M : Nat) : List Int := [48, 120, 49] ++ (if M * 16 % 18446744073709551616 = 0 then [] else 46 :: hx 16 (M * 16 % 18446744073709551616))
theorem body_is (M : Nat) (e : Int) : body M e = ahead M ++ expo e := rfl

/-- a finite float's mantissa and exponent, as its text has them -/
def manT (r : Nat) : Nat := sg r * 2 ^ shf (sg r)
def expT (r : Nat) : Int := ((up r : Nat) : Int) - 1022 - ((shf (sg r) : Nat) : Int)
theorem expT_bd (r : Nat) (h0 : r ≠ 0) (hf : r < 9218868437227405312) : -1080 < expT r ∧ expT r < 1030 := by
  have := shf_is (sg r) (sg_ne r h0) (sg_lt r)
  have hu : up r < 2047 := by unfold Flo.up; omega
  unfold expT
  omega

theorem format_x (a : Nat) (ha : a < 18446744073709551616) (h0 : rung a ≠ 0) (hf : rung a < 9218868437227405312) :
    ∃ k, strconv_FormatFloat.f k a 120 (-1) 64 = some (strOfNums (sgn (isNeg a) ++ (ahead (manT (rung a) * 256) ++ expo (expT (rung a))))) := by
  obtain ⟨j1, j2, j3⟩ := shf_is (sg (rung a)) (sg_ne _ h0) (sg_lt _)
  have hu : up (rung a) < 2047 := by unfold Flo.up; omega
  have hk := fmtX_num (isNeg a) (sg (rung a)) (shf (sg (rung a))) (((up (rung a) : Nat) : Int) - 1022) (sg_ne _ h0) (sg_lt _) j2 j3 j1 (by omega) (by omega)
  obtain ⟨k, hk⟩ := ftoa_x a ha hf _ hk
  refine ⟨k, ?_⟩
  unfold strconv_FormatFloat.f
  rw [if_pos ⟨rfl, rfl⟩, hk, Option.map_some, body_is, show sg (rung a) * 256 * 2 ^ shf (sg (rung a)) = manT (rung a) * 256 by unfold manT; rw [Nat.mul_assoc, Nat.mul_comm 256, ← Nat.mul_assoc]]
  rfl

theorem format_zero (a : Nat) (ha : a < 18446744073709551616) (h0 : rung a = 0) :
    ∃ k, strconv_FormatFloat.f k a 120 (-1) 64 = some (strOfNums (sgn (isNeg a) ++ zeroT)) := by
  have hk := fmtX_zero (isNeg a) (((up (rung a) : Nat) : Int) - 1022)
  have hs : ((sg (rung a) : Nat) : Int) = 0 := by rw [h0]; rfl
  rw [← hs] at hk
  obtain ⟨k, hk⟩ := ftoa_x a ha (by omega) _ hk
  refine ⟨k, ?_⟩
  unfold strconv_FormatFloat.f
  rw [if_pos ⟨rfl, rfl⟩, hk, Option.map_some]

theorem str_cut (xs : List Int) (a b : Nat) : (strOfNums xs).extract a b = strOfNums ((xs.take b).drop a) := by
  apply ByteArray.ext
  rw [ByteArray.data_extract]
  simp [strOfNums, List.drop_take]
theorem bt_str (xs : List Int) (i : Nat) (h : i < xs.length) (h0 : 0 ≤ xs[i]) (h1 : xs[i] < 256) : bt (strOfNums xs) (i : Int) = xs[i] := by
  unfold bt
  rw [dif_pos (by rw [strOfNums_size]; simpa using h)]
  have e : ((strOfNums xs)[((i : Nat) : Int).toNat]'(by rw [strOfNums_size]; simpa using h)) = UInt8.ofNat xs[i].toNat := by
    show (strOfNums xs).data[((i : Nat) : Int).toNat]'_ = _
    simp [strOfNums]
  rw [e, UInt8.toNat_ofNat']
  omega

def bytes8 (xs : List Int) : List UInt8 := xs.map fun n => UInt8.ofNat n.toNat
theorem str_list (xs : List Int) : (strOfNums xs).data.toList = bytes8 xs := by simp [strOfNums, bytes8]
theorem index_x (c : UInt8) : ∀ (l m : List UInt8), (∀ x ∈ l, x ≠ c) → Lib.indexByte (l ++ c :: m) c = (l.length : Int)
  | [], m, _ => by simp [Lib.indexByte]
  | x :: l, m, h => by
    have ih := index_x c l m (fun y hy => h y (List.mem_cons_of_mem _ hy))
    have hx : (x == c) = false := by simpa using h x (List.mem_cons_self ..)
    simp only [List.cons_append, Lib.indexByte, hx, Bool.false_eq_true, if_false, ih]
    rw [if_neg (by simp)]
    simp

theorem hx_dg : ∀ (n x : Nat), x < 18446744073709551616 → ∀ y ∈ hx n x, ∃ d : Nat, d < 16 ∧ y = dg d
  | 0, x, _ => fun y hy => by cases hy
  | n + 1, x, h => fun y hy => by
    unfold hx at hy
    split at hy
    · cases hy
    · rcases List.mem_cons.1 hy with rfl | hy
      · exact ⟨_, by omega, rfl⟩
      · exact hx_dg n _ (Nat.mod_lt _ (by omega)) y hy
theorem dg_ok (d : Nat) (h : d < 16) : 48 ≤ dg d ∧ dg d < 103 ∧ dg d ≠ 112 := by unfold dg; split <;> omega

/-- every byte ahead of the p is one, and none is a p -/
theorem ahead_ok (M : Nat) : ∀ y ∈ ahead M, 0 ≤ y ∧ y < 256 ∧ y ≠ 112 := by
  unfold ahead
  intro y hy
  rcases List.mem_append.1 hy with hy | hy
  · simp only [List.mem_cons, List.not_mem_nil, or_false] at hy
    rcases hy with rfl | rfl | rfl <;> omega
  · split at hy
    · cases hy
    · rcases List.mem_cons.1 hy with rfl | hy
      · omega
      · obtain ⟨d, hd, rfl⟩ := hx_dg _ _ (Nat.mod_lt _ (by omega)) y hy
        have := dg_ok d hd
        omega
theorem sgn_ok (s : Bool) : ∀ y ∈ sgn s, 0 ≤ y ∧ y < 256 ∧ y ≠ 112 := by
  unfold sgn
  intro y hy
  split at hy
  · simp only [List.mem_cons, List.not_mem_nil, or_false] at hy; omega
  · cases hy
theorem ahead_len (M : Nat) : (ahead M).length ≤ 20 := by
  unfold ahead
  have := hx_len 16 (M * 16 % 18446744073709551616)
  split <;> simp <;> omega
theorem sgn_len (s : Bool) : (sgn s).length ≤ 1 := by unfold sgn; split <;> simp

theorem ofNat_ne (y : Int) (h0 : 0 ≤ y) (h1 : y < 256) (h : y ≠ 112) : UInt8.ofNat y.toNat ≠ 112 := by
  intro e
  have := congrArg UInt8.toNat e
  rw [UInt8.toNat_ofNat'] at this
  have e2 : (112 : UInt8).toNat = 112 := rfl
  rw [e2] at this
  omega

theorem index_p (p q : List Int) (h : ∀ y ∈ p, 0 ≤ y ∧ y < 256 ∧ y ≠ 112) : strings_IndexByte.f (strOfNums (p ++ 112 :: q)) 112 = some (p.length : Int) := by
  unfold strings_IndexByte.f
  rw [str_list]
  have e : bytes8 (p ++ 112 :: q) = bytes8 p ++ 112 :: bytes8 q := by simp [bytes8]
  rw [e, show (112 : Int).toNat.toUInt8 = 112 from rfl, index_x]
  · simp [bytes8]
  · intro x hx
    obtain ⟨y, hy, rfl⟩ := List.mem_map.1 hx
    obtain ⟨a, b, c⟩ := h y hy
    exact ofNat_ne y a b c

theorem cut_stop (k : Nat) (p : List Int) (d : Int) (ds : List Int) (h0 : 48 < d) (h1 : d < 58) (hp : p.length < 1000) :
    QT.floats_Text.l0 (k + 1) (strOfNums (p ++ d :: ds)) (p.length : Int) = some (strOfNums (p ++ d :: ds)) := by
  simp only [QT.floats_Text.l0]
  rw [show wrap64 ((p.length : Int) + 1) = (p.length : Int) + 1 by unfold wrap64; omega]
  have b := bt_str (p ++ d :: ds) p.length (by simp) (by simp; omega) (by simp; omega)
  by_cases c : (p.length : Int) + 1 < ((strOfNums (p ++ d :: ds)).size : Int)
  · rw [if_pos c, if_pos (by omega), if_pos (by omega), if_neg (by rw [b]; simp; omega)]
  · rw [if_neg c]
theorem cut_end (k : Nat) (p : List Int) (d : Int) (hp : p.length < 1000) :
    QT.floats_Text.l0 (k + 1) (strOfNums (p ++ [d])) (p.length : Int) = some (strOfNums (p ++ [d])) := by
  simp only [QT.floats_Text.l0]
  rw [show wrap64 ((p.length : Int) + 1) = (p.length : Int) + 1 by unfold wrap64; omega, if_neg (by rw [strOfNums_size]; simp)]
theorem cut_step (k : Nat) (p : List Int) (d : Int) (hp : p.length < 1000) :
    QT.floats_Text.l0 (k + 1) (strOfNums (p ++ [48, d])) (p.length : Int) = QT.floats_Text.l0 k (strOfNums (p ++ [d])) (p.length : Int) := by
  simp only [QT.floats_Text.l0]
  have b := bt_str (p ++ [48, d]) p.length (by simp) (by simp) (by simp)
  have e1 : ((p ++ [48, d]).take p.length).drop 0 = p := by simp
  have e2 : ((p ++ [48, d]).take (p ++ [48, d]).length).drop (p.length + 1) = [d] := by
    rw [List.take_length, List.drop_append, List.drop_of_length_le (by omega), show p.length + 1 - p.length = 1 by omega]
    rfl
  rw [show wrap64 ((p.length : Int) + 1) = (p.length : Int) + 1 by unfold wrap64; omega, if_pos (by rw [strOfNums_size]; simp), if_pos (by omega), if_pos (by rw [strOfNums_size]; simp; omega), if_pos (by rw [b]; simp),
    if_pos (by rw [strOfNums_size]; simp; omega), if_pos (by omega), if_pos (by rw [strOfNums_size]; simp),
    show (p.length : Int).toNat = p.length by omega, show ((p.length : Int) + 1).toNat = p.length + 1 by omega, strOfNums_size, str_cut, str_cut, e1, e2, if_pos (by rw [strOfNums_size, strOfNums_size]; simp; omega), ← str_append]

theorem cut_x (p : List Int) (m : Nat) (hm : m < 1200) (hp : p.length < 1000) : ∃ k, QT.floats_Text.l0 k (strOfNums (p ++ pad m)) (p.length : Int) = some (strOfNums (p ++ decs m)) := by
  refine ⟨2, ?_⟩
  unfold pad
  by_cases c : m < 10
  · rw [if_pos c, cut_step 1 p _ hp, cut_end 0 p _ hp]
    unfold decs
    rw [if_pos c]
  · rw [if_neg c]
    unfold decs
    rw [if_neg c]
    by_cases c2 : m < 100
    · rw [if_pos c2]; exact cut_stop 1 p _ _ (by omega) (by omega) hp
    · rw [if_neg c2]
      by_cases c3 : m < 1000
      · rw [if_pos c3]; exact cut_stop 1 p _ _ (by omega) (by omega) hp
      · rw [if_neg c3]; exact cut_stop 1 p _ _ (by omega) (by omega) hp

/-- p, the sign, the decimals, as the document writes them -/
def expd (e : Int) : List Int := 112 :: (if e < 0 then 45 else 43) :: decs e.natAbs
/-- the text of a float, in a closed form -/
def txtL (a : Nat) : List Int :=
  if 9218868437227405312 < rung a then [110, 97, 110]
  else if rung a = 9218868437227405312 then sgn (isNeg a) ++ [105, 110, 102]
  else if rung a = 0 then sgn (isNeg a) ++ [48, 120, 48, 112, 43, 48]
  else sgn (isNeg a) ++ (ahead (manT (rung a) * 256) ++ expd (expT (rung a)))

theorem num_core (p : List Int) (e : Int) (s : ByteArray) (hs : s = strOfNums (p ++ expo e)) (h0 : -1200 < e) (h1 : e < 1200) (hp : p.length < 100) (h : ∀ y ∈ p, 0 ≤ y ∧ y < 256 ∧ y ≠ 112) :
    ∃ k, ((strings_IndexByte.f s 112).bind fun t108 => QT.floats_Text.l0 k s (wrap64 (t108 + 2))) = some (strOfNums (p ++ expd e)) := by
  subst hs
  unfold expo expd
  obtain ⟨k, hk⟩ := cut_x (p ++ [112, if e < 0 then 45 else 43]) e.natAbs (by omega) (by simp; omega)
  refine ⟨k, ?_⟩
  rw [index_p p _ h, Option.bind_some, show wrap64 ((p.length : Int) + 2) = (((p ++ [112, if e < 0 then 45 else 43]).length : Nat) : Int) by unfold wrap64; simp; omega]
  simpa using hk

theorem text_x (a : Nat) (ha : a < 18446744073709551616) : ∃ k, QT.floats_Text.f k (a : Int) = some (strOfNums (txtL a)) := by
  have r1 : rung a = a % 9223372036854775808 := rfl
  unfold txtL
  by_cases c1 : 9218868437227405312 < rung a
  · refine ⟨0, ?_⟩
    unfold QT.floats_Text.f
    rw [canon_t a ha, Option.bind_some, if_pos c1, show canonN a = 9221120237041090561 from if_pos c1, if_pos (by omega)]
    decide +kernel
  rw [if_neg c1]
  have hc : canonN a = a := if_neg c1
  by_cases c2 : rung a = 9218868437227405312
  · refine ⟨0, ?_⟩
    unfold QT.floats_Text.f
    rw [canon_t a ha, Option.bind_some, if_pos c2, hc, if_neg (by omega)]
    by_cases c3 : a = 9218868437227405312
    · rw [if_pos (by omega), c3]; decide +kernel
    · rw [if_neg (by omega), if_pos (by omega), show a = 18442240474082181120 by omega]; decide +kernel
  rw [if_neg c2]
  have pre : ∀ k, QT.floats_Text.f k (a : Int) = (strconv_FormatFloat.f k a 120 (-1) 64).bind fun t107 => ((strings_IndexByte.f t107 112).bind fun t108 => (QT.floats_Text.l0 k t107 (wrap64 (t108 + 2)))) := by
    intro k
    unfold QT.floats_Text.f
    rw [canon_t a ha, Option.bind_some, hc, if_neg (by omega), if_neg (by omega), if_neg (by omega)]
    unfold floats_to.f
    rw [Option.bind_some, Int.toNat_natCast]
  have join : ∀ s R, (∃ k, strconv_FormatFloat.f k a 120 (-1) 64 = some s) → (∃ k, ((strings_IndexByte.f s 112).bind fun t108 => QT.floats_Text.l0 k s (wrap64 (t108 + 2))) = some R) → ∃ k, QT.floats_Text.f k (a : Int) = some R := by
    intro s R h1 h2
    obtain ⟨k, e1, e2⟩ := together (g := fun k => strconv_FormatFloat.f k a 120 (-1) 64) (f := fun k => (strings_IndexByte.f s 112).bind fun t108 => QT.floats_Text.l0 k s (wrap64 (t108 + 2))) (fun k => strconv_FormatFloat.mono _ _ _ _ k) (fun k => LeO.bind (LeO.refl _) (fun x => QT.floats_Text.mono_l k _ _)) h1 h2
    exact ⟨k, by rw [pre, e1, Option.bind_some]; exact e2⟩
  by_cases c3 : rung a = 0
  · rw [if_pos c3]
    refine join _ _ (format_zero a ha c3) ?_
    have := num_core (sgn (isNeg a) ++ [48, 120, 48]) 0 (strOfNums (sgn (isNeg a) ++ zeroT)) (by unfold zeroT expo pad; simp) (by omega) (by omega) (by have := sgn_len (isNeg a); simp; omega) (by
      intro y hy
      rcases List.mem_append.1 hy with hy | hy
      · exact sgn_ok _ y hy
      · simp only [List.mem_cons, List.not_mem_nil, or_false] at hy
        rcases hy with rfl | rfl | rfl <;> omega)
    simpa [expd, decs] using this
  · rw [if_neg c3]
    refine join _ _ (format_x a ha c3 (by omega)) ?_
    obtain ⟨b1, b2⟩ := expT_bd (rung a) c3 (by omega)
    have := num_core (sgn (isNeg a) ++ ahead (manT (rung a) * 256)) (expT (rung a)) (strOfNums (sgn (isNeg a) ++ (ahead (manT (rung a) * 256) ++ expo (expT (rung a))))) (by simp) (by omega) (by omega) (by have := sgn_len (isNeg a); have := ahead_len (manT (rung a) * 256); simp; omega) (by
      intro y hy
      rcases List.mem_append.1 hy with hy | hy
      · exact sgn_ok _ y hy
      · exact ahead_ok _ y hy)
    simpa using this
end Go.Proofs.YthifejhdmjoolaaGreatDoor.Pure

namespace Go.Proofs.YthifejhdmjoolaaGreatDoor.Pure
open Go.RowKit Go.Proofs.YthifejhdmjoolaaGreatDoorW.PrintWords Go.Proofs.YthifejhdmjoolaaGreatDoorW.PrintLast Go.Proofs.YthifejhdmjoolaaGreatDoorW.PrintMore
open Go.Proofs.YthifejhdmjoolaaGreatDoorG Go.Flo
set_option linter.unusedVariables false
set_option linter.unusedSimpArgs false

theorem and_3 (a : Nat) (h : a < 18446744073709551616) : Go.bits .and .u64 (a : Int) 3 = ((a % 4 : Nat) : Int) := by
  have e := u64_and_nat a 3 h (by omega)
  rw [show ((3 : Nat) : Int) = 3 from rfl] at e
  rw [e, show 3 = 2 ^ 2 - 1 from rfl, Nat.and_two_pow_sub_one_eq_mod]
theorem or_0 (a : Nat) (h : a < 18446744073709551616) : Go.bits .or .u64 (a : Int) 0 = (a : Int) := by
  have e := u64_or_nat a 0 h (by omega)
  rw [show ((0 : Nat) : Int) = 0 from rfl] at e
  rw [e, Nat.or_zero]
theorem zero_or (a : Nat) (h : a < 18446744073709551616) : Go.bits .or .u64 0 (a : Int) = (a : Int) := by
  have e := u64_or_nat 0 a (by omega) h
  rw [show ((0 : Nat) : Int) = 0 from rfl] at e
  rw [e, Nat.zero_or]
theorem or_parts (f x : Nat) (hf : f < 4503599627370496) (hx : x < 2048) : Go.bits .or .u64 (f : Int) ((x * 4503599627370496 : Nat) : Int) = ((x * 4503599627370496 + f : Nat) : Int) := by
  rw [u64_or_nat f (x * 4503599627370496) (by omega) (by omega), Nat.or_comm, show x * 4503599627370496 = 2 ^ 52 * x by omega, ← Nat.two_pow_add_eq_or_of_lt (by omega)]

/-- shifted up until 55 bits are full -/
theorem up_x (s : Bool) (R : Nat × Option Int) (j : Nat) : ∀ (m : Nat) (e : Int), 18014398509481984 ≤ m * 2 ^ j → m * 2 ^ j < 36028797018963968 → -5000 < e - j → e < 5000 →
    (∃ k, QX.strconv_atofHex.j1 k ((m * 2 ^ j : Nat) : Int) (e - j) s false = some R) → ∃ k, QX.strconv_atofHex.l0 k (m : Int) e s false = some R := by
  induction j with
  | zero =>
    intro m e h1 h2 h3 h4 ⟨k, hk⟩
    refine ⟨k + 1, ?_⟩
    rw [Nat.pow_zero, Nat.mul_one] at h1 h2 hk
    simp only [QX.strconv_atofHex.l0]
    rw [if_neg (by omega), if_neg (by omega), ← hk]
    congr 1
    omega
  | succ j ih =>
    intro m e h1 h2 h3 h4 hk
    have hm : m * 2 ^ (j + 1) = m * 2 * 2 ^ j := by rw [Nat.pow_succ, Nat.mul_comm (2 ^ j) 2, Nat.mul_assoc]
    rw [hm] at h1 h2 hk
    have hp : m * 2 ≤ m * 2 * 2 ^ j := Nat.le_mul_of_pos_right _ (Nat.two_pow_pos _)
    have hm0 : m ≠ 0 := by rintro rfl; simp at h1
    obtain ⟨k, hk⟩ := ih (m * 2) (e - 1) h1 h2 (by omega) (by omega) (by rw [show e - 1 - (j : Int) = e - ((j + 1 : Nat) : Int) by omega]; exact hk)
    refine ⟨k + 1, ?_⟩
    simp only [QX.strconv_atofHex.l0]
    rw [if_neg (by omega), if_pos (by omega), show IntKind.u64.wrap ((m : Int) * 2) = ((m * 2 : Nat) : Int) by rw [IntKind.wrap_u64]; omega, show wrap64 (e - 1) = e - 1 by unfold wrap64; omega]
    exact hk

theorem l2_stop (s : Bool) (k q : Nat) (e : Int) (h : ¬ e < -1024) : QX.strconv_atofHex.l2 (k + 1) (q : Int) e s = QX.strconv_atofHex.j5 k (q : Int) e s := by
  simp only [QX.strconv_atofHex.l2]
  by_cases c : (q : Int) > 1
  · rw [if_pos c, if_neg h]
  · rw [if_neg c]

/-- shifted down to the least exponent, exactly -/
theorem down_x (s : Bool) (R : Nat × Option Int) (q : Nat) (hq : 1 < q) (j : Nat) : ∀ (e : Int), q * 2 ^ j < 18446744073709551616 → -5000 < e → e < 5000 → (j ≠ 0 → e + j ≤ -1024) → -1024 ≤ e + j →
    (∃ k, QX.strconv_atofHex.j5 k (q : Int) (e + j) s = some R) → ∃ k, QX.strconv_atofHex.l2 k ((q * 2 ^ j : Nat) : Int) e s = some R := by
  induction j with
  | zero =>
    intro e h1 h2 h3 h4 h5 ⟨k, hk⟩
    refine ⟨k + 1, ?_⟩
    rw [Nat.pow_zero, Nat.mul_one, l2_stop s k q e (by omega), ← hk]
    congr 1
    omega
  | succ j ih =>
    intro e h1 h2 h3 h4 h5 hk
    have hm : q * 2 ^ (j + 1) = q * 2 ^ j * 2 := by rw [Nat.pow_succ, Nat.mul_assoc]
    rw [hm] at h1 ⊢
    have hp : q ≤ q * 2 ^ j := Nat.le_mul_of_pos_right _ (Nat.two_pow_pos _)
    have h4' := h4 (by omega)
    obtain ⟨k, hk⟩ := ih (e + 1) (by omega) (by omega) (by omega) (by omega) (by omega) (by rw [show e + 1 + (j : Int) = e + ((j + 1 : Nat) : Int) by omega]; exact hk)
    refine ⟨k + 1, ?_⟩
    generalize q * 2 ^ j = Z at *
    simp only [QX.strconv_atofHex.l2]
    rw [if_pos (by omega), if_pos (by omega), and_one (Z * 2) h1, show Z * 2 % 2 = 0 by omega, show ((Z * 2 : Nat) : Int) / 2 = (Z : Int) by omega, show ((0 : Nat) : Int) = 0 from rfl, or_0 Z (by omega), show wrap64 (e + 1) = e + 1 by unfold wrap64; omega]
    exact hk

theorem j5_h (s : Bool) (q : Nat) (E : Int) (hq : q < 9007199254740992) (h0 : -1024 ≤ E) (h1 : E ≤ 1021) (hd : q < 4503599627370496 → E = -1024) :
    QX.strconv_atofHex.j5 5 ((q * 4 : Nat) : Int) E s = some ((if q < 4503599627370496 then q else q % 4503599627370496 + (E + 1025).toNat * 4503599627370496) + (if s then 9223372036854775808 else 0), none) := by
  have e1 : Go.bits .or .u64 (Go.bits .and .u64 ((q * 4 : Nat) : Int) 3) (Go.bits .and .u64 (((q * 4 : Nat) : Int) / 4) 1) = ((q % 2 : Nat) : Int) := by
    rw [and_3 _ (by omega), show q * 4 % 4 = 0 by omega, show ((q * 4 : Nat) : Int) / 4 = (q : Int) by omega, and_one q (by omega), show ((0 : Nat) : Int) = 0 from rfl, zero_or _ (by omega)]
  simp only [QX.strconv_atofHex.j5]
  rw [e1, if_neg (by omega), show ((q * 4 : Nat) : Int) / 4 = (q : Int) by omega, show wrap64 (E + 2) = E + 2 by unfold wrap64; omega]
  have fin : ∀ (x : Int) (X : Nat), x + 1023 = X → X < 2047 → QX.strconv_atofHex.j7 3 (q : Int) x s = some (X * 4503599627370496 + q % 4503599627370496 + (if s then 9223372036854775808 else 0), none) := by
    intro x X hx hX
    simp only [QX.strconv_atofHex.j7]
    rw [if_neg (by omega)]
    simp only [QX.strconv_atofHex.j8, QX.strconv_atofHex.j9]
    have e2 : IntKind.u64.wrap (IntKind.u64.wrap (Go.bits .and .i64 (wrap64 (x - -1023)) 2047) * 4503599627370496) = ((X * 4503599627370496 : Nat) : Int) := by
      rw [i64_and2047, show wrap64 (x - -1023) = (X : Int) by unfold wrap64; omega, IntKind.wrap_u64, IntKind.wrap_u64]
      omega
    rw [e2, and_frac q (by omega), or_parts _ X (by omega) (by omega)]
    cases s
    · rw [if_neg (by simp), Int.toNat_natCast]; simp
    · rw [if_pos rfl, or_sign _ (by omega), Int.toNat_natCast]; simp
  simp only [QX.strconv_atofHex.j6]
  by_cases c : q < 4503599627370496
  · rw [if_pos (by omega), fin (-1023) 0 (by omega) (by omega), if_pos c]
    congr 2
    omega
  · rw [if_neg (by omega), fin (E + 2) (E + 1025).toNat (by omega) (by omega), if_neg c]
    congr 2
    omega

theorem atof_x (s : Bool) (r : Nat) (h0 : r ≠ 0) (hf : r < 9218868437227405312) (m : Nat) (e : Int) (j : Nat) (a0 : ByteArray) (hm : m * 2 ^ j = manT r * 4) (he : e + 52 - j = expT r - 2) (hj : j ≤ 100) (hm2 : m < 18446744073709551616) :
    ∃ k, QX.strconv_atofHex.f k a0 (m : Int) e s false = some (r + (if s then 9223372036854775808 else 0), none) := by
  obtain ⟨b1, b2⟩ := expT_bd r h0 hf
  obtain ⟨s1, s2, s3⟩ := shf_is (sg r) (sg_ne r h0) (sg_lt r)
  have hM : manT r = sg r * 2 ^ shf (sg r) := rfl
  have hE : expT r = ((up r : Nat) : Int) - 1022 - ((shf (sg r) : Nat) : Int) := rfl
  have hsn := sg_ne r h0
  have hsl := sg_lt r
  have hu : up r < 2046 := by unfold Flo.up; omega
  -- a shift is there below the normal floats alone
  have hsh : shf (sg r) ≠ 0 → up r = 0 := by
    intro c
    unfold Flo.up
    by_cases d : r < 9007199254740992
    · omega
    · exfalso
      have : 4503599627370496 ≤ sg r := by unfold sg; split <;> omega
      have h2 : 2 ^ 1 ≤ 2 ^ shf (sg r) := Nat.pow_le_pow_right (by omega) (by omega)
      have : sg r * 2 ^ 1 ≤ sg r * 2 ^ shf (sg r) := Nat.mul_le_mul_left _ h2
      omega
  unfold QX.strconv_atofHex.f
  rw [show wrap64 (e + 52) = e + 52 by unfold wrap64; omega]
  refine up_x s _ j m (e + 52) (by omega) (by omega) (by omega) (by omega) ?_
  rw [hm, he]
  have hd : sg r < 4503599627370496 → up r = 0 := by
    intro c
    unfold Flo.up
    have : r < 4503599627370496 := by unfold sg at c; split at c <;> omega
    omega
  have hq4 : sg r * 4 * 2 ^ shf (sg r) < 18446744073709551616 := by
    have : sg r * 4 * 2 ^ shf (sg r) = sg r * 2 ^ shf (sg r) * 4 := by rw [Nat.mul_assoc, Nat.mul_comm 4, ← Nat.mul_assoc]
    rw [this]
    omega
  have q1 : -5000 < expT r - 2 := by omega
  have q2 : expT r - 2 < 5000 := by omega
  have q3 : shf (sg r) ≠ 0 → expT r - 2 + ((shf (sg r) : Nat) : Int) ≤ -1024 := by intro c; have := hsh c; omega
  have q4 : -1024 ≤ expT r - 2 + ((shf (sg r) : Nat) : Int) := by omega
  have q5 : 1 < sg r * 4 := by omega
  obtain ⟨k, hk⟩ := down_x s (r + (if s then 9223372036854775808 else 0), none) (sg r * 4) q5 (shf (sg r)) (expT r - 2) hq4 q1 q2 q3 q4 (by
    refine ⟨5, ?_⟩
    rw [show expT r - 2 + ((shf (sg r) : Nat) : Int) = ((up r : Nat) : Int) - 1024 by omega, j5_h s (sg r) (((up r : Nat) : Int) - 1024) hsl (by omega) (by omega) (by intro c; have := hd c; omega)]
    congr 2
    have hr : (if sg r < 4503599627370496 then sg r else sg r % 4503599627370496 + (((up r : Nat) : Int) - 1024 + 1025).toNat * 4503599627370496) = r := by
      unfold sg Flo.up
      by_cases c : r < 4503599627370496
      · rw [if_pos c, if_pos c]
      · rw [if_neg c, if_neg (by omega)]; omega
    rw [hr])
  refine ⟨k + 3, ?_⟩
  simp only [QX.strconv_atofHex.j1]
  rw [if_neg (by simp)]
  simp only [QX.strconv_atofHex.j2, QX.strconv_atofHex.l1]
  have hv : manT r * 4 = sg r * 4 * 2 ^ shf (sg r) := by rw [hM, Nat.mul_assoc, Nat.mul_comm _ 4, ← Nat.mul_assoc]
  rw [if_pos (by omega), hv]
  exact hk
end Go.Proofs.YthifejhdmjoolaaGreatDoor.Pure

namespace Go.Proofs.YthifejhdmjoolaaGreatDoor.Pure
open Go.RowKit Go.Proofs.YthifejhdmjoolaaGreatDoorW.PrintWords Go.Proofs.YthifejhdmjoolaaGreatDoorW.PrintLast Go.Proofs.YthifejhdmjoolaaGreatDoorW.PrintMore
open Go.Proofs.YthifejhdmjoolaaGreatDoorG Go.Flo
set_option linter.unusedVariables false
set_option linter.unusedSimpArgs false

theorem bt_in (P Q : List Int) (y : Int) (h0 : 0 ≤ y) (h1 : y < 256) : bt (strOfNums (P ++ y :: Q)) (P.length : Int) = y := by
  have := bt_str (P ++ y :: Q) P.length (by simp) (by simpa using h0) (by simpa using h1)
  simpa using this

theorem lower_letter : ∀ d : Fin 6, QH.strconv_lower.f (((97 + d.val : Nat) : Int)) = some ((97 + d.val : Nat) : Int) := by decide +kernel

/-- a hexadecimal digit read -/
theorem dig_x (k : Nat) (S : ByteArray) (m pos nd c : Nat) (x3 : Int) (s b sd : Bool) (dp : Int) (d : Nat) (hd : d < 16) (hpos : pos < S.size) (hb : bt S (pos : Int) = dg d) (hm : m < 1152921504606846976) (hc : c < 16) (hz : ¬ (d = 0 ∧ nd = 0)) (hnd : nd < 1000) (hp : pos < 1000000) :
    QH.strconv_readFloat.l0 (k + 5) S (m : Int) x3 s false true (pos : Int) false false 16 16 112 sd b (nd : Int) (c : Int) dp =
      QH.strconv_readFloat.l0 k S ((m * 16 + d : Nat) : Int) x3 s false true ((pos + 1 : Nat) : Int) false false 16 16 112 sd true ((nd + 1 : Nat) : Int) ((c + 1 : Nat) : Int) dp := by
  have q3 : (c : Int) < 16 := Int.ofNat_lt.2 hc
  have q1 : (pos : Int) < (S.size : Int) := Int.ofNat_lt.2 hpos
  have q2 : (0 : Int) ≤ (pos : Int) := Int.natCast_nonneg pos
  have w1 : wrap64 ((pos : Int) + 1) = ((pos + 1 : Nat) : Int) := by unfold wrap64; omega
  have w2 : wrap64 ((nd : Int) + 1) = ((nd + 1 : Nat) : Int) := by unfold wrap64; omega
  have w3 : wrap64 ((c : Int) + 1) = ((c + 1 : Nat) : Int) := by unfold wrap64; omega
  simp only [QH.strconv_readFloat.l0]
  rw [if_pos q1, if_pos q2, hb]
  by_cases h : d < 10
  · have e : dg d = 48 + (d : Int) := by unfold dg; rw [if_pos h]
    rw [e, if_neg (by omega)]
    simp only [QH.strconv_readFloat.j4]
    rw [if_neg (by simp), if_neg (by omega)]
    simp only [QH.strconv_readFloat.j5]
    rw [if_neg (by simp), if_pos (by omega), if_pos (by omega)]
    simp only [QH.strconv_readFloat.j6]
    rw [if_pos trivial]
    have fin : QH.strconv_readFloat.j7 (k + 1) S (m : Int) x3 s false true (pos : Int) false false 16 16 112 sd true (nd : Int) (c : Int) dp (48 + (d : Int)) false = QH.strconv_readFloat.l0 k S ((m * 16 + d : Nat) : Int) x3 s false true ((pos + 1 : Nat) : Int) false false 16 16 112 sd true ((nd + 1 : Nat) : Int) ((c + 1 : Nat) : Int) dp := by
      simp only [QH.strconv_readFloat.j7]
      rw [if_neg (by simp), if_pos q3, w1, w2, w3, show IntKind.u64.wrap (IntKind.u64.wrap ((m : Int) * 16) + (48 + (d : Int) - 48) % 256) = ((m * 16 + d : Nat) : Int) by rw [IntKind.wrap_u64, IntKind.wrap_u64]; omega]
    by_cases z : d = 0
    · rw [if_pos (by omega), show (((nd : Int)) == 0) = false from beq_eq_false_iff_ne.mpr (by omega)]
      exact fin
    · rw [if_neg (by omega)]
      exact fin
  · have e : dg d = ((97 + (d - 10) : Nat) : Int) := by unfold dg; rw [if_neg h]; omega
    have hl := lower_letter ⟨d - 10, by omega⟩
    dsimp only at hl
    rw [e, if_neg (by omega)]
    simp only [QH.strconv_readFloat.j4]
    rw [if_neg (by simp), if_neg (by omega)]
    simp only [QH.strconv_readFloat.j5]
    rw [if_neg (by simp), if_pos (by omega), if_neg (by omega)]
    simp only [QH.strconv_readFloat.j6]
    rw [if_neg (by simp), if_pos trivial, hl, Option.bind_some, if_pos (by omega), Option.bind_some, if_pos (by omega)]
    simp only [QH.strconv_readFloat.j8]
    rw [if_pos trivial, if_pos q3, hl, Option.bind_some, w1, w2, w3, show IntKind.u64.wrap (IntKind.u64.wrap ((m : Int) * 16) + (((((97 + (d - 10) : Nat) : Int)) - 97) % 256 + 10) % 256) = ((m * 16 + d : Nat) : Int) by rw [IntKind.wrap_u64, IntKind.wrap_u64]; omega]

/-- the point read -/
theorem dot_x (k : Nat) (S : ByteArray) (m x3 pos nd c dp : Int) (s b : Bool) (h0 : 0 ≤ pos) (hpos : pos < S.size) (hb : bt S pos = 46) (hp : pos < 1000000) :
    QH.strconv_readFloat.l0 (k + 3) S m x3 s false true pos false false 16 16 112 false b nd c dp =
      QH.strconv_readFloat.l0 k S m x3 s false true (pos + 1) false false 16 16 112 true b nd c nd := by
  simp only [QH.strconv_readFloat.l0]
  rw [if_pos (by omega), if_pos (by omega), hb, if_neg (by omega)]
  simp only [QH.strconv_readFloat.j4]
  rw [if_neg (by simp), if_pos trivial]
  simp only [QH.strconv_readFloat.j5]
  rw [if_pos trivial, if_neg (by simp), show wrap64 (pos + 1) = pos + 1 by unfold wrap64; omega]

/-- the p read: the digits' loop ends -/
theorem p_x (k : Nat) (S : ByteArray) (m x3 pos nd c dp : Int) (s b sd : Bool) (h0 : 0 ≤ pos) (hpos : pos < S.size) (hb : bt S pos = 112) :
    QH.strconv_readFloat.l0 (k + 5) S m x3 s false true pos false false 16 16 112 sd b nd c dp =
      QH.strconv_readFloat.j9 k S m x3 s false true pos false false 16 112 sd b nd c dp := by
  have hl : QH.strconv_lower.f 112 = some 112 := by decide +kernel
  simp only [QH.strconv_readFloat.l0]
  rw [if_pos (by omega), if_pos (by omega), hb, if_neg (by omega)]
  simp only [QH.strconv_readFloat.j4]
  rw [if_neg (by simp), if_neg (by omega)]
  simp only [QH.strconv_readFloat.j5]
  rw [if_neg (by simp), if_pos (by omega), if_neg (by omega)]
  simp only [QH.strconv_readFloat.j6]
  rw [if_neg (by simp), if_pos trivial, hl, Option.bind_some, if_pos (by omega), Option.bind_some, if_neg (by omega)]
  simp only [QH.strconv_readFloat.j8]
  rw [if_neg (by simp)]

/-- a decimal of the exponent read -/
theorem e_step (k : Nat) (S : ByteArray) (m x3 pos x16 x17 x19 : Int) (s : Bool) (a d : Nat) (hd : d < 10) (h0 : 0 ≤ pos) (hpos : pos < S.size) (hb : bt S pos = 48 + d) (hp : pos < 1000000) (ha : a < 10000) :
    QH.strconv_readFloat.l1 (k + 2) S m x3 s false true pos false false x16 x17 x19 (a : Int) =
      QH.strconv_readFloat.l1 k S m x3 s false true (pos + 1) false false x16 x17 x19 ((a * 10 + d : Nat) : Int) := by
  simp only [QH.strconv_readFloat.l1]
  rw [if_pos (by omega), if_pos (by omega), hb, if_pos (by omega), if_pos (by omega)]
  simp only [QH.strconv_readFloat.j16]
  rw [if_pos trivial, if_pos (by omega), if_pos (by omega), hb, if_neg (by omega), if_pos (by omega), show wrap64 (pos + 1) = pos + 1 by unfold wrap64; omega,
    show wrap64 (wrap64 (wrap64 ((a : Int) * 10) + wrap64 (48 + (d : Int))) - 48) = ((a * 10 + d : Nat) : Int) by unfold wrap64; omega]

theorem e_end (k : Nat) (S : ByteArray) (m x3 pos x16 x17 x19 a : Int) (s : Bool) (hpos : ¬ pos < S.size) (hm : m ≠ 0) (h16 : -100000 < x16) (h16' : x16 < 100000) (h17 : -100000 < x17) (h17' : x17 < 100000) (h19 : x19 = 1 ∨ x19 = -1) (ha : 0 ≤ a) (ha' : a < 100000) :
    QH.strconv_readFloat.l1 (k + 3) S m x3 s false true pos false false x16 x17 x19 a = some (m, x17 + a * x19 - x16, s, false, true, pos, true) := by
  simp only [QH.strconv_readFloat.l1]
  rw [if_neg hpos]
  simp only [QH.strconv_readFloat.j16]
  rw [if_neg (by simp)]
  simp only [QH.strconv_readFloat.j17]
  rw [if_neg hm, if_neg (by simp)]
  have : wrap64 (wrap64 (x17 + wrap64 (a * x19)) - x16) = x17 + a * x19 - x16 := by
    rcases h19 with rfl | rfl <;> (unfold wrap64; omega)
  rw [this]
end Go.Proofs.YthifejhdmjoolaaGreatDoor.Pure

namespace Go.Proofs.YthifejhdmjoolaaGreatDoor.Pure
open Go.RowKit Go.Proofs.YthifejhdmjoolaaGreatDoorW.PrintWords Go.Proofs.YthifejhdmjoolaaGreatDoorW.PrintLast Go.Proofs.YthifejhdmjoolaaGreatDoorW.PrintMore
open Go.Proofs.YthifejhdmjoolaaGreatDoorG Go.Flo
set_option linter.unusedVariables false
set_option linter.unusedSimpArgs false

/-- the mantissa read, from m on, at the digits of x -/
def rd : Nat → Nat → Nat → Nat
  | m, 0, x => m
  | m, n + 1, x => if x = 0 then m else rd (m * 16 + x / 1152921504606846976) n (x * 16 % 18446744073709551616)

theorem hx_zero (n : Nat) : hx n 0 = [] := by cases n <;> rfl
theorem hx_cons (n x : Nat) (h : x ≠ 0) : hx (n + 1) x = dg (x / 1152921504606846976) :: hx n (x * 16 % 18446744073709551616) := by
  show (if x = 0 then [] else _) = _
  rw [if_neg h]
theorem hx_short (j : Nat) : ∀ n x, x < 18446744073709551616 → x * 16 ^ j % 18446744073709551616 = 0 → (hx n x).length ≤ j := by
  induction j with
  | zero =>
    intro n x h0 h
    have : x = 0 := by rw [Nat.pow_zero, Nat.mul_one] at h; omega
    subst this
    rw [hx_zero]; simp
  | succ j ih =>
    intro n x h0 h
    by_cases c : x = 0
    · subst c; rw [hx_zero]; simp
    · cases n with
      | zero => show (0 : Nat) ≤ _; omega
      | succ n =>
        rw [hx_cons n x c]
        have := ih n (x * 16 % 18446744073709551616) (Nat.mod_lt _ (by omega)) (by rw [Nat.mod_mul_mod, Nat.mul_assoc, ← Nat.pow_succ']; exact h)
        simp only [List.length_cons]
        omega

theorem rd_val (n : Nat) : ∀ m x, x < 18446744073709551616 → x * 16 ^ n % 18446744073709551616 = 0 → rd m n x * 18446744073709551616 = (m * 18446744073709551616 + x) * 16 ^ (hx n x).length := by
  induction n with
  | zero =>
    intro m x h0 h
    have : x = 0 := by rw [Nat.pow_zero, Nat.mul_one] at h; omega
    subst this
    rw [hx_zero]
    show m * 18446744073709551616 = (m * 18446744073709551616 + 0) * 16 ^ 0
    omega
  | succ n ih =>
    intro m x h0 h
    by_cases c : x = 0
    · subst c
      rw [hx_zero, show rd m (n + 1) 0 = m from rfl]
      show m * 18446744073709551616 = (m * 18446744073709551616 + 0) * 16 ^ 0
      omega
    · rw [hx_cons n x c, show rd m (n + 1) x = rd (m * 16 + x / 1152921504606846976) n (x * 16 % 18446744073709551616) from if_neg c,
        ih _ _ (Nat.mod_lt _ (by omega)) (by rw [Nat.mod_mul_mod, Nat.mul_assoc, ← Nat.pow_succ']; exact h), List.length_cons, Nat.pow_succ']
      rw [← Nat.mul_assoc]
      congr 1
      omega

theorem hx_read (s sd : Bool) (dp : Int) (R : Int × Int × Bool × Bool × Bool × Int × Bool) (n : Nat) : ∀ (m x c : Nat) (P Q : List Int), x < 18446744073709551616 → m < 16 ^ c → c ≠ 0 → c + (hx n x).length ≤ 16 → P.length + (hx n x).length < 1000 →
    (∃ k, QH.strconv_readFloat.l0 k (strOfNums (P ++ (hx n x ++ Q))) ((rd m n x : Nat) : Int) 0 s false true ((P.length + (hx n x).length : Nat) : Int) false false 16 16 112 sd true ((c + (hx n x).length : Nat) : Int) ((c + (hx n x).length : Nat) : Int) dp = some R) →
    ∃ k, QH.strconv_readFloat.l0 k (strOfNums (P ++ (hx n x ++ Q))) (m : Int) 0 s false true (P.length : Int) false false 16 16 112 sd true (c : Int) (c : Int) dp = some R := by
  induction n with
  | zero =>
    intro m x c P Q h0 h1 h2 h3 h4 h
    exact h
  | succ n ih =>
    intro m x c P Q h0 h1 h2 h3 h4 h
    by_cases z : x = 0
    · subst z
      rw [hx_zero] at h ⊢
      exact h
    · have e := hx_cons n x z
      have er : rd m (n + 1) x = rd (m * 16 + x / 1152921504606846976) n (x * 16 % 18446744073709551616) := if_neg z
      rw [e, er] at h
      rw [e] at h3 h4 ⊢
      generalize hT : hx n (x * 16 % 18446744073709551616) = Tl at *
      have hd : x / 1152921504606846976 < 16 := by omega
      generalize x / 1152921504606846976 = d at *
      rw [List.length_cons] at h h3 h4
      rw [List.cons_append] at h ⊢
      have hc15 : c ≤ 15 := by omega
      have hm : m < 1152921504606846976 := Nat.lt_of_lt_of_le h1 (Nat.le_trans (Nat.pow_le_pow_right (by omega) hc15) (by omega))
      have hbt := bt_in P (Tl ++ Q) (dg d) (by have := dg_ok d hd; omega) (by have := dg_ok d hd; omega)
      have hP : P ++ (dg d :: (Tl ++ Q)) = (P ++ [dg d]) ++ (Tl ++ Q) := by simp
      obtain ⟨k, hk⟩ := ih (m * 16 + d) (x * 16 % 18446744073709551616) (c + 1) (P ++ [dg d]) Q (Nat.mod_lt _ (by omega)) (by rw [Nat.pow_succ]; exact Nat.lt_of_lt_of_le (by omega : m * 16 + d < (m + 1) * 16) (Nat.mul_le_mul_right 16 h1)) (by omega) (by rw [hT]; omega) (by rw [hT]; simp; omega) (by
        rw [hT, ← hP]
        obtain ⟨k, hk⟩ := h
        refine ⟨k, ?_⟩
        rw [← hk, List.length_append, List.length_singleton, show P.length + 1 + Tl.length = P.length + (Tl.length + 1) by omega, show c + 1 + Tl.length = c + (Tl.length + 1) by omega])
      rw [hT, ← hP] at hk
      refine ⟨k + 5, ?_⟩
      have hs : (strOfNums (P ++ (dg d :: (Tl ++ Q)))).size = P.length + (1 + Tl.length + Q.length) := by rw [strOfNums_size]; simp; omega
      rw [dig_x k _ m P.length c c 0 s true sd dp d hd (by rw [hs]; omega) hbt hm (by omega) (by omega) (by omega) (by omega), ← hk, List.length_append, List.length_singleton]

/-- decimals read -/
def dv : Nat → List Nat → Nat
  | a, [] => a
  | a, d :: ds => dv (a * 10 + d) ds
theorem dv_le : ∀ (ds : List Nat) (a : Nat), a ≤ dv a ds
  | [], a => Nat.le_refl _
  | d :: ds, a => Nat.le_trans (by omega) (dv_le ds (a * 10 + d))

theorem e_read (m x16 x17 x19 : Int) (s : Bool) (hm : m ≠ 0) (h16 : -100000 < x16) (h16' : x16 < 100000) (h17 : -100000 < x17) (h17' : x17 < 100000) (h19 : x19 = 1 ∨ x19 = -1) : ∀ (ds : List Nat) (a : Nat) (P : List Int), (∀ d ∈ ds, d < 10) → dv a ds < 10000 → P.length + ds.length < 10000 →
    ∃ k, QH.strconv_readFloat.l1 k (strOfNums (P ++ ds.map (fun d : Nat => 48 + (d : Int)))) m 0 s false true (P.length : Int) false false x16 x17 x19 (a : Int) = some (m, x17 + (dv a ds : Nat) * x19 - x16, s, false, true, ((P.length + ds.length : Nat) : Int), true)
  | [], a, P, _, h1, h2 => by
    refine ⟨3, ?_⟩
    have h1' : a < 10000 := h1
    have hs : (strOfNums (P ++ ([] : List Nat).map (fun d : Nat => 48 + (d : Int)))).size = P.length := by rw [strOfNums_size]; simp
    rw [e_end 0 _ m 0 _ x16 x17 x19 a s (by rw [hs]; omega) hm h16 h16' h17 h17' h19 (by omega) (by omega)]
    rfl
  | d :: ds, a, P, h0, h1, h2 => by
    have hd : d < 10 := h0 d (List.mem_cons_self ..)
    have ha : a < 10000 := Nat.lt_of_le_of_lt (Nat.le_trans (by omega) (dv_le ds (a * 10 + d))) h1
    rw [List.length_cons] at h2
    obtain ⟨k, hk⟩ := e_read m x16 x17 x19 s hm h16 h16' h17 h17' h19 ds (a * 10 + d) (P ++ [48 + (d : Int)]) (fun y hy => h0 y (List.mem_cons_of_mem _ hy)) h1 (by simp; omega)
    have hP : P ++ (48 + (d : Int)) :: ds.map (fun d : Nat => 48 + (d : Int)) = (P ++ [48 + (d : Int)]) ++ ds.map (fun d : Nat => 48 + (d : Int)) := by simp
    have hbt := bt_in P (ds.map (fun d : Nat => 48 + (d : Int))) (48 + (d : Int)) (by omega) (by omega)
    refine ⟨k + 2, ?_⟩
    rw [List.map_cons, e_step k _ m 0 P.length x16 x17 x19 s a d hd (by omega) (by rw [strOfNums_size]; simp; omega) hbt (by omega) ha, hP]
    rw [List.length_append, List.length_singleton] at hk
    rw [show ((P.length : Int) + 1) = ((P.length + 1 : Nat) : Int) by omega, hk, show dv a (d :: ds) = dv (a * 10 + d) ds from rfl, List.length_cons, show P.length + 1 + ds.length = P.length + (ds.length + 1) by omega]

def dgs (n : Nat) : List Nat := if n < 10 then [n] else if n < 100 then [n / 10, n % 10] else if n < 1000 then [n / 100, n / 10 % 10, n % 10] else [n / 1000, n / 100 % 10, n / 10 % 10, n % 10]
theorem dgs_decs : ∀ n : Fin 1200, decs n.val = (dgs n.val).map (fun d : Nat => 48 + (d : Int)) ∧ (∀ d ∈ dgs n.val, d < 10) ∧ dv 0 (dgs n.val) = n.val ∧ (dgs n.val).length ≤ 4 ∧ 1 ≤ (dgs n.val).length := by decide +kernel
end Go.Proofs.YthifejhdmjoolaaGreatDoor.Pure

namespace Go.Proofs.YthifejhdmjoolaaGreatDoor.Pure
open Go.RowKit Go.Proofs.YthifejhdmjoolaaGreatDoorW.PrintWords Go.Proofs.YthifejhdmjoolaaGreatDoorW.PrintLast Go.Proofs.YthifejhdmjoolaaGreatDoorW.PrintMore
open Go.Proofs.YthifejhdmjoolaaGreatDoorG Go.Flo
set_option linter.unusedVariables false
set_option linter.unusedSimpArgs false

theorem decs_head (n : Nat) (h : n < 1200) : ∃ d ds, dgs n = d :: ds ∧ d < 10 ∧ decs n = (48 + (d : Int)) :: ds.map (fun d : Nat => 48 + (d : Int)) := by
  obtain ⟨h1, h2, _, _, h5⟩ := dgs_decs ⟨n, h⟩
  dsimp only at h1 h2 h5
  cases hd : dgs n with
  | nil => rw [hd] at h5; simp at h5
  | cons d ds =>
    rw [hd] at h1 h2
    exact ⟨d, ds, rfl, h2 d (List.mem_cons_self ..), h1⟩

/-- from the sign of the exponent on -/
theorem sign_read (k : Nat) (S : ByteArray) (m x16 x17 : Int) (s : Bool) (P Q : List Int) (sg y x19 : Int) (hS : S = strOfNums (P ++ 112 :: sg :: y :: Q)) (hsg : (sg = 43 ∧ x19 = 1) ∨ (sg = 45 ∧ x19 = -1)) (hy : 48 ≤ y) (hy' : y ≤ 57) (hP : P.length < 1000) :
    QH.strconv_readFloat.j11 (k + 4) S m 0 s false true (P.length : Int) false false 16 112 x16 x17 =
      QH.strconv_readFloat.l1 k S m 0 s false true ((P.length + 2 : Nat) : Int) false false x16 x17 x19 0 := by
  subst hS
  have hl : QH.strconv_lower.f 112 = some 112 := by decide +kernel
  have b0 := bt_in P (sg :: y :: Q) 112 (by omega) (by omega)
  have b1 : bt (strOfNums (P ++ 112 :: sg :: y :: Q)) ((P.length + 1 : Nat) : Int) = sg := by
    have := bt_in (P ++ [112]) (y :: Q) sg (by omega) (by omega)
    rw [List.length_append, List.length_singleton, show P ++ [112] ++ sg :: y :: Q = P ++ 112 :: sg :: y :: Q by simp] at this
    exact this
  have b2 : bt (strOfNums (P ++ 112 :: sg :: y :: Q)) ((P.length + 2 : Nat) : Int) = y := by
    have := bt_in (P ++ [112, sg]) Q y (by omega) (by omega)
    rw [List.length_append, show [112, sg].length = 2 from rfl, show P ++ [112, sg] ++ y :: Q = P ++ 112 :: sg :: y :: Q by simp] at this
    exact this
  have hs : ((strOfNums (P ++ 112 :: sg :: y :: Q)).size : Int) = (P.length : Int) + 3 + (Q.length : Int) := by rw [strOfNums_size]; simp; omega
  generalize strOfNums (P ++ 112 :: sg :: y :: Q) = S at *
  have w1 : wrap64 ((P.length : Int) + 1) = ((P.length + 1 : Nat) : Int) := by unfold wrap64; omega
  have w2 : wrap64 (((P.length + 1 : Nat) : Int) + 1) = ((P.length + 2 : Nat) : Int) := by unfold wrap64; omega
  have z0 : (P.length : Int) < (S.size : Int) := by rw [hs]; omega
  have z1 : ¬ (((P.length + 1 : Nat) : Int) ≥ (S.size : Int)) := by rw [hs]; omega
  have z2 : ¬ (((P.length + 2 : Nat) : Int) ≥ (S.size : Int)) := by rw [hs]; omega
  have n0 : (0 : Int) ≤ (P.length : Int) := Int.natCast_nonneg _
  have n1 : (0 : Int) ≤ ((P.length + 1 : Nat) : Int) := Int.natCast_nonneg _
  have n2 : (0 : Int) ≤ ((P.length + 2 : Nat) : Int) := Int.natCast_nonneg _
  simp only [QH.strconv_readFloat.j11]
  rw [if_pos z0, if_pos n0, b0, hl, Option.bind_some]
  simp only [QH.strconv_readFloat.j12]
  rw [if_pos (by decide), w1, if_neg z1, if_pos n1, if_pos (Int.not_le.1 z1), b1, w2]
  have fin : QH.strconv_readFloat.j13 (k + 2) S m 0 s false true ((P.length + 2 : Nat) : Int) false false x16 x17 x19 = QH.strconv_readFloat.l1 k S m 0 s false true ((P.length + 2 : Nat) : Int) false false x16 x17 x19 0 := by
    simp only [QH.strconv_readFloat.j13]
    rw [if_neg z2, if_pos n2, if_pos (Int.not_le.1 z2), b2, if_neg (Int.not_lt.2 hy), show decide (y > 57) = false from decide_eq_false (Int.not_lt.2 hy')]
    simp only [QH.strconv_readFloat.j14]
    rw [if_neg (by simp)]
  rcases hsg with ⟨rfl, rfl⟩ | ⟨rfl, rfl⟩
  · rw [if_pos rfl]; exact fin
  · rw [if_neg (by decide), if_pos rfl]; exact fin

/-- from the p on -/
theorem tail_read (m c : Nat) (s sd : Bool) (dp : Int) (P : List Int) (e : Int) (hm : m ≠ 0) (hc : c < 100) (hdp : sd = true → dp = 1) (hc1 : sd = false → c = 1) (he : -1200 < e) (he' : e < 1200) (hP : P.length < 1000) :
    ∃ k, QH.strconv_readFloat.l0 k (strOfNums (P ++ expd e)) (m : Int) 0 s false true (P.length : Int) false false 16 16 112 sd true (c : Int) (c : Int) dp = some ((m : Int), 4 + e - (c : Int) * 4, s, false, true, (((P ++ expd e).length : Nat) : Int), true) := by
  obtain ⟨d, ds, h1, h2, h3⟩ := decs_head e.natAbs (by omega)
  obtain ⟨g1, g2, g3, g4, g5⟩ := dgs_decs ⟨e.natAbs, by omega⟩
  dsimp only at g1 g2 g3 g4 g5
  have hE : expd e = 112 :: (if e < 0 then 45 else 43) :: (48 + (d : Int)) :: ds.map (fun d : Nat => 48 + (d : Int)) := by unfold expd; rw [h3]
  have hx : ∃ x19 : Int, ((if e < 0 then (45 : Int) else 43) = 43 ∧ x19 = 1 ∨ (if e < 0 then (45 : Int) else 43) = 45 ∧ x19 = -1) ∧ ((e.natAbs : Nat) : Int) * x19 = e := by
    by_cases c : e < 0
    · exact ⟨-1, Or.inr ⟨if_pos c, rfl⟩, by omega⟩
    · exact ⟨1, Or.inl ⟨if_neg c, rfl⟩, by omega⟩
  obtain ⟨x19, hx, hv⟩ := hx
  have hm0 : (m : Int) ≠ 0 := by omega
  obtain ⟨k, hk⟩ := e_read (m : Int) ((c : Int) * 4) 4 x19 s hm0 (by omega) (by omega) (by omega) (by omega) (by rcases hx with ⟨_, h⟩ | ⟨_, h⟩ <;> simp [h]) (dgs e.natAbs) 0 (P ++ [112, if e < 0 then 45 else 43]) g2 (by rw [g3]; omega) (by simp; omega)
  have hL : P ++ expd e = P ++ [112, if e < 0 then 45 else 43] ++ (dgs e.natAbs).map (fun d : Nat => 48 + (d : Int)) := by unfold expd; rw [g1]; simp
  refine ⟨k + 4 + 2 + 5, ?_⟩
  have b0 : bt (strOfNums (P ++ expd e)) (P.length : Int) = 112 := by rw [hE]; exact bt_in P _ 112 (by omega) (by omega)
  have hs : P.length < (strOfNums (P ++ expd e)).size := by rw [strOfNums_size, hE]; simp
  rw [p_x (k + 4 + 2) _ _ 0 _ _ _ _ s true sd (Int.natCast_nonneg _) (Int.ofNat_lt.2 hs) b0]
  have hw : wrap64 ((c : Int) * 4) = (c : Int) * 4 := by unfold wrap64; omega
  have fin : QH.strconv_readFloat.j10 (k + 4 + 1) (strOfNums (P ++ expd e)) (m : Int) 0 s false true (P.length : Int) false false 16 112 (c : Int) 1 = some ((m : Int), 4 + e - (c : Int) * 4, s, false, true, (((P ++ expd e).length : Nat) : Int), true) := by
    simp only [QH.strconv_readFloat.j10]
    rw [if_pos trivial, hw, show wrap64 (1 * 4) = 4 by unfold wrap64; omega, sign_read k _ (m : Int) _ 4 s P _ _ _ x19 (by rw [hE]) hx (by omega) (by omega) hP]
    rw [← hL, List.length_append, show [112, if e < 0 then (45 : Int) else 43].length = 2 from rfl, g3, hv] at hk
    rw [show (((0 : Nat) : Int)) = 0 from rfl] at hk
    rw [hk, hL]
    simp
    omega
  simp only [QH.strconv_readFloat.j9]
  rw [if_pos trivial]
  cases sd
  · rw [if_neg (by simp)]
    have := hc1 rfl
    subst this
    exact fin
  · rw [if_pos rfl]
    have := hdp rfl
    subst this
    exact fin
end Go.Proofs.YthifejhdmjoolaaGreatDoor.Pure

namespace Go.Proofs.YthifejhdmjoolaaGreatDoor.Pure
open Go.RowKit Go.Proofs.YthifejhdmjoolaaGreatDoorW.PrintWords Go.Proofs.YthifejhdmjoolaaGreatDoorW.PrintLast Go.Proofs.YthifejhdmjoolaaGreatDoorW.PrintMore
open Go.Proofs.YthifejhdmjoolaaGreatDoorG Go.Flo
set_option linter.unusedVariables false
set_option linter.unusedSimpArgs false

/-- the sign and 0x read -/
theorem pre_read (s : Bool) (Q : List Int) (y : Int) (hy : 0 ≤ y) (R : Int × Int × Bool × Bool × Bool × Int × Bool) (hQ : Q.length < 1000)
    (h : ∃ k, QH.strconv_readFloat.l0 k (strOfNums (sgn s ++ 48 :: 120 :: y :: Q)) 0 0 s false true (((sgn s).length + 2 : Nat) : Int) false false 16 16 112 false false 0 0 0 = some R) :
    ∃ k, QH.strconv_readFloat.f k (strOfNums (sgn s ++ 48 :: 120 :: y :: Q)) = some R := by
  obtain ⟨k, hk⟩ := h
  refine ⟨k + 3, ?_⟩
  have hl : QH.strconv_lower.f 120 = some 120 := by decide +kernel
  have b0 := bt_in (sgn s) (120 :: y :: Q) 48 (by omega) (by omega)
  have b1 : bt (strOfNums (sgn s ++ 48 :: 120 :: y :: Q)) (((sgn s).length + 1 : Nat) : Int) = 120 := by
    have := bt_in (sgn s ++ [48]) (y :: Q) 120 (by omega) (by omega)
    rw [List.length_append, List.length_singleton, show sgn s ++ [48] ++ 120 :: y :: Q = sgn s ++ 48 :: 120 :: y :: Q by simp] at this
    exact this
  have hs : ((strOfNums (sgn s ++ 48 :: 120 :: y :: Q)).size : Int) = ((sgn s).length : Int) + 3 + (Q.length : Int) := by rw [strOfNums_size]; simp; omega
  have hfirst : bt (strOfNums (sgn s ++ 48 :: 120 :: y :: Q)) 0 = if s then 45 else 48 := by
    cases s
    · exact b0
    · exact bt_in [] (48 :: 120 :: y :: Q) 45 (by omega) (by omega)
  have hsl := sgn_len s
  generalize strOfNums (sgn s ++ 48 :: 120 :: y :: Q) = S at *
  have z0 : (0 : Int) < (S.size : Int) := by rw [hs]; omega
  have w1 : wrap64 (((sgn s).length : Int) + 1) = (((sgn s).length + 1 : Nat) : Int) := by unfold wrap64; omega
  have w2 : wrap64 (((sgn s).length : Int) + 2) = (((sgn s).length + 2 : Nat) : Int) := by unfold wrap64; omega
  have z1 : (((sgn s).length + 2 : Nat) : Int) < (S.size : Int) := by rw [hs]; omega
  have z2 : (((sgn s).length : Nat) : Int) < (S.size : Int) := by rw [hs]; omega
  have z3 : (((sgn s).length + 1 : Nat) : Int) < (S.size : Int) := by rw [hs]; omega
  have n0 : (0 : Int) ≤ (((sgn s).length : Nat) : Int) := Int.natCast_nonneg _
  have n1 : (0 : Int) ≤ (((sgn s).length + 1 : Nat) : Int) := Int.natCast_nonneg _
  have fin : QH.strconv_readFloat.j0 (k + 3) S 0 0 s false false (((sgn s).length : Nat) : Int) false false = some R := by
    simp only [QH.strconv_readFloat.j0]
    rw [w2, if_pos z1, if_pos n0, if_pos z2, b0, if_pos rfl, w1, if_pos n1, if_pos z3, b1, hl, Option.bind_some]
    simp only [QH.strconv_readFloat.j1]
    rw [if_pos (by decide)]
    simp only [QH.strconv_readFloat.j2]
    rw [w2]
    exact hk
  unfold QH.strconv_readFloat.f
  rw [if_neg (Int.not_le.2 z0), if_pos z0, hfirst]
  cases s
  · rw [if_neg (by decide), if_neg (by decide)]; exact fin
  · rw [if_neg (by decide), if_pos (by decide)]; exact fin

theorem lin1 (a q : Nat) (h : a * 18446744073709551616 = q * 4096) : a * 4503599627370496 = q := by
  apply Nat.eq_of_mul_eq_mul_right (show 0 < 4096 by decide)
  rw [Nat.mul_assoc]
  exact h
theorem lin2 (a M q : Nat) (h : a * 4503599627370496 = q) (h2 : q ≤ M * 4503599627370496) : a ≤ M := by omega
theorem lin3 (a q : Nat) (h : a * 4503599627370496 = q) : a * 18014398509481984 = q * 4 := by
  rw [← h, Nat.mul_assoc]
theorem sw (M p c : Nat) : M * c * p = M * p * c := by rw [Nat.mul_assoc, Nat.mul_comm c, ← Nat.mul_assoc]
theorem ar1 (a M p : Nat) (h : a * 18446744073709551616 = M * 4096 * p) : a * 4503599627370496 = M * p := by
  have h2 := sw M p 4096
  rw [h2] at h
  exact lin1 a (M * p) h
theorem ar2 (a M p : Nat) (h : a * 4503599627370496 = M * p) (hp : p ≤ 4503599627370496) : a ≤ M :=
  lin2 a M (M * p) h (Nat.mul_le_mul_left _ hp)
theorem ar3 (a M p : Nat) (h : a * 4503599627370496 = M * p) : a * 18014398509481984 = M * 4 * p := by
  have h2 := sw M p 4
  rw [h2]
  exact lin3 a (M * p) h

theorem readFloat_x (s : Bool) (r : Nat) (h0 : r ≠ 0) (hf : r < 9218868437227405312) :
    ∃ (m len : Nat), m * 2 ^ (54 - 4 * len) = manT r * 4 ∧ len ≤ 13 ∧ m < 18446744073709551616 ∧
      ∃ k, QH.strconv_readFloat.f k (strOfNums (sgn s ++ (ahead (manT r * 256) ++ expd (expT r)))) = some ((m : Int), expT r - 4 * (len : Int), s, false, true, (((sgn s ++ (ahead (manT r * 256) ++ expd (expT r))).length : Nat) : Int), true) := by
  obtain ⟨b1, b2⟩ := expT_bd r h0 hf
  obtain ⟨s1, s2, s3⟩ := shf_is (sg r) (sg_ne r h0) (sg_lt r)
  have hM : manT r = sg r * 2 ^ shf (sg r) := rfl
  rw [← hM] at s2 s3
  generalize manT r = M at *
  generalize expT r = e at *
  have hsl := sgn_len s
  have hdl : (expd e).length ≤ 6 := by
    unfold expd decs
    simp only [List.length_cons]
    split
    · simp
    split
    · simp
    split <;> simp
  obtain ⟨X, hX⟩ : ∃ X, M * 256 * 16 % 18446744073709551616 = X := ⟨_, rfl⟩
  have hXv : 18446744073709551616 + X = M * 4096 := by omega
  have hXl : X < 18446744073709551616 := by omega
  have hz13 : X * 16 ^ 13 % 18446744073709551616 = 0 := by
    have : X = (M - 4503599627370496) * 4096 := by omega
    rw [this, Nat.mul_assoc, show 4096 * 16 ^ 13 = 18446744073709551616 by decide, Nat.mul_mod_left]
  have hlen := hx_short 13 16 X hXl hz13
  have hval := rd_val 16 1 X hXl (pow16 X)
  refine ⟨rd 1 16 X, (hx 16 X).length, ?_⟩
  have hpow : 16 ^ (hx 16 X).length ≤ 4503599627370496 := Nat.le_trans (Nat.pow_le_pow_right (by omega) hlen) (by decide)
  rw [Nat.one_mul, hXv] at hval
  have hval2 : rd 1 16 X * 4503599627370496 = M * 16 ^ (hx 16 X).length := ar1 _ _ _ hval
  have hrd : rd 1 16 X ≤ M := ar2 _ _ _ hval2 hpow
  have hrd0 : rd 1 16 X ≠ 0 := by
    intro c
    rw [c, Nat.zero_mul] at hval2
    have : 0 < M * 16 ^ (hx 16 X).length := Nat.mul_pos (by omega) (Nat.pow_pos (by omega))
    omega
  refine ⟨?_, hlen, by omega, ?_⟩
  · have e1 : 16 ^ (hx 16 X).length = 2 ^ (4 * (hx 16 X).length) := by rw [Nat.pow_mul]
    have e2 : 2 ^ (54 - 4 * (hx 16 X).length) * 2 ^ (4 * (hx 16 X).length) = 18014398509481984 := by rw [← Nat.pow_add, show 54 - 4 * (hx 16 X).length + 4 * (hx 16 X).length = 54 by omega]
    rw [e1] at hval2
    apply Nat.eq_of_mul_eq_mul_right (Nat.two_pow_pos (4 * (hx 16 X).length))
    rw [Nat.mul_assoc, e2]
    exact ar3 _ _ _ hval2
  · have hA : ahead (M * 256) = [48, 120, 49] ++ (if X = 0 then [] else 46 :: hx 16 X) := by unfold ahead; rw [hX]
    rw [hA]
    have hL : sgn s ++ ([48, 120, 49] ++ (if X = 0 then [] else 46 :: hx 16 X) ++ expd e) = sgn s ++ 48 :: 120 :: 49 :: ((if X = 0 then [] else 46 :: hx 16 X) ++ expd e) := by simp
    have hL1 : sgn s ++ 48 :: 120 :: 49 :: ((if X = 0 then [] else 46 :: hx 16 X) ++ expd e) = (sgn s ++ [48, 120]) ++ 49 :: ((if X = 0 then [] else 46 :: hx 16 X) ++ expd e) := by simp
    have hL2 : sgn s ++ 48 :: 120 :: 49 :: ((if X = 0 then [] else 46 :: hx 16 X) ++ expd e) = (sgn s ++ [48, 120, 49]) ++ ((if X = 0 then [] else 46 :: hx 16 X) ++ expd e) := by simp
    rw [hL]
    have hlt : ((if X = 0 then ([] : List Int) else 46 :: hx 16 X) ++ expd e).length < 1000 := by
      rw [List.length_append]; split
      · simp; omega
      · rw [List.length_cons]; omega
    refine pre_read s _ 49 (by omega) _ hlt ?_
    have hb := bt_in (sgn s ++ [48, 120]) ((if X = 0 then [] else 46 :: hx 16 X) ++ expd e) 49 (by omega) (by omega)
    rw [← hL1, List.length_append, show [48, (120 : Int)].length = 2 from rfl] at hb
    have hsz : (sgn s).length + 3 < (strOfNums (sgn s ++ 48 :: 120 :: 49 :: ((if X = 0 then [] else 46 :: hx 16 X) ++ expd e))).size := by
      rw [strOfNums_size, hL2, List.length_append, List.length_append, List.length_append, show [48, 120, (49 : Int)].length = 3 from rfl]
      have : 1 ≤ (expd e).length := by unfold expd; simp
      omega
    have hd1 : ∀ k, QH.strconv_readFloat.l0 (k + 5) (strOfNums (sgn s ++ 48 :: 120 :: 49 :: ((if X = 0 then [] else 46 :: hx 16 X) ++ expd e))) 0 0 s false true (((sgn s).length + 2 : Nat) : Int) false false 16 16 112 false false 0 0 0 =
        QH.strconv_readFloat.l0 k (strOfNums (sgn s ++ 48 :: 120 :: 49 :: ((if X = 0 then [] else 46 :: hx 16 X) ++ expd e))) ((1 : Nat) : Int) 0 s false true (((sgn s).length + 3 : Nat) : Int) false false 16 16 112 false true ((1 : Nat) : Int) ((1 : Nat) : Int) 0 := by
      intro k
      have := dig_x k (strOfNums (sgn s ++ 48 :: 120 :: 49 :: ((if X = 0 then [] else 46 :: hx 16 X) ++ expd e))) 0 ((sgn s).length + 2) 0 0 0 s false false 0 1 (by omega) (by omega) hb (by omega) (by omega) (by omega) (by omega) (by omega)
      exact this
    by_cases c : X = 0
    · subst c
      simp only [if_true, List.nil_append] at *
      rw [hx_zero] at *
      obtain ⟨k, hk⟩ := tail_read 1 1 s false 0 (sgn s ++ [48, 120, 49]) e (by omega) (by omega) (by simp) (by simp) (by omega) (by omega) (by simp; omega)
      refine ⟨k + 5, ?_⟩
      rw [hd1 k, hL2, show (((sgn s).length + 3 : Nat) : Int) = ((sgn s ++ [48, 120, 49]).length : Int) by simp, hk]
      have : rd 1 16 0 = 1 := rfl
      rw [this]
      simp
      omega
    · rw [if_neg c] at *
      have hL3 : sgn s ++ 48 :: 120 :: 49 :: ((46 :: hx 16 X) ++ expd e) = (sgn s ++ [48, 120, 49, 46]) ++ (hx 16 X ++ expd e) := by simp
      have hb2 := bt_in (sgn s ++ [48, 120, 49]) (hx 16 X ++ expd e) 46 (by omega) (by omega)
      rw [show (sgn s ++ [48, 120, 49]) ++ 46 :: (hx 16 X ++ expd e) = sgn s ++ 48 :: 120 :: 49 :: ((46 :: hx 16 X) ++ expd e) by simp, List.length_append, show [48, 120, (49 : Int)].length = 3 from rfl] at hb2
      have ht := tail_read (rd 1 16 X) (1 + (hx 16 X).length) s true 1 (sgn s ++ [48, 120, 49, 46] ++ hx 16 X) e hrd0 (by omega) (by simp) (by simp) (by omega) (by omega) (by simp; omega)
      have hh := hx_read s true 1 ((rd 1 16 X : Nat), e - 4 * ((hx 16 X).length : Int), s, false, true, (((sgn s ++ 48 :: 120 :: 49 :: ((46 :: hx 16 X) ++ expd e)).length : Nat) : Int), true) 16 1 X 1 (sgn s ++ [48, 120, 49, 46]) (expd e) hXl (by omega) (by omega) (by omega) (by simp; omega) (by
        obtain ⟨k, hk⟩ := ht
        refine ⟨k, ?_⟩
        have hl4 : (sgn s ++ [48, 120, 49, 46] ++ hx 16 X).length = (sgn s ++ [48, 120, 49, 46]).length + (hx 16 X).length := List.length_append
        rw [List.append_assoc, hl4] at hk
        rw [hk, hL3, show 4 + e - ((1 + (hx 16 X).length : Nat) : Int) * 4 = e - 4 * ((hx 16 X).length : Int) by omega])
      obtain ⟨k, hk⟩ := hh
      refine ⟨k + 3 + 5, ?_⟩
      rw [hd1 (k + 3), dot_x k _ _ 0 _ _ _ 0 s true (Int.natCast_nonneg _) (Int.ofNat_lt.2 hsz) hb2 (by omega)]
      rw [← hL3, List.length_append, show [48, 120, 49, (46 : Int)].length = 4 from rfl] at hk
      rw [show (((sgn s).length + 3 : Nat) : Int) + 1 = (((sgn s).length + 4 : Nat) : Int) by omega]
      exact hk
end Go.Proofs.YthifejhdmjoolaaGreatDoor.Pure

namespace Go.Proofs.YthifejhdmjoolaaGreatDoor.Pure
open Go.RowKit Go.Proofs.YthifejhdmjoolaaGreatDoorW.PrintWords Go.Proofs.YthifejhdmjoolaaGreatDoorW.PrintLast Go.Proofs.YthifejhdmjoolaaGreatDoorW.PrintMore
open Go.Proofs.YthifejhdmjoolaaGreatDoorG Go.Flo
set_option linter.unusedVariables false
set_option linter.unusedSimpArgs false

theorem special_x (s : Bool) (Q : List Int) (hQ : Q.length < 1000) : QS.strconv_special.f 5 (strOfNums (sgn s ++ 48 :: Q)) = some (0, 0, false) := by
  have hs : ((strOfNums (sgn s ++ 48 :: Q)).size : Int) = ((sgn s).length : Int) + 1 + (Q.length : Int) := by rw [strOfNums_size]; simp; omega
  unfold QS.strconv_special.f
  have z0 : (0 : Int) < ((strOfNums (sgn s ++ 48 :: Q)).size : Int) := by rw [hs]; omega
  rw [if_neg (by omega), if_pos z0]
  cases s
  · have b0 := bt_in [] Q 48 (by omega) (by omega)
    have b1 : bt (strOfNums (sgn false ++ 48 :: Q)) 0 = 48 := b0
    rw [b1, if_neg (by decide)]
    simp only [QS.strconv_special.j0]
    rw [if_neg (by decide), if_neg (by decide)]
    simp only [QS.strconv_special.j1]
    rw [if_neg (by decide), if_neg (by decide)]
    simp only [QS.strconv_special.j2]
    rw [if_neg (by decide)]
  · have b0 := bt_in [] (48 :: Q) 45 (by omega) (by omega)
    have b1 : bt (strOfNums (sgn true ++ 48 :: Q)) 0 = 45 := b0
    have hs2 : (sgn true).length = 1 := rfl
    rw [hs2] at hs
    rw [b1, if_neg (by decide)]
    simp only [QS.strconv_special.j0]
    rw [if_pos (by decide), if_pos z0, b1, if_pos rfl, if_pos (by omega)]
    have hcut : (strOfNums (sgn true ++ 48 :: Q)).extract 1 (strOfNums (sgn true ++ 48 :: Q)).size = strOfNums (48 :: Q) := by
      rw [str_cut, strOfNums_size]
      simp [sgn]
    rw [hcut]
    simp only [QS.strconv_special.j3]
    have c0 : bt (strOfNums (48 :: Q)) 0 = 48 := bt_in [] Q 48 (by omega) (by omega)
    have hs3 : ((strOfNums (48 :: Q)).size : Int) = 1 + (Q.length : Int) := by rw [strOfNums_size]; simp; omega
    have hc : QS.strconv_commonPrefixLenIgnoreCase.f 3 (strOfNums (48 :: Q)) ⟨#[105, 110, 102, 105, 110, 105, 116, 121]⟩ = some 0 := by
      unfold QS.strconv_commonPrefixLenIgnoreCase.f
      simp only [QS.strconv_commonPrefixLenIgnoreCase.l0]
      have h8 : (((⟨#[105, 110, 102, 105, 110, 105, 116, 121]⟩ : ByteArray)).size : Int) = 8 := by decide
      have hmn : 0 < mn (((⟨#[105, 110, 102, 105, 110, 105, 116, 121]⟩ : ByteArray)).size : Int) ((strOfNums (48 :: Q)).size : Int) := by
        unfold mn
        rw [h8, hs3]
        split <;> omega
      rw [if_pos hmn, if_pos (by decide), if_pos (by omega), c0, if_neg (by decide)]
      simp only [QS.strconv_commonPrefixLenIgnoreCase.j1]
      rw [if_neg (by decide), if_pos (by decide), h8, if_pos (by decide), if_neg (by decide)]
    rw [hc, Option.bind_some, if_neg (by decide)]
    simp only [QS.strconv_special.j4]
    rw [if_neg (by decide), if_neg (by decide), if_neg (by decide)]

theorem pf_num (s : Bool) (r : Nat) (h0 : r ≠ 0) (hf : r < 9218868437227405312) :
    ∃ k, QP.strconv_ParseFloat.f k (strOfNums (sgn s ++ (ahead (manT r * 256) ++ expd (expT r)))) 64 = some (r + (if s then 9223372036854775808 else 0), none) := by
  obtain ⟨m, len, hv, hl, hm, hread⟩ := readFloat_x s r h0 hf
  have hlen : (sgn s ++ (ahead (manT r * 256) ++ expd (expT r))).length < 900 := by
    have h1 := sgn_len s
    have h2 := ahead_len (manT r * 256)
    have hdl : (expd (expT r)).length ≤ 6 := by
      unfold expd decs
      simp only [List.length_cons]
      split
      · simp
      split
      · simp
      split <;> simp
    rw [List.length_append, List.length_append]
    omega
  have hsp : QS.strconv_special.f 5 (strOfNums (sgn s ++ (ahead (manT r * 256) ++ expd (expT r)))) = some (0, 0, false) := by
    have hA : ∃ Q, ahead (manT r * 256) ++ expd (expT r) = 48 :: Q := ⟨_, by unfold ahead; rw [List.append_assoc]; rfl⟩
    obtain ⟨Q, hA⟩ := hA
    rw [hA] at hlen ⊢
    exact special_x s Q (by rw [List.length_append, List.length_cons] at hlen; omega)
  have hsz : (strOfNums (sgn s ++ (ahead (manT r * 256) ++ expd (expT r)))).size = (sgn s ++ (ahead (manT r * 256) ++ expd (expT r))).length := strOfNums_size _
  generalize hL : sgn s ++ (ahead (manT r * 256) ++ expd (expT r)) = L at *
  obtain ⟨k2, h2⟩ := hread
  obtain ⟨b1, b2⟩ := expT_bd r h0 hf
  obtain ⟨k3, h3⟩ := atof_x s r h0 hf m (expT r - 4 * (len : Int)) (54 - 4 * len) ((strOfNums L).extract 0 ((L.length : Nat) : Int).toNat) hv (by omega) (by omega) hm
  refine ⟨max 5 (max k2 k3), ?_⟩
  have g1 := at_rounds (g := fun k => QS.strconv_special.f k (strOfNums L)) (fun k => QS.strconv_special.mono _ k) (Nat.le_max_left 5 (max k2 k3)) hsp
  have g2 := at_rounds (g := fun k => QH.strconv_readFloat.f k (strOfNums L)) (fun k => QH.strconv_readFloat.mono _ k) (Nat.le_trans (Nat.le_max_left k2 k3) (Nat.le_max_right 5 (max k2 k3))) h2
  have g3 := at_rounds (g := fun k => QX.strconv_atofHex.f k ((strOfNums L).extract 0 ((L.length : Nat) : Int).toNat) (m : Int) (expT r - 4 * (len : Int)) s false) (fun k => QX.strconv_atofHex.mono _ _ _ _ _ k) (Nat.le_trans (Nat.le_max_right k2 k3) (Nat.le_max_right 5 (max k2 k3))) h3
  generalize max 5 (max k2 k3) = K at *
  have e : QP.strconv_atof64.f K (strOfNums L) = some (r + (if s then 9223372036854775808 else 0), ((L.length : Nat) : Int), none) := by
    unfold QP.strconv_atof64.f strconv_special.f strconv_readFloat.f strconv_atofHex.f
    rw [g1, Option.bind_some, if_neg (by decide), g2, Option.bind_some, if_pos rfl, if_pos rfl, if_pos (Int.natCast_nonneg _), if_pos (by rw [hsz]; exact Int.le_refl _), g3, Option.bind_some]
  unfold QP.strconv_ParseFloat.f QP.strconv_parseFloatPrefix.f
  rw [if_neg (by decide), e, Option.bind_some, Option.bind_some, if_pos (by rw [hsz])]

theorem pf_zero (s : Bool) : ∃ k, QP.strconv_ParseFloat.f k (strOfNums (sgn s ++ [48, 120, 48, 112, 43, 48])) 64 = some ((if s then 9223372036854775808 else 0), none) := by
  refine ⟨40, ?_⟩
  cases s <;> decide +kernel

theorem pf_inf (s : Bool) : ∃ k, QP.strconv_ParseFloat.f k (strOfNums (sgn s ++ [105, 110, 102])) 64 = some (9218868437227405312 + (if s then 9223372036854775808 else 0), none) := by
  refine ⟨40, ?_⟩
  cases s <;> decide +kernel

theorem text_g (a : Nat) (ha : a < 18446744073709551616) : ∃ k, floats_Text.f k (a : Int) = some (strOfNums (txtL a)) := text_x a ha

theorem parse_back (a : Nat) (ha : a < 18446744073709551616) : ∃ k, floats_Parse.f k (strOfNums (txtL a)) = some (((canonN a : Nat) : Int), 0) := by
  have r1 : rung a = a % 9223372036854775808 := rfl
  have n1 : isNeg a = decide (9223372036854775808 ≤ a) := by
    unfold isNeg
    by_cases c : 9223372036854775808 ≤ a
    · rw [decide_eq_true c, show a / 9223372036854775808 = 1 by omega]; rfl
    · rw [decide_eq_false c, show a / 9223372036854775808 = 0 by omega]; rfl
  by_cases c1 : 9218868437227405312 < rung a
  · refine ⟨0, ?_⟩
    have hc : canonN a = 9221120237041090561 := if_pos c1
    rw [hc, show txtL a = [110, 97, 110] from if_pos c1]
    decide +kernel
  have hc : canonN a = a := if_neg c1
  rw [hc]
  have main : (∃ k, QP.strconv_ParseFloat.f k (strOfNums (txtL a)) 64 = some (a, none)) → (strOfNums (txtL a)).toList ≠ [110, 97, 110] → (txtL a).length < 1000 → ∃ k, floats_Parse.f k (strOfNums (txtL a)) = some ((a : Int), 0) := by
    intro h hn hl
    obtain ⟨k, g1, g2⟩ := together (g := fun k => QP.strconv_ParseFloat.f k (strOfNums (txtL a)) 64) (f := fun k => QT.floats_Text.f k (a : Int)) (fun k => QP.strconv_ParseFloat.mono _ _ k) (fun k => QT.floats_Text.mono _ k) h (text_x a ha)
    refine ⟨k, ?_⟩
    have hcI : canonI (a : Int) = (a : Int) := by rw [canonI_nat a ha, hc]
    unfold floats_Parse.f
    rw [if_neg hn, if_pos (by rw [strOfNums_size]; omega), g1, Option.bind_some]
    dsimp only
    rw [hcI, g2, Option.bind_some, if_pos rfl]
  have notnan : ∀ (s : Bool) (y : Int) (Q : List Int), y = 48 ∨ y = 105 → (strOfNums (sgn s ++ y :: Q)).toList ≠ [110, 97, 110] := by
    intro s y Q hy h
    rw [ByteArray.toList_eq, str_list] at h
    cases s <;> rcases hy with rfl | rfl <;> simp [sgn, bytes8] at h
  by_cases c2 : rung a = 9218868437227405312
  · have ht : txtL a = sgn (isNeg a) ++ [105, 110, 102] := by unfold txtL; rw [if_neg c1, if_pos c2]
    refine main ?_ (by rw [ht]; exact notnan _ 105 _ (.inr rfl)) (by rw [ht]; have := sgn_len (isNeg a); simp; omega)
    obtain ⟨k, hk⟩ := pf_inf (isNeg a)
    refine ⟨k, ?_⟩
    rw [ht, hk, n1]
    by_cases c : 9223372036854775808 ≤ a
    · rw [decide_eq_true c, if_pos rfl, show 9218868437227405312 + 9223372036854775808 = a by omega]
    · rw [decide_eq_false c, if_neg (by decide), show 9218868437227405312 + 0 = a by omega]
  by_cases c3 : rung a = 0
  · have ht : txtL a = sgn (isNeg a) ++ [48, 120, 48, 112, 43, 48] := by unfold txtL; rw [if_neg c1, if_neg c2, if_pos c3]
    refine main ?_ (by rw [ht]; exact notnan _ 48 _ (.inl rfl)) (by rw [ht]; have := sgn_len (isNeg a); simp; omega)
    obtain ⟨k, hk⟩ := pf_zero (isNeg a)
    refine ⟨k, ?_⟩
    rw [ht, hk, n1]
    by_cases c : 9223372036854775808 ≤ a
    · rw [decide_eq_true c, if_pos rfl, show 9223372036854775808 = a by omega]
    · rw [decide_eq_false c, if_neg (by decide), show 0 = a by omega]
  · have ht : txtL a = sgn (isNeg a) ++ (ahead (manT (rung a) * 256) ++ expd (expT (rung a))) := by unfold txtL; rw [if_neg c1, if_neg c2, if_neg c3]
    have hA : ∃ Q, ahead (manT (rung a) * 256) ++ expd (expT (rung a)) = 48 :: Q := ⟨_, by unfold ahead; rw [List.append_assoc]; rfl⟩
    obtain ⟨Q, hA⟩ := hA
    refine main ?_ (by rw [ht, hA]; exact notnan _ 48 _ (.inl rfl)) ?_
    · obtain ⟨k, hk⟩ := pf_num (isNeg a) (rung a) c3 (by omega)
      refine ⟨k, ?_⟩
      rw [ht, hk, n1]
      by_cases c : 9223372036854775808 ≤ a
      · rw [decide_eq_true c, if_pos rfl, show rung a + 9223372036854775808 = a by omega]
      · rw [decide_eq_false c, if_neg (by decide), show rung a + 0 = a by omega]
    · rw [ht]
      have h1 := sgn_len (isNeg a)
      have h2 := ahead_len (manT (rung a) * 256)
      have hdl : (expd (expT (rung a))).length ≤ 6 := by
        unfold expd decs
        simp only [List.length_cons]
        split
        · simp
        split
        · simp
        split <;> simp
      rw [List.length_append, List.length_append]
      omega
end Go.Proofs.YthifejhdmjoolaaGreatDoor.Pure
