/-
  The plain law: atofHex always answers.
-/
import Derived.Test.YthifejhdmjoolaaGreatDoorQX2
import Derived.Test.YthifejhdmjoolaaGreatDoorPureText
import Derived.Test.YthifejhdmjoolaaGreatDoorQH2
import Derived.Test.YthifejhdmjoolaaGreatDoorGivV
namespace Go.Proofs.YthifejhdmjoolaaGreatDoor.Pure
open Go.RowKit Go.Proofs.YthifejhdmjoolaaGreatDoorW.PrintWords Go.Proofs.YthifejhdmjoolaaGreatDoorW.PrintLast Go.Proofs.YthifejhdmjoolaaGreatDoorW.PrintMore
open Go.Proofs.YthifejhdmjoolaaGreatDoorG
set_option linter.unusedVariables false
set_option linter.unusedSimpArgs false

theorem or_range (a b : Int) : 0 ≤ Go.bits .or .u64 a b ∧ Go.bits .or .u64 a b < 18446744073709551616 := by
  show 0 ≤ IntKind.u64.wrap _ ∧ IntKind.u64.wrap _ < 18446744073709551616
  rw [IntKind.wrap_u64]
  omega
theorem and_one_int (a : Int) (h0 : 0 ≤ a) (h : a < 18446744073709551616) : Go.bits .and .u64 a 1 = a % 2 := by
  obtain ⟨n, rfl⟩ := Int.eq_ofNat_of_zero_le h0
  have e := u64_and_nat n 1 (by omega) (by omega)
  rw [show ((1 : Nat) : Int) = 1 from rfl] at e
  rw [e, show 1 = 2 ^ 1 - 1 from rfl, Nat.and_two_pow_sub_one_eq_mod]
  omega
/-- the half of a number, its last bit kept: smaller than the number -/
theorem sticky (a : Int) (h0 : 1 < a) (h : a < 18446744073709551616) : 0 ≤ Go.bits .or .u64 (a / 2) (Go.bits .and .u64 a 1) ∧ Go.bits .or .u64 (a / 2) (Go.bits .and .u64 a 1) < a := by
  refine ⟨(or_range _ _).1, ?_⟩
  rw [and_one_int a (by omega) h]
  obtain ⟨n, rfl⟩ := Int.eq_ofNat_of_zero_le (by omega : 0 ≤ a)
  rw [show ((n : Int) / 2) = ((n / 2 : Nat) : Int) by omega, show ((n : Int) % 2) = ((n % 2 : Nat) : Int) by omega, u64_or_nat _ _ (by omega) (by omega)]
  rcases Nat.mod_two_eq_zero_or_one n with c | c
  · rw [c, Nat.or_zero]; omega
  · rw [c]
    have e1 : (n / 2 ||| 1) / 2 = n / 2 / 2 := by rw [show (n / 2 ||| 1) / 2 = (n / 2 ||| 1) / 2 ^ 1 from rfl, Nat.or_div_two_pow]; simp
    omega

def AP (R : Nat × Option Int) : Prop := R.1 < 18446744073709551616 ∧ (R.2 = none ∨ R.2 = some 1)

theorem j8_tot (m e : Int) (s : Bool) (o : Option Int) (ho : o = none ∨ o = some 1) : ∃ R, QX.strconv_atofHex.j8 2 m e s o = some R ∧ AP R := by
  simp only [QX.strconv_atofHex.j8, QX.strconv_atofHex.j9]
  cases s
  · rw [if_neg (by simp)]
    refine ⟨_, rfl, ?_, ho⟩
    have := or_range (Go.bits .and .u64 m 4503599627370495) (IntKind.u64.wrap ((IntKind.u64.wrap (Go.bits .and .i64 (wrap64 (e - (-1023))) 2047)) * 4503599627370496))
    dsimp only
    omega
  · rw [if_pos rfl]
    refine ⟨_, rfl, ?_, ho⟩
    have := or_range (Go.bits .or .u64 (Go.bits .and .u64 m 4503599627370495) (IntKind.u64.wrap ((IntKind.u64.wrap (Go.bits .and .i64 (wrap64 (e - (-1023))) 2047)) * 4503599627370496))) 9223372036854775808
    dsimp only
    omega
theorem j7_tot (m e : Int) (s : Bool) : ∃ R, QX.strconv_atofHex.j7 3 m e s = some R ∧ AP R := by
  simp only [QX.strconv_atofHex.j7]
  split
  · exact j8_tot _ _ _ _ (.inr rfl)
  · exact j8_tot _ _ _ _ (.inl rfl)
theorem j6_tot (m e : Int) (s : Bool) : ∃ R, QX.strconv_atofHex.j6 4 m e s = some R ∧ AP R := by
  simp only [QX.strconv_atofHex.j6]
  split <;> exact j7_tot _ _ _
theorem j5_tot (m e : Int) (s : Bool) : ∃ R, QX.strconv_atofHex.j5 5 m e s = some R ∧ AP R := by
  simp only [QX.strconv_atofHex.j5]
  split
  · split <;> exact j6_tot _ _ _
  · exact j6_tot _ _ _

theorem l2_tot (s : Bool) (n : Nat) : ∀ (m e : Int), m < n → 0 ≤ m → m < 18446744073709551616 → ∃ k R, QX.strconv_atofHex.l2 k m e s = some R ∧ AP R := by
  induction n with
  | zero => intro m e h1 h2; omega
  | succ n ih =>
    intro m e h1 h2 h3
    by_cases c : m > 1
    · by_cases d : e < -1024
      · obtain ⟨t1, t2⟩ := sticky m (by omega) h3
        obtain ⟨k, R, hk, hR⟩ := ih (Go.bits .or .u64 (m / 2) (Go.bits .and .u64 m 1)) (wrap64 (e + 1)) (by omega) t1 (by omega)
        refine ⟨k + 1, R, ?_, hR⟩
        simp only [QX.strconv_atofHex.l2]
        rw [if_pos c, if_pos d]
        exact hk
      · obtain ⟨R, hk, hR⟩ := j5_tot m e s
        refine ⟨6, R, ?_, hR⟩
        simp only [QX.strconv_atofHex.l2]
        rw [if_pos c, if_neg d]
        exact hk
    · obtain ⟨R, hk, hR⟩ := j5_tot m e s
      refine ⟨6, R, ?_, hR⟩
      simp only [QX.strconv_atofHex.l2]
      rw [if_neg c]
      exact hk

theorem l1_tot (s : Bool) (n : Nat) : ∀ (m e : Int), m < n → 0 ≤ m → m < 18446744073709551616 → ∃ k R, QX.strconv_atofHex.l1 k m e s = some R ∧ AP R := by
  induction n with
  | zero => intro m e h1 h2; omega
  | succ n ih =>
    intro m e h1 h2 h3
    by_cases c : m / 36028797018963968 = 0
    · obtain ⟨k, R, hk, hR⟩ := l2_tot s (m.toNat + 1) m e (by omega) h2 h3
      refine ⟨k + 1, R, ?_, hR⟩
      simp only [QX.strconv_atofHex.l1]
      rw [if_pos c]
      exact hk
    · obtain ⟨t1, t2⟩ := sticky m (by omega) h3
      obtain ⟨k, R, hk, hR⟩ := ih (Go.bits .or .u64 (m / 2) (Go.bits .and .u64 m 1)) (wrap64 (e + 1)) (by omega) t1 (by omega)
      refine ⟨k + 1, R, ?_, hR⟩
      simp only [QX.strconv_atofHex.l1]
      rw [if_neg c]
      exact hk

theorem j1_tot (s t : Bool) (m e : Int) (h2 : 0 ≤ m) (h3 : m < 18446744073709551616) : ∃ k R, QX.strconv_atofHex.j1 k m e s t = some R ∧ AP R := by
  cases t
  · obtain ⟨k, R, hk, hR⟩ := l1_tot s (m.toNat + 1) m e (by omega) h2 h3
    refine ⟨k + 2, R, ?_, hR⟩
    simp only [QX.strconv_atofHex.j1]
    rw [if_neg (by simp)]
    simp only [QX.strconv_atofHex.j2]
    exact hk
  · obtain ⟨t1, t2⟩ := or_range m 1
    obtain ⟨k, R, hk, hR⟩ := l1_tot s ((Go.bits .or .u64 m 1).toNat + 1) (Go.bits .or .u64 m 1) e (by omega) t1 t2
    refine ⟨k + 2, R, ?_, hR⟩
    simp only [QX.strconv_atofHex.j1]
    rw [if_pos trivial]
    simp only [QX.strconv_atofHex.j2]
    exact hk

theorem l0_tot (s t : Bool) (n : Nat) : ∀ (m e : Int), 18014398509481984 - m < n → 0 ≤ m → m < 18446744073709551616 → ∃ k R, QX.strconv_atofHex.l0 k m e s t = some R ∧ AP R := by
  induction n with
  | zero =>
    intro m e h1 h2 h3
    obtain ⟨k, R, hk, hR⟩ := j1_tot s t m e h2 h3
    refine ⟨k + 1, R, ?_, hR⟩
    simp only [QX.strconv_atofHex.l0]
    rw [if_neg (by omega), if_neg (by omega)]
    exact hk
  | succ n ih =>
    intro m e h1 h2 h3
    by_cases z : m = 0
    · obtain ⟨k, R, hk, hR⟩ := j1_tot s t m e h2 h3
      refine ⟨k + 1, R, ?_, hR⟩
      simp only [QX.strconv_atofHex.l0]
      rw [if_pos z]
      exact hk
    by_cases c : m / 18014398509481984 = 0
    · have w : IntKind.u64.wrap (m * 2) = m * 2 := by rw [IntKind.wrap_u64]; omega
      obtain ⟨k, R, hk, hR⟩ := ih (m * 2) (wrap64 (e - 1)) (by omega) (by omega) (by omega)
      refine ⟨k + 1, R, ?_, hR⟩
      simp only [QX.strconv_atofHex.l0]
      rw [if_neg z, if_pos c, w]
      exact hk
    · obtain ⟨k, R, hk, hR⟩ := j1_tot s t m e h2 h3
      refine ⟨k + 1, R, ?_, hR⟩
      simp only [QX.strconv_atofHex.l0]
      rw [if_neg z, if_neg c]
      exact hk

theorem atof_tot (a0 : ByteArray) (m e : Int) (s t : Bool) (h2 : 0 ≤ m) (h3 : m < 18446744073709551616) : ∃ k R, QX.strconv_atofHex.f k a0 m e s t = some R ∧ AP R := by
  unfold QX.strconv_atofHex.f
  exact l0_tot s t (18014398509481985) m _ (by omega) h2 h3
end Go.Proofs.YthifejhdmjoolaaGreatDoor.Pure

namespace Go.Proofs.YthifejhdmjoolaaGreatDoor.Pure
open Go.RowKit Go.Proofs.YthifejhdmjoolaaGreatDoorW.PrintWords Go.Proofs.YthifejhdmjoolaaGreatDoorW.PrintLast Go.Proofs.YthifejhdmjoolaaGreatDoorW.PrintMore
open Go.Proofs.YthifejhdmjoolaaGreatDoorG
set_option linter.unusedVariables false
set_option linter.unusedSimpArgs false

/-- what readFloat's answer keeps -/
def RP (S : ByteArray) (R : Int × Int × Bool × Bool × Bool × Int × Bool) : Prop :=
  0 ≤ R.1 ∧ R.1 < 18446744073709551616 ∧ R.2.2.2.2.1 = true ∧ 0 ≤ R.2.2.2.2.2.1 ∧ R.2.2.2.2.2.1 ≤ S.size
/-- a text that the lexer hands over -/
structure Txt (S : ByteArray) : Prop where
  size : S.size ≤ 100000
  plain : ∀ i : Int, 0 ≤ i → i < S.size → bt S i ≠ 95

theorem j17_tot (k : Nat) (S : ByteArray) (m x3 pos x16 x17 : Int) (s t x8 : Bool) (hm : 0 ≤ m) (hm2 : m < 18446744073709551616) (h0 : 0 ≤ pos) (h1 : pos ≤ S.size) :
    ∃ R, QH.strconv_readFloat.j17 (k + 1) S m x3 s t true pos x8 false x16 x17 = some R ∧ RP S R := by
  simp only [QH.strconv_readFloat.j17]
  split
  · rw [if_neg (by simp)]; exact ⟨_, rfl, hm, hm2, rfl, h0, h1⟩
  · rw [if_neg (by simp)]; exact ⟨_, rfl, hm, hm2, rfl, h0, h1⟩

theorem l1_tot2 (S : ByteArray) (hS : Txt S) (m x3 x16 x17 x19 : Int) (s t x8 : Bool) (hm : 0 ≤ m) (hm2 : m < 18446744073709551616) (n : Nat) : ∀ (pos x20 : Int), (S.size : Int) - pos < n → 0 ≤ pos → pos ≤ S.size →
    ∃ k R, QH.strconv_readFloat.l1 k S m x3 s t true pos x8 false x16 x17 x19 x20 = some R ∧ RP S R := by
  induction n with
  | zero => intro pos x20 h1 h2 h3; omega
  | succ n ih =>
    intro pos x20 h1 h2 h3
    have hsz := hS.size
    obtain ⟨R0, e0, hR0⟩ := j17_tot 0 S m x3 pos x16 (wrap64 (x17 + (wrap64 (x20 * x19)))) s t x8 hm hm2 h2 h3
    have stop : ∃ k R, QH.strconv_readFloat.j16 k S m x3 s t true pos x8 false x16 x17 x19 x20 false = some R ∧ RP S R := by
      refine ⟨2, R0, ?_, hR0⟩
      simp only [QH.strconv_readFloat.j16]
      rw [if_neg (by simp)]
      exact e0
    by_cases c : pos < S.size
    · have hp := hS.plain pos h2 c
      have w : wrap64 (pos + 1) = pos + 1 := by unfold wrap64; omega
      have go : ∃ k R, QH.strconv_readFloat.j16 k S m x3 s t true pos x8 false x16 x17 x19 x20 true = some R ∧ RP S R := by
        by_cases d : x20 < 10000
        · obtain ⟨k, R, hk, hR⟩ := ih (pos + 1) (wrap64 ((wrap64 ((wrap64 (x20 * 10)) + (wrap64 (bt S pos)))) - 48)) (by omega) (by omega) (by omega)
          refine ⟨k + 1, R, ?_, hR⟩
          simp only [QH.strconv_readFloat.j16]
          rw [if_pos trivial, if_pos h2, if_pos c, if_neg hp, if_pos d, w]
          exact hk
        · obtain ⟨k, R, hk, hR⟩ := ih (pos + 1) x20 (by omega) (by omega) (by omega)
          refine ⟨k + 1, R, ?_, hR⟩
          simp only [QH.strconv_readFloat.j16]
          rw [if_pos trivial, if_pos h2, if_pos c, if_neg hp, if_neg d, w]
          exact hk
      have hb : (bt S pos == 95) = false := beq_eq_false_iff_ne.mpr hp
      by_cases d1 : 48 ≤ bt S pos
      · by_cases d2 : bt S pos ≤ 57
        · obtain ⟨k, R, hk, hR⟩ := go
          refine ⟨k + 1, R, ?_, hR⟩
          simp only [QH.strconv_readFloat.l1]
          rw [if_pos c, if_pos h2, if_pos d1, if_pos d2]
          exact hk
        · obtain ⟨k, R, hk, hR⟩ := stop
          refine ⟨k + 1, R, ?_, hR⟩
          simp only [QH.strconv_readFloat.l1]
          rw [if_pos c, if_pos h2, if_pos d1, if_neg d2, hb]
          exact hk
      · obtain ⟨k, R, hk, hR⟩ := stop
        refine ⟨k + 1, R, ?_, hR⟩
        simp only [QH.strconv_readFloat.l1]
        rw [if_pos c, if_pos h2, if_neg d1, hb]
        exact hk
    · obtain ⟨k, R, hk, hR⟩ := stop
      refine ⟨k + 1, R, ?_, hR⟩
      simp only [QH.strconv_readFloat.l1]
      rw [if_neg c]
      exact hk

theorem j14_tot (S : ByteArray) (hS : Txt S) (m x3 x16 x17 x19 pos : Int) (s t x8 b : Bool) (hm : 0 ≤ m) (hm2 : m < 18446744073709551616) (h0 : 0 ≤ pos) (h1 : pos ≤ S.size) :
    ∃ k R, QH.strconv_readFloat.j14 k S m x3 s t true pos x8 false x16 x17 x19 b = some R ∧ RP S R := by
  cases b
  · obtain ⟨k, R, hk, hR⟩ := l1_tot2 S hS m x3 x16 x17 x19 s t x8 hm hm2 (S.size + 1) pos 0 (by omega) h0 h1
    refine ⟨k + 1, R, ?_, hR⟩
    simp only [QH.strconv_readFloat.j14]
    rw [if_neg (by simp)]
    exact hk
  · refine ⟨1, _, by simp only [QH.strconv_readFloat.j14]; rw [if_pos trivial], hm, hm2, rfl, h0, h1⟩

theorem j13_tot (S : ByteArray) (hS : Txt S) (m x3 x16 x17 x19 pos : Int) (s t x8 : Bool) (hm : 0 ≤ m) (hm2 : m < 18446744073709551616) (h0 : 0 ≤ pos) (h1 : pos ≤ S.size) :
    ∃ k R, QH.strconv_readFloat.j13 k S m x3 s t true pos x8 false x16 x17 x19 = some R ∧ RP S R := by
  have J := fun b => j14_tot S hS m x3 x16 x17 x19 pos s t x8 b hm hm2 h0 h1
  by_cases c : pos ≥ S.size
  · obtain ⟨k, R, hk, hR⟩ := J true
    refine ⟨k + 1, R, ?_, hR⟩
    simp only [QH.strconv_readFloat.j13]
    rw [if_pos c]
    exact hk
  · by_cases d : bt S pos < 48
    · obtain ⟨k, R, hk, hR⟩ := J true
      refine ⟨k + 1, R, ?_, hR⟩
      simp only [QH.strconv_readFloat.j13]
      rw [if_neg c, if_pos h0, if_pos (by omega), if_pos d]
      exact hk
    · obtain ⟨k, R, hk, hR⟩ := J (decide (bt S pos > 57))
      refine ⟨k + 1, R, ?_, hR⟩
      simp only [QH.strconv_readFloat.j13]
      rw [if_neg c, if_pos h0, if_pos (by omega), if_neg d]
      exact hk

theorem j12_tot (S : ByteArray) (hS : Txt S) (m x3 x16 x17 pos : Int) (s t x8 b : Bool) (hm : 0 ≤ m) (hm2 : m < 18446744073709551616) (h0 : 0 ≤ pos) (h1 : pos ≤ S.size) (hb : b = true → pos < S.size) :
    ∃ k R, QH.strconv_readFloat.j12 k S m x3 s t true pos x8 false 16 x16 x17 b = some R ∧ RP S R := by
  have hsz := hS.size
  cases b
  · refine ⟨1, _, by simp only [QH.strconv_readFloat.j12]; rw [if_neg (by simp), if_pos trivial], hm, hm2, rfl, h0, h1⟩
  · have hb := hb rfl
    have w : wrap64 (pos + 1) = pos + 1 := by unfold wrap64; omega
    have w2 : wrap64 (pos + 1 + 1) = pos + 2 := by unfold wrap64; omega
    by_cases c : pos + 1 ≥ S.size
    · refine ⟨1, _, by simp only [QH.strconv_readFloat.j12]; rw [if_pos trivial, w, if_pos c], hm, hm2, rfl, ?_, ?_⟩
      · dsimp only; omega
      · dsimp only; omega
    · by_cases d : bt S (pos + 1) = 43
      · obtain ⟨k, R, hk, hR⟩ := j13_tot S hS m x3 x16 x17 1 (pos + 2) s t x8 hm hm2 (by omega) (by omega)
        refine ⟨k + 1, R, ?_, hR⟩
        simp only [QH.strconv_readFloat.j12]
        rw [if_pos trivial, w, if_neg c, if_pos (by omega), if_pos (by omega), if_pos d, w2]
        exact hk
      · by_cases d2 : bt S (pos + 1) = 45
        · obtain ⟨k, R, hk, hR⟩ := j13_tot S hS m x3 x16 x17 (-1) (pos + 2) s t x8 hm hm2 (by omega) (by omega)
          refine ⟨k + 1, R, ?_, hR⟩
          simp only [QH.strconv_readFloat.j12]
          rw [if_pos trivial, w, if_neg c, if_pos (by omega), if_pos (by omega), if_neg d, if_pos d2, w2]
          exact hk
        · obtain ⟨k, R, hk, hR⟩ := j13_tot S hS m x3 x16 x17 1 (pos + 1) s t x8 hm hm2 (by omega) (by omega)
          refine ⟨k + 1, R, ?_, hR⟩
          simp only [QH.strconv_readFloat.j12]
          rw [if_pos trivial, w, if_neg c, if_pos (by omega), if_pos (by omega), if_neg d, if_neg d2]
          exact hk
end Go.Proofs.YthifejhdmjoolaaGreatDoor.Pure

namespace Go.Proofs.YthifejhdmjoolaaGreatDoor.Pure
open Go.RowKit Go.Proofs.YthifejhdmjoolaaGreatDoorW.PrintWords Go.Proofs.YthifejhdmjoolaaGreatDoorW.PrintLast Go.Proofs.YthifejhdmjoolaaGreatDoorW.PrintMore
open Go.Proofs.YthifejhdmjoolaaGreatDoorG
set_option linter.unusedVariables false
set_option linter.unusedSimpArgs false

theorem j11_tot (S : ByteArray) (hS : Txt S) (m x3 x12 x16 x17 pos : Int) (s t x8 : Bool) (hm : 0 ≤ m) (hm2 : m < 18446744073709551616) (h0 : 0 ≤ pos) (h1 : pos ≤ S.size) :
    ∃ k R, QH.strconv_readFloat.j11 k S m x3 s t true pos x8 false 16 x12 x16 x17 = some R ∧ RP S R := by
  by_cases c : pos < S.size
  · have hl : QH.strconv_lower.f (bt S pos) = some (Go.bits .or .u8 (bt S pos) 32) := rfl
    obtain ⟨k, R, hk, hR⟩ := j12_tot S hS m x3 x16 x17 pos s t x8 (Go.bits .or .u8 (bt S pos) 32 == x12) hm hm2 h0 h1 (fun _ => c)
    refine ⟨k + 1, R, ?_, hR⟩
    simp only [QH.strconv_readFloat.j11]
    rw [if_pos c, if_pos h0, hl, Option.bind_some]
    exact hk
  · obtain ⟨k, R, hk, hR⟩ := j12_tot S hS m x3 x16 x17 pos s t x8 false hm hm2 h0 h1 (fun h => by cases h)
    refine ⟨k + 1, R, ?_, hR⟩
    simp only [QH.strconv_readFloat.j11]
    rw [if_neg c]
    exact hk

theorem j9_tot (S : ByteArray) (hS : Txt S) (m x3 x12 x15 x16 x17 pos : Int) (s t x8 x13 x14 : Bool) (hm : 0 ≤ m) (hm2 : m < 18446744073709551616) (h0 : 0 ≤ pos) (h1 : pos ≤ S.size) :
    ∃ k R, QH.strconv_readFloat.j9 k S m x3 s t true pos x8 false 16 x12 x13 x14 x15 x16 x17 = some R ∧ RP S R := by
  have J10 : ∀ y, ∃ k R, QH.strconv_readFloat.j10 k S m x3 s t true pos x8 false 16 x12 x16 y = some R ∧ RP S R := by
    intro y
    obtain ⟨k, R, hk, hR⟩ := j11_tot S hS m x3 x12 (wrap64 (x16 * 4)) (wrap64 (y * 4)) pos s t x8 hm hm2 h0 h1
    refine ⟨k + 1, R, ?_, hR⟩
    simp only [QH.strconv_readFloat.j10]
    rw [if_pos trivial]
    exact hk
  cases x14
  · refine ⟨1, _, by simp only [QH.strconv_readFloat.j9]; rw [if_neg (by simp)], hm, hm2, rfl, h0, h1⟩
  · cases x13
    · obtain ⟨k, R, hk, hR⟩ := J10 x15
      refine ⟨k + 1, R, ?_, hR⟩
      simp only [QH.strconv_readFloat.j9]
      rw [if_pos trivial, if_neg (by simp)]
      exact hk
    · obtain ⟨k, R, hk, hR⟩ := J10 x17
      refine ⟨k + 1, R, ?_, hR⟩
      simp only [QH.strconv_readFloat.j9]
      rw [if_pos trivial, if_pos trivial]
      exact hk

theorem wrap_range (x : Int) : 0 ≤ IntKind.u64.wrap x ∧ IntKind.u64.wrap x < 18446744073709551616 := by rw [IntKind.wrap_u64]; omega

theorem l0_tot2 (S : ByteArray) (hS : Txt S) (x3 : Int) (s x8 : Bool) (n : Nat) : ∀ (m pos x11 x12 x15 x16 x17 : Int) (t x13 x14 : Bool), (S.size : Int) - pos < n → 0 ≤ m → m < 18446744073709551616 → 0 ≤ pos → pos ≤ S.size →
    ∃ k R, QH.strconv_readFloat.l0 k S m x3 s t true pos x8 false 16 x11 x12 x13 x14 x15 x16 x17 = some R ∧ RP S R := by
  induction n with
  | zero => intro m pos x11 x12 x15 x16 x17 t x13 x14 h1 hm hm2 h2 h3; omega
  | succ n ih =>
    intro m pos x11 x12 x15 x16 x17 t x13 x14 h1 hm hm2 h2 h3
    have hsz := hS.size
    have J9 := fun x13 x14 x15 x16 x17 => j9_tot S hS m x3 x12 x15 x16 x17 pos s t x8 x13 x14 hm hm2 h2 h3
    by_cases c : pos < S.size
    · have hp := hS.plain pos h2 c
      have w : wrap64 (pos + 1) = pos + 1 := by unfold wrap64; omega
      generalize hy : bt S pos = y at hp
      have I := fun m x15 x16 x17 t x13 x14 (hm : 0 ≤ m) (hm2 : m < 18446744073709551616) => ih m (pos + 1) x11 x12 x15 x16 x17 t x13 x14 (by omega) hm hm2 (by omega) (by omega)
      have J8 : ∀ b, ∃ k R, QH.strconv_readFloat.j8 k S m x3 s t true pos x8 false 16 x11 x12 x13 x14 x15 x16 x17 y b = some R ∧ RP S R := by
        intro b
        cases b
        · obtain ⟨k, R, hk, hR⟩ := J9 x13 x14 x15 x16 x17
          refine ⟨k + 1, R, ?_, hR⟩
          simp only [QH.strconv_readFloat.j8]
          rw [if_neg (by simp)]
          exact hk
        · have hl : QH.strconv_lower.f y = some (Go.bits .or .u8 y 32) := rfl
          by_cases d : x16 < x11
          · obtain ⟨k, R, hk, hR⟩ := I (IntKind.u64.wrap ((IntKind.u64.wrap (m * 16)) + ((((Go.bits .or .u8 y 32 - 97) % 256) + 10) % 256))) (wrap64 (x15 + 1)) (wrap64 (x16 + 1)) x17 t x13 true (wrap_range _).1 (wrap_range _).2
            refine ⟨k + 1, R, ?_, hR⟩
            simp only [QH.strconv_readFloat.j8]
            rw [if_pos trivial, if_pos d, hl, Option.bind_some, w]
            exact hk
          · obtain ⟨k, R, hk, hR⟩ := I m (wrap64 (x15 + 1)) x16 x17 true x13 true hm hm2
            refine ⟨k + 1, R, ?_, hR⟩
            simp only [QH.strconv_readFloat.j8]
            rw [if_pos trivial, if_neg d, w]
            exact hk
      have J7 : ∀ b, ∃ k R, QH.strconv_readFloat.j7 k S m x3 s t true pos x8 false 16 x11 x12 x13 true x15 x16 x17 y b = some R ∧ RP S R := by
        intro b
        cases b
        · by_cases d : x16 < x11
          · obtain ⟨k, R, hk, hR⟩ := I (IntKind.u64.wrap ((IntKind.u64.wrap (m * 16)) + ((y - 48) % 256))) (wrap64 (x15 + 1)) (wrap64 (x16 + 1)) x17 t x13 true (wrap_range _).1 (wrap_range _).2
            refine ⟨k + 1, R, ?_, hR⟩
            simp only [QH.strconv_readFloat.j7]
            rw [if_neg (by simp), if_pos d, w]
            exact hk
          · by_cases z : y = 48
            · obtain ⟨k, R, hk, hR⟩ := I m (wrap64 (x15 + 1)) x16 x17 t x13 true hm hm2
              refine ⟨k + 1, R, ?_, hR⟩
              simp only [QH.strconv_readFloat.j7]
              rw [if_neg (by simp), if_neg d, if_pos z, w]
              exact hk
            · obtain ⟨k, R, hk, hR⟩ := I m (wrap64 (x15 + 1)) x16 x17 true x13 true hm hm2
              refine ⟨k + 1, R, ?_, hR⟩
              simp only [QH.strconv_readFloat.j7]
              rw [if_neg (by simp), if_neg d, if_neg z, w]
              exact hk
        · obtain ⟨k, R, hk, hR⟩ := I m x15 x16 (wrap64 (x17 - 1)) t x13 true hm hm2
          refine ⟨k + 1, R, ?_, hR⟩
          simp only [QH.strconv_readFloat.j7]
          rw [if_pos trivial, w]
          exact hk
      have J6 : ∀ b, ∃ k R, QH.strconv_readFloat.j6 k S m x3 s t true pos x8 false 16 x11 x12 x13 x14 x15 x16 x17 y b = some R ∧ RP S R := by
        intro b
        cases b
        · have hl : QH.strconv_lower.f y = some (Go.bits .or .u8 y 32) := rfl
          by_cases d : 97 ≤ Go.bits .or .u8 y 32
          · by_cases d2 : Go.bits .or .u8 y 32 ≤ 102
            · obtain ⟨k, R, hk, hR⟩ := J8 true
              refine ⟨k + 1, R, ?_, hR⟩
              simp only [QH.strconv_readFloat.j6]
              rw [if_neg (by simp), if_pos trivial, hl, Option.bind_some, if_pos d, Option.bind_some, if_pos d2]
              exact hk
            · obtain ⟨k, R, hk, hR⟩ := J8 false
              refine ⟨k + 1, R, ?_, hR⟩
              simp only [QH.strconv_readFloat.j6]
              rw [if_neg (by simp), if_pos trivial, hl, Option.bind_some, if_pos d, Option.bind_some, if_neg d2]
              exact hk
          · obtain ⟨k, R, hk, hR⟩ := J8 false
            refine ⟨k + 1, R, ?_, hR⟩
            simp only [QH.strconv_readFloat.j6]
            rw [if_neg (by simp), if_pos trivial, hl, Option.bind_some, if_neg d]
            exact hk
        · by_cases z : y = 48
          · obtain ⟨k, R, hk, hR⟩ := J7 (x15 == 0)
            refine ⟨k + 1, R, ?_, hR⟩
            simp only [QH.strconv_readFloat.j6]
            rw [if_pos trivial, if_pos z]
            exact hk
          · obtain ⟨k, R, hk, hR⟩ := J7 false
            refine ⟨k + 1, R, ?_, hR⟩
            simp only [QH.strconv_readFloat.j6]
            rw [if_pos trivial, if_neg z]
            exact hk
      have J5 : ∀ b, ∃ k R, QH.strconv_readFloat.j5 k S m x3 s t true pos x8 false 16 x11 x12 x13 x14 x15 x16 x17 y b = some R ∧ RP S R := by
        intro b
        cases b
        · by_cases d : 48 ≤ y
          · by_cases d2 : y ≤ 57
            · obtain ⟨k, R, hk, hR⟩ := J6 true
              refine ⟨k + 1, R, ?_, hR⟩
              simp only [QH.strconv_readFloat.j5]
              rw [if_neg (by simp), if_pos d, if_pos d2]
              exact hk
            · obtain ⟨k, R, hk, hR⟩ := J6 false
              refine ⟨k + 1, R, ?_, hR⟩
              simp only [QH.strconv_readFloat.j5]
              rw [if_neg (by simp), if_pos d, if_neg d2]
              exact hk
          · obtain ⟨k, R, hk, hR⟩ := J6 false
            refine ⟨k + 1, R, ?_, hR⟩
            simp only [QH.strconv_readFloat.j5]
            rw [if_neg (by simp), if_neg d]
            exact hk
        · cases x13
          · obtain ⟨k, R, hk, hR⟩ := I m x15 x16 x15 t true x14 hm hm2
            refine ⟨k + 1, R, ?_, hR⟩
            simp only [QH.strconv_readFloat.j5]
            rw [if_pos trivial, if_neg (by simp), w]
            exact hk
          · obtain ⟨k, R, hk, hR⟩ := J9 true x14 x15 x16 x17
            refine ⟨k + 1, R, ?_, hR⟩
            simp only [QH.strconv_readFloat.j5]
            rw [if_pos trivial, if_pos trivial]
            exact hk
      by_cases z : y = 46
      · obtain ⟨k, R, hk, hR⟩ := J5 true
        refine ⟨k + 2, R, ?_, hR⟩
        simp only [QH.strconv_readFloat.l0]
        rw [if_pos c, if_pos h2, hy, if_neg hp]
        simp only [QH.strconv_readFloat.j4]
        rw [if_neg (by simp), if_pos z]
        exact hk
      · obtain ⟨k, R, hk, hR⟩ := J5 false
        refine ⟨k + 2, R, ?_, hR⟩
        simp only [QH.strconv_readFloat.l0]
        rw [if_pos c, if_pos h2, hy, if_neg hp]
        simp only [QH.strconv_readFloat.j4]
        rw [if_neg (by simp), if_neg z]
        exact hk
    · obtain ⟨k, R, hk, hR⟩ := J9 x13 x14 x15 x16 x17
      refine ⟨k + 1, R, ?_, hR⟩
      simp only [QH.strconv_readFloat.l0]
      rw [if_neg c]
      exact hk
end Go.Proofs.YthifejhdmjoolaaGreatDoor.Pure

namespace Go.Proofs.YthifejhdmjoolaaGreatDoor.Pure
open Go.RowKit Go.Proofs.YthifejhdmjoolaaGreatDoorW.PrintWords Go.Proofs.YthifejhdmjoolaaGreatDoorW.PrintLast Go.Proofs.YthifejhdmjoolaaGreatDoorW.PrintMore
open Go.Proofs.YthifejhdmjoolaaGreatDoorG
set_option linter.unusedVariables false
set_option linter.unusedSimpArgs false

theorem readFloat_tot (S : ByteArray) (hS : Txt S) (h2 : 2 < S.size) (b0 : bt S 0 = 48) (b1 : bt S 1 = 120) : ∃ k R, QH.strconv_readFloat.f k S = some R ∧ RP S R := by
  obtain ⟨k, R, hk, hR⟩ := l0_tot2 S hS 0 false false (S.size + 1) 0 2 16 112 0 0 0 false false false (by omega) (by omega) (by omega) (by omega) (by omega)
  have hl : QH.strconv_lower.f 120 = some 120 := by decide +kernel
  have w2 : wrap64 (0 + 2) = 2 := by unfold wrap64; omega
  have w1 : wrap64 (0 + 1) = 1 := by unfold wrap64; omega
  refine ⟨k + 3, R, ?_, hR⟩
  unfold QH.strconv_readFloat.f
  rw [if_neg (by omega), if_pos (by omega), b0, if_neg (by decide), if_neg (by decide)]
  simp only [QH.strconv_readFloat.j0]
  rw [w2, w1, if_pos (by omega), if_pos (by omega), if_pos (by omega), b0, if_pos rfl, if_pos (by omega), if_pos (by omega), b1, hl, Option.bind_some]
  simp only [QH.strconv_readFloat.j1]
  rw [if_pos (by decide)]
  simp only [QH.strconv_readFloat.j2]
  rw [w2]
  exact hk
end Go.Proofs.YthifejhdmjoolaaGreatDoor.Pure

namespace Go.Proofs.YthifejhdmjoolaaGreatDoor.Pure
open Go.RowKit Go.Proofs.YthifejhdmjoolaaGreatDoorW.PrintWords Go.Proofs.YthifejhdmjoolaaGreatDoorW.PrintLast Go.Proofs.YthifejhdmjoolaaGreatDoorW.PrintMore
open Go.Proofs.YthifejhdmjoolaaGreatDoorG Go.Flo
set_option linter.unusedVariables false
set_option linter.unusedSimpArgs false

theorem special_48 (S : ByteArray) (k : Nat) (h : 0 < S.size) (b0 : bt S 0 = 48) : strconv_special.f k S = some (0, 0, false) := if_pos ⟨h, b0⟩

theorem canonI_lt (r : Nat) (h : r < 18446744073709551616) : ∃ a : Nat, canonI (r : Int) = (a : Int) ∧ a < 18446744073709551616 := by
  rw [canonI_nat r h]
  refine ⟨_, rfl, ?_⟩
  unfold canonN
  split <;> omega

theorem pf_tot (S : ByteArray) (hS : Txt S) (h2 : 2 < S.size) (b0 : bt S 0 = 48) (b1 : bt S 1 = 120) :
    ∃ k r o, QP.strconv_ParseFloat.f k S 64 = some (r, o) ∧ r < 18446744073709551616 ∧ (o = none ∨ o = some 1 ∨ o = some 2) := by
  obtain ⟨k2, ⟨m, e, s, t, x, n, ok⟩, h2', g1, g2, g3, g4, g5⟩ := readFloat_tot S hS h2 b0 b1
  dsimp only at g1 g2 g3 g4 g5
  subst g3
  have hsp := fun k => special_48 S k (by omega) b0
  cases ok
  · refine ⟨max 5 k2, 0, some 2, ?_⟩
    have f1 := hsp (max 5 k2)
    have f2 := at_rounds (g := fun k => QH.strconv_readFloat.f k S) (fun k => QH.strconv_readFloat.mono _ k) (Nat.le_max_right 5 k2) h2'
    generalize max 5 k2 = K at *
    have e : QP.strconv_atof64.f K S = some (0, n, some 2) := by
      unfold QP.strconv_atof64.f strconv_readFloat.f
      rw [f1, Option.bind_some, if_neg (by decide), f2, Option.bind_some, if_neg (show ¬ (false = true) by decide)]
    unfold QP.strconv_ParseFloat.f QP.strconv_parseFloatPrefix.f
    rw [if_neg (by decide), e, Option.bind_some, Option.bind_some]
    refine ⟨?_, by decide, .inr (.inr rfl)⟩
    dsimp only
    split <;> rfl
  · obtain ⟨k3, ⟨r, o⟩, h3, h3r, h3o⟩ := atof_tot (S.extract 0 n.toNat) m e s t g1 g2
    dsimp only at h3r h3o
    have f1 := hsp (max 5 (max k2 k3))
    have f2 := at_rounds (g := fun k => QH.strconv_readFloat.f k S) (fun k => QH.strconv_readFloat.mono _ k) (Nat.le_trans (Nat.le_max_left k2 k3) (Nat.le_max_right 5 (max k2 k3))) h2'
    have f3 := at_rounds (g := fun k => QX.strconv_atofHex.f k (S.extract 0 n.toNat) m e s t) (fun k => QX.strconv_atofHex.mono _ _ _ _ _ k) (Nat.le_trans (Nat.le_max_right k2 k3) (Nat.le_max_right 5 (max k2 k3))) h3
    refine ⟨max 5 (max k2 k3), ?_⟩
    generalize max 5 (max k2 k3) = K at *
    have e : QP.strconv_atof64.f K S = some (r, n, o) := by
      unfold QP.strconv_atof64.f strconv_readFloat.f strconv_atofHex.f
      rw [f1, Option.bind_some, if_neg (by decide), f2, Option.bind_some, if_pos rfl, if_pos rfl, if_pos g4, if_pos g5, f3, Option.bind_some]
    unfold QP.strconv_ParseFloat.f QP.strconv_parseFloatPrefix.f
    rw [if_neg (by decide), e, Option.bind_some, Option.bind_some]
    dsimp only
    by_cases c : n = (S.size : Int)
    · rw [if_pos c]
      exact ⟨r, o, rfl, h3r, by rcases h3o with rfl | rfl <;> simp⟩
    · rw [if_neg c]
      exact ⟨0, some 2, rfl, by decide, .inr (.inr rfl)⟩

theorem notnan_48 (S : ByteArray) (h : 0 < S.size) (b0 : bt S 0 = 48) : S.toList ≠ [110, 97, 110] := by
  rw [ByteArray.toList_eq]
  intro h1
  have : S = ⟨#[110, 97, 110]⟩ := by
    apply ByteArray.ext
    apply Array.ext'
    exact h1
  subst this
  revert b0
  decide

theorem parse0_tot (S : ByteArray) (hS : Txt S) (h2 : 2 < S.size) (b0 : bt S 0 = 48) (b1 : bt S 1 = 120) : ∃ k r, floats_Parse.f k S = some r := by
  obtain ⟨k1, r, o, hp, hr, ho⟩ := pf_tot S hS h2 b0 b1
  obtain ⟨a, ha, hlt⟩ := canonI_lt r hr
  obtain ⟨k2, ht⟩ := text_x a hlt
  have f1 := at_rounds (g := fun k => QP.strconv_ParseFloat.f k S 64) (fun k => QP.strconv_ParseFloat.mono _ _ k) (Nat.le_max_left k1 k2) hp
  have f2 := at_rounds (g := fun k => QT.floats_Text.f k (a : Int)) (fun k => QT.floats_Text.mono _ k) (Nat.le_max_right k1 k2) ht
  refine ⟨max k1 k2, ?_⟩
  have hz := hS.size
  generalize max k1 k2 = K at *
  unfold floats_Parse.f
  rw [if_neg (notnan_48 S (by omega) b0), if_pos (by omega), f1, Option.bind_some]
  rcases ho with rfl | rfl | rfl
  · dsimp only
    rw [ha, f2, Option.bind_some]
    split <;> exact ⟨_, rfl⟩
  · exact ⟨_, rfl⟩
  · exact ⟨_, rfl⟩

theorem parse_tot (S : ByteArray) (hS : Txt S) (h2 : 2 ≤ S.size) (b0 : bt S 0 = 48) (b1 : bt S 1 = 120) : ∃ k r, floats_ParseV.f k S = some r := by
  by_cases c : S = ⟨#[48, 120]⟩
  · exact ⟨0, (0, 10), by unfold floats_ParseV.f; rw [if_pos c]⟩
  · have h3 : 2 < S.size := by
      rcases Nat.lt_or_ge 2 S.size with h | h
      · exact h
      · exfalso
        apply c
        obtain ⟨⟨l⟩⟩ := S
        have hl : l.length = 2 := by have : l.length = (ByteArray.mk ⟨l⟩).size := rfl; omega
        match l, hl with
        | [x, y], _ =>
          have hx : (x.toNat : Int) = 48 := by rw [← b0]; rfl
          have hy : (y.toNat : Int) = 120 := by rw [← b1]; rfl
          have ex : x = 48 := UInt8.toNat_inj.1 (by show x.toNat = 48; omega)
          have ey : y = 120 := UInt8.toNat_inj.1 (by show y.toNat = 120; omega)
          rw [ex, ey]
    obtain ⟨k, r, h⟩ := parse0_tot S hS h3 b0 b1
    exact ⟨k, r, by unfold floats_ParseV.f; rw [if_neg c]; exact h⟩
end Go.Proofs.YthifejhdmjoolaaGreatDoor.Pure
