/-
  The plain law: the document's Text of a finite float from 0 on is the program's.
-/
import Derived.Test.YthifejhdmjoolaaGreatDoorQE8
import Derived.Test.YthifejhdmjoolaaGreatDoorPureText
import Derived.Test.YthifejhdmjoolaaGreatDoorQE6
import Derived.Test.YthifejhdmjoolaaGreatDoorLxN
import Derived.Test.YthifejhdmjoolaaGreatDoorQX2
import Derived.Test.YthifejhdmjoolaaGreatDoorQH2
import Derived.Test.YthifejhdmjoolaaGreatDoorGivP
import Derived.Test.YthifejhdmjoolaaGreatDoorPureTot5
namespace Go.Proofs.YthifejhdmjoolaaGreatDoor.Pure
open Go.RowKit Go.Proofs.YthifejhdmjoolaaGreatDoorW.PrintWords Go.Proofs.YthifejhdmjoolaaGreatDoorW.PrintLast Go.Proofs.YthifejhdmjoolaaGreatDoorW.PrintMore
open Go.Proofs.YthifejhdmjoolaaGreatDoorG Go.Flo
set_option linter.unusedVariables false
set_option linter.unusedSimpArgs false

theorem str_app (p q : List Int) : strOfNums p ++ strOfNums q = strOfNums (p ++ q) := by
  apply ByteArray.ext
  apply Array.ext'
  simp [strOfNums]
theorem str_sz (p : List Int) : (strOfNums p).size = p.length := strOfNums_size p
theorem hexcut : ∀ d : Fin 16, (⟨#[48, 49, 50, 51, 52, 53, 54, 55, 56, 57, 97, 98, 99, 100, 101, 102]⟩ : ByteArray).extract d.val (d.val + 1) = strOfNums [dg d.val] := by decide +kernel
theorem dec_fin : ∀ n : Fin 1200, QE.foundryref01_decimal.f 6 (n.val : Int) = some (strOfNums (decs n.val)) := by decide +kernel
theorem dec_is {k : Nat} (hk : 6 ≤ k) (n : Nat) (hn : n < 1200) : QE.foundryref01_decimal.f k (n : Int) = some (strOfNums (decs n)) :=
  at_rounds (g := fun k => QE.foundryref01_decimal.f k (n : Int)) (fun k => QE.foundryref01_decimal.mono _ k) hk (dec_fin ⟨n, hn⟩)
theorem decs_len (n : Nat) : (decs n).length ≤ 4 := by
  unfold decs
  split
  · simp
  split
  · simp
  split <;> simp

theorem u64_mul16 (x : Nat) (h : x < 18446744073709551616) : IntKind.u64.wrap ((x : Int) * 16) = ((x * 16 % 18446744073709551616 : Nat) : Int) := by
  rw [IntKind.wrap_u64]; omega

/-- the digits -/
theorem digits_l1 (e : Int) (h0 : -1190 < e) (h1 : e < 1190) : ∀ (n x : Nat) (p : List Int) (k : Nat), x < 18446744073709551616 → x * 16 ^ n % 18446744073709551616 = 0 → p.length + n ≤ 1000 → n + 8 ≤ k → QE.foundryref01_Text.l1 k (strOfNums p) (x : Int) e = some (strOfNums (p ++ hx n x ++ expd e))
  | n, 0, p, k, hx0, hz, hp, hk => by
    obtain ⟨k, rfl⟩ : ∃ j, k = j + 1 := ⟨k - 1, by omega⟩
    have hh : hx n 0 = [] := by cases n <;> rfl
    rw [hh, List.append_nil]
    simp only [QE.foundryref01_Text.l1]
    have e45 : (⟨#[112, 45]⟩ : ByteArray) = strOfNums [112, 45] := by decide +kernel
    have e43 : (⟨#[112, 43]⟩ : ByteArray) = strOfNums [112, 43] := by decide +kernel
    have hd := decs_len e.natAbs
    rw [if_pos (by rfl)]
    unfold expd
    by_cases c : e < 0
    · have hw : wrap64 (-e) = ((e.natAbs : Nat) : Int) := by unfold wrap64; omega
      rw [if_pos c, if_pos (by rw [str_sz]; omega), hw, dec_is (by omega) _ (by omega), Option.bind_some, e45, str_app, if_pos (by rw [str_sz, str_sz, List.length_append]; simp only [List.length_cons, List.length_nil]; omega), str_app, if_pos c]
      simp
    · have hw : e = ((e.natAbs : Nat) : Int) := by omega
      rw [if_neg c, if_pos (by rw [str_sz]; omega)]
      conv => lhs; rw [hw]
      rw [dec_is (by omega) _ (by omega), Option.bind_some, e43, str_app, if_pos (by rw [str_sz, str_sz, List.length_append]; simp only [List.length_cons, List.length_nil]; omega), str_app, if_neg c]
      simp
  | 0, x + 1, p, k, hx0, hz, hp, hk => by
    exfalso
    rw [Nat.pow_zero, Nat.mul_one, Nat.mod_eq_of_lt hx0] at hz
    omega
  | n + 1, x + 1, p, k, hx0, hz, hp, hk => by
    obtain ⟨k, rfl⟩ : ∃ j, k = j + 1 := ⟨k - 1, by omega⟩
    have hd : (x + 1) / 1152921504606846976 < 16 := by omega
    have ih := digits_l1 e h0 h1 n ((x + 1) * 16 % 18446744073709551616) (p ++ [dg ((x + 1) / 1152921504606846976)]) k (Nat.mod_lt _ (by decide)) (by
      rw [Nat.pow_succ] at hz
      rw [Nat.mod_mul_mod, Nat.mul_assoc, Nat.mul_comm 16]
      exact hz) (by rw [List.length_append]; simp only [List.length_cons, List.length_nil]; omega) (by omega)
    simp only [QE.foundryref01_Text.l1]
    have e1 : (((x + 1 : Nat) : Int) / 1152921504606846976) = (((x + 1) / 1152921504606846976 : Nat) : Int) := by omega
    have e2 : IntKind.u64.wrap ((((x + 1) / 1152921504606846976 : Nat) : Int) + 1) = (((x + 1) / 1152921504606846976 + 1 : Nat) : Int) := by rw [IntKind.wrap_u64]; omega
    have hcut := hexcut ⟨(x + 1) / 1152921504606846976, hd⟩
    dsimp only at hcut
    rw [e1, e2, Int.toNat_natCast, Int.toNat_natCast, hcut, if_neg (by omega), if_pos (by omega), if_pos (by omega), if_pos (by omega), if_pos (by rw [str_sz, str_sz]; simp only [List.length_cons, List.length_nil]; omega), str_app, u64_mul16 _ hx0, ih]
    rw [show hx (n + 1) (x + 1) = dg ((x + 1) / 1152921504606846976) :: hx n ((x + 1) * 16 % 18446744073709551616) from if_neg (by omega)]
    simp

theorem norm_l0 (p : List Int) (hp : p.length ≤ 10) (F : ByteArray) (M : Nat) (E : Int) (hM : 4503599627370496 ≤ M) (hM2 : M < 9007199254740992) (K : Nat) (hF : ∀ k, K ≤ k → QE.foundryref01_Text.l0 k (strOfNums p) (M : Int) E = some F) :
    ∀ (j m : Nat) (e : Int), m * 2 ^ j = M → e - j = E → -2000 < E → e < 2000 → m ≠ 0 → ∀ k, K + j ≤ k → QE.foundryref01_Text.l0 k (strOfNums p) (m : Int) e = some F
  | 0, m, e, h1, h2, h3, h4, h5, k, hk => by
    rw [Nat.pow_zero, Nat.mul_one] at h1
    subst h1
    have : e = E := by omega
    subst this
    exact hF k hk
  | j + 1, m, e, h1, h2, h3, h4, h5, k, hk => by
    obtain ⟨k, rfl⟩ : ∃ i, k = i + 1 := ⟨k - 1, by omega⟩
    have hm : m < 4503599627370496 := by
      have h2 : 1 ≤ 2 ^ j := Nat.one_le_two_pow
      have : m * 2 * 1 ≤ m * 2 * 2 ^ j := Nat.mul_le_mul_left _ h2
      rw [Nat.pow_succ, Nat.mul_comm (2 ^ j), ← Nat.mul_assoc] at h1
      omega
    simp only [QE.foundryref01_Text.l0]
    have e1 : IntKind.u64.wrap ((m : Int) * 2) = ((m * 2 : Nat) : Int) := by rw [IntKind.wrap_u64]; omega
    have e2 : wrap64 (e - 1) = e - 1 := by unfold wrap64; omega
    rw [if_pos (by omega), e1, e2]
    exact norm_l0 p hp F M E hM hM2 K hF j (m * 2) (e - 1) (by rw [← h1, Nat.pow_succ, Nat.mul_comm (2 ^ j), ← Nat.mul_assoc]) (by omega) h3 (by omega) (by omega) k (by omega)

theorem fin_l0 (p : List Int) (hp : p.length ≤ 10) (M : Nat) (E : Int) (hM : 4503599627370496 ≤ M) (hM2 : M < 9007199254740992) (h0 : -1180 < E + 52) (h1 : E + 52 < 1180) (k : Nat) (hk : 40 ≤ k) :
    QE.foundryref01_Text.l0 k (strOfNums p) (M : Int) E = some (strOfNums (p ++ (ahead (M * 256) ++ expd (E + 52)))) := by
  obtain ⟨k, rfl⟩ : ∃ i, k = i + 2 := ⟨k - 2, by omega⟩
  have e3 : (⟨#[48, 120, 49]⟩ : ByteArray) = strOfNums [48, 120, 49] := by decide +kernel
  have e4 : (⟨#[46]⟩ : ByteArray) = strOfNums [46] := by decide +kernel
  have e5 : IntKind.u64.wrap ((M : Int) * 4096) = ((M * 256 * 16 % 18446744073709551616 : Nat) : Int) := by rw [IntKind.wrap_u64]; omega
  have e6 : wrap64 (E + 52) = E + 52 := by unfold wrap64; omega
  simp only [QE.foundryref01_Text.l0]
  have hx0 : M * 256 * 16 % 18446744073709551616 < 18446744073709551616 := Nat.mod_lt _ (by decide)
  have hz : M * 256 * 16 % 18446744073709551616 * 16 ^ 16 % 18446744073709551616 = 0 := pow16 _
  unfold ahead
  generalize M * 256 * 16 % 18446744073709551616 = x at *
  have hl1 := fun q hq => digits_l1 (E + 52) (by omega) (by omega) 16 x q k hx0 hz hq (by omega)
  have e7 : (M : Int) / 4503599627370496 ≠ 0 := by omega
  rw [if_neg e7, if_pos (by rw [str_sz]; omega), e5, e6, e3, str_app]
  by_cases c : x = 0
  · rw [if_pos (by omega)]
    simp only [QE.foundryref01_Text.j2]
    rw [hl1 _ (by rw [List.length_append]; simp only [List.length_cons, List.length_nil]; omega), c]
    congr 2
    simp [hx]
  · rw [if_neg (by omega), if_pos (by rw [str_sz, List.length_append]; simp only [List.length_cons, List.length_nil]; omega), e4, str_app]
    simp only [QE.foundryref01_Text.j2]
    rw [hl1 _ (by rw [List.length_append, List.length_append]; simp only [List.length_cons, List.length_nil]; omega), if_neg c]
    congr 2
    simp

theorem class_fin (a : Nat) (ha : a < 9218868437227405312) (k : Nat) (hk : 4 ≤ k) : QE.foundryref01_Class.f k (a : Int) = some (if a = 0 then 3 else if a < 4503599627370496 then 4 else 5) := by
  obtain ⟨k, rfl⟩ : ∃ i, k = i + 2 := ⟨k - 2, by omega⟩
  have e1 : Go.bits .and .u64 ((a : Int) / 4503599627370496) 2047 = ((a / 4503599627370496 : Nat) : Int) := by
    rw [show ((a : Int) / 4503599627370496) = ((a / 4503599627370496 : Nat) : Int) by omega]
    have e := u64_and_nat (a / 4503599627370496) 2047 (by omega) (by omega)
    rw [show ((2047 : Nat) : Int) = 2047 from rfl] at e
    rw [e, show 2047 = 2 ^ 11 - 1 from rfl, Nat.and_two_pow_sub_one_eq_mod]
    congr 1
    omega
  unfold QE.foundryref01_Class.f
  rw [e1, if_neg (by omega)]
  simp only [QE.foundryref01_Class.j0]
  rw [if_neg (by simp), if_neg (by omega)]
  by_cases c0 : a / 4503599627370496 = 0
  · have e2 : IntKind.u64.wrap ((a : Int) * 4096) = ((a * 4096 : Nat) : Int) := by rw [IntKind.wrap_u64]; omega
    rw [if_pos (by omega), e2]
    simp only [QE.foundryref01_Class.j1]
    by_cases c : a = 0
    · subst c; rfl
    · have hb : ((((a * 4096 : Nat) : Int)) == 0) = false := beq_eq_false_iff_ne.mpr (by omega)
      rw [hb, if_neg (by simp), if_pos (by omega), if_neg c, if_pos (by omega)]
  · rw [if_neg (by omega)]
    simp only [QE.foundryref01_Class.j1]
    rw [if_neg (by simp), if_neg (by omega), if_neg (by omega), if_neg (by omega)]

theorem or_parts0 (f x : Nat) (hf : f < 4503599627370496) (hx : x < 2048) : Go.bits .or .u64 (f : Int) ((x * 4503599627370496 : Nat) : Int) = ((x * 4503599627370496 + f : Nat) : Int) := by
  rw [u64_or_nat f (x * 4503599627370496) (by omega) (by omega), Nat.or_comm, show x * 4503599627370496 = 2 ^ 52 * x by omega, ← Nat.two_pow_add_eq_or_of_lt (by omega)]

/-- shifted up until 55 bits are full -/
theorem exp_wrap (x : Nat) (h : x < 2047) : wrap64 (wrap64 (x : Int) - 1075) = (x : Int) - 1075 := by unfold wrap64; omega
theorem frac_and (a : Nat) (ha : a < 9218868437227405312) : Go.bits .and .u64 (a : Int) 4503599627370495 = ((a % 4503599627370496 : Nat) : Int) := by
  have e := u64_and_nat a 4503599627370495 (by omega) (by omega)
  rw [show ((4503599627370495 : Nat) : Int) = 4503599627370495 from rfl] at e
  rw [e, show 4503599627370495 = 2 ^ 52 - 1 from rfl, Nat.and_two_pow_sub_one_eq_mod]
theorem exp_and (a : Nat) (ha : a < 9218868437227405312) : Go.bits .and .u64 ((a : Int) / 4503599627370496) 2047 = ((a / 4503599627370496 : Nat) : Int) := by
  rw [show ((a : Int) / 4503599627370496) = ((a / 4503599627370496 : Nat) : Int) by omega]
  have e := u64_and_nat (a / 4503599627370496) 2047 (by omega) (by omega)
  rw [show ((2047 : Nat) : Int) = 2047 from rfl] at e
  rw [e, show 2047 = 2 ^ 11 - 1 from rfl, Nat.and_two_pow_sub_one_eq_mod]
  congr 1
  omega
theorem one_or (a : Nat) : Go.bits .or .u64 ((a % 4503599627370496 : Nat) : Int) 4503599627370496 = ((4503599627370496 + a % 4503599627370496 : Nat) : Int) := by
  have e := or_parts0 (a % 4503599627370496) 1 (by omega) (by omega)
  rw [Nat.one_mul] at e
  exact e
theorem up_sub (a : Nat) (h : a < 4503599627370496) : (-1074 : Int) = ((Flo.up a : Nat) : Int) - 1074 := by unfold Flo.up; omega
theorem up_norm (a : Nat) (h : ¬ a < 4503599627370496) : ((a / 4503599627370496 : Nat) : Int) - 1075 = ((Flo.up a : Nat) : Int) - 1074 := by unfold Flo.up; omega
theorem parts_fin (a : Nat) (ha : a < 9218868437227405312) (c : a ≠ 0) (k : Nat) (hk : 4 ≤ k) : QE.foundryref01_Parts.f k (a : Int) = some ((((a : Int) / 9223372036854775808) == 1), (sg a : Int), ((Flo.up a : Nat) : Int) - 1074) := by
  have hcl := class_fin a ha k hk
  unfold QE.foundryref01_Parts.f
  rw [hcl, Option.bind_some, if_neg c]
  by_cases c2 : a < 4503599627370496
  · have hs : sg a = a := if_pos c2
    have hm : a % 4503599627370496 = a := Nat.mod_eq_of_lt c2
    rw [if_pos c2, if_neg (by decide), if_neg (by decide), if_neg (by decide), frac_and a ha, hm, hs, ← up_sub a c2]
  · have hs : sg a = 4503599627370496 + a % 4503599627370496 := if_neg c2
    rw [if_neg c2, if_neg (by decide), if_neg (by decide), if_pos rfl, frac_and a ha, one_or, exp_and a ha, exp_wrap _ (by omega), up_norm a c2, hs]
theorem reftext (a : Nat) (ha : a < 9218868437227405312) (k : Nat) (hk : 200 ≤ k) : QE.foundryref01_Text.f k (a : Int) = some (strOfNums (txtL a)) := by
  have hr : rung a = a := by unfold rung; omega
  have hn : isNeg a = false := by unfold isNeg; rw [show a / 9223372036854775808 = 0 by omega]; rfl
  unfold txtL
  rw [hr, hn, if_neg (by omega), if_neg (by omega)]
  unfold QE.foundryref01_Text.f
  rw [if_neg (by omega)]
  obtain ⟨k, rfl⟩ : ∃ i, k = i + 1 := ⟨k - 1, by omega⟩
  simp only [QE.foundryref01_Text.j0]
  have hcl := class_fin a ha k (by omega)
  rw [hcl, Option.bind_some]
  have e0 : (⟨#[]⟩ : ByteArray) = strOfNums [] := by decide +kernel
  by_cases c : a = 0
  · rw [if_pos c, if_pos c, if_neg (by decide), if_neg (by decide), if_pos (by decide), if_pos (by decide)]
    decide +kernel
  rw [if_neg c, if_neg c]
  have hne1 : (if a < 4503599627370496 then (4 : Int) else 5) ≠ 1 := by split <;> decide
  have hne2 : (if a < 4503599627370496 then (4 : Int) else 5) ≠ 2 := by split <;> decide
  have hne3 : (if a < 4503599627370496 then (4 : Int) else 5) ≠ 3 := by split <;> decide
  rw [if_neg hne1, if_neg hne2, if_neg hne3]
  have hsg := sg_ne a c
  have hsl := sg_lt a
  obtain ⟨s1, s2, s3⟩ := shf_is (sg a) hsg hsl
  have hbd := expT_bd a c ha
  have hparts := parts_fin a ha c k (by omega)
  rw [hparts, Option.bind_some]
  dsimp only
  have hE : ((Flo.up a : Nat) : Int) - 1074 - (shf (sg a) : Int) + 52 = expT a := by unfold expT; omega
  have key := norm_l0 [] (by simp) _ (sg a * 2 ^ shf (sg a)) (((Flo.up a : Nat) : Int) - 1074 - (shf (sg a) : Int)) s2 s3 40 (fun k hk => fin_l0 [] (by simp) _ _ s2 s3 (by omega) (by omega) k hk) (shf (sg a)) (sg a) (((Flo.up a : Nat) : Int) - 1074) rfl rfl (by omega) (by omega) hsg k (by omega)
  rw [hE] at key
  rw [e0, key]
  rfl
end Go.Proofs.YthifejhdmjoolaaGreatDoor.Pure

namespace Go.Proofs.YthifejhdmjoolaaGreatDoor.Pure
open Go.RowKit Go.Proofs.YthifejhdmjoolaaGreatDoorW.PrintWords Go.Proofs.YthifejhdmjoolaaGreatDoorW.PrintLast Go.Proofs.YthifejhdmjoolaaGreatDoorW.PrintMore
open Go.Proofs.YthifejhdmjoolaaGreatDoorG Go.Flo
open Go.Proofs.YthifejhdmjoolaaGreatDoor.Lx (L L_cut L_size drop_at drop_end w64)
set_option linter.unusedVariables false
set_option linter.unusedSimpArgs false

def hv (c : UInt8) : Option Nat := if 48 ≤ c.toNat ∧ c.toNat ≤ 57 then some (c.toNat - 48) else if 97 ≤ c.toNat ∧ c.toNat ≤ 102 then some (c.toNat - 87) else none
def hvI (c : UInt8) : Int := match hv c with | some d => (d : Int) | none => -1
theorem dig_fin : ∀ i : Fin 256, QE.foundryref01_digit.f 18 ((i.val : Nat) : Int) = some (hvI (UInt8.ofNat i.val)) := by decide +kernel
theorem dig_is {k : Nat} (hk : 18 ≤ k) (c : UInt8) : QE.foundryref01_digit.f k (c.toNat : Int) = some (hvI c) := by
  have h := dig_fin ⟨c.toNat, c.toNat_lt⟩
  dsimp only at h
  rw [UInt8.ofNat_toNat] at h
  exact at_rounds (fun k => QE.foundryref01_digit.mono _ k) hk h
theorem hv_lt {c : UInt8} {d : Nat} (h : hv c = some d) : d < 16 := by
  unfold hv at h
  split at h
  · injection h with h; omega
  · split at h
    · injection h with h; omega
    · cases h

def rdH : List UInt8 → Nat → Nat → Nat × Nat × List UInt8
  | [], m, n => (m, n, [])
  | c :: l, m, n => if n < 13 then (match hv c with | some d => rdH l (m * 16 + d) (n + 1) | none => (m, n, c :: l)) else (m, n, c :: l)
def exL : List UInt8 → Nat → Option Nat
  | [], a => some a
  | c :: l, a => match hv c with | some d => if d ≤ 9 then exL l (10 * a + d) else none | none => none
def val8 (m : Nat) (e : Int) : Nat :=
  if -1022 ≤ e then (e + 1023).toNat * 4503599627370496 + m
  else if (4503599627370496 + m) * 2 ^ (64 - (-1022 - e).toNat) % 18446744073709551616 = 0 then (4503599627370496 + m) / 2 ^ (-1022 - e).toNat else 0
def val7 (m : Nat) (e : Int) : Nat := if e > 1023 then 0 else if e < -1074 then 0 else val8 m e
def tailV (m : Nat) (l : List UInt8) : Nat :=
  if l.length < 3 ∨ 6 < l.length ∨ l.head? ≠ some 112 then 0
  else match exL (l.drop 2) 0 with
    | none => 0
    | some e => val7 m (if (l.drop 1).head? = some 45 then -(e : Int) else (e : Int))
def readL (t : List UInt8) : Nat :=
  if t.length < 6 ∨ 40 < t.length ∨ t.take 3 ≠ [48, 120, 49] then 0
  else match t.drop 3 with
    | [] => 0
    | c :: l => if c = 46 then tailV ((rdH l 0 0).1 * 16 ^ (13 - (rdH l 0 0).2.1)) (rdH l 0 0).2.2 else tailV 0 (c :: l)

theorem or_zero_left (a : Nat) (h : a < 18446744073709551616) : Go.bits .or .u64 0 (a : Int) = (a : Int) := by
  have e := u64_or_nat 0 a (by omega) h
  rw [Nat.zero_or] at e
  exact e
theorem or_hi (x m : Nat) (hx : x < 2048) (hm : m < 4503599627370496) : Go.bits .or .u64 ((x * 4503599627370496 : Nat) : Int) (m : Int) = ((x * 4503599627370496 + m : Nat) : Int) := by
  rw [u64_or_nat (x * 4503599627370496) m (by omega) (by omega), show x * 4503599627370496 = 2 ^ 52 * x by omega, ← Nat.two_pow_add_eq_or_of_lt (by omega)]
theorem or_one (m : Nat) (hm : m < 4503599627370496) : Go.bits .or .u64 (m : Int) 4503599627370496 = ((4503599627370496 + m : Nat) : Int) := by
  have e := or_parts0 m 1 hm (by omega)
  rw [Nat.one_mul] at e
  exact e
theorem pow_cast (M n : Nat) : (M : Int) * 2 ^ n = ((M * 2 ^ n : Nat) : Int) := by
  rw [Int.natCast_mul, Int.natCast_pow]; rfl
theorem shl_nat (M n : Nat) (hn : n ≤ 64) : shl .u64 (M : Int) (n : Int) = ((M * 2 ^ n % 18446744073709551616 : Nat) : Int) := by
  unfold shl
  have hb : IntKind.u64.bits = 64 := rfl
  rw [hb, Int.toNat_natCast, Nat.min_eq_left hn, pow_cast, IntKind.wrap_u64]
  omega
theorem shr_nat (M n : Nat) (hn : n ≤ 64) : shr .u64 (M : Int) (n : Int) = ((M / 2 ^ n : Nat) : Int) := by
  unfold shr
  have hb : IntKind.u64.bits = 64 := rfl
  rw [hb, Int.toNat_natCast, Nat.min_eq_left hn, Int.natCast_ediv, Int.natCast_pow]
  rfl
theorem wu64 (n : Nat) (h : n < 18446744073709551616) : IntKind.u64.wrap (n : Int) = (n : Int) := by rw [IntKind.wrap_u64]; omega
theorem wrap_e (e : Int) (h0 : -20000 < e) (h1 : e < 20000) : wrap64 e = e := by unfold wrap64; omega

theorem j8_is (k m : Nat) (e : Int) (hm : m < 4503599627370496) (h0 : -1074 ≤ e) (h1 : e ≤ 1023) : QE.foundryref01_read.j8 (k + 1) 0 (m : Int) e false = some ((val8 m e : Nat) : Int) := by
  simp only [QE.foundryref01_read.j8]
  rw [if_neg (by simp)]
  unfold val8
  by_cases c : -1022 ≤ e
  · obtain ⟨X, hX, hX2⟩ : ∃ X : Nat, e + 1023 = (X : Int) ∧ X < 2048 := ⟨(e + 1023).toNat, by omega, by omega⟩
    have e1 : (X : Int) * 4503599627370496 = ((X * 4503599627370496 : Nat) : Int) := by omega
    rw [if_pos c, if_pos c, wrap_e (e + 1023) (by omega) (by omega), hX, Int.toNat_natCast, wu64 X (by omega), e1, wu64 _ (by omega), or_zero_left _ (by omega), or_hi X m hX2 hm]
  · obtain ⟨K, hK, hK1, hK2⟩ : ∃ K : Nat, -1022 - e = (K : Int) ∧ 1 ≤ K ∧ K ≤ 52 := ⟨(-1022 - e).toNat, by omega, by omega, by omega⟩
    rw [if_neg c, if_neg c, wrap_e (-1022 - e) (by omega) (by omega), hK, Int.toNat_natCast, wu64 K (by omega), show (64 : Int) - (K : Int) = ((64 - K : Nat) : Int) by omega, wu64 (64 - K) (by omega), or_one m hm, shl_nat _ _ (by omega), if_pos (by omega)]
    by_cases d : (4503599627370496 + m) * 2 ^ (64 - K) % 18446744073709551616 = 0
    · have hlt : (4503599627370496 + m) / 2 ^ K < 18446744073709551616 := Nat.lt_of_le_of_lt (Nat.div_le_self _ _) (by omega)
      rw [if_pos (by rw [d]; rfl), if_pos d, if_pos (by omega), shr_nat _ _ (by omega), or_zero_left _ hlt]
    · rw [if_neg (by omega), if_neg d]; rfl
theorem j7_is (k m : Nat) (e : Int) (hm : m < 4503599627370496) : QE.foundryref01_read.j7 (k + 2) 0 (m : Int) e = some ((val7 m e : Nat) : Int) := by
  simp only [QE.foundryref01_read.j7]
  unfold val7
  by_cases c : e > 1023
  · rw [if_pos c, if_pos c]
    simp only [QE.foundryref01_read.j8]
    rw [if_pos trivial]; rfl
  · rw [if_neg c, if_neg c]
    by_cases d : e < -1074
    · rw [if_pos d, decide_eq_true d]
      simp only [QE.foundryref01_read.j8]
      rw [if_pos trivial]; rfl
    · rw [if_neg d, decide_eq_false d]
      exact j8_is k m e hm (by omega) (by omega)

theorem l1_is (t : ByteArray) (ht : t.size ≤ 40) (m : Nat) (hm : m < 4503599627370496) (x4 : Nat) (hx4 : x4 + 1 < t.size) : ∀ (l : List UInt8) (x8 a k : Nat), (L t).drop x8 = l → x8 ≤ t.size → a * 10 ^ l.length + 10 ^ l.length ≤ 1000000 → l.length + 30 ≤ k →
    QE.foundryref01_read.l1 k t 0 (x4 : Int) (m : Int) (a : Int) (x8 : Int) = some (((match exL l a with | none => 0 | some e => val7 m (if bt t ((x4 + 1 : Nat) : Int) = 45 then -(e : Int) else (e : Int)) : Nat)) : Int)
  | [], x8, a, k, h, hx, ha, hk => by
    have he := drop_end t h
    obtain ⟨k, rfl⟩ : ∃ j, k = j + 3 := ⟨k - 3, by omega⟩
    simp only [QE.foundryref01_read.l1, exL]
    simp only [List.length_nil, Nat.pow_zero, Nat.mul_one] at ha
    rw [if_neg (by omega), show ((x4 : Int) + 1) = ((x4 + 1 : Nat) : Int) by omega, w64 _ (by omega) (by omega), if_pos (by omega), if_pos (by omega)]
    by_cases c : bt t ((x4 + 1 : Nat) : Int) = 45
    · rw [if_pos c, if_pos c, w64 _ (by omega) (by omega)]
      exact j7_is k m _ hm
    · rw [if_neg c, if_neg c]
      exact j7_is k m _ hm
  | c :: l, x8, a, k, h, hx, ha, hk => by
    obtain ⟨h1, h2, h3⟩ := drop_at t h
    obtain ⟨k, rfl⟩ : ∃ j, k = j + 1 := ⟨k - 1, by omega⟩
    have hp : 1 ≤ 10 ^ l.length := Nat.one_le_pow _ _ (by omega)
    simp only [List.length_cons, Nat.pow_succ] at ha hk
    have ha2 : a * 10 + 10 ≤ 1000000 := by
      have : a * 10 ≤ a * (10 ^ l.length * 10) := Nat.mul_le_mul_left _ (by omega)
      omega
    simp only [QE.foundryref01_read.l1, exL]
    rw [if_pos (by omega), if_pos (by omega), h2, dig_is (by omega), Option.bind_some]
    unfold hvI
    cases hc : hv c with
    | none => rw [if_pos (by decide)]; rfl
    | some d =>
      have hd := hv_lt hc
      dsimp only
      rw [if_neg (by omega)]
      by_cases g : d ≤ 9
      · rw [if_neg (by omega), if_pos g, show ((x8 : Int) + 1) = ((x8 + 1 : Nat) : Int) by omega, w64 (((x8 + 1 : Nat)) : Int) (by omega) (by omega), show (10 * (a : Int)) = ((10 * a : Nat) : Int) by omega, w64 ((10 * a : Nat) : Int) (by omega) (by omega), show (((10 * a : Nat) : Int) + (d : Int)) = ((10 * a + d : Nat) : Int) by omega, w64 _ (by omega) (by omega)]
        refine l1_is t ht m hm x4 hx4 l (x8 + 1) (10 * a + d) k h3 (by omega) ?_ (by omega)
        have e1 : (10 * a + d) * 10 ^ l.length ≤ (10 * a + 9) * 10 ^ l.length := Nat.mul_le_mul_right _ (by omega)
        have e2 : (10 * a + 9) * 10 ^ l.length + 10 ^ l.length = a * (10 ^ l.length * 10) + 10 ^ l.length * 10 := by
          generalize 10 ^ l.length = p
          rw [Nat.add_mul, Nat.mul_comm 10 a, Nat.mul_assoc, Nat.mul_comm 10 p]; omega
        omega
      · rw [if_pos (by omega), if_neg g]; rfl

theorem j4_is (t : ByteArray) (ht : t.size ≤ 40) (m n : Nat) (hn : n ≤ 13) (hm : m < 16 ^ n) (x4 : Nat) (hx4 : x4 ≤ t.size) (k : Nat) (hk : 60 ≤ k) :
    QE.foundryref01_read.j4 k t 0 (x4 : Int) (m : Int) (n : Int) = some ((tailV (m * 16 ^ (13 - n)) ((L t).drop x4) : Nat) : Int) := by
  obtain ⟨k, rfl⟩ : ∃ j, k = j + 2 := ⟨k - 2, by omega⟩
  have hlen : ((L t).drop x4).length = t.size - x4 := by rw [List.length_drop, L_size]
  have hpw : 16 ^ n * 16 ^ (13 - n) = 4503599627370496 := by
    rw [← Nat.pow_add, show n + (13 - n) = 13 by omega]
  have hm2 : m * 16 ^ (13 - n) < 4503599627370496 := by
    rw [← hpw]
    exact Nat.mul_lt_mul_of_pos_right hm (Nat.pow_pos (by omega))
  have hsh : shl .u64 (m : Int) (IntKind.u64.wrap (wrap64 (4 * (wrap64 (13 - (n : Int)))))) = ((m * 16 ^ (13 - n) : Nat) : Int) := by
    rw [w64 (13 - (n : Int)) (by omega) (by omega), w64 _ (by omega) (by omega), show (4 * (13 - (n : Int))) = ((4 * (13 - n) : Nat) : Int) by omega, wu64 _ (by omega), shl_nat _ _ (by omega), show 2 ^ (4 * (13 - n)) = 16 ^ (13 - n) by rw [Nat.pow_mul], Nat.mod_eq_of_lt (by omega)]
  have hw0 : 0 ≤ IntKind.u64.wrap (wrap64 (4 * (wrap64 (13 - (n : Int))))) := by
    rw [w64 (13 - (n : Int)) (by omega) (by omega), w64 _ (by omega) (by omega), show (4 * (13 - (n : Int))) = ((4 * (13 - n) : Nat) : Int) by omega, wu64 _ (by omega)]
    exact Int.natCast_nonneg _
  simp only [QE.foundryref01_read.j4]
  rw [hsh, if_pos hw0, w64 ((t.size : Int) - (x4 : Int)) (by omega) (by omega)]
  clear hsh hw0
  generalize m * 16 ^ (13 - n) = M at *
  have dead : ∀ k, QE.foundryref01_read.j5 (k + 1) t 0 (x4 : Int) (M : Int) true = some 0 := fun k => by
    simp only [QE.foundryref01_read.j5]
    rw [if_pos trivial]
  unfold tailV
  by_cases c1 : (t.size : Int) - (x4 : Int) < 3
  · rw [if_pos c1, dead, if_pos (.inl (by omega))]; rfl
  rw [if_neg c1]
  by_cases c2 : (t.size : Int) - (x4 : Int) > 6
  · rw [if_pos c2, dead, if_pos (.inr (.inl (by omega)))]; rfl
  rw [if_neg c2, if_pos (by omega), if_pos (by omega)]
  cases hl : (L t).drop x4 with
  | nil => rw [hl] at hlen; simp at hlen; omega
  | cons c l =>
    rw [hl] at hlen
    obtain ⟨h1, h2, h3⟩ := drop_at t hl
    rw [h2]
    by_cases c3 : c = 112
    · subst c3
      have hb : (((112 : UInt8).toNat : Int) != 112) = false := by decide
      rw [hb, if_neg (show ¬ ((112 :: l).length < 3 ∨ 6 < (112 :: l).length ∨ (112 :: l : List UInt8).head? ≠ some 112) from fun h => h.elim (fun h => by omega) (fun h => h.elim (fun h => by omega) (fun h => h rfl)))]
      simp only [QE.foundryref01_read.j5]
      rw [if_neg (by simp), show ((x4 : Int) + 2) = ((x4 + 2 : Nat) : Int) by omega, w64 _ (by omega) (by omega)]
      simp only [List.length_cons] at hlen
      cases l with
      | nil => simp at hlen; omega
      | cons d l =>
        obtain ⟨g1, g2, g3⟩ := drop_at t h3
        have hd2 : (L t).drop (x4 + 2) = l := g3
        simp only [List.length_cons] at hlen
        have hpow : 10 ^ l.length ≤ 10 ^ 4 := Nat.pow_le_pow_right (by omega) (by omega)
        rw [show (0 : Int) = ((0 : Nat) : Int) from rfl, show (((0 : Nat) : Int)) = (0 : Int) from rfl]
        have := l1_is t ht M hm2 x4 (by omega) l (x4 + 2) 0 k hd2 (by omega) (by rw [Nat.zero_mul, Nat.zero_add]; exact Nat.le_trans hpow (by decide)) (by omega)
        rw [show (((0 : Nat) : Int)) = (0 : Int) from rfl] at this
        rw [this, g2]
        show some ((match exL l 0 with | none => 0 | some e => val7 M (if (d.toNat : Int) = 45 then -(e : Int) else (e : Int)) : Nat) : Int) = some ((match exL l 0 with | none => 0 | some e => val7 M (if some d = some 45 then -(e : Int) else (e : Int)) : Nat) : Int)
        cases exL l 0 with
        | none => rfl
        | some e =>
          dsimp only
          by_cases c4 : d = 45
          · rw [if_pos (by rw [c4]; rfl), if_pos (by rw [c4])]
          · have hn : ¬ ((d.toNat : Int) = 45) := fun e => c4 (UInt8.toNat_inj.1 (by have : (45 : UInt8).toNat = 45 := rfl; omega))
            rw [if_neg hn, if_neg (by simpa using c4)]
    · have hb : ((c.toNat : Int) != 112) = true := bne_iff_ne.mpr (fun e => c3 (UInt8.toNat_inj.1 (by have : (112 : UInt8).toNat = 112 := rfl; omega)))
      rw [hb, dead, if_pos (show ((c :: l).length < 3 ∨ 6 < (c :: l).length ∨ (c :: l : List UInt8).head? ≠ some 112) from .inr (.inr (by simp [c3])))]; rfl

theorem l0_is (t : ByteArray) (ht : t.size ≤ 40) : ∀ (l : List UInt8) (x4 m n k : Nat), (L t).drop x4 = l → x4 ≤ t.size → n ≤ 13 → m < 16 ^ n → l.length + 70 ≤ k →
    QE.foundryref01_read.l0 k t 0 (x4 : Int) (m : Int) (n : Int) = some ((tailV ((rdH l m n).1 * 16 ^ (13 - (rdH l m n).2.1)) (rdH l m n).2.2 : Nat) : Int)
  | [], x4, m, n, k, h, hx, hn, hm, hk => by
    have he := drop_end t h
    obtain ⟨k, rfl⟩ : ∃ j, k = j + 1 := ⟨k - 1, by omega⟩
    simp only [QE.foundryref01_read.l0, rdH]
    rw [if_neg (by omega), j4_is t ht m n hn hm x4 hx k (by omega), h]
  | c :: l, x4, m, n, k, h, hx, hn, hm, hk => by
    obtain ⟨h1, h2, h3⟩ := drop_at t h
    obtain ⟨k, rfl⟩ : ∃ j, k = j + 1 := ⟨k - 1, by omega⟩
    have hj := j4_is t ht m n hn hm x4 hx k (by simp at hk; omega)
    rw [h] at hj
    simp only [QE.foundryref01_read.l0, rdH]
    rw [if_pos (by omega)]
    by_cases c1 : n < 13
    · have hdg := dig_is (k := k) (by simp at hk; omega) c
      rw [if_pos (by omega), if_pos (by omega), h2, hdg, Option.bind_some, if_pos c1, Option.bind_some]
      unfold hvI
      cases hc : hv c with
      | none =>
        rw [if_neg (by decide)]
        exact hj
      | some d =>
        have hd := hv_lt hc
        have hm16 : m < 16 ^ 13 := Nat.lt_of_lt_of_le hm (Nat.pow_le_pow_right (by omega) hn)
        have hm52 : m < 4503599627370496 := hm16
        have e1 : IntKind.u64.wrap ((m : Int) * 16) = ((m * 16 : Nat) : Int) := by rw [IntKind.wrap_u64]; omega
        have e2 : Go.bits .or .u64 ((m * 16 : Nat) : Int) (d : Int) = ((m * 16 + d : Nat) : Int) := by
          rw [u64_or_nat (m * 16) d (by omega) (by omega), show m * 16 = 2 ^ 4 * m by omega, ← Nat.two_pow_add_eq_or_of_lt (by omega)]
        dsimp only
        rw [if_pos (by omega), wu64 d (by omega), e1, e2, show ((x4 : Int) + 1) = ((x4 + 1 : Nat) : Int) by omega, w64 _ (by omega) (by omega), show ((n : Int) + 1) = ((n + 1 : Nat) : Int) by omega, w64 _ (by omega) (by omega)]
        exact l0_is t ht l (x4 + 1) (m * 16 + d) (n + 1) k h3 (by omega) (by omega) (by rw [Nat.pow_succ]; omega) (by simp at hk; omega)
    · rw [if_neg (by omega), if_neg c1]
      exact hj

theorem read_is (t : ByteArray) (h0 : 0 < t.size) (b0 : bt t 0 = 48) (k : Nat) (hk : 150 ≤ k) : QE.foundryref01_read.f k t = some ((readL (L t) : Nat) : Int) := by
  obtain ⟨k, rfl⟩ : ∃ j, k = j + 3 := ⟨k - 3, by omega⟩
  have hl0 : ∃ l, L t = 48 :: l := by
    cases hl : L t with
    | nil => have := L_size t; rw [hl] at this; simp at this; omega
    | cons c l =>
      have h1 := (drop_at t (x := 0) (by rw [List.drop_zero]; exact hl)).2.1
      have h1 : bt t 0 = (c.toNat : Int) := h1
      refine ⟨l, ?_⟩
      rw [b0] at h1
      have : c = 48 := UInt8.toNat_inj.1 (by have : (48 : UInt8).toNat = 48 := rfl; omega)
      rw [this]
  have hne : ∀ x l2, x ≠ 48 → t.toList ≠ x :: l2 := by
    intro x l2 hx e
    rw [ByteArray.toList_eq] at e
    obtain ⟨l, hl⟩ := hl0
    have e : L t = x :: l2 := e
    rw [hl] at e
    injection e with e1 e2
    exact hx e1.symm
  have hlen : (L t).length = t.size := L_size t
  unfold QE.foundryref01_read.f
  rw [if_neg (hne _ _ (by decide)), if_neg (hne _ _ (by decide)), if_neg (hne _ _ (by decide)), if_neg (hne _ _ (by decide)), if_pos (by omega), if_pos (by omega), b0]
  simp only [QE.foundryref01_read.j0]
  rw [if_neg (by decide)]
  simp only [QE.foundryref01_read.j1]
  have dead : QE.foundryref01_read.j2 (k + 1) t 0 true = some 0 := by
    simp only [QE.foundryref01_read.j2]
    rw [if_pos trivial]
  unfold readL
  by_cases c1 : (t.size : Int) < 6
  · rw [if_pos c1, dead, if_pos (.inl (by omega))]; rfl
  rw [if_neg c1]
  by_cases c2 : (t.size : Int) > 40
  · rw [if_pos c2, dead, if_pos (.inr (.inl (by omega)))]; rfl
  rw [if_neg c2, if_pos (by omega)]
  have ex : (t.extract 0 3).toList = (L t).take 3 := by
    rw [ByteArray.toList_eq]
    show L _ = _
    rw [L_cut]; rfl
  rw [ex]
  by_cases c3 : (L t).take 3 = [48, 120, 49]
  · have hb : (((L t).take 3) != ([48, 120, 49] : List UInt8)) = false := by rw [c3]; decide
    rw [hb, if_neg (by rintro (h | h | h); exact absurd h (by omega); exact absurd h (by omega); exact h c3)]
    simp only [QE.foundryref01_read.j2]
    rw [if_neg (by simp), if_pos (by omega)]
    cases hd : (L t).drop 3 with
    | nil => have := drop_end t hd; omega
    | cons c l =>
      obtain ⟨h1, h2, h3⟩ := drop_at t hd
      have h2 : bt t 3 = (c.toNat : Int) := h2
      have hll : l.length ≤ 40 := by rw [← h3, List.length_drop]; omega
      rw [h2]
      by_cases c4 : c = 46
      · subst c4
        rw [if_pos (by decide)]
        dsimp only
        rw [if_pos rfl]
        exact l0_is t (by omega) l 4 0 0 k h3 (by omega) (by omega) (by decide) (by omega)
      · have hn : ¬ ((c.toNat : Int) = 46) := fun e => c4 (UInt8.toNat_inj.1 (by have : (46 : UInt8).toNat = 46 := rfl; omega))
        rw [if_neg hn]
        dsimp only
        rw [if_neg c4]
        have := j4_is t (by omega) 0 0 (by omega) (by decide) 3 (by omega) k (by omega)
        rw [Nat.zero_mul, hd] at this
        exact this
  · have hb : (((L t).take 3) != ([48, 120, 49] : List UInt8)) = true := bne_iff_ne.mpr c3
    rw [hb, dead, if_pos (.inr (.inr c3))]; rfl

theorem val8_lt (m : Nat) (e : Int) (hm : m < 4503599627370496) (h1 : e ≤ 1023) : val8 m e < 9218868437227405312 := by
  unfold val8
  split
  · have : (e + 1023).toNat ≤ 2046 := by omega
    omega
  · split
    · have := Nat.div_le_self (4503599627370496 + m) (2 ^ (-1022 - e).toNat)
      omega
    · omega
theorem tailV_lt (m : Nat) (l : List UInt8) (hm : m < 4503599627370496) : tailV m l < 9218868437227405312 := by
  have hv7 : ∀ e, val7 m e < 9218868437227405312 := by
    intro e
    unfold val7
    by_cases c1 : e > 1023
    · rw [if_pos c1]; decide
    · rw [if_neg c1]
      by_cases c2 : e < -1074
      · rw [if_pos c2]; decide
      · rw [if_neg c2]
        exact val8_lt _ _ hm (by omega)
  unfold tailV
  split
  · decide
  · split
    · decide
    · exact hv7 _
theorem rdH_lt : ∀ (l : List UInt8) (m n : Nat), n ≤ 13 → m < 16 ^ n → (rdH l m n).1 < 16 ^ (rdH l m n).2.1 ∧ (rdH l m n).2.1 ≤ 13
  | [], m, n, hn, hm => ⟨hm, hn⟩
  | c :: l, m, n, hn, hm => by
    simp only [rdH]
    by_cases c1 : n < 13
    · rw [if_pos c1]
      cases hc : hv c with
      | none => exact ⟨hm, hn⟩
      | some d =>
        have hd := hv_lt hc
        exact rdH_lt l _ _ (by omega) (by rw [Nat.pow_succ]; omega)
    · rw [if_neg c1]
      exact ⟨hm, hn⟩
theorem readL_lt (t : List UInt8) : readL t < 9218868437227405312 := by
  unfold readL
  split
  · decide
  · split
    · decide
    · split
      · rename_i l _ _
        obtain ⟨h1, h2⟩ := rdH_lt l 0 0 (by omega) (by decide)
        refine tailV_lt _ _ ?_
        have hpw : 16 ^ (rdH l 0 0).2.1 * 16 ^ (13 - (rdH l 0 0).2.1) = 4503599627370496 := by
          rw [← Nat.pow_add, show (rdH l 0 0).2.1 + (13 - (rdH l 0 0).2.1) = 13 by omega]
        rw [← hpw]
        exact Nat.mul_lt_mul_of_pos_right h1 (Nat.pow_pos (by omega))
      · exact tailV_lt _ _ (by decide)
end Go.Proofs.YthifejhdmjoolaaGreatDoor.Pure

namespace Go.Proofs.YthifejhdmjoolaaGreatDoor.Pure
open Go.RowKit Go.Proofs.YthifejhdmjoolaaGreatDoorW.PrintWords Go.Proofs.YthifejhdmjoolaaGreatDoorW.PrintLast Go.Proofs.YthifejhdmjoolaaGreatDoorW.PrintMore
open Go.Proofs.YthifejhdmjoolaaGreatDoorG Go.Flo
set_option linter.unusedVariables false
set_option linter.unusedSimpArgs false

theorem and_3 (a : Nat) (h : a < 18446744073709551616) : Go.bits .and .u64 (a : Int) 3 = ((a % 4 : Nat) : Int) := by
  have e := u64_and_nat a 3 h (by omega)
  rw [show ((3 : Nat) : Int) = 3 from rfl] at e
  rw [e, show 3 = 2 ^ 2 - 1 from rfl, Nat.and_two_pow_sub_one_eq_mod]
theorem or_0 (a : Nat) (h : a < 18446744073709551616) : Go.bits .or .u64 (a : Int) 0 = (a : Int) := by
  have e := u64_or_nat a 0 h (by omega)
  rw [show ((0 : Nat) : Int) = 0 from rfl] at e
  rw [e, Nat.or_zero]
theorem zero_or (a : Nat) (h : a < 18446744073709551616) : Go.bits .or .u64 0 (a : Int) = (a : Int) := by
  have e := u64_or_nat 0 a (by omega) h
  rw [show ((0 : Nat) : Int) = 0 from rfl] at e
  rw [e, Nat.zero_or]
theorem or_parts (f x : Nat) (hf : f < 4503599627370496) (hx : x < 2048) : Go.bits .or .u64 (f : Int) ((x * 4503599627370496 : Nat) : Int) = ((x * 4503599627370496 + f : Nat) : Int) := by
  rw [u64_or_nat f (x * 4503599627370496) (by omega) (by omega), Nat.or_comm, show x * 4503599627370496 = 2 ^ 52 * x by omega, ← Nat.two_pow_add_eq_or_of_lt (by omega)]

/-- shifted up until 55 bits are full -/
theorem up_x (s : Bool) (R : Nat × Option Int) (j : Nat) : ∀ (m : Nat) (e : Int), 18014398509481984 ≤ m * 2 ^ j → m * 2 ^ j < 36028797018963968 → -5000 < e - j → e < 5000 →
    (∃ k, QX.strconv_atofHex.j1 k ((m * 2 ^ j : Nat) : Int) (e - j) s false = some R) → ∃ k, QX.strconv_atofHex.l0 k (m : Int) e s false = some R := by
  induction j with
  | zero =>
    intro m e h1 h2 h3 h4 ⟨k, hk⟩
    refine ⟨k + 1, ?_⟩
    rw [Nat.pow_zero, Nat.mul_one] at h1 h2 hk
    simp only [QX.strconv_atofHex.l0]
    rw [if_neg (by omega), if_neg (by omega), ← hk]
    congr 1
    omega
  | succ j ih =>
    intro m e h1 h2 h3 h4 hk
    have hm : m * 2 ^ (j + 1) = m * 2 * 2 ^ j := by rw [Nat.pow_succ, Nat.mul_comm (2 ^ j) 2, Nat.mul_assoc]
    rw [hm] at h1 h2 hk
    have hp : m * 2 ≤ m * 2 * 2 ^ j := Nat.le_mul_of_pos_right _ (Nat.two_pow_pos _)
    have hm0 : m ≠ 0 := by rintro rfl; simp at h1
    obtain ⟨k, hk⟩ := ih (m * 2) (e - 1) h1 h2 (by omega) (by omega) (by rw [show e - 1 - (j : Int) = e - ((j + 1 : Nat) : Int) by omega]; exact hk)
    refine ⟨k + 1, ?_⟩
    simp only [QX.strconv_atofHex.l0]
    rw [if_neg (by omega), if_pos (by omega), show IntKind.u64.wrap ((m : Int) * 2) = ((m * 2 : Nat) : Int) by rw [IntKind.wrap_u64]; omega, show wrap64 (e - 1) = e - 1 by unfold wrap64; omega]
    exact hk

theorem l2_stop (s : Bool) (k q : Nat) (e : Int) (h : ¬ e < -1024) : QX.strconv_atofHex.l2 (k + 1) (q : Int) e s = QX.strconv_atofHex.j5 k (q : Int) e s := by
  simp only [QX.strconv_atofHex.l2]
  by_cases c : (q : Int) > 1
  · rw [if_pos c, if_neg h]
  · rw [if_neg c]

/-- shifted down to the least exponent, exactly -/
theorem down_x (s : Bool) (R : Nat × Option Int) (q : Nat) (hq : 1 < q) (j : Nat) : ∀ (e : Int), q * 2 ^ j < 18446744073709551616 → -5000 < e → e < 5000 → (j ≠ 0 → e + j ≤ -1024) → -1024 ≤ e + j →
    (∃ k, QX.strconv_atofHex.j5 k (q : Int) (e + j) s = some R) → ∃ k, QX.strconv_atofHex.l2 k ((q * 2 ^ j : Nat) : Int) e s = some R := by
  induction j with
  | zero =>
    intro e h1 h2 h3 h4 h5 ⟨k, hk⟩
    refine ⟨k + 1, ?_⟩
    rw [Nat.pow_zero, Nat.mul_one, l2_stop s k q e (by omega), ← hk]
    congr 1
    omega
  | succ j ih =>
    intro e h1 h2 h3 h4 h5 hk
    have hm : q * 2 ^ (j + 1) = q * 2 ^ j * 2 := by rw [Nat.pow_succ, Nat.mul_assoc]
    rw [hm] at h1 ⊢
    have hp : q ≤ q * 2 ^ j := Nat.le_mul_of_pos_right _ (Nat.two_pow_pos _)
    have h4' := h4 (by omega)
    obtain ⟨k, hk⟩ := ih (e + 1) (by omega) (by omega) (by omega) (by omega) (by omega) (by rw [show e + 1 + (j : Int) = e + ((j + 1 : Nat) : Int) by omega]; exact hk)
    refine ⟨k + 1, ?_⟩
    generalize q * 2 ^ j = Z at *
    simp only [QX.strconv_atofHex.l2]
    rw [if_pos (by omega), if_pos (by omega), and_one (Z * 2) h1, show Z * 2 % 2 = 0 by omega, show ((Z * 2 : Nat) : Int) / 2 = (Z : Int) by omega, show ((0 : Nat) : Int) = 0 from rfl, or_0 Z (by omega), show wrap64 (e + 1) = e + 1 by unfold wrap64; omega]
    exact hk

theorem j5_h (s : Bool) (q : Nat) (E : Int) (hq : q < 9007199254740992) (h0 : -1024 ≤ E) (h1 : E ≤ 1021) (hd : q < 4503599627370496 → E = -1024) :
    QX.strconv_atofHex.j5 5 ((q * 4 : Nat) : Int) E s = some ((if q < 4503599627370496 then q else q % 4503599627370496 + (E + 1025).toNat * 4503599627370496) + (if s then 9223372036854775808 else 0), none) := by
  have e1 : Go.bits .or .u64 (Go.bits .and .u64 ((q * 4 : Nat) : Int) 3) (Go.bits .and .u64 (((q * 4 : Nat) : Int) / 4) 1) = ((q % 2 : Nat) : Int) := by
    rw [and_3 _ (by omega), show q * 4 % 4 = 0 by omega, show ((q * 4 : Nat) : Int) / 4 = (q : Int) by omega, and_one q (by omega), show ((0 : Nat) : Int) = 0 from rfl, zero_or _ (by omega)]
  simp only [QX.strconv_atofHex.j5]
  rw [e1, if_neg (by omega), show ((q * 4 : Nat) : Int) / 4 = (q : Int) by omega, show wrap64 (E + 2) = E + 2 by unfold wrap64; omega]
  have fin : ∀ (x : Int) (X : Nat), x + 1023 = X → X < 2047 → QX.strconv_atofHex.j7 3 (q : Int) x s = some (X * 4503599627370496 + q % 4503599627370496 + (if s then 9223372036854775808 else 0), none) := by
    intro x X hx hX
    simp only [QX.strconv_atofHex.j7]
    rw [if_neg (by omega)]
    simp only [QX.strconv_atofHex.j8, QX.strconv_atofHex.j9]
    have e2 : IntKind.u64.wrap (IntKind.u64.wrap (Go.bits .and .i64 (wrap64 (x - -1023)) 2047) * 4503599627370496) = ((X * 4503599627370496 : Nat) : Int) := by
      rw [i64_and2047, show wrap64 (x - -1023) = (X : Int) by unfold wrap64; omega, IntKind.wrap_u64, IntKind.wrap_u64]
      omega
    rw [e2, and_frac q (by omega), or_parts _ X (by omega) (by omega)]
    cases s
    · rw [if_neg (by simp), Int.toNat_natCast]; simp
    · rw [if_pos rfl, or_sign _ (by omega), Int.toNat_natCast]; simp
  simp only [QX.strconv_atofHex.j6]
  by_cases c : q < 4503599627370496
  · rw [if_pos (by omega), fin (-1023) 0 (by omega) (by omega), if_pos c]
    congr 2
    omega
  · rw [if_neg (by omega), fin (E + 2) (E + 1025).toNat (by omega) (by omega), if_neg c]
    congr 2
    omega

theorem atof_x (s : Bool) (r : Nat) (h0 : r ≠ 0) (hf : r < 9218868437227405312) (m : Nat) (e : Int) (j : Nat) (a0 : ByteArray) (hm : m * 2 ^ j = manT r * 4) (he : e + 52 - j = expT r - 2) (hj : j ≤ 100) (hm2 : m < 18446744073709551616) :
    ∃ k, QX.strconv_atofHex.f k a0 (m : Int) e s false = some (r + (if s then 9223372036854775808 else 0), none) := by
  obtain ⟨b1, b2⟩ := expT_bd r h0 hf
  obtain ⟨s1, s2, s3⟩ := shf_is (sg r) (sg_ne r h0) (sg_lt r)
  have hM : manT r = sg r * 2 ^ shf (sg r) := rfl
  have hE : expT r = ((up r : Nat) : Int) - 1022 - ((shf (sg r) : Nat) : Int) := rfl
  have hsn := sg_ne r h0
  have hsl := sg_lt r
  have hu : up r < 2046 := by unfold Flo.up; omega
  -- a shift is there below the normal floats alone
  have hsh : shf (sg r) ≠ 0 → up r = 0 := by
    intro c
    unfold Flo.up
    by_cases d : r < 9007199254740992
    · omega
    · exfalso
      have : 4503599627370496 ≤ sg r := by unfold sg; split <;> omega
      have h2 : 2 ^ 1 ≤ 2 ^ shf (sg r) := Nat.pow_le_pow_right (by omega) (by omega)
      have : sg r * 2 ^ 1 ≤ sg r * 2 ^ shf (sg r) := Nat.mul_le_mul_left _ h2
      omega
  unfold QX.strconv_atofHex.f
  rw [show wrap64 (e + 52) = e + 52 by unfold wrap64; omega]
  refine up_x s _ j m (e + 52) (by omega) (by omega) (by omega) (by omega) ?_
  rw [hm, he]
  have hd : sg r < 4503599627370496 → up r = 0 := by
    intro c
    unfold Flo.up
    have : r < 4503599627370496 := by unfold sg at c; split at c <;> omega
    omega
  have hq4 : sg r * 4 * 2 ^ shf (sg r) < 18446744073709551616 := by
    have : sg r * 4 * 2 ^ shf (sg r) = sg r * 2 ^ shf (sg r) * 4 := by rw [Nat.mul_assoc, Nat.mul_comm 4, ← Nat.mul_assoc]
    rw [this]
    omega
  have q1 : -5000 < expT r - 2 := by omega
  have q2 : expT r - 2 < 5000 := by omega
  have q3 : shf (sg r) ≠ 0 → expT r - 2 + ((shf (sg r) : Nat) : Int) ≤ -1024 := by intro c; have := hsh c; omega
  have q4 : -1024 ≤ expT r - 2 + ((shf (sg r) : Nat) : Int) := by omega
  have q5 : 1 < sg r * 4 := by omega
  obtain ⟨k, hk⟩ := down_x s (r + (if s then 9223372036854775808 else 0), none) (sg r * 4) q5 (shf (sg r)) (expT r - 2) hq4 q1 q2 q3 q4 (by
    refine ⟨5, ?_⟩
    rw [show expT r - 2 + ((shf (sg r) : Nat) : Int) = ((up r : Nat) : Int) - 1024 by omega, j5_h s (sg r) (((up r : Nat) : Int) - 1024) hsl (by omega) (by omega) (by intro c; have := hd c; omega)]
    congr 2
    have hr : (if sg r < 4503599627370496 then sg r else sg r % 4503599627370496 + (((up r : Nat) : Int) - 1024 + 1025).toNat * 4503599627370496) = r := by
      unfold sg Flo.up
      by_cases c : r < 4503599627370496
      · rw [if_pos c, if_pos c]
      · rw [if_neg c, if_neg (by omega)]; omega
    rw [hr])
  refine ⟨k + 3, ?_⟩
  simp only [QX.strconv_atofHex.j1]
  rw [if_neg (by simp)]
  simp only [QX.strconv_atofHex.j2, QX.strconv_atofHex.l1]
  have hv : manT r * 4 = sg r * 4 * 2 ^ shf (sg r) := by rw [hM, Nat.mul_assoc, Nat.mul_comm _ 4, ← Nat.mul_assoc]
  rw [if_pos (by omega), hv]
  exact hk
end Go.Proofs.YthifejhdmjoolaaGreatDoor.Pure

namespace Go.Proofs.YthifejhdmjoolaaGreatDoor.Pure
open Go.RowKit Go.Proofs.YthifejhdmjoolaaGreatDoorW.PrintWords Go.Proofs.YthifejhdmjoolaaGreatDoorW.PrintLast Go.Proofs.YthifejhdmjoolaaGreatDoorW.PrintMore
open Go.Proofs.YthifejhdmjoolaaGreatDoorG Go.Flo
set_option linter.unusedVariables false
set_option linter.unusedSimpArgs false

theorem bt_in (P Q : List Int) (y : Int) (h0 : 0 ≤ y) (h1 : y < 256) : bt (strOfNums (P ++ y :: Q)) (P.length : Int) = y := by
  have := bt_str (P ++ y :: Q) P.length (by simp) (by simpa using h0) (by simpa using h1)
  simpa using this

theorem lower_letter : ∀ d : Fin 6, QH.strconv_lower.f (((97 + d.val : Nat) : Int)) = some ((97 + d.val : Nat) : Int) := by decide +kernel

/-- a hexadecimal digit read -/
theorem dig_x (k : Nat) (S : ByteArray) (m pos nd c : Nat) (x3 : Int) (s b sd : Bool) (dp : Int) (d : Nat) (hd : d < 16) (hpos : pos < S.size) (hb : bt S (pos : Int) = dg d) (hm : m < 1152921504606846976) (hc : c < 16) (hz : ¬ (d = 0 ∧ nd = 0)) (hnd : nd < 1000) (hp : pos < 1000000) :
    QH.strconv_readFloat.l0 (k + 5) S (m : Int) x3 s false true (pos : Int) false false 16 16 112 sd b (nd : Int) (c : Int) dp =
      QH.strconv_readFloat.l0 k S ((m * 16 + d : Nat) : Int) x3 s false true ((pos + 1 : Nat) : Int) false false 16 16 112 sd true ((nd + 1 : Nat) : Int) ((c + 1 : Nat) : Int) dp := by
  have q3 : (c : Int) < 16 := Int.ofNat_lt.2 hc
  have q1 : (pos : Int) < (S.size : Int) := Int.ofNat_lt.2 hpos
  have q2 : (0 : Int) ≤ (pos : Int) := Int.natCast_nonneg pos
  have w1 : wrap64 ((pos : Int) + 1) = ((pos + 1 : Nat) : Int) := by unfold wrap64; omega
  have w2 : wrap64 ((nd : Int) + 1) = ((nd + 1 : Nat) : Int) := by unfold wrap64; omega
  have w3 : wrap64 ((c : Int) + 1) = ((c + 1 : Nat) : Int) := by unfold wrap64; omega
  simp only [QH.strconv_readFloat.l0]
  rw [if_pos q1, if_pos q2, hb]
  by_cases h : d < 10
  · have e : dg d = 48 + (d : Int) := by unfold dg; rw [if_pos h]
    rw [e, if_neg (by omega)]
    simp only [QH.strconv_readFloat.j4]
    rw [if_neg (by simp), if_neg (by omega)]
    simp only [QH.strconv_readFloat.j5]
    rw [if_neg (by simp), if_pos (by omega), if_pos (by omega)]
    simp only [QH.strconv_readFloat.j6]
    rw [if_pos trivial]
    have fin : QH.strconv_readFloat.j7 (k + 1) S (m : Int) x3 s false true (pos : Int) false false 16 16 112 sd true (nd : Int) (c : Int) dp (48 + (d : Int)) false = QH.strconv_readFloat.l0 k S ((m * 16 + d : Nat) : Int) x3 s false true ((pos + 1 : Nat) : Int) false false 16 16 112 sd true ((nd + 1 : Nat) : Int) ((c + 1 : Nat) : Int) dp := by
      simp only [QH.strconv_readFloat.j7]
      rw [if_neg (by simp), if_pos q3, w1, w2, w3, show IntKind.u64.wrap (IntKind.u64.wrap ((m : Int) * 16) + (48 + (d : Int) - 48) % 256) = ((m * 16 + d : Nat) : Int) by rw [IntKind.wrap_u64, IntKind.wrap_u64]; omega]
    by_cases z : d = 0
    · rw [if_pos (by omega), show (((nd : Int)) == 0) = false from beq_eq_false_iff_ne.mpr (by omega)]
      exact fin
    · rw [if_neg (by omega)]
      exact fin
  · have e : dg d = ((97 + (d - 10) : Nat) : Int) := by unfold dg; rw [if_neg h]; omega
    have hl := lower_letter ⟨d - 10, by omega⟩
    dsimp only at hl
    rw [e, if_neg (by omega)]
    simp only [QH.strconv_readFloat.j4]
    rw [if_neg (by simp), if_neg (by omega)]
    simp only [QH.strconv_readFloat.j5]
    rw [if_neg (by simp), if_pos (by omega), if_neg (by omega)]
    simp only [QH.strconv_readFloat.j6]
    rw [if_neg (by simp), if_pos trivial, hl, Option.bind_some, if_pos (by omega), Option.bind_some, if_pos (by omega)]
    simp only [QH.strconv_readFloat.j8]
    rw [if_pos trivial, if_pos q3, hl, Option.bind_some, w1, w2, w3, show IntKind.u64.wrap (IntKind.u64.wrap ((m : Int) * 16) + (((((97 + (d - 10) : Nat) : Int)) - 97) % 256 + 10) % 256) = ((m * 16 + d : Nat) : Int) by rw [IntKind.wrap_u64, IntKind.wrap_u64]; omega]

/-- the point read -/
theorem dot_x (k : Nat) (S : ByteArray) (m x3 pos nd c dp : Int) (s b : Bool) (h0 : 0 ≤ pos) (hpos : pos < S.size) (hb : bt S pos = 46) (hp : pos < 1000000) :
    QH.strconv_readFloat.l0 (k + 3) S m x3 s false true pos false false 16 16 112 false b nd c dp =
      QH.strconv_readFloat.l0 k S m x3 s false true (pos + 1) false false 16 16 112 true b nd c nd := by
  simp only [QH.strconv_readFloat.l0]
  rw [if_pos (by omega), if_pos (by omega), hb, if_neg (by omega)]
  simp only [QH.strconv_readFloat.j4]
  rw [if_neg (by simp), if_pos trivial]
  simp only [QH.strconv_readFloat.j5]
  rw [if_pos trivial, if_neg (by simp), show wrap64 (pos + 1) = pos + 1 by unfold wrap64; omega]

/-- the p read: the digits' loop ends -/
theorem p_x (k : Nat) (S : ByteArray) (m x3 pos nd c dp : Int) (s b sd : Bool) (h0 : 0 ≤ pos) (hpos : pos < S.size) (hb : bt S pos = 112) :
    QH.strconv_readFloat.l0 (k + 5) S m x3 s false true pos false false 16 16 112 sd b nd c dp =
      QH.strconv_readFloat.j9 k S m x3 s false true pos false false 16 112 sd b nd c dp := by
  have hl : QH.strconv_lower.f 112 = some 112 := by decide +kernel
  simp only [QH.strconv_readFloat.l0]
  rw [if_pos (by omega), if_pos (by omega), hb, if_neg (by omega)]
  simp only [QH.strconv_readFloat.j4]
  rw [if_neg (by simp), if_neg (by omega)]
  simp only [QH.strconv_readFloat.j5]
  rw [if_neg (by simp), if_pos (by omega), if_neg (by omega)]
  simp only [QH.strconv_readFloat.j6]
  rw [if_neg (by simp), if_pos trivial, hl, Option.bind_some, if_pos (by omega), Option.bind_some, if_neg (by omega)]
  simp only [QH.strconv_readFloat.j8]
  rw [if_neg (by simp)]

/-- a decimal of the exponent read -/
theorem e_step (k : Nat) (S : ByteArray) (m x3 pos x16 x17 x19 : Int) (s : Bool) (a d : Nat) (hd : d < 10) (h0 : 0 ≤ pos) (hpos : pos < S.size) (hb : bt S pos = 48 + d) (hp : pos < 1000000) (ha : a < 10000) :
    QH.strconv_readFloat.l1 (k + 2) S m x3 s false true pos false false x16 x17 x19 (a : Int) =
      QH.strconv_readFloat.l1 k S m x3 s false true (pos + 1) false false x16 x17 x19 ((a * 10 + d : Nat) : Int) := by
  simp only [QH.strconv_readFloat.l1]
  rw [if_pos (by omega), if_pos (by omega), hb, if_pos (by omega), if_pos (by omega)]
  simp only [QH.strconv_readFloat.j16]
  rw [if_pos trivial, if_pos (by omega), if_pos (by omega), hb, if_neg (by omega), if_pos (by omega), show wrap64 (pos + 1) = pos + 1 by unfold wrap64; omega,
    show wrap64 (wrap64 (wrap64 ((a : Int) * 10) + wrap64 (48 + (d : Int))) - 48) = ((a * 10 + d : Nat) : Int) by unfold wrap64; omega]

theorem e_end (k : Nat) (S : ByteArray) (m x3 pos x16 x17 x19 a : Int) (s : Bool) (hpos : ¬ pos < S.size) (hm : m ≠ 0) (h16 : -100000 < x16) (h16' : x16 < 100000) (h17 : -100000 < x17) (h17' : x17 < 100000) (h19 : x19 = 1 ∨ x19 = -1) (ha : 0 ≤ a) (ha' : a < 100000) :
    QH.strconv_readFloat.l1 (k + 3) S m x3 s false true pos false false x16 x17 x19 a = some (m, x17 + a * x19 - x16, s, false, true, pos, true) := by
  simp only [QH.strconv_readFloat.l1]
  rw [if_neg hpos]
  simp only [QH.strconv_readFloat.j16]
  rw [if_neg (by simp)]
  simp only [QH.strconv_readFloat.j17]
  rw [if_neg hm, if_neg (by simp)]
  have : wrap64 (wrap64 (x17 + wrap64 (a * x19)) - x16) = x17 + a * x19 - x16 := by
    rcases h19 with rfl | rfl <;> (unfold wrap64; omega)
  rw [this]
end Go.Proofs.YthifejhdmjoolaaGreatDoor.Pure

namespace Go.Proofs.YthifejhdmjoolaaGreatDoor.Pure
open Go.RowKit Go.Proofs.YthifejhdmjoolaaGreatDoorW.PrintWords Go.Proofs.YthifejhdmjoolaaGreatDoorW.PrintLast Go.Proofs.YthifejhdmjoolaaGreatDoorW.PrintMore
open Go.Proofs.YthifejhdmjoolaaGreatDoorG Go.Flo
set_option linter.unusedVariables false
set_option linter.unusedSimpArgs false

/-- the mantissa read, from m on, at the digits of x -/
def rd : Nat → Nat → Nat → Nat
  | m, 0, x => m
  | m, n + 1, x => if x = 0 then m else rd (m * 16 + x / 1152921504606846976) n (x * 16 % 18446744073709551616)

theorem hx_zero (n : Nat) : hx n 0 = [] := by cases n <;> rfl
theorem hx_cons (n x : Nat) (h : x ≠ 0) : hx (n + 1) x = dg (x / 1152921504606846976) :: hx n (x * 16 % 18446744073709551616) := by
  show (if x = 0 then [] else _) = _
  rw [if_neg h]
theorem hx_short (j : Nat) : ∀ n x, x < 18446744073709551616 → x * 16 ^ j % 18446744073709551616 = 0 → (hx n x).length ≤ j := by
  induction j with
  | zero =>
    intro n x h0 h
    have : x = 0 := by rw [Nat.pow_zero, Nat.mul_one] at h; omega
    subst this
    rw [hx_zero]; simp
  | succ j ih =>
    intro n x h0 h
    by_cases c : x = 0
    · subst c; rw [hx_zero]; simp
    · cases n with
      | zero => show (0 : Nat) ≤ _; omega
      | succ n =>
        rw [hx_cons n x c]
        have := ih n (x * 16 % 18446744073709551616) (Nat.mod_lt _ (by omega)) (by rw [Nat.mod_mul_mod, Nat.mul_assoc, ← Nat.pow_succ']; exact h)
        simp only [List.length_cons]
        omega

theorem rd_val (n : Nat) : ∀ m x, x < 18446744073709551616 → x * 16 ^ n % 18446744073709551616 = 0 → rd m n x * 18446744073709551616 = (m * 18446744073709551616 + x) * 16 ^ (hx n x).length := by
  induction n with
  | zero =>
    intro m x h0 h
    have : x = 0 := by rw [Nat.pow_zero, Nat.mul_one] at h; omega
    subst this
    rw [hx_zero]
    show m * 18446744073709551616 = (m * 18446744073709551616 + 0) * 16 ^ 0
    omega
  | succ n ih =>
    intro m x h0 h
    by_cases c : x = 0
    · subst c
      rw [hx_zero, show rd m (n + 1) 0 = m from rfl]
      show m * 18446744073709551616 = (m * 18446744073709551616 + 0) * 16 ^ 0
      omega
    · rw [hx_cons n x c, show rd m (n + 1) x = rd (m * 16 + x / 1152921504606846976) n (x * 16 % 18446744073709551616) from if_neg c,
        ih _ _ (Nat.mod_lt _ (by omega)) (by rw [Nat.mod_mul_mod, Nat.mul_assoc, ← Nat.pow_succ']; exact h), List.length_cons, Nat.pow_succ']
      rw [← Nat.mul_assoc]
      congr 1
      omega

theorem hx_read (s sd : Bool) (dp : Int) (R : Int × Int × Bool × Bool × Bool × Int × Bool) (n : Nat) : ∀ (m x c : Nat) (P Q : List Int), x < 18446744073709551616 → m < 16 ^ c → c ≠ 0 → c + (hx n x).length ≤ 16 → P.length + (hx n x).length < 1000 →
    (∃ k, QH.strconv_readFloat.l0 k (strOfNums (P ++ (hx n x ++ Q))) ((rd m n x : Nat) : Int) 0 s false true ((P.length + (hx n x).length : Nat) : Int) false false 16 16 112 sd true ((c + (hx n x).length : Nat) : Int) ((c + (hx n x).length : Nat) : Int) dp = some R) →
    ∃ k, QH.strconv_readFloat.l0 k (strOfNums (P ++ (hx n x ++ Q))) (m : Int) 0 s false true (P.length : Int) false false 16 16 112 sd true (c : Int) (c : Int) dp = some R := by
  induction n with
  | zero =>
    intro m x c P Q h0 h1 h2 h3 h4 h
    exact h
  | succ n ih =>
    intro m x c P Q h0 h1 h2 h3 h4 h
    by_cases z : x = 0
    · subst z
      rw [hx_zero] at h ⊢
      exact h
    · have e := hx_cons n x z
      have er : rd m (n + 1) x = rd (m * 16 + x / 1152921504606846976) n (x * 16 % 18446744073709551616) := if_neg z
      rw [e, er] at h
      rw [e] at h3 h4 ⊢
      generalize hT : hx n (x * 16 % 18446744073709551616) = Tl at *
      have hd : x / 1152921504606846976 < 16 := by omega
      generalize x / 1152921504606846976 = d at *
      rw [List.length_cons] at h h3 h4
      rw [List.cons_append] at h ⊢
      have hc15 : c ≤ 15 := by omega
      have hm : m < 1152921504606846976 := Nat.lt_of_lt_of_le h1 (Nat.le_trans (Nat.pow_le_pow_right (by omega) hc15) (by omega))
      have hbt := bt_in P (Tl ++ Q) (dg d) (by have := dg_ok d hd; omega) (by have := dg_ok d hd; omega)
      have hP : P ++ (dg d :: (Tl ++ Q)) = (P ++ [dg d]) ++ (Tl ++ Q) := by simp
      obtain ⟨k, hk⟩ := ih (m * 16 + d) (x * 16 % 18446744073709551616) (c + 1) (P ++ [dg d]) Q (Nat.mod_lt _ (by omega)) (by rw [Nat.pow_succ]; exact Nat.lt_of_lt_of_le (by omega : m * 16 + d < (m + 1) * 16) (Nat.mul_le_mul_right 16 h1)) (by omega) (by rw [hT]; omega) (by rw [hT]; simp; omega) (by
        rw [hT, ← hP]
        obtain ⟨k, hk⟩ := h
        refine ⟨k, ?_⟩
        rw [← hk, List.length_append, List.length_singleton, show P.length + 1 + Tl.length = P.length + (Tl.length + 1) by omega, show c + 1 + Tl.length = c + (Tl.length + 1) by omega])
      rw [hT, ← hP] at hk
      refine ⟨k + 5, ?_⟩
      have hs : (strOfNums (P ++ (dg d :: (Tl ++ Q)))).size = P.length + (1 + Tl.length + Q.length) := by rw [strOfNums_size]; simp; omega
      rw [dig_x k _ m P.length c c 0 s true sd dp d hd (by rw [hs]; omega) hbt hm (by omega) (by omega) (by omega) (by omega), ← hk, List.length_append, List.length_singleton]

/-- decimals read -/
def dv : Nat → List Nat → Nat
  | a, [] => a
  | a, d :: ds => dv (a * 10 + d) ds
theorem dv_le : ∀ (ds : List Nat) (a : Nat), a ≤ dv a ds
  | [], a => Nat.le_refl _
  | d :: ds, a => Nat.le_trans (by omega) (dv_le ds (a * 10 + d))

theorem e_read (m x16 x17 x19 : Int) (s : Bool) (hm : m ≠ 0) (h16 : -100000 < x16) (h16' : x16 < 100000) (h17 : -100000 < x17) (h17' : x17 < 100000) (h19 : x19 = 1 ∨ x19 = -1) : ∀ (ds : List Nat) (a : Nat) (P : List Int), (∀ d ∈ ds, d < 10) → dv a ds < 10000 → P.length + ds.length < 10000 →
    ∃ k, QH.strconv_readFloat.l1 k (strOfNums (P ++ ds.map (fun d : Nat => 48 + (d : Int)))) m 0 s false true (P.length : Int) false false x16 x17 x19 (a : Int) = some (m, x17 + (dv a ds : Nat) * x19 - x16, s, false, true, ((P.length + ds.length : Nat) : Int), true)
  | [], a, P, _, h1, h2 => by
    refine ⟨3, ?_⟩
    have h1' : a < 10000 := h1
    have hs : (strOfNums (P ++ ([] : List Nat).map (fun d : Nat => 48 + (d : Int)))).size = P.length := by rw [strOfNums_size]; simp
    rw [e_end 0 _ m 0 _ x16 x17 x19 a s (by rw [hs]; omega) hm h16 h16' h17 h17' h19 (by omega) (by omega)]
    rfl
  | d :: ds, a, P, h0, h1, h2 => by
    have hd : d < 10 := h0 d (List.mem_cons_self ..)
    have ha : a < 10000 := Nat.lt_of_le_of_lt (Nat.le_trans (by omega) (dv_le ds (a * 10 + d))) h1
    rw [List.length_cons] at h2
    obtain ⟨k, hk⟩ := e_read m x16 x17 x19 s hm h16 h16' h17 h17' h19 ds (a * 10 + d) (P ++ [48 + (d : Int)]) (fun y hy => h0 y (List.mem_cons_of_mem _ hy)) h1 (by simp; omega)
    have hP : P ++ (48 + (d : Int)) :: ds.map (fun d : Nat => 48 + (d : Int)) = (P ++ [48 + (d : Int)]) ++ ds.map (fun d : Nat => 48 + (d : Int)) := by simp
    have hbt := bt_in P (ds.map (fun d : Nat => 48 + (d : Int))) (48 + (d : Int)) (by omega) (by omega)
    refine ⟨k + 2, ?_⟩
    rw [List.map_cons, e_step k _ m 0 P.length x16 x17 x19 s a d hd (by omega) (by rw [strOfNums_size]; simp; omega) hbt (by omega) ha, hP]
    rw [List.length_append, List.length_singleton] at hk
    rw [show ((P.length : Int) + 1) = ((P.length + 1 : Nat) : Int) by omega, hk, show dv a (d :: ds) = dv (a * 10 + d) ds from rfl, List.length_cons, show P.length + 1 + ds.length = P.length + (ds.length + 1) by omega]

def dgs (n : Nat) : List Nat := if n < 10 then [n] else if n < 100 then [n / 10, n % 10] else if n < 1000 then [n / 100, n / 10 % 10, n % 10] else [n / 1000, n / 100 % 10, n / 10 % 10, n % 10]
theorem dgs_decs : ∀ n : Fin 1200, decs n.val = (dgs n.val).map (fun d : Nat => 48 + (d : Int)) ∧ (∀ d ∈ dgs n.val, d < 10) ∧ dv 0 (dgs n.val) = n.val ∧ (dgs n.val).length ≤ 4 ∧ 1 ≤ (dgs n.val).length := by decide +kernel
end Go.Proofs.YthifejhdmjoolaaGreatDoor.Pure

namespace Go.Proofs.YthifejhdmjoolaaGreatDoor.Pure
open Go.RowKit Go.Proofs.YthifejhdmjoolaaGreatDoorW.PrintWords Go.Proofs.YthifejhdmjoolaaGreatDoorW.PrintLast Go.Proofs.YthifejhdmjoolaaGreatDoorW.PrintMore
open Go.Proofs.YthifejhdmjoolaaGreatDoorG Go.Flo
set_option linter.unusedVariables false
set_option linter.unusedSimpArgs false

theorem hv_dg : ∀ d : Fin 16, hv (UInt8.ofNat (dg d.val).toNat) = some d.val := by decide +kernel
theorem bytes8_app (p q : List Int) : bytes8 (p ++ q) = bytes8 p ++ bytes8 q := List.map_append
theorem rdH_p (m n : Nat) (q : List UInt8) : rdH (112 :: q) m n = (m, n, 112 :: q) := by
  have h : hv 112 = none := by decide
  simp only [rdH, h]
  split <;> rfl
theorem rdH_hx (q : List UInt8) : ∀ (n m x c : Nat), x < 18446744073709551616 → c + (hx n x).length ≤ 13 → rdH (bytes8 (hx n x) ++ 112 :: q) m c = (rd m n x, c + (hx n x).length, 112 :: q)
  | 0, m, x, c, h0, h1 => rdH_p m c q
  | n + 1, m, x, c, h0, h1 => by
    by_cases hx0 : x = 0
    · subst hx0
      rw [hx_zero]
      show rdH (112 :: q) m c = (m, c, 112 :: q)
      exact rdH_p m c q
    · rw [hx_cons n x hx0] at h1 ⊢
      simp only [List.length_cons] at h1 ⊢
      have hd : x / 1152921504606846976 < 16 := by omega
      have hb : bytes8 (dg (x / 1152921504606846976) :: hx n (x * 16 % 18446744073709551616)) = UInt8.ofNat (dg (x / 1152921504606846976)).toNat :: bytes8 (hx n (x * 16 % 18446744073709551616)) := rfl
      have hh := hv_dg ⟨x / 1152921504606846976, hd⟩
      dsimp only at hh
      rw [hb, List.cons_append, show rd m (n + 1) x = rd (m * 16 + x / 1152921504606846976) n (x * 16 % 18446744073709551616) from if_neg hx0]
      simp only [rdH, hh]
      rw [if_pos (by omega), rdH_hx q n _ _ _ (Nat.mod_lt _ (by decide)) (by omega)]
      congr 2
      omega

theorem exL_decs : ∀ n : Fin 1200, exL (bytes8 (decs n.val)) 0 = some n.val ∧ 1 ≤ (decs n.val).length ∧ (decs n.val).length ≤ 4 := by decide +kernel
theorem bytes8_len (p : List Int) : (bytes8 p).length = p.length := List.length_map ..

theorem tail_back (f : Nat) (E : Int) (h0 : -1190 < E) (h1 : E < 1190) : tailV f (bytes8 (expd E)) = val7 f E := by
  obtain ⟨d1, d2, d3⟩ := exL_decs ⟨E.natAbs, by omega⟩
  dsimp only at d1 d2 d3
  have hb : bytes8 (expd E) = 112 :: (if E < 0 then 45 else 43) :: bytes8 (decs E.natAbs) := by
    unfold expd
    by_cases c : E < 0
    · rw [if_pos c, if_pos c]; rfl
    · rw [if_neg c, if_neg c]; rfl
  have hl := bytes8_len (decs E.natAbs)
  rw [hb]
  generalize bytes8 (decs E.natAbs) = l at *
  unfold tailV
  rw [if_neg (by
    rintro (h | h | h)
    · simp only [List.length_cons] at h; omega
    · simp only [List.length_cons] at h; omega
    · exact h rfl)]
  show (match exL l 0 with | none => 0 | some e => val7 f (if some (if E < 0 then (45 : UInt8) else 43) = some 45 then -(e : Int) else (e : Int))) = val7 f E
  rw [d1]
  dsimp only
  by_cases c : E < 0
  · rw [if_pos c, if_pos rfl]
    congr 1; omega
  · rw [if_neg c, if_neg (by decide)]
    congr 1; omega

theorem val_back (b : Nat) (hb : b < 9218868437227405312) (h0 : b ≠ 0) : val7 (manT b % 4503599627370496) (expT b) = b := by
  have hsg := sg_ne b h0
  have hsl := sg_lt b
  obtain ⟨s1, s2, s3⟩ := shf_is (sg b) hsg hsl
  unfold manT expT
  by_cases c : b < 4503599627370496
  · have hs : sg b = b := if_pos c
    have hu : Flo.up b = 0 := by unfold Flo.up; omega
    rw [hs] at s1 s2 s3 ⊢
    rw [hu]
    generalize hk : shf b = K at *
    have hK : 1 ≤ K := by
      rcases Nat.eq_zero_or_pos K with h | h
      · rw [h, Nat.pow_zero, Nat.mul_one] at s2; omega
      · exact h
    generalize hM : b * 2 ^ K = M at *
    have hf : 4503599627370496 + M % 4503599627370496 = M := by omega
    unfold val7 val8
    rw [if_neg (by omega), if_neg (by omega), if_neg (by omega), hf]
    have hKn : (-1022 - (((0 : Nat) : Int) - 1022 - (K : Int))).toNat = K := by omega
    rw [hKn]
    have e1 : M * 2 ^ (64 - K) = b * 18446744073709551616 := by
      rw [← hM, Nat.mul_assoc, ← Nat.pow_add, show K + (64 - K) = 64 by omega]
    rw [e1, if_pos (Nat.mul_mod_left _ _), ← hM, Nat.mul_div_cancel _ (Nat.pow_pos (by omega))]
  · have hs : sg b = 4503599627370496 + b % 4503599627370496 := if_neg c
    have hshf : shf (sg b) = 0 := by
      rcases Nat.eq_zero_or_pos (shf (sg b)) with h | h
      · exact h
      · exfalso
        have : 2 ^ 1 ≤ 2 ^ shf (sg b) := Nat.pow_le_pow_right (by omega) h
        have h2 : sg b * 2 ^ 1 ≤ sg b * 2 ^ shf (sg b) := Nat.mul_le_mul_left _ this
        omega
    have hu : ((Flo.up b : Nat) : Int) = ((b / 4503599627370496 : Nat) : Int) - 1 := by unfold Flo.up; omega
    rw [hshf, Nat.pow_zero, Nat.mul_one, hs, hu]
    have hf : (4503599627370496 + b % 4503599627370496) % 4503599627370496 = b % 4503599627370496 := by omega
    rw [hf]
    unfold val7 val8
    rw [if_neg (by omega), if_neg (by omega), if_pos (by omega)]
    omega

theorem expT_in (b : Nat) (hb : b < 9218868437227405312) (h0 : b ≠ 0) : -1190 < expT b ∧ expT b < 1190 := by
  have := expT_bd b h0 hb
  omega

theorem read_back (b : Nat) (hb : b < 9218868437227405312) : readL (bytes8 (txtL b)) = b := by
  have hr : rung b = b := by unfold rung; omega
  have hn : isNeg b = false := by unfold isNeg; rw [show b / 9223372036854775808 = 0 by omega]; rfl
  unfold txtL
  rw [hr, hn, if_neg (by omega), if_neg (by omega)]
  by_cases c : b = 0
  · subst c
    decide
  rw [if_neg c]
  have hval := val_back b hb c
  obtain ⟨e0, e1⟩ := expT_in b hb c
  have htail := tail_back (manT b % 4503599627370496) (expT b) e0 e1
  have hsl := sg_lt b
  obtain ⟨s1, s2, s3⟩ := shf_is (sg b) (sg_ne b c) hsl
  have hM1 : 4503599627370496 ≤ manT b := s2
  have hM2 : manT b < 9007199254740992 := s3
  have hexl : 3 ≤ (expd (expT b)).length ∧ (expd (expT b)).length ≤ 6 := by
    obtain ⟨_, d2, d3⟩ := exL_decs ⟨(expT b).natAbs, by omega⟩
    dsimp only at d2 d3
    unfold expd
    simp only [List.length_cons]
    omega
  obtain ⟨q, hq⟩ : ∃ q, bytes8 (expd (expT b)) = 112 :: q := by
    unfold expd
    exact ⟨_, rfl⟩
  generalize hE : expd (expT b) = ex at *
  clear hsl s1 s2 s3
  generalize manT b = M at *
  have hsg0 : sgn false = [] := rfl
  rw [hsg0, List.nil_append, bytes8_app]
  unfold ahead
  have hx0 : M * 256 * 16 % 18446744073709551616 < 18446744073709551616 := Nat.mod_lt _ (by decide)
  have hxf : M * 256 * 16 % 18446744073709551616 = M % 4503599627370496 * 4096 := by omega
  have hz13 : M * 256 * 16 % 18446744073709551616 * 16 ^ 13 % 18446744073709551616 = 0 := by
    rw [Nat.mod_mul_mod, show (16 : Nat) ^ 13 = 4503599627370496 from rfl]; omega
  have hz16 : M * 256 * 16 % 18446744073709551616 * 16 ^ 16 % 18446744073709551616 = 0 := pow16 _
  generalize M * 256 * 16 % 18446744073709551616 = x at *
  have hlen13 := hx_short 13 16 x hx0 hz13
  have hrv := rd_val 16 0 x hx0 hz16
  rw [Nat.zero_mul, Nat.zero_add] at hrv
  by_cases cx : x = 0
  · rw [if_pos cx, List.append_nil]
    have hb3 : bytes8 [48, 120, 49] = [48, 120, 49] := by decide
    rw [hb3, hq]
    have hlq := bytes8_len ex
    rw [hq] at hlq
    unfold readL
    rw [if_neg (by
      rintro (h | h | h)
      · simp only [List.length_append, List.length_cons, List.length_nil] at h hlq; omega
      · simp only [List.length_append, List.length_cons, List.length_nil] at h hlq; omega
      · exact h rfl)]
    show (if (112 : UInt8) = 46 then _ else tailV 0 (112 :: q)) = b
    rw [if_neg (by decide), ← hq]
    have hf0 : M % 4503599627370496 = 0 := by omega
    rw [hf0] at htail hval
    rw [htail, hval]
  · rw [if_neg cx]
    have hb4 : bytes8 ([48, 120, 49] ++ 46 :: hx 16 x) = 48 :: 120 :: 49 :: 46 :: bytes8 (hx 16 x) := rfl
    rw [hb4, hq]
    have hlq := bytes8_len ex
    rw [hq] at hlq
    have hlh := bytes8_len (hx 16 x)
    unfold readL
    rw [if_neg (by
      rintro (h | h | h)
      · simp only [List.length_append, List.length_cons, List.cons_append] at h hlq; omega
      · simp only [List.length_append, List.length_cons, List.cons_append] at h hlq; omega
      · exact h rfl)]
    show (if (46 : UInt8) = 46 then tailV ((rdH (bytes8 (hx 16 x) ++ 112 :: q) 0 0).1 * 16 ^ (13 - (rdH (bytes8 (hx 16 x) ++ 112 :: q) 0 0).2.1)) (rdH (bytes8 (hx 16 x) ++ 112 :: q) 0 0).2.2 else _) = b
    rw [if_pos rfl, rdH_hx q 16 0 x 0 hx0 (by omega)]
    dsimp only
    rw [Nat.zero_add]
    have hmul : rd 0 16 x * 16 ^ (13 - (hx 16 x).length) = M % 4503599627370496 := by
      have h2 : rd 0 16 x * 18446744073709551616 * 16 ^ (13 - (hx 16 x).length) = x * 4503599627370496 := by
        rw [hrv, Nat.mul_assoc, ← Nat.pow_add, show (hx 16 x).length + (13 - (hx 16 x).length) = 13 by omega]
      rw [Nat.mul_right_comm] at h2
      generalize rd 0 16 x * 16 ^ (13 - (hx 16 x).length) = r at *
      omega
    rw [hmul, ← hq, htail, hval]
end Go.Proofs.YthifejhdmjoolaaGreatDoor.Pure

namespace Go.Proofs.YthifejhdmjoolaaGreatDoor.Pure
open Go.RowKit Go.Proofs.YthifejhdmjoolaaGreatDoorW.PrintWords Go.Proofs.YthifejhdmjoolaaGreatDoorW.PrintLast Go.Proofs.YthifejhdmjoolaaGreatDoorW.PrintMore
open Go.Proofs.YthifejhdmjoolaaGreatDoorG Go.Flo
set_option linter.unusedVariables false
set_option linter.unusedSimpArgs false

theorem decs_head (n : Nat) (h : n < 1200) : ∃ d ds, dgs n = d :: ds ∧ d < 10 ∧ decs n = (48 + (d : Int)) :: ds.map (fun d : Nat => 48 + (d : Int)) := by
  obtain ⟨h1, h2, _, _, h5⟩ := dgs_decs ⟨n, h⟩
  dsimp only at h1 h2 h5
  cases hd : dgs n with
  | nil => rw [hd] at h5; simp at h5
  | cons d ds =>
    rw [hd] at h1 h2
    exact ⟨d, ds, rfl, h2 d (List.mem_cons_self ..), h1⟩

/-- from the sign of the exponent on -/
theorem sign_read (k : Nat) (S : ByteArray) (m x16 x17 : Int) (s : Bool) (P Q : List Int) (sg y x19 : Int) (hS : S = strOfNums (P ++ 112 :: sg :: y :: Q)) (hsg : (sg = 43 ∧ x19 = 1) ∨ (sg = 45 ∧ x19 = -1)) (hy : 48 ≤ y) (hy' : y ≤ 57) (hP : P.length < 1000) :
    QH.strconv_readFloat.j11 (k + 4) S m 0 s false true (P.length : Int) false false 16 112 x16 x17 =
      QH.strconv_readFloat.l1 k S m 0 s false true ((P.length + 2 : Nat) : Int) false false x16 x17 x19 0 := by
  subst hS
  have hl : QH.strconv_lower.f 112 = some 112 := by decide +kernel
  have b0 := bt_in P (sg :: y :: Q) 112 (by omega) (by omega)
  have b1 : bt (strOfNums (P ++ 112 :: sg :: y :: Q)) ((P.length + 1 : Nat) : Int) = sg := by
    have := bt_in (P ++ [112]) (y :: Q) sg (by omega) (by omega)
    rw [List.length_append, List.length_singleton, show P ++ [112] ++ sg :: y :: Q = P ++ 112 :: sg :: y :: Q by simp] at this
    exact this
  have b2 : bt (strOfNums (P ++ 112 :: sg :: y :: Q)) ((P.length + 2 : Nat) : Int) = y := by
    have := bt_in (P ++ [112, sg]) Q y (by omega) (by omega)
    rw [List.length_append, show [112, sg].length = 2 from rfl, show P ++ [112, sg] ++ y :: Q = P ++ 112 :: sg :: y :: Q by simp] at this
    exact this
  have hs : ((strOfNums (P ++ 112 :: sg :: y :: Q)).size : Int) = (P.length : Int) + 3 + (Q.length : Int) := by rw [strOfNums_size]; simp; omega
  generalize strOfNums (P ++ 112 :: sg :: y :: Q) = S at *
  have w1 : wrap64 ((P.length : Int) + 1) = ((P.length + 1 : Nat) : Int) := by unfold wrap64; omega
  have w2 : wrap64 (((P.length + 1 : Nat) : Int) + 1) = ((P.length + 2 : Nat) : Int) := by unfold wrap64; omega
  have z0 : (P.length : Int) < (S.size : Int) := by rw [hs]; omega
  have z1 : ¬ (((P.length + 1 : Nat) : Int) ≥ (S.size : Int)) := by rw [hs]; omega
  have z2 : ¬ (((P.length + 2 : Nat) : Int) ≥ (S.size : Int)) := by rw [hs]; omega
  have n0 : (0 : Int) ≤ (P.length : Int) := Int.natCast_nonneg _
  have n1 : (0 : Int) ≤ ((P.length + 1 : Nat) : Int) := Int.natCast_nonneg _
  have n2 : (0 : Int) ≤ ((P.length + 2 : Nat) : Int) := Int.natCast_nonneg _
  simp only [QH.strconv_readFloat.j11]
  rw [if_pos z0, if_pos n0, b0, hl, Option.bind_some]
  simp only [QH.strconv_readFloat.j12]
  rw [if_pos (by decide), w1, if_neg z1, if_pos n1, if_pos (Int.not_le.1 z1), b1, w2]
  have fin : QH.strconv_readFloat.j13 (k + 2) S m 0 s false true ((P.length + 2 : Nat) : Int) false false x16 x17 x19 = QH.strconv_readFloat.l1 k S m 0 s false true ((P.length + 2 : Nat) : Int) false false x16 x17 x19 0 := by
    simp only [QH.strconv_readFloat.j13]
    rw [if_neg z2, if_pos n2, if_pos (Int.not_le.1 z2), b2, if_neg (Int.not_lt.2 hy), show decide (y > 57) = false from decide_eq_false (Int.not_lt.2 hy')]
    simp only [QH.strconv_readFloat.j14]
    rw [if_neg (by simp)]
  rcases hsg with ⟨rfl, rfl⟩ | ⟨rfl, rfl⟩
  · rw [if_pos rfl]; exact fin
  · rw [if_neg (by decide), if_pos rfl]; exact fin

/-- from the p on -/
theorem tail_read (m c : Nat) (s sd : Bool) (dp : Int) (P : List Int) (e : Int) (hm : m ≠ 0) (hc : c < 100) (hdp : sd = true → dp = 1) (hc1 : sd = false → c = 1) (he : -1200 < e) (he' : e < 1200) (hP : P.length < 1000) :
    ∃ k, QH.strconv_readFloat.l0 k (strOfNums (P ++ expd e)) (m : Int) 0 s false true (P.length : Int) false false 16 16 112 sd true (c : Int) (c : Int) dp = some ((m : Int), 4 + e - (c : Int) * 4, s, false, true, (((P ++ expd e).length : Nat) : Int), true) := by
  obtain ⟨d, ds, h1, h2, h3⟩ := decs_head e.natAbs (by omega)
  obtain ⟨g1, g2, g3, g4, g5⟩ := dgs_decs ⟨e.natAbs, by omega⟩
  dsimp only at g1 g2 g3 g4 g5
  have hE : expd e = 112 :: (if e < 0 then 45 else 43) :: (48 + (d : Int)) :: ds.map (fun d : Nat => 48 + (d : Int)) := by unfold expd; rw [h3]
  have hx : ∃ x19 : Int, ((if e < 0 then (45 : Int) else 43) = 43 ∧ x19 = 1 ∨ (if e < 0 then (45 : Int) else 43) = 45 ∧ x19 = -1) ∧ ((e.natAbs : Nat) : Int) * x19 = e := by
    by_cases c : e < 0
    · exact ⟨-1, Or.inr ⟨if_pos c, rfl⟩, by omega⟩
    · exact ⟨1, Or.inl ⟨if_neg c, rfl⟩, by omega⟩
  obtain ⟨x19, hx, hv⟩ := hx
  have hm0 : (m : Int) ≠ 0 := by omega
  obtain ⟨k, hk⟩ := e_read (m : Int) ((c : Int) * 4) 4 x19 s hm0 (by omega) (by omega) (by omega) (by omega) (by rcases hx with ⟨_, h⟩ | ⟨_, h⟩ <;> simp [h]) (dgs e.natAbs) 0 (P ++ [112, if e < 0 then 45 else 43]) g2 (by rw [g3]; omega) (by simp; omega)
  have hL : P ++ expd e = P ++ [112, if e < 0 then 45 else 43] ++ (dgs e.natAbs).map (fun d : Nat => 48 + (d : Int)) := by unfold expd; rw [g1]; simp
  refine ⟨k + 4 + 2 + 5, ?_⟩
  have b0 : bt (strOfNums (P ++ expd e)) (P.length : Int) = 112 := by rw [hE]; exact bt_in P _ 112 (by omega) (by omega)
  have hs : P.length < (strOfNums (P ++ expd e)).size := by rw [strOfNums_size, hE]; simp
  rw [p_x (k + 4 + 2) _ _ 0 _ _ _ _ s true sd (Int.natCast_nonneg _) (Int.ofNat_lt.2 hs) b0]
  have hw : wrap64 ((c : Int) * 4) = (c : Int) * 4 := by unfold wrap64; omega
  have fin : QH.strconv_readFloat.j10 (k + 4 + 1) (strOfNums (P ++ expd e)) (m : Int) 0 s false true (P.length : Int) false false 16 112 (c : Int) 1 = some ((m : Int), 4 + e - (c : Int) * 4, s, false, true, (((P ++ expd e).length : Nat) : Int), true) := by
    simp only [QH.strconv_readFloat.j10]
    rw [if_pos trivial, hw, show wrap64 (1 * 4) = 4 by unfold wrap64; omega, sign_read k _ (m : Int) _ 4 s P _ _ _ x19 (by rw [hE]) hx (by omega) (by omega) hP]
    rw [← hL, List.length_append, show [112, if e < 0 then (45 : Int) else 43].length = 2 from rfl, g3, hv] at hk
    rw [show (((0 : Nat) : Int)) = 0 from rfl] at hk
    rw [hk, hL]
    simp
    omega
  simp only [QH.strconv_readFloat.j9]
  rw [if_pos trivial]
  cases sd
  · rw [if_neg (by simp)]
    have := hc1 rfl
    subst this
    exact fin
  · rw [if_pos rfl]
    have := hdp rfl
    subst this
    exact fin
end Go.Proofs.YthifejhdmjoolaaGreatDoor.Pure

namespace Go.Proofs.YthifejhdmjoolaaGreatDoor.Pure
open Go.RowKit Go.Proofs.YthifejhdmjoolaaGreatDoorW.PrintWords Go.Proofs.YthifejhdmjoolaaGreatDoorW.PrintLast Go.Proofs.YthifejhdmjoolaaGreatDoorW.PrintMore
open Go.Proofs.YthifejhdmjoolaaGreatDoorG Go.Flo
set_option linter.unusedVariables false
set_option linter.unusedSimpArgs false

/-- the sign and 0x read -/
theorem pre_read (s : Bool) (Q : List Int) (y : Int) (hy : 0 ≤ y) (R : Int × Int × Bool × Bool × Bool × Int × Bool) (hQ : Q.length < 1000)
    (h : ∃ k, QH.strconv_readFloat.l0 k (strOfNums (sgn s ++ 48 :: 120 :: y :: Q)) 0 0 s false true (((sgn s).length + 2 : Nat) : Int) false false 16 16 112 false false 0 0 0 = some R) :
    ∃ k, QH.strconv_readFloat.f k (strOfNums (sgn s ++ 48 :: 120 :: y :: Q)) = some R := by
  obtain ⟨k, hk⟩ := h
  refine ⟨k + 3, ?_⟩
  have hl : QH.strconv_lower.f 120 = some 120 := by decide +kernel
  have b0 := bt_in (sgn s) (120 :: y :: Q) 48 (by omega) (by omega)
  have b1 : bt (strOfNums (sgn s ++ 48 :: 120 :: y :: Q)) (((sgn s).length + 1 : Nat) : Int) = 120 := by
    have := bt_in (sgn s ++ [48]) (y :: Q) 120 (by omega) (by omega)
    rw [List.length_append, List.length_singleton, show sgn s ++ [48] ++ 120 :: y :: Q = sgn s ++ 48 :: 120 :: y :: Q by simp] at this
    exact this
  have hs : ((strOfNums (sgn s ++ 48 :: 120 :: y :: Q)).size : Int) = ((sgn s).length : Int) + 3 + (Q.length : Int) := by rw [strOfNums_size]; simp; omega
  have hfirst : bt (strOfNums (sgn s ++ 48 :: 120 :: y :: Q)) 0 = if s then 45 else 48 := by
    cases s
    · exact b0
    · exact bt_in [] (48 :: 120 :: y :: Q) 45 (by omega) (by omega)
  have hsl := sgn_len s
  generalize strOfNums (sgn s ++ 48 :: 120 :: y :: Q) = S at *
  have z0 : (0 : Int) < (S.size : Int) := by rw [hs]; omega
  have w1 : wrap64 (((sgn s).length : Int) + 1) = (((sgn s).length + 1 : Nat) : Int) := by unfold wrap64; omega
  have w2 : wrap64 (((sgn s).length : Int) + 2) = (((sgn s).length + 2 : Nat) : Int) := by unfold wrap64; omega
  have z1 : (((sgn s).length + 2 : Nat) : Int) < (S.size : Int) := by rw [hs]; omega
  have z2 : (((sgn s).length : Nat) : Int) < (S.size : Int) := by rw [hs]; omega
  have z3 : (((sgn s).length + 1 : Nat) : Int) < (S.size : Int) := by rw [hs]; omega
  have n0 : (0 : Int) ≤ (((sgn s).length : Nat) : Int) := Int.natCast_nonneg _
  have n1 : (0 : Int) ≤ (((sgn s).length + 1 : Nat) : Int) := Int.natCast_nonneg _
  have fin : QH.strconv_readFloat.j0 (k + 3) S 0 0 s false false (((sgn s).length : Nat) : Int) false false = some R := by
    simp only [QH.strconv_readFloat.j0]
    rw [w2, if_pos z1, if_pos n0, if_pos z2, b0, if_pos rfl, w1, if_pos n1, if_pos z3, b1, hl, Option.bind_some]
    simp only [QH.strconv_readFloat.j1]
    rw [if_pos (by decide)]
    simp only [QH.strconv_readFloat.j2]
    rw [w2]
    exact hk
  unfold QH.strconv_readFloat.f
  rw [if_neg (Int.not_le.2 z0), if_pos z0, hfirst]
  cases s
  · rw [if_neg (by decide), if_neg (by decide)]; exact fin
  · rw [if_neg (by decide), if_pos (by decide)]; exact fin

theorem lin1 (a q : Nat) (h : a * 18446744073709551616 = q * 4096) : a * 4503599627370496 = q := by
  apply Nat.eq_of_mul_eq_mul_right (show 0 < 4096 by decide)
  rw [Nat.mul_assoc]
  exact h
theorem lin2 (a M q : Nat) (h : a * 4503599627370496 = q) (h2 : q ≤ M * 4503599627370496) : a ≤ M := by omega
theorem lin3 (a q : Nat) (h : a * 4503599627370496 = q) : a * 18014398509481984 = q * 4 := by
  rw [← h, Nat.mul_assoc]
theorem sw (M p c : Nat) : M * c * p = M * p * c := by rw [Nat.mul_assoc, Nat.mul_comm c, ← Nat.mul_assoc]
theorem ar1 (a M p : Nat) (h : a * 18446744073709551616 = M * 4096 * p) : a * 4503599627370496 = M * p := by
  have h2 := sw M p 4096
  rw [h2] at h
  exact lin1 a (M * p) h
theorem ar2 (a M p : Nat) (h : a * 4503599627370496 = M * p) (hp : p ≤ 4503599627370496) : a ≤ M :=
  lin2 a M (M * p) h (Nat.mul_le_mul_left _ hp)
theorem ar3 (a M p : Nat) (h : a * 4503599627370496 = M * p) : a * 18014398509481984 = M * 4 * p := by
  have h2 := sw M p 4
  rw [h2]
  exact lin3 a (M * p) h

theorem readFloat_x (s : Bool) (r : Nat) (h0 : r ≠ 0) (hf : r < 9218868437227405312) :
    ∃ (m len : Nat), m * 2 ^ (54 - 4 * len) = manT r * 4 ∧ len ≤ 13 ∧ m < 18446744073709551616 ∧
      ∃ k, QH.strconv_readFloat.f k (strOfNums (sgn s ++ (ahead (manT r * 256) ++ expd (expT r)))) = some ((m : Int), expT r - 4 * (len : Int), s, false, true, (((sgn s ++ (ahead (manT r * 256) ++ expd (expT r))).length : Nat) : Int), true) := by
  obtain ⟨b1, b2⟩ := expT_bd r h0 hf
  obtain ⟨s1, s2, s3⟩ := shf_is (sg r) (sg_ne r h0) (sg_lt r)
  have hM : manT r = sg r * 2 ^ shf (sg r) := rfl
  rw [← hM] at s2 s3
  generalize manT r = M at *
  generalize expT r = e at *
  have hsl := sgn_len s
  have hdl : (expd e).length ≤ 6 := by
    unfold expd decs
    simp only [List.length_cons]
    split
    · simp
    split
    · simp
    split <;> simp
  obtain ⟨X, hX⟩ : ∃ X, M * 256 * 16 % 18446744073709551616 = X := ⟨_, rfl⟩
  have hXv : 18446744073709551616 + X = M * 4096 := by omega
  have hXl : X < 18446744073709551616 := by omega
  have hz13 : X * 16 ^ 13 % 18446744073709551616 = 0 := by
    have : X = (M - 4503599627370496) * 4096 := by omega
    rw [this, Nat.mul_assoc, show 4096 * 16 ^ 13 = 18446744073709551616 by decide, Nat.mul_mod_left]
  have hlen := hx_short 13 16 X hXl hz13
  have hval := rd_val 16 1 X hXl (pow16 X)
  refine ⟨rd 1 16 X, (hx 16 X).length, ?_⟩
  have hpow : 16 ^ (hx 16 X).length ≤ 4503599627370496 := Nat.le_trans (Nat.pow_le_pow_right (by omega) hlen) (by decide)
  rw [Nat.one_mul, hXv] at hval
  have hval2 : rd 1 16 X * 4503599627370496 = M * 16 ^ (hx 16 X).length := ar1 _ _ _ hval
  have hrd : rd 1 16 X ≤ M := ar2 _ _ _ hval2 hpow
  have hrd0 : rd 1 16 X ≠ 0 := by
    intro c
    rw [c, Nat.zero_mul] at hval2
    have : 0 < M * 16 ^ (hx 16 X).length := Nat.mul_pos (by omega) (Nat.pow_pos (by omega))
    omega
  refine ⟨?_, hlen, by omega, ?_⟩
  · have e1 : 16 ^ (hx 16 X).length = 2 ^ (4 * (hx 16 X).length) := by rw [Nat.pow_mul]
    have e2 : 2 ^ (54 - 4 * (hx 16 X).length) * 2 ^ (4 * (hx 16 X).length) = 18014398509481984 := by rw [← Nat.pow_add, show 54 - 4 * (hx 16 X).length + 4 * (hx 16 X).length = 54 by omega]
    rw [e1] at hval2
    apply Nat.eq_of_mul_eq_mul_right (Nat.two_pow_pos (4 * (hx 16 X).length))
    rw [Nat.mul_assoc, e2]
    exact ar3 _ _ _ hval2
  · have hA : ahead (M * 256) = [48, 120, 49] ++ (if X = 0 then [] else 46 :: hx 16 X) := by unfold ahead; rw [hX]
    rw [hA]
    have hL : sgn s ++ ([48, 120, 49] ++ (if X = 0 then [] else 46 :: hx 16 X) ++ expd e) = sgn s ++ 48 :: 120 :: 49 :: ((if X = 0 then [] else 46 :: hx 16 X) ++ expd e) := by simp
    have hL1 : sgn s ++ 48 :: 120 :: 49 :: ((if X = 0 then [] else 46 :: hx 16 X) ++ expd e) = (sgn s ++ [48, 120]) ++ 49 :: ((if X = 0 then [] else 46 :: hx 16 X) ++ expd e) := by simp
    have hL2 : sgn s ++ 48 :: 120 :: 49 :: ((if X = 0 then [] else 46 :: hx 16 X) ++ expd e) = (sgn s ++ [48, 120, 49]) ++ ((if X = 0 then [] else 46 :: hx 16 X) ++ expd e) := by simp
    rw [hL]
    have hlt : ((if X = 0 then ([] : List Int) else 46 :: hx 16 X) ++ expd e).length < 1000 := by
      rw [List.length_append]; split
      · simp; omega
      · rw [List.length_cons]; omega
    refine pre_read s _ 49 (by omega) _ hlt ?_
    have hb := bt_in (sgn s ++ [48, 120]) ((if X = 0 then [] else 46 :: hx 16 X) ++ expd e) 49 (by omega) (by omega)
    rw [← hL1, List.length_append, show [48, (120 : Int)].length = 2 from rfl] at hb
    have hsz : (sgn s).length + 3 < (strOfNums (sgn s ++ 48 :: 120 :: 49 :: ((if X = 0 then [] else 46 :: hx 16 X) ++ expd e))).size := by
      rw [strOfNums_size, hL2, List.length_append, List.length_append, List.length_append, show [48, 120, (49 : Int)].length = 3 from rfl]
      have : 1 ≤ (expd e).length := by unfold expd; simp
      omega
    have hd1 : ∀ k, QH.strconv_readFloat.l0 (k + 5) (strOfNums (sgn s ++ 48 :: 120 :: 49 :: ((if X = 0 then [] else 46 :: hx 16 X) ++ expd e))) 0 0 s false true (((sgn s).length + 2 : Nat) : Int) false false 16 16 112 false false 0 0 0 =
        QH.strconv_readFloat.l0 k (strOfNums (sgn s ++ 48 :: 120 :: 49 :: ((if X = 0 then [] else 46 :: hx 16 X) ++ expd e))) ((1 : Nat) : Int) 0 s false true (((sgn s).length + 3 : Nat) : Int) false false 16 16 112 false true ((1 : Nat) : Int) ((1 : Nat) : Int) 0 := by
      intro k
      have := dig_x k (strOfNums (sgn s ++ 48 :: 120 :: 49 :: ((if X = 0 then [] else 46 :: hx 16 X) ++ expd e))) 0 ((sgn s).length + 2) 0 0 0 s false false 0 1 (by omega) (by omega) hb (by omega) (by omega) (by omega) (by omega) (by omega)
      exact this
    by_cases c : X = 0
    · subst c
      simp only [if_true, List.nil_append] at *
      rw [hx_zero] at *
      obtain ⟨k, hk⟩ := tail_read 1 1 s false 0 (sgn s ++ [48, 120, 49]) e (by omega) (by omega) (by simp) (by simp) (by omega) (by omega) (by simp; omega)
      refine ⟨k + 5, ?_⟩
      rw [hd1 k, hL2, show (((sgn s).length + 3 : Nat) : Int) = ((sgn s ++ [48, 120, 49]).length : Int) by simp, hk]
      have : rd 1 16 0 = 1 := rfl
      rw [this]
      simp
      omega
    · rw [if_neg c] at *
      have hL3 : sgn s ++ 48 :: 120 :: 49 :: ((46 :: hx 16 X) ++ expd e) = (sgn s ++ [48, 120, 49, 46]) ++ (hx 16 X ++ expd e) := by simp
      have hb2 := bt_in (sgn s ++ [48, 120, 49]) (hx 16 X ++ expd e) 46 (by omega) (by omega)
      rw [show (sgn s ++ [48, 120, 49]) ++ 46 :: (hx 16 X ++ expd e) = sgn s ++ 48 :: 120 :: 49 :: ((46 :: hx 16 X) ++ expd e) by simp, List.length_append, show [48, 120, (49 : Int)].length = 3 from rfl] at hb2
      have ht := tail_read (rd 1 16 X) (1 + (hx 16 X).length) s true 1 (sgn s ++ [48, 120, 49, 46] ++ hx 16 X) e hrd0 (by omega) (by simp) (by simp) (by omega) (by omega) (by simp; omega)
      have hh := hx_read s true 1 ((rd 1 16 X : Nat), e - 4 * ((hx 16 X).length : Int), s, false, true, (((sgn s ++ 48 :: 120 :: 49 :: ((46 :: hx 16 X) ++ expd e)).length : Nat) : Int), true) 16 1 X 1 (sgn s ++ [48, 120, 49, 46]) (expd e) hXl (by omega) (by omega) (by omega) (by simp; omega) (by
        obtain ⟨k, hk⟩ := ht
        refine ⟨k, ?_⟩
        have hl4 : (sgn s ++ [48, 120, 49, 46] ++ hx 16 X).length = (sgn s ++ [48, 120, 49, 46]).length + (hx 16 X).length := List.length_append
        rw [List.append_assoc, hl4] at hk
        rw [hk, hL3, show 4 + e - ((1 + (hx 16 X).length : Nat) : Int) * 4 = e - 4 * ((hx 16 X).length : Int) by omega])
      obtain ⟨k, hk⟩ := hh
      refine ⟨k + 3 + 5, ?_⟩
      rw [hd1 (k + 3), dot_x k _ _ 0 _ _ _ 0 s true (Int.natCast_nonneg _) (Int.ofNat_lt.2 hsz) hb2 (by omega)]
      rw [← hL3, List.length_append, show [48, 120, 49, (46 : Int)].length = 4 from rfl] at hk
      rw [show (((sgn s).length + 3 : Nat) : Int) + 1 = (((sgn s).length + 4 : Nat) : Int) by omega]
      exact hk
end Go.Proofs.YthifejhdmjoolaaGreatDoor.Pure

namespace Go.Proofs.YthifejhdmjoolaaGreatDoor.Pure
open Go.RowKit Go.Proofs.YthifejhdmjoolaaGreatDoorW.PrintWords Go.Proofs.YthifejhdmjoolaaGreatDoorW.PrintLast Go.Proofs.YthifejhdmjoolaaGreatDoorW.PrintMore
open Go.Proofs.YthifejhdmjoolaaGreatDoorG Go.Flo
set_option linter.unusedVariables false
set_option linter.unusedSimpArgs false

theorem pf_num (r : Nat) (h0 : r ≠ 0) (hf : r < 9218868437227405312) :
    ∃ k, QP.strconv_ParseFloat.f k (strOfNums (ahead (manT r * 256) ++ expd (expT r))) 64 = some (r, none) := by
  obtain ⟨m, len, hv, hl, hm, hread⟩ := readFloat_x false r h0 hf
  rw [show sgn false = [] from rfl, List.nil_append] at hread
  have hlen : (ahead (manT r * 256) ++ expd (expT r)).length < 900 := by
    have h2 := ahead_len (manT r * 256)
    have hdl : (expd (expT r)).length ≤ 6 := by
      unfold expd decs
      simp only [List.length_cons]
      split
      · simp
      split
      · simp
      split <;> simp
    rw [List.length_append]
    omega
  have hsp : ∀ k, strconv_special.f k (strOfNums (ahead (manT r * 256) ++ expd (expT r))) = some (0, 0, false) := by
    have hA : ∃ Q, ahead (manT r * 256) ++ expd (expT r) = 48 :: Q := ⟨_, by unfold ahead; rw [List.append_assoc]; rfl⟩
    obtain ⟨Q, hA⟩ := hA
    rw [hA]
    exact fun k => if_pos ⟨by rw [strOfNums_size]; simp, bt_in [] Q 48 (by omega) (by omega)⟩
  have hsz : (strOfNums (ahead (manT r * 256) ++ expd (expT r))).size = (ahead (manT r * 256) ++ expd (expT r)).length := strOfNums_size _
  generalize hL : ahead (manT r * 256) ++ expd (expT r) = L at *
  obtain ⟨k2, h2⟩ := hread
  obtain ⟨b1, b2⟩ := expT_bd r h0 hf
  obtain ⟨k3, h3⟩ := atof_x false r h0 hf m (expT r - 4 * (len : Int)) (54 - 4 * len) ((strOfNums L).extract 0 ((L.length : Nat) : Int).toNat) hv (by omega) (by omega) hm
  refine ⟨max k2 k3, ?_⟩
  have g2 := at_rounds (g := fun k => QH.strconv_readFloat.f k (strOfNums L)) (fun k => QH.strconv_readFloat.mono _ k) (Nat.le_max_left k2 k3) h2
  have g3 := at_rounds (g := fun k => QX.strconv_atofHex.f k ((strOfNums L).extract 0 ((L.length : Nat) : Int).toNat) (m : Int) (expT r - 4 * (len : Int)) false false) (fun k => QX.strconv_atofHex.mono _ _ _ _ _ k) (Nat.le_max_right k2 k3) h3
  generalize max k2 k3 = K at *
  have e : QP.strconv_atof64.f K (strOfNums L) = some (r, ((L.length : Nat) : Int), none) := by
    unfold QP.strconv_atof64.f strconv_readFloat.f strconv_atofHex.f
    rw [hsp K, Option.bind_some, if_neg (by decide), g2, Option.bind_some, if_pos rfl, if_pos rfl, if_pos (Int.natCast_nonneg _), if_pos (by rw [hsz]; exact Int.le_refl _), g3, Option.bind_some]
    rfl
  unfold QP.strconv_ParseFloat.f QP.strconv_parseFloatPrefix.f
  rw [if_neg (by decide), e, Option.bind_some, Option.bind_some, if_pos (by rw [hsz])]

theorem pf_zero : QP.strconv_ParseFloat.f 40 (strOfNums [48, 120, 48, 112, 43, 48]) 64 = some (0, none) := by decide +kernel

theorem parse_back (a : Nat) (ha : a < 9218868437227405312) : ∃ k, floats_Parse.f k (strOfNums (txtL a)) = some ((a : Int), 0) := by
  have hr : rung a = a := by unfold rung; omega
  have hn : isNeg a = false := by unfold isNeg; rw [show a / 9223372036854775808 = 0 by omega]; rfl
  have hc : canonN a = a := if_neg (by omega)
  have ht : txtL a = if a = 0 then [48, 120, 48, 112, 43, 48] else ahead (manT a * 256) ++ expd (expT a) := by
    unfold txtL
    rw [hr, hn, if_neg (by omega), if_neg (by omega)]
    rfl
  have hP : ∃ k, QP.strconv_ParseFloat.f k (strOfNums (txtL a)) 64 = some (a, none) := by
    rw [ht]
    by_cases c : a = 0
    · subst c
      exact ⟨40, pf_zero⟩
    · rw [if_neg c]
      exact pf_num a c ha
  obtain ⟨Q, hQ⟩ : ∃ Q, txtL a = 48 :: Q := by
    rw [ht]
    by_cases c : a = 0
    · rw [if_pos c]; exact ⟨_, rfl⟩
    · rw [if_neg c]; exact ⟨_, by unfold ahead; rw [List.append_assoc]; rfl⟩
  have hlen : (txtL a).length < 1000 := by
    rw [ht]
    split
    · decide
    · have h2 := ahead_len (manT a * 256)
      have hdl : (expd (expT a)).length ≤ 6 := by
        unfold expd decs
        simp only [List.length_cons]
        split
        · simp
        split
        · simp
        split <;> simp
      rw [List.length_append]
      omega
  have hnan : (strOfNums (txtL a)).toList ≠ [110, 97, 110] := by
    rw [hQ]
    intro h
    rw [ByteArray.toList_eq, str_list] at h
    simp [bytes8] at h
  obtain ⟨k, g1, g2⟩ := together (g := fun k => QP.strconv_ParseFloat.f k (strOfNums (txtL a)) 64) (f := fun k => QT.floats_Text.f k (a : Int)) (fun k => QP.strconv_ParseFloat.mono _ _ k) (fun k => QT.floats_Text.mono _ k) hP (text_x a (by omega))
  refine ⟨k, ?_⟩
  have hcI : canonI (a : Int) = (a : Int) := by rw [canonI_nat a (by omega), hc]
  unfold floats_Parse.f
  rw [if_neg hnan, if_pos (by rw [strOfNums_size]; omega), g1, Option.bind_some]
  dsimp only
  rw [hcI, g2, Option.bind_some, if_pos rfl]
end Go.Proofs.YthifejhdmjoolaaGreatDoor.Pure

namespace Go.Proofs.YthifejhdmjoolaaGreatDoor.Pure
open Go.RowKit Go.Proofs.YthifejhdmjoolaaGreatDoorW.PrintWords Go.Proofs.YthifejhdmjoolaaGreatDoorW.PrintLast Go.Proofs.YthifejhdmjoolaaGreatDoorW.PrintMore
open Go.Proofs.YthifejhdmjoolaaGreatDoorG Go.Flo
open Go.Proofs.YthifejhdmjoolaaGreatDoor.Lx (L)
set_option linter.unusedVariables false
set_option linter.unusedSimpArgs false

theorem L_str (p : List Int) : L (strOfNums p) = bytes8 p := str_list p
theorem toList_inj {s t : ByteArray} (h : s.toList = t.toList) : s = t := by
  rw [ByteArray.toList_eq, ByteArray.toList_eq] at h
  apply ByteArray.ext
  apply Array.ext'
  exact h

/-- a float's text that begins with 0 is one of a finite float from 0 on -/
theorem from_nought (c : Nat) (hc : c < 18446744073709551616) (q : List UInt8) (h : bytes8 (txtL c) = 48 :: q) : c < 9218868437227405312 := by
  unfold txtL at h
  by_cases c1 : 9218868437227405312 < rung c
  · rw [if_pos c1] at h
    exact absurd (List.cons.inj h).1 (by decide)
  rw [if_neg c1] at h
  by_cases hn : isNeg c = true
  · exfalso
    rw [hn] at h
    have hs : sgn true = [45] := rfl
    rw [hs] at h
    have key : ∀ r : List Int, bytes8 ([45] ++ r) = 48 :: q → False := by
      intro r h
      exact absurd (List.cons.inj h).1 (by decide)
    split at h
    · exact key _ h
    · split at h
      · exact key _ h
      · exact key _ h
  · have hn : isNeg c = false := by simpa using hn
    have hlow : c < 9223372036854775808 := by
      unfold isNeg at hn
      have := beq_eq_false_iff_ne.mp hn
      omega
    have hr : rung c = c := by unfold rung; omega
    rw [hr] at c1 h
    by_cases c2 : c = 9218868437227405312
    · rw [if_pos c2, hn] at h
      exact absurd (List.cons.inj h).1 (by decide)
    · omega

theorem refparse_is (t : ByteArray) (h0 : 0 < t.size) (b0 : bt t 0 = 48) (k : Nat) (hk : 300 ≤ k) :
    QE.foundryref01_Parse.f k t = if (strOfNums (txtL (readL (L t)))).toList = t.toList then some (((readL (L t) : Nat) : Int), 0) else some (0, 10) := by
  unfold QE.foundryref01_Parse.f
  rw [read_is t h0 b0 k (by omega), Option.bind_some, reftext _ (readL_lt _) k (by omega), Option.bind_some]

/-- what the program's Parse tells: an error, or a float whose text it is -/
theorem parse_says (t : ByteArray) (hS : Txt t) (h2 : 2 < t.size) (b0 : bt t 0 = 48) (b1 : bt t 1 = 120) :
    ∃ k, floats_Parse.f k t = some (0, 10) ∨ ∃ c : Nat, c < 18446744073709551616 ∧ strOfNums (txtL c) = t ∧ floats_Parse.f k t = some ((c : Int), 0) := by
  obtain ⟨k1, r, o, hp, hr, ho⟩ := pf_tot t hS h2 b0 b1
  obtain ⟨a, ha, hlt⟩ := canonI_lt r hr
  obtain ⟨k2, ht⟩ := text_x a hlt
  have f1 := at_rounds (g := fun k => QP.strconv_ParseFloat.f k t 64) (fun k => QP.strconv_ParseFloat.mono _ _ k) (Nat.le_max_left k1 k2) hp
  have f2 := at_rounds (g := fun k => QT.floats_Text.f k (a : Int)) (fun k => QT.floats_Text.mono _ k) (Nat.le_max_right k1 k2) ht
  refine ⟨max k1 k2, ?_⟩
  have hz := hS.size
  generalize max k1 k2 = K at *
  unfold floats_Parse.f
  rw [if_neg (notnan_48 t (by omega) b0), if_pos (by omega), f1, Option.bind_some]
  rcases ho with rfl | rfl | rfl
  · dsimp only
    rw [ha, f2, Option.bind_some]
    by_cases c : (strOfNums (txtL a)).toList = t.toList
    · rw [if_pos c]
      exact .inr ⟨a, hlt, toList_inj c, rfl⟩
    · rw [if_neg c]
      exact .inl rfl
  · exact .inl rfl
  · exact .inl rfl

theorem parse_same (t : ByteArray) (hS : Txt t) (h2 : 2 ≤ t.size) (b0 : bt t 0 = 48) (b1 : bt t 1 = 120) :
    ∃ r : Int × Int, (∃ k, floats_ParseV.f k t = some r) ∧ ∀ k, 300 ≤ k → QE.foundryref01_Parse.f k t = some r := by
  have href := refparse_is t (by omega) b0
  have hlt := readL_lt (L t)
  by_cases cx : t = ⟨#[48, 120]⟩
  · refine ⟨(0, 10), ⟨0, by unfold floats_ParseV.f; rw [if_pos cx]⟩, fun k hk => ?_⟩
    rw [href k hk, if_neg ?_]
    subst cx
    decide +kernel
  have h3 : 2 < t.size := by
    rcases Nat.lt_or_ge 2 t.size with h | h
    · exact h
    · exfalso
      apply cx
      obtain ⟨⟨l⟩⟩ := t
      have hl : l.length = 2 := by have : l.length = (ByteArray.mk ⟨l⟩).size := rfl; omega
      match l, hl with
      | [x, y], _ =>
        have hx : (x.toNat : Int) = 48 := by rw [← b0]; rfl
        have hy : (y.toNat : Int) = 120 := by rw [← b1]; rfl
        have ex : x = 48 := UInt8.toNat_inj.1 (by show x.toNat = 48; omega)
        have ey : y = 120 := UInt8.toNat_inj.1 (by show y.toNat = 120; omega)
        rw [ex, ey]
  have hV : ∀ k, floats_ParseV.f k t = floats_Parse.f k t := fun k => by unfold floats_ParseV.f; rw [if_neg cx]
  by_cases cA : (strOfNums (txtL (readL (L t)))).toList = t.toList
  · have ht := toList_inj cA
    obtain ⟨k, hk⟩ := parse_back (readL (L t)) hlt
    rw [ht] at hk
    exact ⟨_, ⟨k, by rw [hV]; exact hk⟩, fun k hk => by rw [href k hk, if_pos cA]⟩
  · obtain ⟨k, hk⟩ := parse_says t hS h3 b0 b1
    rcases hk with hk | ⟨c, hc, ht, hk⟩
    · exact ⟨_, ⟨k, by rw [hV]; exact hk⟩, fun k hk => by rw [href k hk, if_neg cA]⟩
    · exfalso
      apply cA
      have hLt : L t = bytes8 (txtL c) := by rw [← ht, L_str]
      obtain ⟨q, hq⟩ : ∃ q, L t = 48 :: q := by
        cases hl : L t with
        | nil => have := Lx.L_size t; rw [hl] at this; simp at this; omega
        | cons x l =>
          have h1 : bt t 0 = (x.toNat : Int) := (Lx.drop_at t (x := 0) (by rw [List.drop_zero]; exact hl)).2.1
          rw [b0] at h1
          have : x = 48 := UInt8.toNat_inj.1 (by have : (48 : UInt8).toNat = 48 := rfl; omega)
          exact ⟨l, by rw [this]⟩
      have hfin := from_nought c hc q (by rw [← hLt]; exact hq)
      rw [hLt, read_back c hfin, ht]
end Go.Proofs.YthifejhdmjoolaaGreatDoor.Pure
