/-
  LexJoins, the plain law: joining and comparing tokens, as the program does it and as the document says it.
-/
import Derived.Test.YthifejhdmjoolaaGreatDoorQJ5
import Derived.Lib.Join
namespace Go.Proofs.YthifejhdmjoolaaGreatDoor.Pure
open Go.RowKit Go.Proofs.YthifejhdmjoolaaGreatDoor.QJ Go.Proofs.YthifejhdmjoolaaGreatDoorW.PrintWords Go.Proofs.YthifejhdmjoolaaGreatDoorW.PrintLast
open Go.Proofs.YthifejhdmjoolaaGreatDoorG
set_option linter.unusedVariables false
set_option linter.unusedSimpArgs false

theorem alive_holds : foundrylaw05_alive.f 60 = some true := by decide +kernel
theorem alive_k {k : Nat} (hk : 60 ≤ k) : foundrylaw05_alive.f k = some true := at_rounds (fun k => foundrylaw05_alive.mono k) hk alive_holds
theorem w64 (n : Int) (h0 : -100000000 ≤ n) (h1 : n ≤ 100000000) : wrap64 n = n := by unfold wrap64; omega

def to44 (x : S43) : S44 := ⟨x.f0, x.f1, ⟨x.f2.f0, x.f2.f1⟩, x.f3⟩
def tx (x : S43) : List UInt8 := x.f1.data.toList
/-- how long the texts are together -/
def tot : List S43 → Nat
  | [] => 0
  | x :: l => x.f1.size + tot l
theorem tx_len (x : S43) : (tx x).length = x.f1.size := rfl
theorem rd43 (l : List S43) (i : Nat) (hi : i < l.length) : rd_T43 l (i : Int) = l[i] := by
  unfold rd_T43
  rw [Int.toNat_natCast, List.getD_eq_getElem?_getD, List.getElem?_eq_getElem hi]
  rfl
theorem rd44 (l : List S43) (i : Nat) (hi : i < l.length) : rd_T44 (l.map to44) (i : Int) = to44 l[i] := by
  unfold rd_T44
  rw [Int.toNat_natCast, List.getD_eq_getElem?_getD, List.getElem?_map, List.getElem?_eq_getElem hi]
  rfl

theorem own_loop (l : List S43) (hl : l.length ≤ 10000000) : ∀ (d i k : Nat), i + d = l.length → d + 1 ≤ k → foundrylaw05_own.l0 k l ((l.take i).map to44) (i : Int) = some (l.map to44)
  | 0, i, k, hi, hk => by
    obtain ⟨k, rfl⟩ : ∃ j, k = j + 1 := ⟨k - 1, by omega⟩
    simp only [foundrylaw05_own.l0]
    rw [if_neg (by omega), List.take_of_length_le (by omega)]
  | d + 1, i, k, hi, hk => by
    obtain ⟨k, rfl⟩ : ∃ j, k = j + 1 := ⟨k - 1, by omega⟩
    simp only [foundrylaw05_own.l0]
    rw [if_pos (by omega), if_pos (by omega), if_pos (by rw [List.length_map, List.length_take]; omega), rd43 l i (by omega), w64 _ (by omega) (by omega), show ((i : Int) + 1) = ((i + 1 : Nat) : Int) by omega]
    have e : (l.take i).map to44 ++ [(⟨(l[i]'(by omega)).f0, (l[i]'(by omega)).f1, (⟨(l[i]'(by omega)).f2.f0, (l[i]'(by omega)).f2.f1⟩ : S41), (l[i]'(by omega)).f3⟩ : S44)] = (l.take (i + 1)).map to44 := by
      rw [List.take_succ_eq_append_getElem (by omega), List.map_append]
      rfl
    rw [e]
    exact own_loop l hl d (i + 1) k (by omega) (by omega)
theorem own_is (l : List S43) (hl : l.length ≤ 10000000) (k : Nat) (hk : l.length + 1 ≤ k) : foundrylaw05_own.f k l = some (l.map to44) := by
  unfold foundrylaw05_own.f
  exact own_loop l hl l.length 0 k (by omega) hk

/-- the joined text -/
def joinS (l : List S43) : List UInt8 := Go.Lib.join (l.map tx) [32]
theorem joinS_len : ∀ l : List S43, (joinS l).length ≤ tot l + l.length
  | [] => by simp [joinS, Go.Lib.join, List.intercalate]
  | x :: l => by
    have h : ∀ m : List S43, Go.Lib.lens (m.map tx) = tot m := by
      intro m
      induction m with
      | nil => rfl
      | cons y m ih =>
        have : Go.Lib.lens ((y :: m).map tx) = (tx y).length + Go.Lib.lens (m.map tx) := by simp [Go.Lib.lens]
        rw [this, ih]
        rfl
    unfold joinS
    rw [List.map_cons, Go.Lib.join_length, ← List.map_cons, h]
    simp
    omega

theorem join_loop (l : List S43) (hl : l.length ≤ 10000000) (ht : tot l ≤ 10000000) : ∀ (d i k : Nat), i + d = l.length → d + 1 ≤ k → lex_Join.l0 k ((l.take i).map S43.f1) (l.map to44) (l.length : Int) (i : Int) = some ⟨(joinS l).toArray⟩
  | 0, i, k, hi, hk => by
    obtain ⟨k, rfl⟩ : ∃ j, k = j + 1 := ⟨k - 1, by omega⟩
    simp only [lex_Join.l0]
    rw [if_neg (by omega), List.take_of_length_le (by omega)]
    have e : (l.map S43.f1).map (·.data.toList) = l.map tx := by
      rw [List.map_map]
      rfl
    have e2 : (⟨#[32]⟩ : ByteArray).data.toList = [32] := rfl
    have hj := joinS_len l
    unfold joinS at hj ⊢
    unfold strings_Join.f
    rw [e, e2, List.length_map, if_pos ⟨by omega, by omega⟩, Option.bind_some]
  | d + 1, i, k, hi, hk => by
    obtain ⟨k, rfl⟩ : ∃ j, k = j + 1 := ⟨k - 1, by omega⟩
    simp only [lex_Join.l0]
    rw [if_pos (by omega), if_pos (by omega), if_pos (by rw [List.length_map]; omega), if_pos (by rw [List.length_map, List.length_take]; omega), rd44 l i (by omega), w64 _ (by omega) (by omega), show ((i : Int) + 1) = ((i + 1 : Nat) : Int) by omega]
    have e : ((l.take i).map S43.f1) ++ [(to44 (l[i]'(by omega))).f1] = (l.take (i + 1)).map S43.f1 := by
      rw [List.take_succ_eq_append_getElem (by omega), List.map_append]
      rfl
    rw [e]
    exact join_loop l hl ht d (i + 1) k (by omega) (by omega)
theorem join_is (l : List S43) (hl : l.length ≤ 10000000) (ht : tot l ≤ 10000000) (k : Nat) (hk : l.length + 1 ≤ k) : lex_Join.f k (l.map to44) = some ⟨(joinS l).toArray⟩ := by
  unfold lex_Join.f
  rw [List.length_map]
  exact join_loop l hl ht l.length 0 k (by omega) hk

/-- what the document's Join has behind a number of tokens -/
def upB : List S43 → List UInt8 → List UInt8
  | [], p => p
  | x :: l, p => upB l (p ++ 32 :: tx x)
def nums (p : List UInt8) : List Int := p.map fun b => (b.toNat : Int)
theorem nums_app (p q : List UInt8) : nums (p ++ q) = nums p ++ nums q := List.map_append
theorem nums_str (p : List UInt8) : (strOfNums (nums p)) = ⟨p.toArray⟩ := by
  apply ByteArray.ext
  apply Array.ext'
  simp [strOfNums, nums, Function.comp_def]
theorem upB_is : ∀ (l : List S43) (p : List UInt8), upB l p = p ++ Go.Lib.joinTail [32] (l.map tx)
  | [], p => by simp [upB, Go.Lib.joinTail]
  | x :: l, p => by
    rw [upB, upB_is l]
    simp [Go.Lib.joinTail]
theorem bytes_nums (x : S43) : bytesOf x.f1 = nums (tx x) := rfl

theorem ref_loop (l : List S43) (hl : l.length ≤ 10000000) : ∀ (m : List S43) (i k : Nat) (p : List UInt8), l.drop i = m → 0 < i → i ≤ l.length → p.length + tot m + m.length ≤ 30000000 → m.length + 1 ≤ k → foundryref05_Join.l0 k l (nums p) (i : Int) = some ⟨(upB m p).toArray⟩
  | [], i, k, p, hm, h0, hi, hp, hk => by
    obtain ⟨k, rfl⟩ : ∃ j, k = j + 1 := ⟨k - 1, by omega⟩
    have := List.drop_eq_nil_iff.1 hm
    simp only [foundryref05_Join.l0]
    rw [if_neg (by omega), nums_str]
    rfl
  | x :: m, i, k, p, hm, h0, hi, hp, hk => by
    obtain ⟨k, rfl⟩ : ∃ j, k = j + 1 := ⟨k - 1, by omega⟩
    have hil : i < l.length := by
      rcases Nat.lt_or_ge i l.length with h | h
      · exact h
      · rw [List.drop_of_length_le h] at hm; cases hm
    have hd := List.drop_eq_getElem_cons hil
    rw [hm] at hd
    injection hd with hd1 hd2
    have hpl : (nums p).length = p.length := List.length_map ..
    simp only [tot, List.length_cons] at hp hk
    simp only [foundryref05_Join.l0]
    rw [if_pos (by omega), if_pos (by omega), if_pos (by rw [hpl]; omega), Option.bind_some, if_pos (by omega), rd43 l i hil, ← hd1, if_pos (by rw [List.length_append, hpl]; simp only [List.length_cons, List.length_nil]; omega), w64 _ (by omega) (by omega), show ((i : Int) + 1) = ((i + 1 : Nat) : Int) by omega]
    have e : nums p ++ [32] ++ bytesOf x.f1 = nums (p ++ 32 :: tx x) := by
      rw [bytes_nums, nums_app, List.append_assoc]
      rfl
    rw [e]
    exact ref_loop l hl m (i + 1) k (p ++ 32 :: tx x) hd2.symm (by omega) (by omega) (by rw [List.length_append, List.length_cons, tx_len]; omega) (by omega)
theorem ref_is (l : List S43) (hl : l.length ≤ 10000000) (ht : tot l ≤ 10000000) (k : Nat) (hk : l.length + 2 ≤ k) : foundryref05_Join.f k l = some ⟨(joinS l).toArray⟩ := by
  unfold foundryref05_Join.f
  obtain ⟨k, rfl⟩ : ∃ j, k = j + 1 := ⟨k - 1, by omega⟩
  cases l with
  | nil =>
    simp only [foundryref05_Join.l0]
    rw [if_neg (by decide)]
    rfl
  | cons x m =>
    simp only [tot, List.length_cons] at ht hk hl
    simp only [foundryref05_Join.l0]
    have h0 : rd_T43 (x :: m) 0 = x := rfl
    rw [if_pos (by simp only [List.length_cons]; omega), if_neg (by omega), if_pos (by omega), h0, if_pos (by simp only [List.length_nil]; omega), List.nil_append, bytes_nums, w64 _ (by omega) (by omega)]
    have := ref_loop (x :: m) (by simp only [List.length_cons]; omega) m 1 k (tx x) rfl (by omega) (by simp only [List.length_cons]; omega) (by rw [tx_len]; omega) (by omega)
    rw [show ((0 : Int) + 1) = ((1 : Nat) : Int) from rfl, this, upB_is]
    unfold joinS
    rw [List.map_cons, Go.Lib.join_cons]

/-- are two tokens the same? -/
def eqT (x y : S43) : Bool := decide (x.f0 = y.f0) && decide (x.f1.toList = y.f1.toList) && (x.f2.f0 == y.f2.f0 && x.f2.f1 == y.f2.f1)
def alls : List S43 → List S43 → Bool
  | x :: l, y :: m => eqT x y && alls l m
  | _, _ => true
theorem alls_self : ∀ l : List S43, alls l l = true
  | [] => rfl
  | x :: l => by simp [alls, eqT, alls_self l]
theorem one_is (x y : S43) : lex_Same_1.f (to44 x).f0 (to44 x).f1 (to44 x).f2.f0 (to44 x).f2.f1 (to44 x).f3 (to44 y).f0 (to44 y).f1 (to44 y).f2.f0 (to44 y).f2.f1 (to44 y).f3 = some (eqT x y) := by
  unfold lex_Same_1.f to44 eqT
  dsimp only
  by_cases h1 : x.f0 = y.f0
  · rw [if_pos h1]
    by_cases h2 : x.f1.toList = y.f1.toList
    · rw [if_pos h2, decide_eq_true h1, decide_eq_true h2]; rfl
    · rw [if_neg h2, decide_eq_true h1, decide_eq_false h2]; rfl
  · rw [if_neg h1, decide_eq_false h1]; rfl

theorem same_loop (l m : List S43) (hlm : l.length = m.length) (hl : l.length ≤ 10000000) : ∀ (d i k : Nat), i + d = l.length → d + 1 ≤ k → slices_EqualFunc_of_54.l0 k (m.map to44) (l.map to44) (l.length : Int) (i : Int) = some (alls (l.drop i) (m.drop i))
  | 0, i, k, hi, hk => by
    obtain ⟨k, rfl⟩ : ∃ j, k = j + 1 := ⟨k - 1, by omega⟩
    simp only [slices_EqualFunc_of_54.l0]
    rw [if_neg (by omega), List.drop_of_length_le (by omega : l.length ≤ i)]
    rfl
  | d + 1, i, k, hi, hk => by
    obtain ⟨k, rfl⟩ : ∃ j, k = j + 1 := ⟨k - 1, by omega⟩
    have h1 : i < l.length := by omega
    have h2 : i < m.length := by omega
    rw [List.drop_eq_getElem_cons h1, List.drop_eq_getElem_cons h2]
    simp only [slices_EqualFunc_of_54.l0, List.length_map]
    rw [if_pos (by omega), if_pos (by omega), if_pos (by omega), if_pos (by omega), rd44 l i h1, rd44 m i h2, one_is, Option.bind_some, w64 _ (by omega) (by omega), show ((i : Int) + 1) = ((i + 1 : Nat) : Int) by omega, same_loop l m hlm hl d (i + 1) k (by omega) (by omega)]
    simp only [alls]
    cases eqT l[i] m[i]
    · rfl
    · rfl
theorem refsame_loop (l m : List S43) (hlm : l.length = m.length) (hl : l.length ≤ 10000000) : ∀ (d i k : Nat), i + d = l.length → d + 1 ≤ k → foundryref05_Same.l0 k l m (i : Int) = some (alls (l.drop i) (m.drop i))
  | 0, i, k, hi, hk => by
    obtain ⟨k, rfl⟩ : ∃ j, k = j + 1 := ⟨k - 1, by omega⟩
    simp only [foundryref05_Same.l0]
    rw [if_neg (by omega), List.drop_of_length_le (by omega : l.length ≤ i)]
    rfl
  | d + 1, i, k, hi, hk => by
    obtain ⟨k, rfl⟩ : ∃ j, k = j + 1 := ⟨k - 1, by omega⟩
    have h1 : i < l.length := by omega
    have h2 : i < m.length := by omega
    rw [List.drop_eq_getElem_cons h1, List.drop_eq_getElem_cons h2]
    simp only [foundryref05_Same.l0]
    rw [if_pos (by omega), if_pos (by omega), if_pos (by omega), rd43 l i h1, rd43 m i h2, w64 _ (by omega) (by omega), show ((i : Int) + 1) = ((i + 1 : Nat) : Int) by omega, refsame_loop l m hlm hl d (i + 1) k (by omega) (by omega)]
    simp only [alls]
    unfold eqT
    by_cases g1 : l[i].f0 = m[i].f0
    · rw [if_pos g1, decide_eq_true g1]
      by_cases g2 : l[i].f1.toList = m[i].f1.toList
      · rw [if_pos g2, decide_eq_true g2]
        cases h3 : (l[i].f2.f0 == m[i].f2.f0) <;> cases h4 : (l[i].f2.f1 == m[i].f2.f1) <;> simp
      · rw [if_neg g2, decide_eq_false g2]; rfl
    · rw [if_neg g1, decide_eq_false g1]; rfl

theorem sames (l m : List S43) (hl : l.length ≤ 10000000) (k : Nat) (hk : l.length + 1 ≤ k) : ∃ b, lex_Same.f k (l.map to44) (m.map to44) = some b ∧ foundryref05_Same.f k l m = some b := by
  unfold lex_Same.f slices_EqualFunc_of_54.f foundryref05_Same.f
  rw [List.length_map, List.length_map]
  by_cases h : (l.length : Int) = (m.length : Int)
  · refine ⟨alls l m, ?_, ?_⟩
    · rw [if_pos h]
      have := same_loop l m (by omega) hl l.length 0 k (by omega) hk
      rw [show ((0 : Int)) = ((0 : Nat) : Int) from rfl, this]
      rfl
    · rw [if_pos h]
      exact refsame_loop l m (by omega) hl l.length 0 k (by omega) hk
  · exact ⟨false, by rw [if_neg h]; rfl, by rw [if_neg h]⟩
theorem self_same (l : List S43) (hl : l.length ≤ 10000000) (k : Nat) (hk : l.length + 1 ≤ k) : lex_Same.f k (l.map to44) (l.map to44) = some true := by
  unfold lex_Same.f slices_EqualFunc_of_54.f
  rw [List.length_map, if_pos rfl]
  have := same_loop l l rfl hl l.length 0 k (by omega) hk
  rw [show ((0 : Int)) = ((0 : Nat) : Int) from rfl, this, List.drop_zero, alls_self]
  rfl

theorem LexJoins (l m : List S43) (hl : l.length ≤ 10000000) (hm : m.length ≤ 10000000) (ht : tot l ≤ 10000000) : ∃ k, foundrylaw05_LexJoins.f k l m = some true := by
  refine ⟨l.length + m.length + 100, ?_⟩
  have o1 := own_is l hl (l.length + m.length + 100) (by omega)
  have o2 := own_is m hm (l.length + m.length + 100) (by omega)
  have o3 := join_is l hl ht (l.length + m.length + 100) (by omega)
  have o4 := ref_is l hl ht (l.length + m.length + 100) (by omega)
  obtain ⟨b, o5, o6⟩ := sames l m hl (l.length + m.length + 100) (by omega)
  have o7 := self_same l hl (l.length + m.length + 100) (by omega)
  have o8 : foundrylaw05_alive.f (l.length + m.length + 100) = some true := alive_k (by omega)
  unfold foundrylaw05_LexJoins.f
  rw [o1, Option.bind_some, o3, Option.bind_some, o4, Option.bind_some, if_pos rfl, o2]
  simp only [Option.bind_some]
  rw [o5, o6]
  simp only [Option.bind_some]
  rw [o7, o8]
  cases b <;> rfl
end Go.Proofs.YthifejhdmjoolaaGreatDoor.Pure
