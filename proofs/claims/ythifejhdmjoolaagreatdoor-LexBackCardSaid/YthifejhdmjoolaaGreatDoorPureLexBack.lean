/-
  LexBack, the plain law.
-/
import Derived.Test.YthifejhdmjoolaaGreatDoorQK4
import Derived.Test.YthifejhdmjoolaaGreatDoorLxK
namespace Go.Proofs.YthifejhdmjoolaaGreatDoor.Pure
open Go.RowKit Go.Proofs.YthifejhdmjoolaaGreatDoor.QK Go.Proofs.YthifejhdmjoolaaGreatDoorW.PrintWords Go.Proofs.YthifejhdmjoolaaGreatDoorW.PrintLast
open Go.Proofs.YthifejhdmjoolaaGreatDoorG Go.Proofs.YthifejhdmjoolaaGreatDoor.Lx
set_option linter.unusedVariables false
set_option linter.unusedSimpArgs false

theorem alive_holds : foundrylaw05_alive.f 60 = some true := by decide +kernel
theorem alive_k {k : Nat} (hk : 60 ≤ k) : foundrylaw05_alive.f k = some true := at_rounds (fun k => foundrylaw05_alive.mono k) hk alive_holds

theorem Same_at {l m : List T} (h : Same l m) : ∀ (i : Nat) (hi : i < l.length) (hj : i < m.length), (l[i]).same (m[i]) := by
  induction h with
  | nil => intro i hi; simp at hi
  | cons h _ ih =>
    intro i hi hj
    cases i with
    | zero => exact h
    | succ i => exact ih i (by simpa using hi) (by simpa using hj)
theorem rd_map (l : List T) (i : Nat) (hi : i < l.length) : rd_T44 (l.map toS) (i : Int) = toS l[i] := by
  unfold rd_T44
  rw [Int.toNat_natCast, List.getD_eq_getElem?_getD, List.getElem?_map, List.getElem?_eq_getElem hi]
  rfl
theorem same_one {a b : T} (h : a.same b) : lex_Same_1.f (toS a).f0 (toS a).f1 (toS a).f2.f0 (toS a).f2.f1 (toS a).f3 (toS b).f0 (toS b).f1 (toS b).f2.f0 (toS b).f2.f1 (toS b).f3 = some true := by
  obtain ⟨h1, h2, h3, h4⟩ := h
  unfold lex_Same_1.f toS
  dsimp only
  rw [if_pos h1, h2, if_pos rfl, h3, h4]
  simp
theorem same_loop {l m : List T} (h : Same l m) (hl : l.length ≤ 1024) : ∀ (d i k : Nat), i + d = l.length → d + 1 ≤ k → slices_EqualFunc_of_54.l0 k (m.map toS) (l.map toS) (l.length : Int) (i : Int) = some true
  | 0, i, k, hi, hk => by
    obtain ⟨k, rfl⟩ : ∃ j, k = j + 1 := ⟨k - 1, by omega⟩
    simp only [slices_EqualFunc_of_54.l0]
    rw [if_neg (by omega)]
  | d + 1, i, k, hi, hk => by
    obtain ⟨k, rfl⟩ : ∃ j, k = j + 1 := ⟨k - 1, by omega⟩
    have hm := h.len
    simp only [slices_EqualFunc_of_54.l0, List.length_map]
    rw [if_pos (by omega), if_pos (by omega), if_pos (by omega), if_pos (by omega), rd_map l i (by omega), rd_map m i (by omega), same_one (Same_at h i (by omega) (by omega)), Option.bind_some, if_pos rfl, w64 _ (by omega) (by omega), show ((i : Int) + 1) = ((i + 1 : Nat) : Int) by omega]
    exact same_loop h hl d (i + 1) k (by omega) (by omega)
theorem same_is {l m : List T} (h : Same l m) (hl : l.length ≤ 1024) (k : Nat) (hk : 1030 ≤ k) : lex_Same.f k (l.map toS) (m.map toS) = some true := by
  unfold lex_Same.f slices_EqualFunc_of_54.f
  have hm := h.len
  rw [List.length_map, List.length_map, if_pos (by omega)]
  have := same_loop h hl l.length 0 k (by omega) (by omega)
  rw [show ((0 : Int)) = ((0 : Nat) : Int) from rfl, this]
  rfl


theorem join_is : ∀ l : List (List UInt8), Go.Lib.join l [32] = joinL l
  | [] => rfl
  | [x] => by rw [Go.Lib.join_one]; rfl
  | x :: y :: l => by
    rw [Go.Lib.join_cons]
    show _ = x ++ 32 :: joinL (y :: l)
    rw [← join_is (y :: l), Go.Lib.join_cons]
    simp [Go.Lib.joinTail]
theorem join_len {p : Nat} {u : List UInt8} {ts : List T} (h : Lx V p u ts) : (joinL (ts.map T.text)).length ≤ u.length + ts.length := by
  induction h with
  | nil p g hg => simp [joinL]
  | cons p g x r ts hx hg he hn _ ih =>
    cases ts with
    | nil =>
      simp only [List.map_cons, List.map_nil, joinL, List.length_append, List.length_cons]
      omega
    | cons t ts =>
      have e : joinL (List.map T.text ({ kind := (tok V (x ++ r)).kind, text := x, ty := (tok V (x ++ r)).ty, bits := (tok V (x ++ r)).bits, place := p + g.length } :: t :: ts)) = x ++ 32 :: joinL ((t :: ts).map T.text) := rfl
      rw [e]
      simp only [List.length_append, List.length_cons] at ih ⊢
      omega

theorem join_loop (l : List T) (hl : l.length ≤ 1024) (hj : (joinL (l.map T.text)).length ≤ 100000) : ∀ (d i k : Nat), i + d = l.length → d + 1 ≤ k → lex_Join.l0 k ((l.take i).map fun t => B t.text) (l.map toS) (l.length : Int) (i : Int) = some (B (joinL (l.map T.text)))
  | 0, i, k, hi, hk => by
    obtain ⟨k, rfl⟩ : ∃ j, k = j + 1 := ⟨k - 1, by omega⟩
    simp only [lex_Join.l0]
    rw [if_neg (by omega), List.take_of_length_le (by omega)]
    have e : (l.map fun t => B t.text).map (·.data.toList) = l.map T.text := by
      rw [List.map_map]
      rfl
    have e2 : (⟨#[32]⟩ : ByteArray).data.toList = [32] := rfl
    unfold strings_Join.f
    rw [e, e2, join_is, List.length_map, if_pos ⟨by omega, by omega⟩, Option.bind_some]
    rfl
  | d + 1, i, k, hi, hk => by
    obtain ⟨k, rfl⟩ : ∃ j, k = j + 1 := ⟨k - 1, by omega⟩
    simp only [lex_Join.l0]
    rw [if_pos (by omega), if_pos (by omega), if_pos (by rw [List.length_map]; omega), if_pos (by rw [List.length_map, List.length_take]; omega), rd_map l i (by omega), w64 _ (by omega) (by omega), show ((i : Int) + 1) = ((i + 1 : Nat) : Int) by omega]
    have e : ((l.take i).map fun t => B t.text) ++ [(toS (l[i]'(by omega))).f1] = (l.take (i + 1)).map fun t => B t.text := by
      rw [List.take_succ_eq_append_getElem (by omega), List.map_append]
      rfl
    rw [e]
    exact join_loop l hl hj d (i + 1) k (by omega) (by omega)
theorem joined (l : List T) (hl : l.length ≤ 1024) (hj : (joinL (l.map T.text)).length ≤ 100000) (k : Nat) (hk : 1030 ≤ k) : lex_Join.f k (l.map toS) = some (B (joinL (l.map T.text))) := by
  unfold lex_Join.f
  have := join_loop l hl hj l.length 0 k (by omega) (by omega)
  rw [List.length_map]
  exact this

theorem LexBack : foundrylaw05_LexBack.Pure := by
  intro s hs
  by_cases big : 4096 < s.size
  · refine ⟨70, ?_⟩
    unfold foundrylaw05_LexBack.f
    rw [lex_big s big, Option.bind_some, if_neg (by decide), if_pos (by rfl), alive_k (by omega)]
    rfl
  obtain ⟨K, hK⟩ := lex_is s (by omega)
  cases hlex : lexS V (s.size + 1) 0 0 (L s) with
  | error x =>
    have hK : ∀ k, K ≤ k → lex_Lex.f k s = some ([], (x.1 : Int), x.2) := fun k hk => by rw [hK k hk, hlex]; rfl
    by_cases c : x.2 = 0
    · exact absurd c (lexS_err V _ _ _ _ _ hlex)
    · refine ⟨K + 100, ?_⟩
      unfold foundrylaw05_LexBack.f
      rw [hK _ (by omega), Option.bind_some]
      dsimp only
      rw [if_neg c, if_pos (by rfl), alive_k (by omega)]
      rfl
  | ok ts =>
    have hK : ∀ k, K ≤ k → lex_Lex.f k s = some (ts.map toS, 0, 0) := fun k hk => by rw [hK k hk, hlex]; rfl
    obtain ⟨hLx, hcount⟩ := lexS_ok V _ _ _ _ _ (by rw [L_size]; omega) (by omega) hlex
    have hcount : ts.length ≤ 1024 := by omega
    have hjl := join_len hLx
    rw [L_size] at hjl
    by_cases c : (((B (joinL (ts.map T.text))).size : Nat) : Int) > 4096
    · refine ⟨K + 1100, ?_⟩
      unfold foundrylaw05_LexBack.f
      rw [hK _ (by omega), Option.bind_some]
      dsimp only
      rw [if_pos rfl, joined ts hcount (by omega) _ (by omega), Option.bind_some, if_pos c, alive_k (by omega)]
      rfl
    obtain ⟨ts', h1, h2⟩ := Lx_join V hLx 0
    have hl := h2.len
    have hjs := h2.join
    obtain ⟨K2, hK2⟩ := lex_is (B (joinL (ts.map T.text))) (by omega)
    have hK2 : ∀ k, K2 ≤ k → lex_Lex.f k (B (joinL (ts.map T.text))) = some (ts'.map toS, 0, 0) := fun k hk => by
      rw [hK2 k hk, L_B, ok_lexS V 0 _ ts' h1 _ 0 (by rw [B_size]; omega) (by omega)]; rfl
    refine ⟨K + K2 + 1100, ?_⟩
    unfold foundrylaw05_LexBack.f
    rw [hK _ (by omega), Option.bind_some]
    dsimp only
    rw [if_pos rfl, joined ts hcount (by omega) _ (by omega), Option.bind_some, if_neg c, hK2 _ (by omega), Option.bind_some]
    dsimp only
    rw [if_pos rfl, same_is h2 hcount _ (by omega), Option.bind_some, if_pos rfl, joined ts' (by omega) (by rw [← hjs]; omega) _ (by omega), Option.bind_some, hjs, if_pos rfl, alive_k (by omega)]
    rfl
end Go.Proofs.YthifejhdmjoolaaGreatDoor.Pure
