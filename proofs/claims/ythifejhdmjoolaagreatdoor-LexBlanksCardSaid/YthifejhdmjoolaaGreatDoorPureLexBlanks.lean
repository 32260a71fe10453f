/-
  LexBlanks, the plain law.
-/
import Derived.Test.YthifejhdmjoolaaGreatDoorQM5
import Derived.Test.YthifejhdmjoolaaGreatDoorLxM
namespace Go.Proofs.YthifejhdmjoolaaGreatDoor.Pure
open Go.RowKit Go.Proofs.YthifejhdmjoolaaGreatDoor.QM Go.Proofs.YthifejhdmjoolaaGreatDoorW.PrintWords Go.Proofs.YthifejhdmjoolaaGreatDoorW.PrintLast
open Go.Proofs.YthifejhdmjoolaaGreatDoorG Go.Proofs.YthifejhdmjoolaaGreatDoor.Lx
set_option linter.unusedVariables false
set_option linter.unusedSimpArgs false

theorem alive_holds : foundrylaw05_alive.f 60 = some true := by decide +kernel
theorem alive_k {k : Nat} (hk : 60 ≤ k) : foundrylaw05_alive.f k = some true := at_rounds (fun k => foundrylaw05_alive.mono k) hk alive_holds

theorem Same_at {l m : List T} (h : Same l m) : ∀ (i : Nat) (hi : i < l.length) (hj : i < m.length), (l[i]).same (m[i]) := by
  induction h with
  | nil => intro i hi; simp at hi
  | cons h _ ih =>
    intro i hi hj
    cases i with
    | zero => exact h
    | succ i => exact ih i (by simpa using hi) (by simpa using hj)
theorem rd_map (l : List T) (i : Nat) (hi : i < l.length) : rd_T44 (l.map toS) (i : Int) = toS l[i] := by
  unfold rd_T44
  rw [Int.toNat_natCast, List.getD_eq_getElem?_getD, List.getElem?_map, List.getElem?_eq_getElem hi]
  rfl
theorem same_one {a b : T} (h : a.same b) : lex_Same_1.f (toS a).f0 (toS a).f1 (toS a).f2.f0 (toS a).f2.f1 (toS a).f3 (toS b).f0 (toS b).f1 (toS b).f2.f0 (toS b).f2.f1 (toS b).f3 = some true := by
  obtain ⟨h1, h2, h3, h4⟩ := h
  unfold lex_Same_1.f toS
  dsimp only
  rw [if_pos h1, h2, if_pos rfl, h3, h4]
  simp
theorem same_loop {l m : List T} (h : Same l m) (hl : l.length ≤ 1024) : ∀ (d i k : Nat), i + d = l.length → d + 1 ≤ k → slices_EqualFunc_of_54.l0 k (m.map toS) (l.map toS) (l.length : Int) (i : Int) = some true
  | 0, i, k, hi, hk => by
    obtain ⟨k, rfl⟩ : ∃ j, k = j + 1 := ⟨k - 1, by omega⟩
    simp only [slices_EqualFunc_of_54.l0]
    rw [if_neg (by omega)]
  | d + 1, i, k, hi, hk => by
    obtain ⟨k, rfl⟩ : ∃ j, k = j + 1 := ⟨k - 1, by omega⟩
    have hm := h.len
    simp only [slices_EqualFunc_of_54.l0, List.length_map]
    rw [if_pos (by omega), if_pos (by omega), if_pos (by omega), if_pos (by omega), rd_map l i (by omega), rd_map m i (by omega), same_one (Same_at h i (by omega) (by omega)), Option.bind_some, if_pos rfl, w64 _ (by omega) (by omega), show ((i : Int) + 1) = ((i + 1 : Nat) : Int) by omega]
    exact same_loop h hl d (i + 1) k (by omega) (by omega)
theorem same_is {l m : List T} (h : Same l m) (hl : l.length ≤ 1024) (k : Nat) (hk : 1030 ≤ k) : lex_Same.f k (l.map toS) (m.map toS) = some true := by
  unfold lex_Same.f slices_EqualFunc_of_54.f
  have hm := h.len
  rw [List.length_map, List.length_map, if_pos (by omega)]
  have := same_loop h hl l.length 0 k (by omega) (by omega)
  rw [show ((0 : Int)) = ((0 : Nat) : Int) from rfl, this]
  rfl

theorem L_app (a b : ByteArray) : L (a ++ b) = L a ++ L b := by
  unfold L
  simp
theorem sk_all : ∀ m : List UInt8, (10 : UInt8) ∉ m → sk true m = m.length
  | [], h => rfl
  | c :: m, h => by
    have hc : (c == 10) = false := beq_eq_false_iff_ne.mpr (fun e => h (by simp [e]))
    simp only [sk, hc, List.length_cons]
    show 1 + sk true m = _
    rw [sk_all m (fun g => h (by simp [g]))]; omega
theorem sk_pref : ∀ (m z : List UInt8), (10 : UInt8) ∉ m → sk true (m ++ 10 :: z) = m.length + 1 + sk false z
  | [], z, h => by
    simp only [List.nil_append, sk, List.length_nil]
    show 1 + sk false z = _
    omega
  | c :: m, z, h => by
    have hc : (c == 10) = false := beq_eq_false_iff_ne.mpr (fun e => h (by simp [e]))
    simp only [List.cons_append, sk, hc, List.length_cons]
    show 1 + sk true (m ++ 10 :: z) = _
    rw [sk_pref m z (fun g => h (by simp [g]))]; omega
theorem sk_two (z : List UInt8) : sk false (47 :: 47 :: z) = 2 + sk true z := by
  simp only [sk]
  rw [if_neg (show ¬ blankB 47 = true by decide), if_pos (by simp)]
  show 1 + (1 + sk true z) = _
  omega
theorem sk_b (b : UInt8) (hb : blankB b = true) (z : List UInt8) : sk false (b :: z) = 1 + sk false z := by
  simp only [sk]
  rw [if_pos hb]

/-- the second text's tokens are those of the first -/
theorem last_step (ts : List T) (hc : ts.length ≤ 1024) (t : ByteArray) (ht : ∃ ts', Lx V 0 (L t) ts' ∧ Same ts ts') : ∃ K, ∀ k, K ≤ k → foundrylaw05_LexBlanks.j3 k (ts.map toS) t = some true := by
  by_cases hb : 4096 < t.size
  · refine ⟨1, fun k hk => ?_⟩
    obtain ⟨k, rfl⟩ : ∃ j, k = j + 1 := ⟨k - 1, by omega⟩
    simp only [foundrylaw05_LexBlanks.j3]
    rw [if_pos (by omega)]
  · obtain ⟨ts', h1, h2⟩ := ht
    have hl := h2.len
    obtain ⟨K, hK⟩ := lex_is t (by omega)
    rw [ok_lexS V 0 (L t) ts' h1 (t.size + 1) 0 (by rw [L_size]; omega) (by omega)] at hK
    refine ⟨K + 1100, fun k hk => ?_⟩
    obtain ⟨k, rfl⟩ : ∃ j, k = j + 1 := ⟨k - 1, by omega⟩
    simp only [foundrylaw05_LexBlanks.j3]
    rw [if_neg (by omega), hK k (by omega), Option.bind_some]
    simp only [answer, List.nil_append]
    rw [if_pos trivial, same_is h2 hc k (by omega)]
    rfl

theorem more_loop (s more : ByteArray) (w what : Int) (l : List S44) (hm : more.size ≤ 140737488351232) (K : Nat)
    (hF : (10 : UInt8) ∉ L more → ∀ k, K ≤ k → (if what = 1 then (foundrylaw05_LexBlanks.j2 k s w what more l (⟨#[10, 9]⟩ : ByteArray)) else (if what = 2 then (if 4 + more.size ≤ 9223372036854775807 then (if ((⟨#[32, 47, 47, 32]⟩ : ByteArray) ++ more).size + 1 ≤ 9223372036854775807 then (foundrylaw05_LexBlanks.j2 k s w what more l (((⟨#[32, 47, 47, 32]⟩ : ByteArray) ++ more) ++ (⟨#[10]⟩ : ByteArray))) else (none)) else (none)) else (foundrylaw05_LexBlanks.j2 k s w what more l (⟨#[32]⟩ : ByteArray)))) = some true) :
    ∀ (d i k : Nat), i + d = more.size → d + 1 + K ≤ k → (10 : UInt8) ∉ (L more).take i → foundrylaw05_LexBlanks.l0 k s w what more l (i : Int) = some true
  | 0, i, k, hi, hk, hn => by
    obtain ⟨k, rfl⟩ : ∃ j, k = j + 1 := ⟨k - 1, by omega⟩
    simp only [foundrylaw05_LexBlanks.l0]
    rw [if_neg (by omega)]
    refine hF ?_ k (by omega)
    rw [List.take_of_length_le (by rw [L_size]; omega)] at hn
    exact hn
  | d + 1, i, k, hi, hk, hn => by
    obtain ⟨k, rfl⟩ : ∃ j, k = j + 1 := ⟨k - 1, by omega⟩
    have hlt : i < (L more).length := by rw [L_size]; omega
    have hd := List.drop_eq_getElem_cons hlt
    obtain ⟨d1, d2, d3⟩ := drop_at more hd
    simp only [foundrylaw05_LexBlanks.l0]
    rw [if_pos (by omega), if_pos (by omega), d2]
    by_cases c : (L more)[i] = 10
    · rw [if_pos (by rw [c]; rfl)]
    · have c2 : ¬ (((L more)[i].toNat : Int) = 10) := by
        intro h
        exact c (UInt8.toNat_inj.1 (by have : (10 : UInt8).toNat = 10 := rfl; omega))
      have e1 : wrap64 ((i : Int) + 1) = ((i + 1 : Nat) : Int) := by unfold wrap64; omega
      rw [if_neg c2, e1]
      refine more_loop s more w what l hm K hF d (i + 1) k (by omega) (by omega) ?_
      rw [List.take_succ_eq_append_getElem hlt, List.mem_append]
      rintro (h | h)
      · exact hn h
      · simp at h
        exact c h.symm

theorem ins_t (s put : ByteArray) (ts : List T) (h : Lx V 0 (L s) ts) (i : Nat) (hi : i < ts.length) (b : UInt8) (v' : List UInt8) (hv : L put = b :: v') (hb : blankB b = true) (h1 : ∀ z, sk false (L put ++ z) = (L put).length + sk false z) :
    ∃ ts', Lx V 0 (L (((s.extract 0 ts[i].place ++ put) ++ s.extract ts[i].place s.size) ++ ⟨#[32]⟩)) ts' ∧ Same ts ts' := by
  obtain ⟨ts', k1, k2⟩ := Lx_ins V (L put) b v' hv hb h1 h i hi 0 ts[i].place (by omega)
  refine ⟨ts', ?_, k2⟩
  have e : L (((s.extract 0 ts[i].place ++ put) ++ s.extract ts[i].place s.size) ++ ⟨#[32]⟩) = ((L s).take ts[i].place ++ (L put ++ (L s).drop ts[i].place)) ++ [32] := by
    rw [L_app, L_app, L_app, L_cut, tail_L]
    simp
  rw [e]
  exact Lx_tail V [32] 32 [] rfl (by decide) rfl rfl k1

theorem LexBlanks : foundrylaw05_LexBlanks.Pure := by
  intro s w what more hs hw hwt hm
  by_cases big : 4096 < s.size
  · refine ⟨70, ?_⟩
    unfold foundrylaw05_LexBlanks.f
    rw [lex_big s big, Option.bind_some, if_neg (by decide)]
    simp only [foundrylaw05_LexBlanks.j0]
    rw [if_pos trivial, alive_k (by omega)]
    rfl
  obtain ⟨K, hK⟩ := lex_is s (by omega)
  have dead : ∀ k l, 70 ≤ k → foundrylaw05_LexBlanks.j0 k s w what more l true = some true := by
    intro k l hk
    obtain ⟨k, rfl⟩ : ∃ j, k = j + 1 := ⟨k - 1, by omega⟩
    simp only [foundrylaw05_LexBlanks.j0]
    rw [if_pos trivial, alive_k (by omega)]
    rfl
  cases hlex : lexS V (s.size + 1) 0 0 (L s) with
  | error x =>
    have hK : ∀ k, K ≤ k → lex_Lex.f k s = some ([], (x.1 : Int), x.2) := fun k hk => by rw [hK k hk, hlex]; rfl
    refine ⟨K + 100, ?_⟩
    unfold foundrylaw05_LexBlanks.f
    rw [hK _ (by omega), Option.bind_some]
    dsimp only
    by_cases c : x.2 = 0
    · rw [if_pos c, if_pos (by rfl)]
      exact dead _ _ (by omega)
    · rw [if_neg c]
      exact dead _ _ (by omega)
  | ok ts =>
    have hK : ∀ k, K ≤ k → lex_Lex.f k s = some (ts.map toS, 0, 0) := fun k hk => by rw [hK k hk, hlex]; rfl
    obtain ⟨hLx, hcount⟩ := lexS_ok V _ _ _ _ _ (by rw [L_size]; omega) (by omega) hlex
    have hcount : ts.length ≤ 1024 := by omega
    have open_ : ∀ k, K ≤ k → foundrylaw05_LexBlanks.f k s w what more = (if (((ts.map toS).length : Nat) : Int) = 0 then (foundrylaw05_LexBlanks.j0 k s w what more (ts.map toS) true) else (if w < 0 then (foundrylaw05_LexBlanks.j0 k s w what more (ts.map toS) true) else (if w ≥ (((ts.map toS).length : Nat) : Int) then (foundrylaw05_LexBlanks.j0 k s w what more (ts.map toS) true) else ((foundrylaw05_alive.f k).bind fun t191 => (foundrylaw05_LexBlanks.j0 k s w what more (ts.map toS) (!t191)))))) := by
      intro k hk
      unfold foundrylaw05_LexBlanks.f
      rw [hK k hk, Option.bind_some]
      exact if_pos rfl
    by_cases c1 : (((ts.map toS).length : Nat) : Int) = 0
    · refine ⟨K + 100, ?_⟩
      rw [open_ _ (by omega), if_pos c1]
      exact dead _ _ (by omega)
    by_cases c2 : w < 0
    · refine ⟨K + 100, ?_⟩
      rw [open_ _ (by omega), if_neg c1, if_pos c2]
      exact dead _ _ (by omega)
    by_cases c3 : w ≥ (((ts.map toS).length : Nat) : Int)
    · refine ⟨K + 100, ?_⟩
      rw [open_ _ (by omega), if_neg c1, if_neg c2, if_pos c3]
      exact dead _ _ (by omega)
    have hlen : (ts.map toS).length = ts.length := List.length_map ..
    obtain ⟨i, rfl⟩ := Int.eq_ofNat_of_zero_le (show 0 ≤ w by omega)
    have hi : i < ts.length := by omega
    have hpl := Lx_place V hLx i hi
    rw [L_size] at hpl
    have hrd : (rd_T44 (ts.map toS) (i : Int)).f3 = (ts[i].place : Int) := by rw [rd_map ts i hi]; rfl
    have z1 : (s.extract 0 ts[i].place).size ≤ s.size := by rw [ByteArray.size_extract]; omega
    have z2 : (s.extract ts[i].place s.size).size ≤ s.size := by rw [ByteArray.size_extract]; omega
    have two : ∀ (put : ByteArray) (b : UInt8) (v' : List UInt8), L put = b :: v' → blankB b = true → (∀ z, sk false (L put ++ z) = (L put).length + sk false z) → put.size ≤ 200000000000000 → (10 : UInt8) ∉ L more → ∃ K2, ∀ k, K2 ≤ k → foundrylaw05_LexBlanks.j2 k s (i : Int) what more (ts.map toS) put = some true := by
      intro put b v' hv hb h1 hz hnm
      obtain ⟨KA, hA⟩ := last_step ts hcount _ (ins_t s put ts hLx i hi b v' hv hb h1)
      obtain ⟨KB, hB⟩ := last_step ts hcount ((s ++ (⟨#[10, 47, 47]⟩ : ByteArray)) ++ more) (by
        refine ⟨ts, ?_, Same.refl ts⟩
        have e : L ((s ++ (⟨#[10, 47, 47]⟩ : ByteArray)) ++ more) = L s ++ (10 :: 47 :: 47 :: L more) := by
          rw [L_app, L_app, List.append_assoc]
          rfl
        rw [e]
        have e1 : sk false (10 :: 47 :: 47 :: L more) = (10 :: 47 :: 47 :: L more).length := by
          rw [sk_b 10 (by decide), sk_two, sk_all _ hnm]
          simp only [List.length_cons]; omega
        refine Lx_tail V (10 :: 47 :: 47 :: L more) 10 _ rfl (by decide) e1 ?_ hLx
        show 1 + sk false (47 :: 47 :: L more) = _
        rw [sk_two, sk_all _ hnm]
        simp only [List.length_cons]; omega)
      refine ⟨KA + KB + 2, fun k hk => ?_⟩
      obtain ⟨k, rfl⟩ : ∃ j, k = j + 1 := ⟨k - 1, by omega⟩
      simp only [foundrylaw05_LexBlanks.j2]
      rw [hrd, Int.toNat_natCast, if_pos (by omega), if_pos (by omega), if_pos (by omega), if_pos (by omega)]
      have e1 : (s.extract 0 ts[i].place ++ put).size = (s.extract 0 ts[i].place).size + put.size := ByteArray.size_append
      have e2 : ((s.extract 0 ts[i].place ++ put) ++ s.extract ts[i].place s.size).size = (s.extract 0 ts[i].place ++ put).size + (s.extract ts[i].place s.size).size := ByteArray.size_append
      have e3 : (s ++ (⟨#[10, 47, 47]⟩ : ByteArray)).size = s.size + 3 := ByteArray.size_append
      rw [if_pos (by omega), if_pos (by omega), if_pos (by omega)]
      by_cases c : what = 3
      · rw [if_pos c, if_pos (by omega), if_pos (by omega)]
        exact hB k (by omega)
      · rw [if_neg c]
        exact hA k (by omega)
    have hF : ∃ K2, (10 : UInt8) ∉ L more → ∀ k, K2 ≤ k → (if what = 1 then (foundrylaw05_LexBlanks.j2 k s (i : Int) what more (ts.map toS) (⟨#[10, 9]⟩ : ByteArray)) else (if what = 2 then (if 4 + more.size ≤ 9223372036854775807 then (if ((⟨#[32, 47, 47, 32]⟩ : ByteArray) ++ more).size + 1 ≤ 9223372036854775807 then (foundrylaw05_LexBlanks.j2 k s (i : Int) what more (ts.map toS) (((⟨#[32, 47, 47, 32]⟩ : ByteArray) ++ more) ++ (⟨#[10]⟩ : ByteArray))) else (none)) else (none)) else (foundrylaw05_LexBlanks.j2 k s (i : Int) what more (ts.map toS) (⟨#[32]⟩ : ByteArray)))) = some true := by
      by_cases hnm : (10 : UInt8) ∈ L more
      · exact ⟨0, fun h => absurd hnm h⟩
      have s1 : ((⟨#[32, 47, 47, 32]⟩ : ByteArray) ++ more).size = 4 + more.size := ByteArray.size_append
      have s2 : (((⟨#[32, 47, 47, 32]⟩ : ByteArray) ++ more) ++ (⟨#[10]⟩ : ByteArray)).size = ((⟨#[32, 47, 47, 32]⟩ : ByteArray) ++ more).size + 1 := ByteArray.size_append
      by_cases d1 : what = 1
      · obtain ⟨K2, h2⟩ := two (⟨#[10, 9]⟩ : ByteArray) 10 [9] rfl (by decide) (fun z => by
          show sk false (10 :: 9 :: z) = 2 + sk false z
          rw [sk_b 10 (by decide), sk_b 9 (by decide)]; omega) (by decide) hnm
        exact ⟨K2, fun _ k hk => by rw [if_pos d1]; exact h2 k hk⟩
      by_cases d2 : what = 2
      · have eL : L (((⟨#[32, 47, 47, 32]⟩ : ByteArray) ++ more) ++ (⟨#[10]⟩ : ByteArray)) = 32 :: 47 :: 47 :: 32 :: (L more ++ [10]) := by
          rw [L_app, L_app]
          rfl
        obtain ⟨K2, h2⟩ := two (((⟨#[32, 47, 47, 32]⟩ : ByteArray) ++ more) ++ (⟨#[10]⟩ : ByteArray)) 32 _ eL (by decide) (fun z => by
          rw [eL]
          have e : (32 :: 47 :: 47 :: 32 :: (L more ++ [10])) ++ z = 32 :: 47 :: 47 :: ((32 :: L more) ++ 10 :: z) := by simp
          rw [e, sk_b 32 (by decide), sk_two, sk_pref (32 :: L more) z (by simp [hnm])]
          simp only [List.length_cons, List.length_append, List.length_nil]; omega) (by omega) hnm
        exact ⟨K2, fun _ k hk => by rw [if_neg d1, if_pos d2, if_pos (by omega), if_pos (by omega)]; exact h2 k hk⟩
      · obtain ⟨K2, h2⟩ := two (⟨#[32]⟩ : ByteArray) 32 [] rfl (by decide) (fun z => by
          show sk false (32 :: z) = 1 + sk false z
          rw [sk_b 32 (by decide)]) (by decide) hnm
        exact ⟨K2, fun _ k hk => by rw [if_neg d1, if_neg d2]; exact h2 k hk⟩
    obtain ⟨K2, hF⟩ := hF
    refine ⟨K + K2 + more.size + 100, ?_⟩
    rw [open_ _ (by omega), if_neg c1, if_neg c2, if_neg c3, alive_k (by omega), Option.bind_some]
    obtain ⟨k, hk⟩ : ∃ j, K + K2 + more.size + 100 = j + 1 := ⟨K + K2 + more.size + 99, by omega⟩
    rw [hk]
    simp only [foundrylaw05_LexBlanks.j0]
    rw [if_neg (by simp)]
    exact more_loop s more (i : Int) what (ts.map toS) hm K2 hF more.size 0 k (by omega) (by omega) (by simp)
end Go.Proofs.YthifejhdmjoolaaGreatDoor.Pure
