/-
  LexCovers, the plain law.
-/
import Derived.Test.YthifejhdmjoolaaGreatDoorQV4
import Derived.Test.YthifejhdmjoolaaGreatDoorLxV
namespace Go.Proofs.YthifejhdmjoolaaGreatDoor.Pure
open Go.RowKit Go.Proofs.YthifejhdmjoolaaGreatDoor.QV Go.Proofs.YthifejhdmjoolaaGreatDoorW.PrintWords Go.Proofs.YthifejhdmjoolaaGreatDoorW.PrintLast
open Go.Proofs.YthifejhdmjoolaaGreatDoorG Go.Proofs.YthifejhdmjoolaaGreatDoor.Lx
set_option linter.unusedVariables false
set_option linter.unusedSimpArgs false

theorem alive_holds : foundrylaw05_alive.f 60 = some true := by decide +kernel
theorem alive_k {k : Nat} (hk : 60 ≤ k) : foundrylaw05_alive.f k = some true := at_rounds (fun k => foundrylaw05_alive.mono k) hk alive_holds

theorem rd_map (l : List T) (i : Nat) (hi : i < l.length) : rd_T44 (l.map toS) (i : Int) = toS l[i] := by
  unfold rd_T44
  rw [Int.toNat_natCast, List.getD_eq_getElem?_getD, List.getElem?_map, List.getElem?_eq_getElem hi]
  rfl

theorem blank_fin : ∀ i : Fin 256, foundrylaw05_blank.f ((i.val : Nat) : Int) = some (blankB (UInt8.ofNat i.val)) := by decide +kernel
theorem blank_is (c : UInt8) : foundrylaw05_blank.f (c.toNat : Int) = some (blankB c) := by
  have h := blank_fin ⟨c.toNat, c.toNat_lt⟩
  dsimp only at h
  rw [UInt8.ofNat_toNat] at h
  exact h
theorem nat_ne10 {c : UInt8} (h : c ≠ 10) : ¬ ((c.toNat : Int) = 10) := fun e => h (UInt8.toNat_inj.1 (by have : (10 : UInt8).toNat = 10 := rfl; omega))
theorem nat_ne47 {c : UInt8} (h : c ≠ 47) : ¬ ((c.toNat : Int) = 47) := fun e => h (UInt8.toNat_inj.1 (by have : (47 : UInt8).toNat = 47 := rfl; omega))

theorem empty_loop (g : ByteArray) (hg : g.size ≤ 100000) : ∀ (l : List UInt8) (x k : Nat), (L g).drop x = l → x ≤ g.size → 3 * l.length + 5 ≤ k →
    (sk true l = l.length → foundrylaw05_empty.l1 k g (x : Int) = some true) ∧ (sk false l = l.length → foundrylaw05_empty.l0 k g (x : Int) = some true)
  | [], x, k, h, hx, hk => by
    have he := drop_end g h
    obtain ⟨k, rfl⟩ : ∃ j, k = j + 2 := ⟨k - 2, by omega⟩
    refine ⟨fun _ => ?_, fun _ => ?_⟩
    · simp only [foundrylaw05_empty.l1]
      rw [if_neg (by omega), w64 _ (by omega) (by omega)]
      simp only [foundrylaw05_empty.l0]
      rw [if_neg (by omega)]
    · simp only [foundrylaw05_empty.l0]
      rw [if_neg (by omega)]
  | c :: l, x, k, h, hx, hk => by
    obtain ⟨h1, h2, h3⟩ := drop_at g h
    have hk : 3 * (l.length + 1) + 5 ≤ k := hk
    have hw : wrap64 ((x : Int) + 1) = ((x + 1 : Nat) : Int) := by rw [w64 _ (by omega) (by omega)]; omega
    have hl1 : ∀ k, 3 * l.length + 6 ≤ k → sk true (c :: l) = (c :: l).length → foundrylaw05_empty.l1 k g (x : Int) = some true := by
      intro k hk hs
      obtain ⟨k, rfl⟩ : ∃ j, k = j + 1 := ⟨k - 1, by omega⟩
      simp only [sk, List.length_cons] at hs
      obtain ⟨ih1, ih0⟩ := empty_loop g hg l (x + 1) k h3 (by omega) (by omega)
      simp only [foundrylaw05_empty.l1]
      rw [if_pos (by omega), if_pos (by omega), h2, hw]
      by_cases c1 : c = 10
      · subst c1
        rw [if_pos (by decide)]
        have hs : 1 + sk false l = l.length + 1 := hs
        exact ih0 (by omega)
      · rw [if_neg (nat_ne10 c1)]
        have hb : (c == 10) = false := beq_eq_false_iff_ne.mpr c1
        rw [hb] at hs
        have hs : 1 + sk true l = l.length + 1 := hs
        exact ih1 (by omega)
    refine ⟨fun hs => hl1 k (by omega) hs, fun hs => ?_⟩
    obtain ⟨k, rfl⟩ : ∃ j, k = j + 2 := ⟨k - 2, by omega⟩
    simp only [sk, List.length_cons] at hs
    simp only [foundrylaw05_empty.l0]
    rw [if_pos (by omega), if_pos (by omega), h2, hw]
    by_cases b : blankB c = true
    · rw [if_pos b] at hs
      obtain ⟨ih1, ih0⟩ := empty_loop g hg l (x + 1) k h3 (by omega) (by omega)
      have hc : c ≠ 47 := by rintro rfl; exact absurd b (by decide)
      rw [if_neg (nat_ne47 hc)]
      simp only [foundrylaw05_empty.j1]
      rw [if_neg (by simp), if_pos (by omega), if_pos (by omega), h2, blank_is, Option.bind_some, if_pos b, hw]
      exact ih0 (by omega)
    · rw [if_neg b] at hs
      by_cases r : c = 47 ∧ l.head? = some 47
      · obtain ⟨rfl, hr⟩ := r
        rw [if_pos ⟨rfl, hr⟩] at hs
        cases hl : l with
        | nil => rw [hl] at hr; cases hr
        | cons d l2 =>
          rw [hl] at hr
          simp only [List.head?_cons, Option.some.injEq] at hr
          subst hr
          rw [hl] at h3
          obtain ⟨g1, g2, g3⟩ := drop_at g h3
          rw [if_pos (by decide), if_pos (by omega), if_pos (by omega), g2]
          simp only [foundrylaw05_empty.j1]
          rw [if_pos (by decide)]
          refine hl1 k (by omega) ?_
          show 1 + sk true l = l.length + 1
          omega
      · rw [if_neg r] at hs
        omega
theorem empty_is (g : ByteArray) (hg : g.size ≤ 100000) (h : sk false (L g) = (L g).length) (k : Nat) (hk : 3 * g.size + 5 ≤ k) : foundrylaw05_empty.f k g = some true := by
  unfold foundrylaw05_empty.f
  exact (empty_loop g hg (L g) 0 k rfl (by omega) (by rw [L_size]; omega)).2 h

theorem tok_kinds (u : List UInt8) (h0 : (tok V u).e = 0) : ((tok V u).kind = 1 ∧ (tok V u).ty = 0) ∨ ((tok V u).kind = 2 ∧ (tok V u).ty = 0) ∨ ((tok V u).kind = 3 ∧ (tok V u).ty = 1) ∨ ((tok V u).kind = 4 ∧ (tok V u).ty = 2) ∨ ((tok V u).kind = 5 ∧ (tok V u).ty = 0) := by
  cases u with
  | nil => exact absurd h0 (by simp [Lx.tok])
  | cons c l =>
  simp only [Lx.tok] at h0 ⊢
  by_cases c1 : letB c = true
  · rw [if_pos c1]
    by_cases r : (c :: l).takeWhile wordB ∈ resL
    · rw [if_pos r]; simp
    · rw [if_neg r]; simp
  rw [if_neg c1] at h0 ⊢
  by_cases c2 : c = 48 ∧ l.head? = some 120
  · rw [if_pos c2]; simp
  rw [if_neg c2] at h0 ⊢
  by_cases c4 : digB c = true
  · rw [if_pos c4] at h0 ⊢
    unfold num at h0 ⊢
    split
    · simp
    · rename_i hc
      rw [if_neg hc] at h0
      cases hi : V.int ((c :: l).takeWhile digB) with
      | none => rw [hi] at h0; exact absurd h0 (show ¬ ((80 : Int) = 0) by decide)
      | some v => simp
  rw [if_neg c4] at h0 ⊢
  by_cases c5 : (c :: l).take 2 ∈ marks2
  · rw [if_pos c5]; simp
  rw [if_neg c5] at h0 ⊢
  by_cases c6 : c ∈ marks1
  · rw [if_pos c6]; simp
  · rw [if_neg c6] at h0
    exact absurd h0 (by decide)

theorem lexS_pos (V : Val) : ∀ (f p c : Nat) (u : List UInt8) (x : Nat × Int), lexS V f p c u = .error x → x.1 ≤ p + u.length
  | 0, p, c, u, x, h => by cases h
  | f + 1, p, c, u, x, h => by
    unfold lexS at h
    have hsk := sk_le false u
    by_cases c1 : u.length ≤ sk false u
    · rw [if_pos c1] at h; cases h
    rw [if_neg c1] at h
    by_cases c2 : (tok V (u.drop (sk false u))).e ≠ 0
    · rw [if_pos c2] at h
      injection h with h
      subst h
      dsimp only
      omega
    rw [if_neg c2] at h
    by_cases c3 : c = 1024
    · rw [if_pos c3] at h
      injection h with h
      subst h
      dsimp only
      omega
    rw [if_neg c3] at h
    obtain ⟨n1, n2⟩ := tok_n V _ (Decidable.not_not.1 c2)
    cases hr : lexS V f (p + sk false u + (tok V (u.drop (sk false u))).n) (c + 1) ((u.drop (sk false u)).drop (tok V (u.drop (sk false u))).n) with
    | error y =>
      rw [hr] at h
      injection h with h
      subst h
      have := lexS_pos V f _ _ _ _ hr
      rw [List.length_drop, List.length_drop] at this
      rw [List.length_drop] at n2
      omega
    | ok ts => rw [hr] at h; cases h

theorem cover_loop (s : ByteArray) (hs : s.size ≤ 4096) (all : List T) (hall : all.length ≤ 1024) {p : Nat} {u : List UInt8} {tl : List T} (h : Lx V p u tl) :
    ∀ i : Nat, all.drop i = tl → (L s).drop p = u → p ≤ s.size → ∃ K, ∀ k, K ≤ k → foundrylaw05_LexCovers.l0 k s (all.map toS) (p : Int) (i : Int) = some true := by
  induction h with
  | nil p g hg =>
    intro i hi hu hp
    have hil : all.length ≤ i := List.drop_eq_nil_iff.1 hi
    have he : ∀ k, 20000 ≤ k → foundrylaw05_empty.f k (s.extract p s.size) = some true := fun k hk => by
      have hz : (s.extract p s.size).size ≤ s.size := by rw [ByteArray.size_extract]; omega
      refine empty_is _ (by omega) ?_ k (by omega)
      rw [tail_L, hu]
      exact hg
    refine ⟨20001, fun k hk => ?_⟩
    obtain ⟨k, rfl⟩ : ∃ j, k = j + 1 := ⟨k - 1, by omega⟩
    simp only [foundrylaw05_LexCovers.l0, List.length_map]
    rw [if_neg (by omega), if_pos (by omega), if_pos (by omega), Int.toNat_natCast, he k (by omega), Option.bind_some, if_pos rfl, alive_k (by omega)]
    rfl
  | cons p g x r ts hx hg he hn hr ih =>
    intro i hi hu hp
    have hil : i < all.length := by
      rcases Nat.lt_or_ge i all.length with h | h
      · exact h
      · rw [List.drop_of_length_le h] at hi; cases hi
    have hd := List.drop_eq_getElem_cons hil
    rw [hi] at hd
    injection hd with hd1 hd2
    have hxl := List.length_pos_iff.2 hx
    have hlen : g.length + (x.length + r.length) = s.size - p := by
      have := congrArg List.length hu
      rw [List.length_drop, L_size] at this
      simp only [List.length_append] at this
      omega
    obtain ⟨K, ih⟩ := ih (i + 1) hd2.symm (by
      rw [show p + g.length + x.length = p + (g.length + x.length) by omega, ← List.drop_drop, hu, ← List.append_assoc, ← List.length_append, List.drop_left]) (by omega)
    have hgz : (s.extract p (p + g.length)).size ≤ s.size := by rw [ByteArray.size_extract]; omega
    have hgap : L (s.extract p (p + g.length)) = g := by
      rw [L_cut, hu, show p + g.length - p = g.length by omega, List.take_left]
    have hge : ∀ k, 20000 ≤ k → foundrylaw05_empty.f k (s.extract p (p + g.length)) = some true := fun k hk => by
      refine empty_is _ (by omega) ?_ k (by omega)
      rw [hgap]
      have := (sk_gap false g (x ++ r) (by simp [hx]) hg).1 []
      rw [List.append_nil] at this
      rw [this]; rfl
    have hxt : (s.extract (p + g.length) (p + g.length + x.length)).toList = (B x).toList := by
      rw [ByteArray.toList_eq, ByteArray.toList_eq]
      show L _ = x
      rw [L_cut, ← List.drop_drop, hu, List.drop_left, show p + g.length + x.length - (p + g.length) = x.length by omega, List.take_left]
    have hBx : ((B x).size : Int) = (x.length : Int) := rfl
    have hk := tok_kinds (x ++ r) he
    obtain ⟨tk, htk⟩ : ∃ tk : S44, tk = toS ⟨(tok V (x ++ r)).kind, x, (tok V (x ++ r)).ty, (tok V (x ++ r)).bits, p + g.length⟩ := ⟨_, rfl⟩
    have hrd : rd_T44 (all.map toS) (i : Int) = tk := by rw [rd_map all i hil, ← hd1, htk]
    have f0 : tk.f0 = (tok V (x ++ r)).kind := by rw [htk]; rfl
    have f1 : tk.f1 = B x := by rw [htk]; rfl
    have f2 : tk.f2.f0 = (tok V (x ++ r)).ty := by rw [htk]; rfl
    have f3 : tk.f3 = ((p + g.length : Nat) : Int) := by rw [htk]; rfl
    have kin : 1 ≤ tk.f0 ∧ tk.f0 ≤ 5 := by
      rw [f0]
      rcases hk with ⟨h, _⟩ | ⟨h, _⟩ | ⟨h, _⟩ | ⟨h, _⟩ | ⟨h, _⟩ <;> rw [h] <;> decide
    rw [← f0, ← f2] at hk
    clear htk hd1 hd2 he hn hg hr hi f0 f2
    have fz : ((tk.f1).size : Int) = (x.length : Int) := by rw [f1]; rfl
    have w1 : wrap64 ((s.size : Int) - ((tk.f1).size : Int)) = (s.size : Int) - (x.length : Int) := by rw [fz, w64 _ (by omega) (by omega)]
    have w2 : wrap64 (tk.f3 + ((tk.f1).size : Int)) = ((p + g.length + x.length : Nat) : Int) := by rw [fz, f3, w64 _ (by omega) (by omega)]; omega
    have w3 : wrap64 ((i : Int) + 1) = ((i + 1 : Nat) : Int) := by rw [w64 _ (by omega) (by omega)]; omega
    have hk3 : Aside0 _ := ⟨hk⟩
    clear hk
    refine ⟨K + 20010, fun k hk2 => ?_⟩
    obtain ⟨k, rfl⟩ : ∃ j, k = j + 1 := ⟨k - 1, by omega⟩
    have ih := ih k (by omega)
    simp only [foundrylaw05_LexCovers.l0, List.length_map]
    rw [hrd, w1, w2, w3]
    clear w1 w2 w3
    rw [if_pos (by omega), if_pos (by omega), if_neg (by omega), if_neg (by omega), if_neg (by omega), if_pos (by omega), if_pos (by omega), if_pos (by omega)]
    rw [if_pos (by rw [f3, Int.toNat_natCast, Int.toNat_natCast, f1]; exact hxt)]
    rw [if_neg (by omega), if_neg (by omega), if_pos (by omega), if_pos (by omega), if_pos (by omega)]
    rw [f3, Int.toNat_natCast, Int.toNat_natCast, hge k (by omega), Option.bind_some, if_pos rfl]
    rcases hk3.out with ⟨a, b⟩ | ⟨a, b⟩ | ⟨a, b⟩ | ⟨a, b⟩ | ⟨a, b⟩
    · rw [if_neg (by omega), if_neg (by omega), if_neg (by omega), if_neg (by omega)]; exact ih
    · rw [if_neg (by omega), if_neg (by omega), if_neg (by omega), if_neg (by omega)]; exact ih
    · rw [if_pos (by omega), if_pos (by omega), if_neg (by omega), if_neg (by omega)]; exact ih
    · rw [if_neg (by omega), if_neg (by omega), if_pos (by omega), if_pos (by omega)]; exact ih
    · rw [if_neg (by omega), if_neg (by omega), if_neg (by omega), if_neg (by omega)]; exact ih

theorem LexCovers : foundrylaw05_LexCovers.Pure := by
  intro s hs
  have fails : ∀ (a : Nat) (e : Int) (K : Nat), e ≠ 0 → a ≤ s.size → (∀ k, K ≤ k → lex_Lex.f k s = some ([], (a : Int), e)) → ∃ k, foundrylaw05_LexCovers.f k s = some true := by
    intro a e K he ha hK
    refine ⟨K + 100, ?_⟩
    unfold foundrylaw05_LexCovers.f
    rw [hK _ (by omega), Option.bind_some]
    dsimp only
    rw [if_neg he, if_pos (by rfl), if_pos (by omega), if_pos (by omega), alive_k (by omega)]
    rfl
  by_cases big : 4096 < s.size
  · exact fails 0 3 0 (by decide) (by omega) (fun k _ => lex_big s big k)
  obtain ⟨K, hK⟩ := lex_is s (by omega)
  cases hlex : lexS V (s.size + 1) 0 0 (L s) with
  | error x =>
    have hp := lexS_pos V _ _ _ _ _ hlex
    rw [L_size] at hp
    exact fails x.1 x.2 K (lexS_err V _ _ _ _ _ hlex) (by omega) (fun k hk => by rw [hK k hk, hlex]; rfl)
  | ok ts =>
    have hK : ∀ k, K ≤ k → lex_Lex.f k s = some (ts.map toS, 0, 0) := fun k hk => by rw [hK k hk, hlex]; rfl
    obtain ⟨hLx, hcount⟩ := lexS_ok V _ _ _ _ _ (by rw [L_size]; omega) (by omega) hlex
    obtain ⟨K2, h2⟩ := cover_loop s (by omega) ts (by omega) hLx 0 rfl rfl (by omega)
    refine ⟨K + K2, ?_⟩
    unfold foundrylaw05_LexCovers.f
    rw [hK _ (by omega), Option.bind_some]
    dsimp only
    rw [if_pos rfl]
    exact h2 _ (by omega)
end Go.Proofs.YthifejhdmjoolaaGreatDoor.Pure
