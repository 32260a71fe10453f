/-
  The lexer in plain words, on lists of bytes: what is skipped, which token begins a text, the tokens of a text; and that a token stays what it is when what follows it is pushed apart.
-/
import Derived.Test.YthifejhdmjoolaaGreatDoorGivN
import Derived.Test.YthifejhdmjoolaaGreatDoorPureText
import Derived.Test.YthifejhdmjoolaaGreatDoorPureTot5
namespace Go.Proofs.YthifejhdmjoolaaGreatDoor.Lx
set_option linter.unusedVariables false
set_option linter.unusedSimpArgs false

def blankB (c : UInt8) : Bool := c == 32 || c == 9 || c == 10 || c == 13
def digB (c : UInt8) : Bool := decide (48 ≤ c.toNat) && decide (c.toNat ≤ 57)
def letB (c : UInt8) : Bool := (decide (97 ≤ c.toNat) && decide (c.toNat ≤ 122)) || (decide (65 ≤ c.toNat) && decide (c.toNat ≤ 90)) || c == 95
def hexB (c : UInt8) : Bool := digB c || c == 46 || c == 43 || c == 45 || c == 112 || (decide (97 ≤ c.toNat) && decide (c.toNat ≤ 102))
def wordB (c : UInt8) : Bool := letB c || digB c

theorem blank_cases {c : UInt8} (h : blankB c = true) : c = 32 ∨ c = 9 ∨ c = 10 ∨ c = 13 := by
  simp only [blankB, Bool.or_eq_true, beq_iff_eq] at h
  rcases h with ((h | h) | h) | h <;> simp [h]
theorem blank_word {c : UInt8} (h : blankB c = true) : wordB c = false := by rcases blank_cases h with rfl | rfl | rfl | rfl <;> decide
theorem blank_hex {c : UInt8} (h : blankB c = true) : hexB c = false := by rcases blank_cases h with rfl | rfl | rfl | rfl <;> decide
theorem blank_dig {c : UInt8} (h : blankB c = true) : digB c = false := by rcases blank_cases h with rfl | rfl | rfl | rfl <;> decide

/-- how many bytes are skipped; in a remark or not -/
def sk : Bool → List UInt8 → Nat
  | _, [] => 0
  | true, c :: l => 1 + sk (!(c == 10)) l
  | false, c :: l => if blankB c = true then 1 + sk false l else if c = 47 ∧ l.head? = some 47 then 1 + sk true l else 0

structure Tk where
  kind : Int
  n : Nat
  ty : Int
  bits : Int
  e : Int

def resL : List (List UInt8) := [[98, 111, 111, 108], [99, 97, 116, 99, 104], [99, 111, 110, 115, 116], [101, 108, 115, 101], [101, 120, 112, 111, 114, 116], [102, 97, 105, 108], [102, 97, 108, 115, 101], [102, 108, 111, 97, 116], [102, 110], [105, 102], [105, 109, 112, 111, 114, 116], [105, 110, 102], [105, 110, 112, 117, 116], [105, 110, 116], [108, 101, 116], [109, 111, 100, 117, 108, 101], [110, 97, 110], [114, 101, 116, 117, 114, 110], [115, 104, 111, 119], [116, 114, 117, 101], [116, 114, 121], [118, 97, 114], [119, 104, 105, 108, 101]]
def marks2 : List (List UInt8) := [[60, 61], [62, 61], [61, 61], [33, 61], [38, 38], [124, 124]]
def marks1 : List UInt8 := [40, 41, 123, 125, 44, 59, 58, 46, 61, 43, 45, 42, 47, 37, 60, 62, 33]
def f1 : List UInt8 → Bool
  | [] => false
  | d :: _ => digB d

/-- what numerals are worth: digits with a point, 0x and what follows, digits -/
structure Val where
  lit : List UInt8 → Int × Int
  par : List UInt8 → Int × Int
  int : List UInt8 → Option Int

def num (V : Val) (u : List UInt8) : Tk :=
  if (u.drop (u.takeWhile digB).length).head? = some 46 ∧ 0 < (((u.drop (u.takeWhile digB).length).drop 1).takeWhile digB).length then
    ⟨4, (u.takeWhile digB).length + 1 + (((u.drop (u.takeWhile digB).length).drop 1).takeWhile digB).length, 2, (V.lit (u.take ((u.takeWhile digB).length + 1 + (((u.drop (u.takeWhile digB).length).drop 1).takeWhile digB).length))).1, (V.lit (u.take ((u.takeWhile digB).length + 1 + (((u.drop (u.takeWhile digB).length).drop 1).takeWhile digB).length))).2⟩
  else match V.int (u.takeWhile digB) with
    | some v => ⟨3, (u.takeWhile digB).length, 1, v, 0⟩
    | none => ⟨0, 0, 0, 0, 80⟩
def tok (V : Val) : List UInt8 → Tk
  | [] => ⟨0, 0, 0, 0, 10⟩
  | c :: l =>
    if letB c = true then ⟨if ((c :: l).takeWhile wordB) ∈ resL then 2 else 1, ((c :: l).takeWhile wordB).length, 0, 0, if 32 < ((c :: l).takeWhile wordB).length then 12 else 0⟩
    else if c = 48 ∧ l.head? = some 120 then ⟨4, 2 + ((l.drop 1).takeWhile hexB).length, 2, (V.par (48 :: 120 :: (l.drop 1).takeWhile hexB)).1, (V.par (48 :: 120 :: (l.drop 1).takeWhile hexB)).2⟩
    else if digB c = true then num V (c :: l)
    else if (c :: l).take 2 ∈ marks2 then ⟨5, 2, 0, 0, 0⟩
    else if c ∈ marks1 then ⟨5, 1, 0, 0, 0⟩ else ⟨0, 0, 0, 0, 10⟩

/-- what follows a token, and what may stand in its place -/
def H (r r' : List UInt8) : Prop := (∀ b, r'.head? = some b → blankB b = true) ∨ (∃ c y y', r = c :: y ∧ r' = c :: y' ∧ (f1 y' = true → f1 y = true))

theorem H.refl (r : List UInt8) : H r r := by
  cases r with
  | nil => exact .inl (by simp)
  | cons c y => exact .inr ⟨c, y, y, rfl, rfl, id⟩
theorem H_ins (y z v z' : List UInt8) (b : UInt8) (v' : List UInt8) (hv : v = b :: v') (hb : blankB b = true) : H (y ++ z) (y ++ (v ++ z')) := by
  subst hv
  match y with
  | [] => exact .inl (by simp [hb])
  | [c] => exact .inr ⟨c, z, _, rfl, rfl, by intro h; have h2 : digB b = true := h; rw [blank_dig hb] at h2; cases h2⟩
  | c :: d :: y => exact .inr ⟨c, d :: (y ++ z), _, rfl, rfl, by simp [f1]⟩

theorem tw_nil (p : UInt8 → Bool) (r : List UInt8) : r.takeWhile p = [] ↔ ∀ c, r.head? = some c → p c = false := by
  cases r with
  | nil => simp
  | cons c l => simp [List.takeWhile_cons]
theorem tw_app (p : UInt8 → Bool) (x r : List UInt8) (h : ∀ c ∈ x, p c = true) : (x ++ r).takeWhile p = x ++ r.takeWhile p := List.takeWhile_append_of_pos h
theorem tw_len (p : UInt8 → Bool) : ∀ (x r : List UInt8), ((x ++ r).takeWhile p).length = x.length → (∀ c ∈ x, p c = true) ∧ r.takeWhile p = []
  | [], r, h => ⟨by simp, by simpa using h⟩
  | c :: x, r, h => by
    by_cases hc : p c = true
    · rw [List.cons_append, List.takeWhile_cons, if_pos hc] at h
      have ih := tw_len p x r (by simpa using h)
      refine ⟨fun d hd => ?_, ih.2⟩
      rcases List.mem_cons.1 hd with rfl | hd
      · exact hc
      · exact ih.1 d hd
    · rw [List.cons_append, List.takeWhile_cons, if_neg hc] at h
      simp at h
theorem H.stop {p : UInt8 → Bool} {r r' : List UInt8} (h : H r r') (hp : ∀ b, blankB b = true → p b = false) (hr : r.takeWhile p = []) : r'.takeWhile p = [] := by
  rw [tw_nil] at hr ⊢
  rcases h with h | ⟨c, y, y', rfl, rfl, _⟩
  · exact fun c hc => hp c (h c hc)
  · exact fun d hd => hr d hd
theorem tw_cut (p : UInt8 → Bool) (x r : List UInt8) (h : ∀ c ∈ x, p c = true) (hr : r.takeWhile p = []) : (x ++ r).takeWhile p = x := by rw [tw_app p x r h, hr, List.append_nil]

theorem tw_pos (y : List UInt8) : 0 < (y.takeWhile digB).length ↔ f1 y = true := by
  cases y with
  | nil => simp [f1]
  | cons d y =>
    rw [List.takeWhile_cons]
    by_cases h : digB d = true <;> simp [f1, h]
theorem tw_split (p : UInt8 → Bool) (u : List UInt8) : u = u.takeWhile p ++ u.drop (u.takeWhile p).length := by
  induction u with
  | nil => rfl
  | cons c l ih =>
    rw [List.takeWhile_cons]
    split
    · simp only [List.length_cons, List.drop_succ_cons, List.cons_append]
      rw [← ih]
    · rfl
theorem tw_ok (p : UInt8 → Bool) (u : List UInt8) : ∀ c ∈ u.takeWhile p, p c = true := fun c hc => by
  have := List.all_takeWhile (p := p) (l := u)
  rw [List.all_eq_true] at this
  exact this c hc
theorem tw_stop (p : UInt8 → Bool) (u : List UInt8) : (u.drop (u.takeWhile p).length).takeWhile p = [] := by
  have h := tw_app p (u.takeWhile p) (u.drop (u.takeWhile p).length) (tw_ok p u)
  rw [← tw_split] at h
  have := congrArg List.length h
  rw [List.length_append] at this
  exact List.length_eq_zero_iff.1 (by omega)

theorem num_stable (V : Val) (x r r' : List UInt8) (h0 : (num V (x ++ r)).e = 0) (hn : (num V (x ++ r)).n = x.length) (hx : x ≠ []) (h : H r r') : num V (x ++ r') = num V (x ++ r) := by
  unfold num at h0 hn
  by_cases hc : ((x ++ r).drop ((x ++ r).takeWhile digB).length).head? = some 46 ∧ 0 < ((((x ++ r).drop ((x ++ r).takeWhile digB).length).drop 1).takeWhile digB).length
  · rw [if_pos hc] at h0 hn
    dsimp only at hn
    have e1 := tw_split digB (x ++ r)
    have o1 := tw_ok digB (x ++ r)
    generalize (x ++ r).takeWhile digB = d at *
    generalize (x ++ r).drop d.length = v at *
    obtain ⟨c1, c2⟩ := hc
    cases v with
    | nil => simp at c1
    | cons c v1 =>
      simp only [List.head?_cons, Option.some.injEq] at c1
      subst c1
      simp only [List.drop_succ_cons, List.drop_zero] at c2 hn
      have e2 := tw_split digB v1
      have o2 := tw_ok digB v1
      have s2 := tw_stop digB v1
      have c2' := c2
      generalize hd1 : v1.takeWhile digB = d1 at *
      generalize v1.drop d1.length = v2 at *
      subst e2
      have e3 : x ++ r = (d ++ 46 :: d1) ++ v2 := by rw [e1]; simp
      obtain ⟨rfl, rfl⟩ := List.append_inj e3 (by simp; omega)
      have s3 : r'.takeWhile digB = [] := h.stop (fun b hb => blank_dig hb) s2
      have t1 : ∀ z, ((d ++ 46 :: d1) ++ z).takeWhile digB = d := fun z => by
        rw [List.append_assoc]
        exact tw_cut digB d _ o1 (by simp [List.takeWhile_cons, digB])
      have t2 : ∀ z, ((d ++ 46 :: d1) ++ z).drop d.length = 46 :: (d1 ++ z) := fun z => by simp
      have t3 : (d1 ++ r').takeWhile digB = d1 := tw_cut digB d1 _ o2 s3
      have t4 : (d1 ++ r).takeWhile digB = d1 := tw_cut digB d1 _ o2 s2
      have t5 : ∀ z, ((d ++ 46 :: d1) ++ z).take (d.length + 1 + d1.length) = d ++ 46 :: d1 := fun z => by
        rw [List.take_append_of_le_length (by simp; omega), List.take_of_length_le (by simp; omega)]
      unfold num
      rw [t1, t2, t1, t2]
      simp only [List.head?_cons, List.drop_succ_cons, List.drop_zero]
      rw [t3, t4, t5, t5]
  · rw [if_neg hc] at h0 hn
    cases hi : V.int ((x ++ r).takeWhile digB) with
    | none => rw [hi] at h0; cases h0
    | some v =>
      rw [hi] at hn
      dsimp only at hn
      obtain ⟨o1, s1⟩ := tw_len digB x r hn
      have s2 : r'.takeWhile digB = [] := h.stop (fun b hb => blank_dig hb) s1
      have t1 := tw_cut digB x r o1 s1
      have t2 := tw_cut digB x r' o1 s2
      have hc2 : ¬ (((x ++ r').drop ((x ++ r').takeWhile digB).length).head? = some 46 ∧ 0 < ((((x ++ r').drop ((x ++ r').takeWhile digB).length).drop 1).takeWhile digB).length) := by
        rw [t1] at hc
        rw [t2]
        simp only [List.drop_left] at hc ⊢
        intro ⟨g1, g2⟩
        rcases h with h | ⟨c, y, y', rfl, rfl, hf⟩
        · exact absurd (h 46 g1) (by decide)
        · apply hc
          refine ⟨g1, ?_⟩
          simp only [List.drop_succ_cons, List.drop_zero] at g2 ⊢
          exact (tw_pos y).2 (hf ((tw_pos y').1 g2))
      unfold num
      rw [if_neg hc, if_neg hc2, t1, t2]

theorem tok_stable (V : Val) (x r r' : List UInt8) (h0 : (tok V (x ++ r)).e = 0) (hn : (tok V (x ++ r)).n = x.length) (hx : x ≠ []) (h : H r r') : tok V (x ++ r') = tok V (x ++ r) := by
  cases x with
  | nil => exact absurd rfl hx
  | cons c x =>
  have hns := num_stable V (c :: x) r r'
  simp only [List.cons_append, tok] at h0 hn hns ⊢
  by_cases c1 : letB c = true
  · rw [if_pos c1] at h0 hn ⊢
    rw [if_pos c1]
    dsimp only at hn
    obtain ⟨o1, s1⟩ := tw_len wordB (c :: x) r hn
    have s2 := h.stop (fun b hb => blank_word hb) s1
    have t1 := tw_cut wordB (c :: x) r o1 s1
    have t2 := tw_cut wordB (c :: x) r' o1 s2
    rw [List.cons_append] at t1 t2
    rw [t1, t2]
  rw [if_neg c1] at h0 hn ⊢
  rw [if_neg c1]
  by_cases c2 : c = 48 ∧ (x ++ r).head? = some 120
  · rw [if_pos c2] at h0 hn ⊢
    dsimp only at hn
    cases x with
    | nil => simp at hn; omega
    | cons d x =>
      have c3 : c = 48 ∧ (d :: x ++ r').head? = some 120 := by simpa using c2
      rw [if_pos c3]
      simp only [List.cons_append, List.drop_succ_cons, List.drop_zero] at hn ⊢
      obtain ⟨o1, s1⟩ := tw_len hexB x r (by simp at hn; omega)
      have s2 := h.stop (fun b hb => blank_hex hb) s1
      have t1 := tw_cut hexB x r o1 s1
      have t2 := tw_cut hexB x r' o1 s2
      rw [t1, t2]
  have c3 : ¬ (c = 48 ∧ (x ++ r').head? = some 120) := by
    intro ⟨g1, g2⟩
    apply c2
    refine ⟨g1, ?_⟩
    cases x with
    | cons d x => simpa using g2
    | nil =>
      rcases h with h | ⟨c, y, y', rfl, rfl, hf⟩
      · exact absurd (h 120 g2) (by decide)
      · exact g2
  rw [if_neg c2] at h0 hn ⊢
  rw [if_neg c3]
  by_cases c4 : digB c = true
  · rw [if_pos c4] at h0 hn ⊢
    rw [if_pos c4]
    exact hns h0 hn hx h
  rw [if_neg c4] at h0 hn ⊢
  rw [if_neg c4]
  by_cases c5 : (c :: (x ++ r)).take 2 ∈ marks2
  · rw [if_pos c5] at h0 hn ⊢
    dsimp only at hn
    cases x with
    | nil => simp at hn
    | cons d x =>
      rw [if_pos (by simpa using c5)]
  rw [if_neg c5] at h0 hn ⊢
  by_cases c6 : c ∈ marks1
  · rw [if_pos c6] at h0 hn ⊢
    dsimp only at hn
    have hx0 : x = [] := List.length_eq_zero_iff.1 (by rw [List.length_cons] at hn; omega)
    subst hx0
    have c7 : ¬ (c :: ([] ++ r')).take 2 ∈ marks2 := by
      rcases h with h | ⟨d, y, y', rfl, rfl, hf⟩
      · cases r' with
        | nil => simp [marks2]
        | cons b r' =>
          have := blank_cases (h b rfl)
          intro hm
          simp only [List.nil_append, List.take_succ_cons, List.take_zero, marks2, List.mem_cons, List.cons.injEq, List.not_mem_nil, or_false] at hm
          rcases this with rfl | rfl | rfl | rfl <;> revert hm <;> simp <;> decide
      · simpa using c5
    rw [if_neg c7]
  · rw [if_neg c6] at h0
    exact absurd h0 (by decide)

/-- a token has at least one byte, and no more than there are -/
theorem tok_n (V : Val) (u : List UInt8) (h0 : (tok V u).e = 0) : 1 ≤ (tok V u).n ∧ (tok V u).n ≤ u.length := by
  cases u with
  | nil => exact absurd h0 (by simp [tok])
  | cons c l =>
  have twl : ∀ (p : UInt8 → Bool) (u : List UInt8), (u.takeWhile p).length ≤ u.length := fun p u => (List.takeWhile_prefix p).length_le
  simp only [tok] at h0 ⊢
  by_cases c1 : letB c = true
  · rw [if_pos c1]
    dsimp only
    refine ⟨?_, twl _ _⟩
    rw [List.takeWhile_cons, if_pos (by simp [wordB, c1])]
    simp
  rw [if_neg c1] at h0 ⊢
  by_cases c2 : c = 48 ∧ l.head? = some 120
  · rw [if_pos c2]
    dsimp only
    have := twl hexB (l.drop 1)
    cases l with
    | nil => simp at c2
    | cons d l =>
      simp only [List.drop_succ_cons, List.drop_zero, List.length_cons] at this ⊢
      omega
  rw [if_neg c2] at h0 ⊢
  by_cases c4 : digB c = true
  · rw [if_pos c4] at h0 ⊢
    unfold num at h0 ⊢
    have h1 : 1 ≤ ((c :: l).takeWhile digB).length := by rw [List.takeWhile_cons, if_pos c4]; simp
    have h2 := twl digB (c :: l)
    by_cases hc : ((c :: l).drop ((c :: l).takeWhile digB).length).head? = some 46 ∧ 0 < ((((c :: l).drop ((c :: l).takeWhile digB).length).drop 1).takeWhile digB).length
    · rw [if_pos hc]
      dsimp only
      have h3 := twl digB (((c :: l).drop ((c :: l).takeWhile digB).length).drop 1)
      rw [List.length_drop, List.length_drop] at h3
      omega
    · rw [if_neg hc] at h0 ⊢
      cases hi : V.int ((c :: l).takeWhile digB) with
      | none => rw [hi] at h0; cases h0
      | some v => exact ⟨h1, h2⟩
  rw [if_neg c4] at h0 ⊢
  by_cases c5 : (c :: l).take 2 ∈ marks2
  · rw [if_pos c5]
    cases l with
    | nil => simp [marks2] at c5
    | cons d l => simp
  rw [if_neg c5] at h0 ⊢
  by_cases c6 : c ∈ marks1
  · rw [if_pos c6]; simp
  · rw [if_neg c6] at h0
    exact absurd h0 (by decide)

/-- skipping: behind a gap that ends at a token anything may stand -/
theorem sk_gap : ∀ (fl : Bool) (g y : List UInt8), y ≠ [] → sk fl (g ++ y) = g.length → (∀ z, sk fl (g ++ z) = g.length + sk false z) ∧ sk false y = 0
  | true, [], y, hy, h => by
    cases y with
    | nil => exact absurd rfl hy
    | cons c y =>
      have h : 1 + sk (!(c == 10)) y = 0 := h
      omega
  | false, [], y, hy, h => ⟨fun z => by simp, by simpa using h⟩
  | true, c :: g, y, hy, h => by
    simp only [List.cons_append, sk, List.length_cons] at h ⊢
    obtain ⟨h1, h2⟩ := sk_gap (!(c == 10)) g y hy (by omega)
    exact ⟨fun z => by rw [h1 z]; omega, h2⟩
  | false, c :: g, y, hy, h => by
    simp only [List.cons_append, sk, List.length_cons] at h ⊢
    by_cases c1 : blankB c = true
    · rw [if_pos c1] at h
      obtain ⟨h1, h2⟩ := sk_gap false g y hy (by omega)
      exact ⟨fun z => by rw [if_pos c1, h1 z]; omega, h2⟩
    · rw [if_neg c1] at h
      by_cases c2 : c = 47 ∧ (g ++ y).head? = some 47
      · rw [if_pos c2] at h
        obtain ⟨h1, h2⟩ := sk_gap true g y hy (by omega)
        refine ⟨fun z => ?_, h2⟩
        have c3 : (g ++ z).head? = some 47 := by
          cases g with
          | nil =>
            cases y with
            | nil => exact absurd rfl hy
            | cons d y =>
              have h : 1 + (1 + sk (!(d == 10)) y) = 0 + 1 := h
              omega
          | cons d g => simpa using c2.2
        rw [if_neg c1, if_pos ⟨c2.1, c3⟩, h1 z]; omega
      · rw [if_neg c2] at h
        omega
theorem sk_tok (x r r' : List UInt8) (hx : x ≠ []) (h0 : sk false (x ++ r) = 0) (h : H r r') : sk false (x ++ r') = 0 := by
  cases x with
  | nil => exact absurd rfl hx
  | cons c x =>
    simp only [List.cons_append, sk] at h0 ⊢
    by_cases c1 : blankB c = true
    · rw [if_pos c1] at h0; omega
    · rw [if_neg c1] at h0 ⊢
      by_cases c2 : c = 47 ∧ (x ++ r).head? = some 47
      · rw [if_pos c2] at h0; omega
      · rw [if_neg ?_]
        intro ⟨g1, g2⟩
        apply c2
        refine ⟨g1, ?_⟩
        cases x with
        | cons d x => simpa using g2
        | nil =>
          rcases h with h | ⟨c, y, y', rfl, rfl, hf⟩
          · exact absurd (h 47 g2) (by decide)
          · exact g2
/-- skipping to the end, and on through what is skipped from either state -/
theorem sk_end : ∀ (fl : Bool) (g v : List UInt8) (b : UInt8) (v' : List UInt8), v = b :: v' → blankB b = true → sk false v = v.length → sk true v = v.length → sk fl g = g.length → sk fl (g ++ v) = (g ++ v).length
  | true, [], v, b, v', hv, hb, h1, h2, h => by simpa using h2
  | false, [], v, b, v', hv, hb, h1, h2, h => by simpa using h1
  | true, c :: g, v, b, v', hv, hb, h1, h2, h => by
    simp only [List.cons_append, sk, List.length_cons] at h ⊢
    have := sk_end (!(c == 10)) g v b v' hv hb h1 h2 (by omega)
    omega
  | false, c :: g, v, b, v', hv, hb, h1, h2, h => by
    simp only [List.cons_append, sk, List.length_cons] at h ⊢
    by_cases c1 : blankB c = true
    · rw [if_pos c1] at h ⊢
      have := sk_end false g v b v' hv hb h1 h2 (by omega)
      omega
    · rw [if_neg c1] at h ⊢
      by_cases c2 : c = 47 ∧ g.head? = some 47
      · rw [if_pos c2] at h
        have := sk_end true g v b v' hv hb h1 h2 (by omega)
        cases g with
        | nil => simp at c2
        | cons d g =>
          rw [if_pos (by simpa using c2)]
          omega
      · rw [if_neg c2] at h
        omega

structure T where
  kind : Int
  text : List UInt8
  ty : Int
  bits : Int
  place : Nat
def T.same (a b : T) : Prop := a.kind = b.kind ∧ a.text = b.text ∧ a.ty = b.ty ∧ a.bits = b.bits
inductive Same : List T → List T → Prop
  | nil : Same [] []
  | cons {a b : T} {l m : List T} : a.same b → Same l m → Same (a :: l) (b :: m)
theorem Same.len {l m : List T} (h : Same l m) : l.length = m.length := by
  induction h with
  | nil => rfl
  | cons _ _ ih => simp [ih]

/-- a text and its tokens: gap, token, and so on -/
inductive Lx (V : Val) : Nat → List UInt8 → List T → Prop
  | nil (p : Nat) (g : List UInt8) : sk false g = g.length → Lx V p g []
  | cons (p : Nat) (g x r : List UInt8) (ts : List T) : x ≠ [] → sk false (g ++ (x ++ r)) = g.length → (tok V (x ++ r)).e = 0 → (tok V (x ++ r)).n = x.length → Lx V (p + g.length + x.length) r ts →
      Lx V p (g ++ (x ++ r)) (⟨(tok V (x ++ r)).kind, x, (tok V (x ++ r)).ty, (tok V (x ++ r)).bits, p + g.length⟩ :: ts)

def lexS (V : Val) : Nat → Nat → Nat → List UInt8 → Except (Nat × Int) (List T)
  | 0, _, _, _ => .ok []
  | f + 1, p, c, u =>
    if u.length ≤ sk false u then .ok []
    else if (tok V (u.drop (sk false u))).e ≠ 0 then .error (p + sk false u, (tok V (u.drop (sk false u))).e)
    else if c = 1024 then .error (p + sk false u, 3)
    else match lexS V f (p + sk false u + (tok V (u.drop (sk false u))).n) (c + 1) ((u.drop (sk false u)).drop (tok V (u.drop (sk false u))).n) with
      | .ok ts => .ok (⟨(tok V (u.drop (sk false u))).kind, (u.drop (sk false u)).take (tok V (u.drop (sk false u))).n, (tok V (u.drop (sk false u))).ty, (tok V (u.drop (sk false u))).bits, p + sk false u⟩ :: ts)
      | .error x => .error x

theorem sk_le : ∀ (fl : Bool) (u : List UInt8), sk fl u ≤ u.length
  | _, [] => by simp [sk]
  | true, c :: l => by
    simp only [sk, List.length_cons]
    have := sk_le (!(c == 10)) l
    omega
  | false, c :: l => by
    simp only [sk, List.length_cons]
    have h1 := sk_le false l
    have h2 := sk_le true l
    split
    · omega
    · split <;> omega

theorem Lx_step (V : Val) (p j n : Nat) (u : List UInt8) (ts : List T) (hj : sk false u = j) (hlt : j < u.length) (he : (tok V (u.drop j)).e = 0) (hn : (tok V (u.drop j)).n = n) (h : Lx V (p + j + n) ((u.drop j).drop n) ts) :
    Lx V p u (⟨(tok V (u.drop j)).kind, (u.drop j).take n, (tok V (u.drop j)).ty, (tok V (u.drop j)).bits, p + j⟩ :: ts) := by
  obtain ⟨n1, n2⟩ := tok_n V _ he
  have l1 : (u.take j).length = j := List.length_take_of_le (by omega)
  have l2 : ((u.drop j).take n).length = n := List.length_take_of_le (by omega)
  have key := Lx.cons (V := V) p (u.take j) ((u.drop j).take n) ((u.drop j).drop n) ts (by intro h0; rw [h0] at l2; simp at l2; omega)
    (by rw [List.take_append_drop, List.take_append_drop, l1]; exact hj) (by rw [List.take_append_drop]; exact he) (by rw [List.take_append_drop, l2]; exact hn) (by rw [l1, l2]; exact h)
  rw [List.take_append_drop, List.take_append_drop, l1] at key
  exact key

theorem lexS_ok (V : Val) : ∀ (f p c : Nat) (u : List UInt8) (ts : List T), u.length < f → c ≤ 1024 → lexS V f p c u = .ok ts → Lx V p u ts ∧ c + ts.length ≤ 1024
  | 0, p, c, u, ts, hf, hc, h => by omega
  | f + 1, p, c, u, ts, hf, hc, h => by
    unfold lexS at h
    have hle := sk_le false u
    by_cases c1 : u.length ≤ sk false u
    · rw [if_pos c1] at h
      cases h
      exact ⟨.nil p u (by omega), by simpa using hc⟩
    rw [if_neg c1] at h
    by_cases c2 : (tok V (u.drop (sk false u))).e ≠ 0
    · rw [if_pos c2] at h; cases h
    rw [if_neg c2] at h
    have c2 : (tok V (u.drop (sk false u))).e = 0 := Decidable.not_not.1 c2
    by_cases c3 : c = 1024
    · rw [if_pos c3] at h; cases h
    rw [if_neg c3] at h
    obtain ⟨n1, n2⟩ := tok_n V _ c2
    have hrl : ((u.drop (sk false u)).drop (tok V (u.drop (sk false u))).n).length < f := by rw [List.length_drop] at n2 ⊢; rw [List.length_drop]; omega
    cases hr : lexS V f (p + sk false u + (tok V (u.drop (sk false u))).n) (c + 1) ((u.drop (sk false u)).drop (tok V (u.drop (sk false u))).n) with
    | error x => rw [hr] at h; cases h
    | ok ts' =>
      rw [hr] at h
      obtain ⟨ih, ihn⟩ := lexS_ok V f _ _ _ _ hrl (by omega) hr
      injection h with h
      subst h
      exact ⟨Lx_step V p _ _ u ts' rfl (by omega) c2 rfl ih, by simp only [List.length_cons]; omega⟩

theorem lexS_err (V : Val) : ∀ (f p c : Nat) (u : List UInt8) (x : Nat × Int), lexS V f p c u = .error x → x.2 ≠ 0
  | 0, p, c, u, x, h => by cases h
  | f + 1, p, c, u, x, h => by
    unfold lexS at h
    by_cases c1 : u.length ≤ sk false u
    · rw [if_pos c1] at h; cases h
    rw [if_neg c1] at h
    by_cases c2 : (tok V (u.drop (sk false u))).e ≠ 0
    · rw [if_pos c2] at h
      injection h with h
      subst h
      exact c2
    rw [if_neg c2] at h
    by_cases c3 : c = 1024
    · rw [if_pos c3] at h
      injection h with h
      subst h
      exact (show (3 : Int) ≠ 0 by decide)
    rw [if_neg c3] at h
    cases hr : lexS V f (p + sk false u + (tok V (u.drop (sk false u))).n) (c + 1) ((u.drop (sk false u)).drop (tok V (u.drop (sk false u))).n) with
    | error y =>
      rw [hr] at h
      injection h with h
      subst h
      exact lexS_err V f _ _ _ _ hr
    | ok ts => rw [hr] at h; cases h

theorem ok_lexS (V : Val) (p : Nat) (u : List UInt8) (ts : List T) (h : Lx V p u ts) : ∀ (f c : Nat), u.length < f → c + ts.length ≤ 1024 → lexS V f p c u = .ok ts := by
  induction h with
  | nil p g hg =>
    intro f c hf hc
    cases f with
    | zero => omega
    | succ f =>
      unfold lexS
      rw [if_pos (by omega)]
  | cons p g x r ts hx hg he hn _ ih =>
    intro f c hf hc
    cases f with
    | zero => omega
    | succ f =>
      have hxl : 0 < x.length := List.length_pos_iff.2 hx
      unfold lexS
      rw [hg]
      have e1 : (g ++ (x ++ r)).drop g.length = x ++ r := by simp
      simp only [e1]
      have hl : (g ++ (x ++ r)).length = g.length + (x.length + r.length) := by simp
      rw [if_neg (by omega), if_neg (by simpa using he), if_neg (by simp at hc; omega), hn]
      have e2 : (x ++ r).drop x.length = r := by simp
      have e3 : (x ++ r).take x.length = x := by simp
      rw [e2, e3, ih f (c + 1) (by omega) (by simp at hc; omega)]
end Go.Proofs.YthifejhdmjoolaaGreatDoor.Lx

namespace Go.Proofs.YthifejhdmjoolaaGreatDoor.Lx
set_option linter.unusedVariables false
set_option linter.unusedSimpArgs false

theorem Same.refl : ∀ l : List T, Same l l
  | [] => .nil
  | a :: l => .cons ⟨rfl, rfl, rfl, rfl⟩ (Same.refl l)

theorem gap_of {p : Nat} {V : Val} {g x r : List UInt8} (hx : x ≠ []) (hg : sk false (g ++ (x ++ r)) = g.length) {r' : List UInt8} (h : H r r') : sk false (g ++ (x ++ r')) = g.length := by
  obtain ⟨h1, h2⟩ := sk_gap false g (x ++ r) (by simp [hx]) hg
  rw [h1, sk_tok x r r' hx h2 h]; rfl

/-- behind all: what is skipped, whether in a remark or not -/
theorem Lx_tail (V : Val) (v : List UInt8) (b : UInt8) (v' : List UInt8) (hv : v = b :: v') (hb : blankB b = true) (h1 : sk false v = v.length) (h2 : sk true v = v.length) {p : Nat} {u : List UInt8} {ts : List T} (h : Lx V p u ts) :
    Lx V p (u ++ v) ts := by
  induction h with
  | nil p g hg => exact .nil p _ (sk_end false g v b v' hv hb h1 h2 hg)
  | cons p g x r ts hx hg he hn _ ih =>
    have hH : H r (r ++ v) := by
      have := H_ins r [] v [] b v' hv hb
      simpa using this
    have ht := tok_stable V x r (r ++ v) he hn hx hH
    rw [← ht] at he hn ⊢
    have key := Lx.cons (V := V) p g x (r ++ v) ts hx (gap_of (V := V) (p := p) hx hg hH) he hn ih
    have e : g ++ (x ++ r) ++ v = g ++ (x ++ (r ++ v)) := by simp
    rw [e]
    exact key

theorem Lx_move (V : Val) {p : Nat} {u : List UInt8} {ts : List T} (h : Lx V p u ts) : ∀ q, ∃ ts', Lx V q u ts' ∧ Same ts ts' := by
  induction h with
  | nil p g hg => exact fun q => ⟨[], .nil q g hg, .nil⟩
  | cons p g x r ts hx hg he hn _ ih =>
    intro q
    obtain ⟨ts', h1, h2⟩ := ih (q + g.length + x.length)
    exact ⟨_, .cons q g x r ts' hx hg he hn h1, .cons ⟨rfl, rfl, rfl, rfl⟩ h2⟩

/-- where the tokens stand -/
theorem Lx_place (V : Val) {p : Nat} {u : List UInt8} {ts : List T} (h : Lx V p u ts) : ∀ (i : Nat) (hi : i < ts.length), p ≤ ts[i].place ∧ ts[i].place + 1 ≤ p + u.length := by
  induction h with
  | nil p g hg => intro i hi; simp at hi
  | cons p g x r ts hx hg he hn _ ih =>
    have := List.length_pos_iff.2 hx
    intro i hi
    cases i with
    | zero => simp; omega
    | succ i =>
      have := ih i (by simpa using hi)
      simp only [List.getElem_cons_succ, List.length_append]
      omega

/-- ahead of a token: a gap of its own -/
theorem Lx_ins (V : Val) (v : List UInt8) (b : UInt8) (v' : List UInt8) (hv : v = b :: v') (hb : blankB b = true) (h1 : ∀ z, sk false (v ++ z) = v.length + sk false z) {p : Nat} {u : List UInt8} {ts : List T} (h : Lx V p u ts) :
    ∀ (i : Nat) (hi : i < ts.length) (q a : Nat), ts[i].place = p + a → ∃ ts', Lx V q (u.take a ++ (v ++ u.drop a)) ts' ∧ Same ts ts' := by
  induction h with
  | nil p g hg => intro i hi; simp at hi
  | cons p g x r ts hx hg he hn hr ih =>
    intro i hi q a ha
    obtain ⟨g1, g2⟩ := sk_gap false g (x ++ r) (by simp [hx]) hg
    cases i with
    | zero =>
      simp only [List.getElem_cons_zero] at ha
      have hga : a = g.length := by omega
      subst hga
      obtain ⟨ts', k1, k2⟩ := Lx_move V hr (q + (g ++ v).length + x.length)
      have key := Lx.cons (V := V) q (g ++ v) x r ts' hx (by rw [List.append_assoc, g1, h1, g2]; simp) he hn k1
      have e : (g ++ (x ++ r)).take g.length ++ (v ++ (g ++ (x ++ r)).drop g.length) = g ++ v ++ (x ++ r) := by simp
      rw [e]
      exact ⟨_, key, .cons ⟨rfl, rfl, rfl, rfl⟩ k2⟩
    | succ i =>
      have hi2 : i < ts.length := by simpa using hi
      have ha : ts[i].place = p + a := by simpa using ha
      have hpl := (Lx_place V hr i hi2).1
      obtain ⟨a2, rfl⟩ : ∃ a2, a = g.length + x.length + a2 := ⟨a - (g.length + x.length), by omega⟩
      obtain ⟨ts', k1, k2⟩ := ih i hi2 (q + g.length + x.length) a2 (by omega)
      have hH : H r (r.take a2 ++ (v ++ r.drop a2)) := by
        have := H_ins (r.take a2) (r.drop a2) v (r.drop a2) b v' hv hb
        simpa using this
      have ht := tok_stable V x r _ he hn hx hH
      have key := Lx.cons (V := V) q g x _ ts' hx (gap_of (V := V) (p := p) hx hg hH) (by rw [ht]; exact he) (by rw [ht]; exact hn) k1
      rw [ht] at key
      have e : (g ++ (x ++ r)).take (g.length + x.length + a2) ++ (v ++ (g ++ (x ++ r)).drop (g.length + x.length + a2)) = g ++ (x ++ (r.take a2 ++ (v ++ r.drop a2))) := by
        rw [List.take_append, List.drop_append, List.take_append, List.drop_append]
        have e1 : g.length + x.length + a2 - g.length - x.length = a2 := by omega
        rw [e1, List.take_of_length_le (by omega : g.length ≤ g.length + x.length + a2), List.drop_of_length_le (by omega : g.length ≤ g.length + x.length + a2), List.take_of_length_le (by omega : x.length ≤ g.length + x.length + a2 - g.length), List.drop_of_length_le (by omega : x.length ≤ g.length + x.length + a2 - g.length)]
        simp
      rw [e]
      exact ⟨_, key, .cons ⟨rfl, rfl, rfl, rfl⟩ k2⟩

/-- the texts, joined by single blanks -/
def joinL : List (List UInt8) → List UInt8
  | [] => []
  | x :: l => match l with
    | [] => x
    | _ :: _ => x ++ 32 :: joinL l

theorem sk32 (w : List UInt8) : sk false (32 :: w) = 1 + sk false w := by simp only [sk]; rw [if_pos (show blankB 32 = true by decide)]
theorem Lx_blank (V : Val) (q : Nat) (w : List UInt8) (ts : List T) (h : Lx V (q + 1) w ts) : Lx V q (32 :: w) ts := by
  cases h with
  | nil p g hg =>
    refine .nil q _ ?_
    rw [sk32, hg, List.length_cons]; omega
  | cons p g x r ts hx hg he hn hr =>
    have hs : sk false ((32 :: g) ++ (x ++ r)) = (32 :: g).length := by
      rw [List.cons_append, sk32, hg, List.length_cons]; omega
    have e : q + 1 + g.length = q + (32 :: g).length := by simp; omega
    rw [e] at hr
    have key := Lx.cons (V := V) q (32 :: g) x r ts hx hs he hn hr
    rw [← e] at key
    exact key

theorem Lx_join (V : Val) {p : Nat} {u : List UInt8} {ts : List T} (h : Lx V p u ts) : ∀ q, ∃ ts', Lx V q (joinL (ts.map T.text)) ts' ∧ Same ts ts' := by
  induction h with
  | nil p g hg => exact fun q => ⟨[], .nil q [] rfl, .nil⟩
  | cons p g x r ts hx hg he hn hr ih =>
    intro q
    obtain ⟨g1, g2⟩ := sk_gap false g (x ++ r) (by simp [hx]) hg
    have core : ∀ r' ts', H r r' → Lx V (q + x.length) r' ts' → Same ts ts' → ∃ ts'', Lx V q (x ++ r') ts'' ∧ Same (⟨(tok V (x ++ r)).kind, x, (tok V (x ++ r)).ty, (tok V (x ++ r)).bits, p + g.length⟩ :: ts) ts'' := by
      intro r' ts' hH k1 k2
      have ht := tok_stable V x r r' he hn hx hH
      have key := Lx.cons (V := V) q [] x r' ts' hx (by rw [List.nil_append, sk_tok x r r' hx g2 hH]; rfl) (by rw [ht]; exact he) (by rw [ht]; exact hn) k1
      rw [ht] at key
      exact ⟨_, key, .cons ⟨rfl, rfl, rfl, rfl⟩ k2⟩
    cases ts with
    | nil =>
      obtain ⟨ts'', k1, k2⟩ := core [] [] (.inl (by simp)) (.nil _ [] rfl) .nil
      refine ⟨ts'', ?_, k2⟩
      simpa [joinL] using k1
    | cons t ts =>
      obtain ⟨ts', k1, k2⟩ := ih (q + x.length + 1)
      exact core (32 :: joinL ((t :: ts).map T.text)) ts' (.inl (by simp [blankB])) (Lx_blank V _ _ _ k1) k2

theorem Same.join {l m : List T} (h : Same l m) : l.map T.text = m.map T.text := by
  induction h with
  | nil => rfl
  | cons h _ ih => simp [h.2.1, ih]
end Go.Proofs.YthifejhdmjoolaaGreatDoor.Lx

namespace Go.Proofs.YthifejhdmjoolaaGreatDoor.Lx
open Go Go.RowKit Go.Flo Go.Proofs.YthifejhdmjoolaaGreatDoorG Go.Proofs.YthifejhdmjoolaaGreatDoor.QC Go.Proofs.YthifejhdmjoolaaGreatDoorW.PrintWords
set_option linter.unusedVariables false
set_option linter.unusedSimpArgs false

theorem ofInt_nearest (n : Int) : floatOfInt .f64 n = D.nearest (decide (n < 0)) n.natAbs 0 := rfl
theorem tenW_fin : ∀ b : Fin 16, rung (tenW b.val) < 9218868437227405312 ∧ sg (rung (tenW b.val)) ≠ 0 := by decide +kernel
theorem ofInt_rung (n : Int) : rung (floatOfInt .f64 n) ≤ 9218868437227405312 := by
  by_cases h : n.natAbs = 0
  · have : n = 0 := by omega
    subst this
    decide +kernel
  · rw [ofInt_nearest, nearest_eq _ _ _ h]
    have hm : min (rungOf n.natAbs 0) 9218868437227405312 ≤ 9218868437227405312 := Nat.min_le_right _ _
    rw [(word_rung _ (by omega)).1]
    exact hm
theorem quo_tot (n : Int) (b : Nat) (hb : b ≤ 15) : ∃ r, floatBits .quo .f64 (floatOfInt .f64 n) (tenW b) = some r := by
  obtain ⟨t1, t2⟩ := tenW_fin ⟨b, by omega⟩
  have hy := read_finite t1
  have hx := ofInt_rung n
  show ∃ r, ((D.read (floatOfInt .f64 n)).quotient (D.fractionBits + 2) (D.read (tenW b))).map D.write = some r
  generalize floatOfInt .f64 n = x at *
  rw [hy]
  by_cases c : rung x = 9218868437227405312
  · rw [read_inf c]
    exact ⟨_, rfl⟩
  · rw [read_finite (by omega)]
    simp only [Ieee.Datum.quotient]
    rw [if_neg t2]
    exact ⟨_, rfl⟩

theorem uint_digs : ∀ (l : List UInt8) (a : Nat), digsB l = true → a * 10 ^ l.length + 10 ^ l.length ≤ 10000000000000000 → ∃ u, Lib.parseUintM (2 ^ 64 - 1) a l = .ok u
  | [], a, h, ha => ⟨a, rfl⟩
  | c :: l, a, h, ha => by
    simp only [digsB, List.all_cons, Bool.and_eq_true] at h
    have hc : 48 ≤ c.toNat ∧ c.toNat ≤ 57 := by simpa [dgB] using h.1
    have hp : 1 ≤ 10 ^ l.length := Nat.one_le_pow _ _ (by omega)
    rw [List.length_cons, Nat.pow_succ] at ha
    have hb : (a * 10 + (c.toNat - 48)) * 10 ^ l.length + 10 ^ l.length ≤ 10000000000000000 := by
      have e1 : (a * 10 + (c.toNat - 48)) * 10 ^ l.length ≤ (a * 10 + 9) * 10 ^ l.length := Nat.mul_le_mul_right _ (by omega)
      have e2 : (a * 10 + 9) * 10 ^ l.length + 10 ^ l.length = a * (10 ^ l.length * 10) + 10 ^ l.length * 10 := by
        generalize 10 ^ l.length = p
        rw [Nat.add_mul, Nat.mul_assoc, Nat.mul_comm 10 p]; omega
      omega
    have ha2 : a * 10 + 9 < 1000000000000000000 := by
      have : a * 1 ≤ a * (10 ^ l.length * 10) := Nat.mul_le_mul_left _ (by omega)
      omega
    obtain ⟨u, hu⟩ := uint_digs l (a * 10 + (c.toNat - 48)) h.2 hb
    refine ⟨u, ?_⟩
    unfold Lib.parseUintM
    rw [if_pos hc, if_neg (by omega), if_neg (by omega)]
    exact hu

theorem index_lt (c : UInt8) : ∀ l : List UInt8, Lib.indexByte l c < l.length
  | [] => by unfold Lib.indexByte; decide
  | b :: l => by
    have := index_lt c l
    unfold Lib.indexByte
    simp only [List.length_cons]
    split
    · omega
    · split <;> omega

theorem cut_tot (s : ByteArray) (hs : s.size ≤ 100000) : ∃ a b f, strings_Cut.f s ⟨#[46]⟩ = some (a, b, f) := by
  have h1 : ((⟨#[46]⟩ : ByteArray)).size = 1 := rfl
  have hi := index_lt 46 s.data.toList
  have hz : s.data.toList.length = s.size := rfl
  rw [hz] at hi
  unfold strings_Cut.f stringslite_Cut.f stringslite_Index.f
  rw [if_pos h1, h1, Option.bind_some]
  have e46 : ((⟨#[46]⟩ : ByteArray)).data.toList.getD 0 0 = 46 := rfl
  rw [e46]
  generalize Lib.indexByte s.data.toList 46 = i at *
  have ew : 0 ≤ i → wrap64 (i + ((1 : Nat) : Int)) = i + 1 := by intro h; unfold wrap64; omega
  by_cases c : i ≥ 0
  · rw [ew c, if_pos c, if_pos c, if_pos (by omega), if_pos (by omega), if_pos (by omega)]
    exact ⟨_, _, _, rfl⟩
  · rw [if_neg c]
    exact ⟨_, _, _, rfl⟩

theorem lit_tot (s : ByteArray) (hs : s.size ≤ 100000) : ∃ r, floats_Literal.f s = some r := by
  unfold floats_Literal.f
  rw [if_pos (by omega)]
  obtain ⟨a, b, f, h⟩ := cut_tot s hs
  rw [h, Option.bind_some]
  simp only [litTail]
  by_cases c1 : f = false
  · rw [if_pos c1]; exact ⟨_, rfl⟩
  rw [if_neg c1]
  by_cases c2 : digitsB a = false
  · rw [if_pos c2]; exact ⟨_, rfl⟩
  rw [if_neg c2]
  by_cases c3 : digitsB b = false
  · rw [if_pos c3]; exact ⟨_, rfl⟩
  rw [if_neg c3]
  by_cases c4 : 15 < a.size + b.size
  · rw [if_pos c4]; exact ⟨_, rfl⟩
  rw [if_neg c4]
  have c2 : digitsB a = true := by simpa using c2
  have c3 : digitsB b = true := by simpa using c3
  simp only [digitsB, Bool.and_eq_true] at c2 c3
  have hl : (a ++ b).data.toList = a.data.toList ++ b.data.toList := by simp
  have hal : a.data.toList.length = a.size := rfl
  have hbl : b.data.toList.length = b.size := rfl
  have hd : digsB (a.data.toList ++ b.data.toList) = true := by
    have d1 := c2.1
    have d2 := c3.1
    unfold digsB at d1 d2 ⊢
    rw [List.all_append, d1, d2]; rfl
  have hne : a.data.toList ++ b.data.toList ≠ [] := by
    intro h0
    have := congrArg List.length h0
    rw [List.length_append, hal, hbl] at this
    have h9 : a.size ≠ 0 := of_decide_eq_true c2.2
    have h8 : a.size + b.size = 0 := this
    omega
  obtain ⟨u, hu⟩ := uint_digs _ 0 hd (by
    have : 10 ^ (a.data.toList ++ b.data.toList).length ≤ 10 ^ 15 := Nat.pow_le_pow_right (by omega) (by rw [List.length_append, hal, hbl]; omega)
    rw [Nat.zero_mul, Nat.zero_add]
    exact Nat.le_trans this (by decide))
  obtain ⟨r, hr⟩ := quo_tot u b.size (by omega)
  unfold litBits Lib.parseUintB
  rw [hl, if_neg hne, hu]
  dsimp only
  rw [hr]
  exact ⟨_, rfl⟩
end Go.Proofs.YthifejhdmjoolaaGreatDoor.Lx

namespace Go.Proofs.YthifejhdmjoolaaGreatDoor.Lx
open Go Go.RowKit Go.Proofs.YthifejhdmjoolaaGreatDoorG Go.Proofs.YthifejhdmjoolaaGreatDoorW.PrintWords
set_option linter.unusedVariables false
set_option linter.unusedSimpArgs false

abbrev L (s : ByteArray) : List UInt8 := s.data.toList
def B (l : List UInt8) : ByteArray := ⟨⟨l⟩⟩
theorem L_B (l : List UInt8) : L (B l) = l := rfl
theorem B_L (s : ByteArray) : B (L s) = s := rfl
theorem B_size (l : List UInt8) : (B l).size = l.length := rfl
theorem L_size (s : ByteArray) : (L s).length = s.size := rfl
theorem L_cut (s : ByteArray) (a b : Nat) : L (s.extract a b) = ((L s).drop a).take (b - a) := by
  unfold L
  rw [ByteArray.data_extract]
  simp
theorem cut_B (s : ByteArray) (a b : Nat) : s.extract a b = B (((L s).drop a).take (b - a)) := by
  rw [← L_cut]; rfl
theorem drop_at (s : ByteArray) {x : Nat} {c : UInt8} {l : List UInt8} (h : (L s).drop x = c :: l) : x < s.size ∧ bt s (x : Int) = (c.toNat : Int) ∧ (L s).drop (x + 1) = l := by
  have h1 : x < (L s).length := by
    rcases Nat.lt_or_ge x (L s).length with g | g
    · exact g
    · rw [List.drop_of_length_le g] at h; cases h
  have h2 := List.drop_eq_getElem_cons h1
  rw [h] at h2
  injection h2 with h3 h4
  have hs : x < s.size := h1
  refine ⟨hs, ?_, h4.symm⟩
  unfold bt
  rw [dif_pos (by simpa using hs), h3]
  rfl
theorem drop_end (s : ByteArray) {x : Nat} (h : (L s).drop x = []) : s.size ≤ x := by
  have := List.drop_eq_nil_iff.1 h
  exact this

/-- what a text with 0x is worth: floats.Parse's answer -/
noncomputable def PV (l : List UInt8) : Int × Int := open Classical in if h : ∃ r, ∃ k, floats_ParseV.f k (B l) = some r then h.choose else (0, 10)
theorem PV_is {l : List UInt8} {k : Nat} {r : Int × Int} (h : floats_ParseV.f k (B l) = some r) : PV l = r := by
  have hex : ∃ r, ∃ k, floats_ParseV.f k (B l) = some r := ⟨r, k, h⟩
  unfold PV
  rw [dif_pos hex]
  obtain ⟨k2, h2⟩ := hex.choose_spec
  have e1 := at_rounds (g := fun k => floats_ParseV.f k (B l)) (fun k => floats_ParseV.mono _ k) (Nat.le_max_left k k2) h
  have e2 := at_rounds (g := fun k => floats_ParseV.f k (B l)) (fun k => floats_ParseV.mono _ k) (Nat.le_max_right k k2) h2
  exact (Option.some.inj (e1.symm.trans e2)).symm
def LV (l : List UInt8) : Int × Int := (floats_Literal.f (B l)).getD (0, 10)
def IV (l : List UInt8) : Option Int := match Lib.parseIntB 64 l with | .ok v => some (IntKind.u64.wrap v) | _ => none
noncomputable def V : Val := ⟨LV, PV, IV⟩
theorem LV_is (l : List UInt8) (h : l.length ≤ 100000) : floats_Literal.f (B l) = some (LV l) := by
  obtain ⟨r, hr⟩ := lit_tot (B l) h
  unfold LV
  rw [hr]; rfl

theorem dig_dgB (c : UInt8) : digB c = dgB c := by
  unfold digB dgB
  by_cases h1 : 48 ≤ c.toNat <;> by_cases h2 : c.toNat ≤ 57 <;> simp [h1, h2]
theorem parse_uint_digs : ∀ (l : List UInt8) (a : Nat), (∀ c ∈ l, digB c = true) → Lib.parseUintM (2 ^ 64 - 1) a l ≠ .syntax
  | [], a, h => by unfold Lib.parseUintM; intro h; cases h
  | c :: l, a, h => by
    have hc : 48 ≤ c.toNat ∧ c.toNat ≤ 57 := by
      have := h c (List.mem_cons_self ..)
      rw [dig_dgB] at this
      simpa [dgB] using this
    unfold Lib.parseUintM
    rw [if_pos hc]
    split
    · intro h; cases h
    · split
      · intro h; cases h
      · exact parse_uint_digs l _ fun d hd => h d (List.mem_cons_of_mem _ hd)
theorem parse_int_digs (l : List UInt8) (hne : l ≠ []) (h : ∀ c ∈ l, digB c = true) : Lib.parseIntB 64 l = .range ∨ ∃ v, Lib.parseIntB 64 l = .ok v := by
  cases l with
  | nil => exact absurd rfl hne
  | cons c l =>
    have hc : 48 ≤ c.toNat ∧ c.toNat ≤ 57 := by
      have := h c (List.mem_cons_self ..)
      rw [dig_dgB] at this
      simpa [dgB] using this
    have hs := parse_uint_digs (c :: l) 0 h
    unfold Lib.parseIntB
    dsimp only
    rw [if_neg (by omega)]
    unfold Lib.parseUintB
    rw [if_neg (by simp)]
    cases hu : Lib.parseUintM (2 ^ 64 - 1) 0 (c :: l) with
    | ok u =>
      dsimp only
      split
      · exact .inl rfl
      · split
        · exact .inl rfl
        · exact .inr ⟨_, rfl⟩
    | range => exact .inl rfl
    | _ => exact absurd hu hs

/-! kinds and runs, as lex.number's text has them -/
theorem kind_finR : ∀ i : Fin 256, QR.lex_kind.f 8 ((i.val : Nat) : Int) = some (blankB (UInt8.ofNat i.val), letB (UInt8.ofNat i.val), digB (UInt8.ofNat i.val), hexB (UInt8.ofNat i.val)) := by decide +kernel
theorem kind_R {k : Nat} (hk : 8 ≤ k) (c : UInt8) : QR.lex_kind.f k (c.toNat : Int) = some (blankB c, letB c, digB c, hexB c) := by
  have h := kind_finR ⟨c.toNat, c.toNat_lt⟩
  dsimp only at h
  rw [UInt8.ofNat_toNat] at h
  exact at_rounds (fun k => QR.lex_kind.mono _ k) hk h
theorem w64 (n : Int) (h0 : -1000000 ≤ n) (h1 : n ≤ 1000000) : wrap64 n = n := by unfold wrap64; omega
theorem run_R (s : ByteArray) (hs : s.size ≤ 100000) (a : Nat) : ∀ (l : List UInt8) (x k : Nat), (L s).drop x = l → x ≤ s.size → a ≤ x → l.length + 10 ≤ k → QR.lex_run_of_99.l0 k s (a : Int) (x : Int) = some (((x - a + (l.takeWhile digB).length : Nat)) : Int)
  | [], x, k, h, hx, ha, hk => by
    have he := drop_end s h
    obtain ⟨k, rfl⟩ : ∃ j, k = j + 1 := ⟨k - 1, by omega⟩
    simp only [QR.lex_run_of_99.l0]
    rw [if_neg (by omega), w64 _ (by omega) (by omega)]
    congr 1
    simp
    omega
  | c :: l, x, k, h, hx, ha, hk => by
    obtain ⟨h1, h2, h3⟩ := drop_at s h
    obtain ⟨k, rfl⟩ : ∃ j, k = j + 1 := ⟨k - 1, by omega⟩
    simp only [QR.lex_run_of_99.l0]
    rw [if_pos (by omega), if_pos (by omega), h2, kind_R (by simp at hk; omega), Option.bind_some]
    simp only [QR.lex_number_1.f, Option.bind_some]
    rw [List.takeWhile_cons]
    by_cases c1 : digB c = true
    · rw [if_pos c1, if_pos c1, w64 _ (by omega) (by omega)]
      have ih := run_R s hs a l (x + 1) k h3 (by omega) (by omega) (by simp at hk; omega)
      rw [show ((x : Int) + 1) = ((x + 1 : Nat) : Int) by omega, ih]
      congr 1
      simp only [List.length_cons]
      omega
    · rw [if_neg c1, if_neg c1, w64 _ (by omega) (by omega)]
      congr 1
      simp
      omega
theorem runR (s : ByteArray) (hs : s.size ≤ 100000) (a : Nat) (ha : a ≤ s.size) (k : Nat) (hk : s.size + 10 ≤ k) : QR.lex_run_of_99.f k s (a : Int) = some ((((L s).drop a).takeWhile digB).length : Int) := by
  unfold QR.lex_run_of_99.f
  rw [run_R s hs a ((L s).drop a) a k rfl ha (Nat.le_refl _) (by rw [List.length_drop, L_size]; omega)]
  congr 1
  omega

/-- how a token that came out stands to the one in plain words -/
def Told (t : Tk) (u : List UInt8) (a : Nat) (R : Int × ByteArray × Int × Int × Int × Int) : Prop := R.2.2.2.2.2 = t.e ∧ (t.e = 0 → R = (t.kind, B (u.take t.n), t.ty, t.bits, (a : Int), 0))

theorem tw_take (p : UInt8 → Bool) (u : List UInt8) : u.take (u.takeWhile p).length = u.takeWhile p := (List.prefix_iff_eq_take.1 (List.takeWhile_prefix p)).symm

theorem num_told (s : ByteArray) (hs : s.size ≤ 100000) (a : Nat) (u : List UInt8) (hu : (L s).drop a = u) (ha : a < s.size) (h1 : f1 u = true) (k : Nat) (hk : s.size + 20 ≤ k) : ∃ R, lex_number.f k s (a : Int) = some R ∧ Told (num V u) u a R := by
  have hul : u.length = s.size - a := by rw [← hu, List.length_drop, L_size]
  have hn := runR s hs a (by omega) k (by omega)
  rw [hu] at hn
  unfold lex_number.f
  rw [if_pos ⟨by omega, by omega⟩, hn, Option.bind_some]
  unfold numTail
  have hnle : (u.takeWhile digB).length ≤ u.length := (List.takeWhile_prefix _).length_le
  have hn1 : 1 ≤ (u.takeWhile digB).length := (tw_pos u).2 h1
  have hsp := tw_split digB u
  have hok := tw_ok digB u
  rw [if_pos ⟨by omega, by omega⟩]
  have hut : u.take (u.takeWhile digB).length = u.takeWhile digB := tw_take digB u
  have hint : ∃ R, numInt s (a : Int) ((u.takeWhile digB).length : Int) = some R ∧ Told (match V.int (u.takeWhile digB) with | some v => ⟨3, (u.takeWhile digB).length, 1, v, 0⟩ | none => ⟨0, 0, 0, 0, 80⟩) u a R := by
    unfold numInt
    have e : s.extract ((a : Int)).toNat ((a : Int) + ((u.takeWhile digB).length : Int)).toNat = B (u.takeWhile digB) := by
      rw [cut_B, Int.toNat_natCast, hu, show ((a : Int) + ((u.takeWhile digB).length : Int)).toNat - a = (u.takeWhile digB).length by omega, hut]
    rw [e]
    show ∃ R : Int × ByteArray × Int × Int × Int × Int, (match Lib.parseIntB 64 (L (B (u.takeWhile digB))) with | .ok v => some (3, B (u.takeWhile digB), 1, IntKind.u64.wrap v, (a : Int), 0) | .range => some (0, ⟨#[]⟩, 0, 0, 0, 80) | _ => none) = some R ∧ Told (match IV (u.takeWhile digB) with | some v => ⟨3, (u.takeWhile digB).length, 1, v, 0⟩ | none => ⟨0, 0, 0, 0, 80⟩) u a R
    rw [L_B]
    unfold IV
    rcases parse_int_digs (u.takeWhile digB) (by intro h; rw [h] at hn1; simp at hn1) hok with h | ⟨v, h⟩
    · rw [h]
      exact ⟨_, rfl, rfl, fun h => absurd h (show ¬ ((80 : Int) = 0) by decide)⟩
    · rw [h]
      refine ⟨_, rfl, rfl, fun _ => ?_⟩
      dsimp only
      rw [hut]
  unfold num
  have hdrop : u.drop (u.takeWhile digB).length = (L s).drop (a + (u.takeWhile digB).length) := by rw [← hu, List.drop_drop]
  by_cases c1 : (a : Int) + ((u.takeWhile digB).length : Int) = (s.size : Int)
  · rw [if_pos c1]
    have e0 : u.drop (u.takeWhile digB).length = [] := List.drop_eq_nil_iff.2 (by omega)
    rw [e0, if_neg (by simp)]
    exact hint
  rw [if_neg c1]
  cases hv : u.drop (u.takeWhile digB).length with
  | nil =>
    have := List.drop_eq_nil_iff.1 hv
    omega
  | cons c v =>
    rw [hv] at hdrop
    obtain ⟨d1, d2, d3⟩ := drop_at s hdrop.symm
    rw [show (a : Int) + ((u.takeWhile digB).length : Int) = ((a + (u.takeWhile digB).length : Nat) : Int) by omega, d2]
    by_cases c2 : c = 46
    · subst c2
      rw [if_pos (by decide)]
      have hm := runR s hs (a + (u.takeWhile digB).length + 1) (by omega) k (by omega)
      rw [d3] at hm
      have hml : (v.takeWhile digB).length ≤ v.length := (List.takeWhile_prefix _).length_le
      have hvl : v.length = s.size - (a + (u.takeWhile digB).length + 1) := by rw [← d3, List.length_drop, L_size]
      rw [show ((a + (u.takeWhile digB).length : Nat) : Int) + 1 = ((a + (u.takeWhile digB).length + 1 : Nat) : Int) by omega, hm, Option.bind_some]
      simp only [List.head?_cons, List.drop_succ_cons, List.drop_zero, true_and]
      by_cases c3 : 0 < (v.takeWhile digB).length
      · rw [if_pos (by omega), if_pos (by omega), if_pos c3]
        have e : s.extract ((a : Int)).toNat ((a : Int) + (((u.takeWhile digB).length : Int) + (1 + ((v.takeWhile digB).length : Int)))).toNat = B (u.take ((u.takeWhile digB).length + 1 + (v.takeWhile digB).length)) := by
          rw [cut_B, Int.toNat_natCast, hu, show ((a : Int) + (((u.takeWhile digB).length : Int) + (1 + ((v.takeWhile digB).length : Int)))).toNat - a = (u.takeWhile digB).length + 1 + (v.takeWhile digB).length by omega]
        rw [e, LV_is _ (by rw [List.length_take]; omega), Option.bind_some]
        refine ⟨_, rfl, rfl, fun h0 => ?_⟩
        have h0 : (LV (u.take ((u.takeWhile digB).length + 1 + (v.takeWhile digB).length))).2 = 0 := h0
        show (4, _, 2, (LV _).1, (a : Int), (LV _).2) = _
        rw [h0]
        rfl
      · rw [if_neg (by omega), if_neg c3]
        exact hint
    · have c3 : ¬ ((c.toNat : Int) = 46) := by
        intro h
        exact c2 (UInt8.toNat_inj.1 (by have : (46 : UInt8).toNat = 46 := rfl; omega))
      rw [if_neg c3, if_neg (by simp [c2])]
      exact hint
end Go.Proofs.YthifejhdmjoolaaGreatDoor.Lx
