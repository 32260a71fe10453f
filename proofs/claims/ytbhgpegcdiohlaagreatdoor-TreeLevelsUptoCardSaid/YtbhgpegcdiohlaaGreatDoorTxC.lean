import Derived.Test.YtbhgpegcdiohlaaGreatDoorTxB
import Derived.Test.YtbhgpegcdiohlaaGreatDoorRtE
namespace Go.Proofs.YtbhgpegcdiohlaaGreatDoor.Tr
open Go Go.RowKit Go.Proofs
set_option linter.unusedVariables false
set_option maxRecDepth 100000
set_option maxHeartbeats 1000000
def Ex.op : Ex → Int
  | .mk _ op _ _ _ _ _ => op
/-- in parentheses, if it must -/
def parE (p : Prop) [Decidable p] (s : ByteArray) : ByteArray := if p then ⟨#[40]⟩ ++ s ++ ⟨#[41]⟩ else s
section
variable (vt : Int → Int → ByteArray)
/-- the name that an expression bears, its module's ahead -/
def nameB (m n : ByteArray) : ByteArray := if m.toList.isEmpty = true then n else m ++ ⟨#[46]⟩ ++ n
mutual
/-- an expression's text without parentheses around it -/
def bareE : Ex → ByteArray
  | .mk k op m n t b ks =>
    if k = 1 then vt t b
    else if k = 8 then ⟨#[105, 110, 112, 117, 116]⟩
    else if k = 4 ∨ k = 5 then nameB m n ++ ⟨#[40]⟩ ++ joinB (textsE ks) ++ ⟨#[41]⟩
    else if k = 6 then unE op ks
    else if k = 7 then binTE op ks
    else nameB m n
def textsE : Exs → List ByteArray
  | .nil => []
  | .cons e l => parE (lvl e.k e.op < 1) (bareE e) :: textsE l
def unE (op : Int) : Exs → ByteArray
  | .nil => ⟨#[]⟩
  | .cons e _ => if op = 1 then ⟨#[45]⟩ ++ parE (lvl e.k e.op < 6) (bareE e) else if op = 2 then ⟨#[33]⟩ ++ parE (lvl e.k e.op < 6) (bareE e) else if op = 3 then ⟨#[105, 110, 116, 40]⟩ ++ parE (lvl e.k e.op < 1) (bareE e) ++ ⟨#[41]⟩ else ⟨#[102, 108, 111, 97, 116, 40]⟩ ++ parE (lvl e.k e.op < 1) (bareE e) ++ ⟨#[41]⟩
def binTE (op : Int) : Exs → ByteArray
  | .nil => ⟨#[]⟩
  | .cons e l => parE (lvl e.k e.op < plc 7 op 0) (bareE e) ++ ⟨#[32]⟩ ++ markB op ++ ⟨#[32]⟩ ++ binTL op l
def binTL (op : Int) : Exs → ByteArray
  | .nil => ⟨#[]⟩
  | .cons e _ => parE (lvl e.k e.op < plc 7 op 1) (bareE e)
end
mutual
def costE : Ex → Nat
  | .mk k op m n t b ks => 100 + m.size + n.size + costL ks
def costL : Exs → Nat
  | .nil => 0
  | .cons e l => costE e + 4 + costL l
end
theorem seqI_zero {a b : Int} (h : seqI a b = 0) : a = 0 ∧ b = 0 := by
  unfold seqI at h
  split at h
  · exact ⟨by assumption, h⟩
  · exact absurd h (by assumption)
theorem errL_all : ∀ {ks : Exs}, errL ks = 0 → ∀ x ∈ ks.toList, errE x = 0
  | .nil, _, x, hx => by simp [Exs.toList] at hx
  | .cons e l, h, x, hx => by
    rw [errL] at h
    obtain ⟨h1, h2⟩ := seqI_zero h
    simp only [Exs.toList, List.mem_cons] at hx
    rcases hx with rfl | hx
    · exact h1
    · exact errL_all h2 x hx
theorem errE_parts {k op : Int} {m n : ByteArray} {t b : Int} {ks : Exs} (h : errE (.mk k op m n t b ks) = 0) : shapedB k op m n t b ks.toList.length = true ∧ ks.toList.length ≤ 8 ∧ ∀ x ∈ ks.toList, errE x = 0 := by
  rw [errE] at h
  obtain ⟨h1, h⟩ := seqI_zero h
  obtain ⟨h2, h⟩ := seqI_zero h
  obtain ⟨h3, h⟩ := seqI_zero h
  obtain ⟨h4, h⟩ := seqI_zero h
  refine ⟨?_, ?_, errL_all h⟩
  · split at h1
    · assumption
    · cases h1
  · split at h4
    · cases h4
    · omega
theorem costL_mem : ∀ {ks : Exs} {x : Ex}, x ∈ ks.toList → costE x + 4 ≤ costL ks
  | .nil, x, hx => by simp [Exs.toList] at hx
  | .cons e l, x, hx => by
    rw [costL]
    simp only [Exs.toList, List.mem_cons] at hx
    rcases hx with rfl | hx
    · omega
    · have := costL_mem hx; omega
theorem ite_le {p : Prop} [Decidable p] {a b : ByteArray} (h : a.size ≤ 2) (g : b.size ≤ 2) : (if p then a else b).size ≤ 2 := by split <;> assumption
theorem markB_le (op : Int) : (markB op).size ≤ 2 := by
  unfold markB
  repeat (refine ite_le (by decide) ?_)
  decide
theorem parE_le (p : Prop) [Decidable p] (s : ByteArray) : (parE p s).size ≤ s.size + 2 := by
  unfold parE
  split
  · simp [show (⟨#[40]⟩ : ByteArray).size = 1 from rfl, show (⟨#[41]⟩ : ByteArray).size = 1 from rfl]; omega
  · omega
def sumB (l : List ByteArray) : Nat := (l.map (·.size)).sum
theorem lens_map (l : List ByteArray) : Lib.lens (l.map (·.data.toList)) = sumB l := by
  unfold Lib.lens sumB
  rw [List.map_map]
  rfl
theorem joinB_le (l : List ByteArray) : (joinB l).size ≤ sumB l + 2 * l.length := by
  have e : (joinB l).size = (Lib.join (l.map (·.data.toList)) [44, 32]).length := rfl
  rw [e]
  cases l with
  | nil => simp [Lib.join_nil, sumB]
  | cons x l =>
    rw [List.map_cons, Lib.join_length, ← List.map_cons (f := fun b : ByteArray => b.data.toList), lens_map]
    simp
    omega
theorem nameB_le (m n : ByteArray) : (nameB m n).size ≤ m.size + n.size + 1 := by
  unfold nameB
  split
  · omega
  · simp [show (⟨#[46]⟩ : ByteArray).size = 1 from rfl]; omega
mutual
theorem bare_le (hvt : ∀ t b, (vt t b).size ≤ 64) : ∀ x : Ex, (bareE vt x).size ≤ costE x
  | .mk k op m n t b ks => by
    rw [bareE, costE]
    have hn := nameB_le m n
    have ht := texts_le hvt ks
    have hj := joinB_le (textsE vt ks)
    have hu := un_le hvt op ks
    have hb := bin_le hvt op ks
    have hv := hvt t b
    split
    · omega
    · split
      · simp [show (⟨#[105, 110, 112, 117, 116]⟩ : ByteArray).size = 5 from rfl]; omega
      · split
        · simp [show (⟨#[40]⟩ : ByteArray).size = 1 from rfl, show (⟨#[41]⟩ : ByteArray).size = 1 from rfl]; omega
        · split
          · omega
          · split
            · omega
            · omega
theorem texts_le (hvt : ∀ t b, (vt t b).size ≤ 64) : ∀ ks : Exs, sumB (textsE vt ks) + 2 * (textsE vt ks).length ≤ costL ks
  | .nil => by simp [textsE, sumB, costL]
  | .cons e l => by
    have h1 := bare_le hvt e
    have h2 := texts_le hvt l
    have h3 := parE_le (lvl e.k e.op < 1) (bareE vt e)
    rw [textsE, costL]
    simp only [sumB, List.map_cons, List.sum_cons, List.length_cons] at *
    omega
theorem un_le (hvt : ∀ t b, (vt t b).size ≤ 64) (op : Int) : ∀ ks : Exs, (unE vt op ks).size ≤ costL ks + 10
  | .nil => by rw [unE]; simp [show (⟨#[]⟩ : ByteArray).size = 0 from rfl]
  | .cons e l => by
    have h1 := bare_le hvt e
    have h3 := parE_le (lvl e.k e.op < 1) (bareE vt e)
    have h4 := parE_le (lvl e.k e.op < 6) (bareE vt e)
    rw [unE, costL]
    repeat' split
    all_goals (simp [show (⟨#[41]⟩ : ByteArray).size = 1 from rfl, show (⟨#[45]⟩ : ByteArray).size = 1 from rfl, show (⟨#[33]⟩ : ByteArray).size = 1 from rfl, show (⟨#[105, 110, 116, 40]⟩ : ByteArray).size = 4 from rfl, show (⟨#[102, 108, 111, 97, 116, 40]⟩ : ByteArray).size = 6 from rfl]; omega)
theorem bin_le (hvt : ∀ t b, (vt t b).size ≤ 64) (op : Int) : ∀ ks : Exs, (binTE vt op ks).size ≤ costL ks + 10
  | .nil => by rw [binTE]; simp [show (⟨#[]⟩ : ByteArray).size = 0 from rfl]
  | .cons e l => by
    have h1 := bare_le hvt e
    have h3 := parE_le (lvl e.k e.op < plc 7 op 0) (bareE vt e)
    have h4 := binTL_le hvt op l
    have h5 := markB_le op
    rw [binTE, costL]
    simp [show (⟨#[32]⟩ : ByteArray).size = 1 from rfl]
    omega
theorem binTL_le (hvt : ∀ t b, (vt t b).size ≤ 64) (op : Int) : ∀ ks : Exs, (binTL vt op ks).size ≤ costL ks
  | .nil => by rw [binTL]; simp [show (⟨#[]⟩ : ByteArray).size = 0 from rfl]
  | .cons e l => by
    have h1 := bare_le hvt e
    have h3 := parE_le (lvl e.k e.op < plc 7 op 1) (bareE vt e)
    rw [binTL, costL]
    omega
end
theorem textsE_len : ∀ ks : Exs, (textsE vt ks).length = ks.toList.length
  | .nil => rfl
  | .cons e l => by rw [textsE]; simp [Exs.toList, textsE_len l]
theorem textsE_get : ∀ (ks : Exs) (i : Nat) (x : Ex), ks.toList[i]? = some x → (textsE vt ks)[i]? = some (parE (lvl x.k x.op < 1) (bareE vt x))
  | .nil, i, x, h => by simp [Exs.toList] at h
  | .cons e l, 0, x, h => by
    simp only [Exs.toList, List.getElem?_cons_zero, Option.some.injEq] at h
    subst h
    rw [textsE]
    rfl
  | .cons e l, i + 1, x, h => by
    simp only [Exs.toList, List.getElem?_cons_succ] at h
    rw [textsE, List.getElem?_cons_succ]
    exact textsE_get l i x h
theorem lvl_bin {op : Int} (h1 : 1 ≤ op) (h2 : op ≤ 13) : lvl 7 op ≤ 5 := by
  have : op = 1 ∨ op = 2 ∨ op = 3 ∨ op = 4 ∨ op = 5 ∨ op = 6 ∨ op = 7 ∨ op = 8 ∨ op = 9 ∨ op = 10 ∨ op = 11 ∨ op = 12 ∨ op = 13 := by omega
  rcases this with rfl | rfl | rfl | rfl | rfl | rfl | rfl | rfl | rfl | rfl | rfl | rfl | rfl <;> decide
theorem nameErr_full {s : ByteArray} (h : nameErr s = 0) : s.toList.isEmpty = false := by
  by_cases hz : s.toList.isEmpty = true
  · obtain rfl := empty_of hz
    rw [nameErr_0 rfl] at h
    cases h
  · simpa using hz
theorem far_full {k op : Int} {m n : ByteArray} {t b : Int} {ks : Exs} (h : errE (.mk k op m n t b ks) = 0) (hk : k = 3 ∨ k = 5) : m.toList.isEmpty = false := by
  rw [errE] at h
  obtain ⟨h1, h⟩ := seqI_zero h
  obtain ⟨h2, h⟩ := seqI_zero h
  rw [if_pos hk] at h2
  exact nameErr_full h2
/-- what the texts of literals are -/
def ValsL (Lw : World → Prop) : Prop := ∀ (t b : Int), 0 ≤ b → b < 18446744073709551616 → litB t b = true → ∀ w, Lw w → Calls Tryz.prog 108 #[.agg #[.int .i64 t, .int .u64 b]] w (SaysS (vt t b) w)
def BareIs (Lw : World → Prop) (x : Ex) : Prop := x.Wf → errE x = 0 → costE x ≤ 70368744177664 → ∀ at_ : Int, at_ ≤ 7 → TextL Lw x at_ (parE (lvl x.k x.op < at_) (bareE vt x))
theorem bare_walk (Lw : World → Prop) (hLw : Stays Lw) (hvt : ∀ t b, (vt t b).size ≤ 64) (hval : ValsL vt Lw) (k op : Int) (m n : ByteArray) (t b : Int) (ks : Exs) (hK : ∀ x ∈ ks.toList, BareIs vt Lw x) : BareIs vt Lw (.mk k op m n t b ks) := by
  intro hw he hc at_ hat
  have hsz := bare_le vt hvt (.mk k op m n t b ks)
  have hw' := hw
  unfold Ex.Wf at hw'
  obtain ⟨h0, h1, hmz, hnz, hks⟩ := hw'
  obtain ⟨hs, h8, hek⟩ := errE_parts he
  have hkid : ∀ x ∈ ks.toList, ∀ a : Int, a ≤ 7 → TextL Lw x a (parE (lvl x.k x.op < a) (bareE vt x)) := fun x hx => hK x hx (Exs.Wf_iff.1 hks x hx) (hek x hx) (by have := costL_mem hx; rw [costE] at hc; omega)
  -- at its own level first
  suffices hb : ∀ a : Int, a ≤ 7 → a ≤ lvl k op → TextL Lw (.mk k op m n t b ks) a (bareE vt (.mk k op m n t b ks)) by
    have hl := lvl_le k op
    by_cases hp : lvl k op < at_
    · have hpar : parE (lvl k op < at_) (bareE vt (.mk k op m n t b ks)) = ⟨#[40]⟩ ++ bareE vt (.mk k op m n t b ks) ++ ⟨#[41]⟩ := by unfold parE; rw [if_pos hp]
      show TextL Lw _ at_ (parE (lvl k op < at_) _)
      rw [hpar]
      exact textL_paren Lw hLw k op _ at_ m n t b ks _ rfl hp (hb 1 (by omega) hl.1) (by omega)
    · have hpar : parE (lvl k op < at_) (bareE vt (.mk k op m n t b ks)) = bareE vt (.mk k op m n t b ks) := by unfold parE; rw [if_neg hp]
      show TextL Lw _ at_ (parE (lvl k op < at_) _)
      rw [hpar]
      exact hb at_ hat (by omega)
  intro a ha7 hal
  have hk : k = 1 ∨ k = 2 ∨ k = 3 ∨ k = 4 ∨ k = 5 ∨ k = 6 ∨ k = 7 ∨ k = 8 := by
    unfold shapedB at hs
    by_cases hk : k < 1 ∨ 8 < k
    · rw [if_neg (by omega), if_neg (by omega), if_neg (by omega), if_neg (by omega), if_neg (by omega), if_neg (by omega), if_neg (by omega), if_neg (by omega)] at hs
      cases hs
    · omega
  rw [costE] at hc
  unfold strOk at hmz hnz
  have hjoin := joinB_le (textsE vt ks)
  have htx := texts_le vt hvt ks
  rcases hk with rfl | rfl | rfl | rfl | rfl | rfl | rfl | rfl
  · unfold shapedB at hs
    rw [if_pos rfl] at hs
    simp only [Bool.and_eq_true, decide_eq_true_eq] at hs
    obtain ⟨⟨⟨⟨g1, g2⟩, g3⟩, g4⟩, g5⟩ := hs
    have e : bareE vt (.mk 1 op m n t b ks) = vt t b := by rw [bareE, if_pos rfl]
    rw [e]
    exact textL_lit Lw hLw op a m n t b ks ha7 (empty_of g2) _ (hval t b h0 h1 g5)
  · unfold shapedB at hs
    rw [if_neg (by decide), if_pos rfl] at hs
    simp only [Bool.and_eq_true, decide_eq_true_eq] at hs
    obtain ⟨⟨⟨g1, g2⟩, g3⟩, g4⟩ := hs
    have e : bareE vt (.mk 2 op m n t b ks) = n := by rw [bareE, if_neg (by decide), if_neg (by decide), if_neg (by decide), if_neg (by decide), if_neg (by decide)]; unfold nameB; rw [if_pos g2]
    rw [e]
    exact textL_name Lw hLw op a m n t b ks ha7 (empty_of g2)
  · have hm := far_full he (.inl rfl)
    have e : bareE vt (.mk 3 op m n t b ks) = m ++ ⟨#[46]⟩ ++ n := by rw [bareE, if_neg (by decide), if_neg (by decide), if_neg (by decide), if_neg (by decide), if_neg (by decide)]; unfold nameB; rw [if_neg (by simp [hm])]
    rw [e]
    exact textL_far Lw hLw op a m n t b ks ha7 hm (by omega)
  · unfold shapedB at hs
    rw [if_neg (by decide), if_neg (by decide), if_neg (by decide), if_pos rfl] at hs
    simp only [Bool.and_eq_true, decide_eq_true_eq] at hs
    obtain ⟨⟨g1, g2⟩, g3⟩ := hs
    have e : bareE vt (.mk 4 op m n t b ks) = n ++ ⟨#[40]⟩ ++ joinB (textsE vt ks) ++ ⟨#[41]⟩ := by rw [bareE, if_neg (by decide), if_neg (by decide), if_pos (by decide)]; unfold nameB; rw [if_pos g2]
    rw [e]
    exact textL_call4 Lw hLw op a m n t b ks ha7 (empty_of g2) (textsE vt ks) (textsE_len vt ks) (fun i x s hx hsx => by
      have h9 := textsE_get vt ks i x hx
      rw [hsx] at h9
      cases h9
      exact hkid x (List.mem_of_getElem? hx) 1 (by decide)) (by omega) (by omega)
  · have hm := far_full he (.inr rfl)
    have e : bareE vt (.mk 5 op m n t b ks) = (m ++ ⟨#[46]⟩ ++ n) ++ ⟨#[40]⟩ ++ joinB (textsE vt ks) ++ ⟨#[41]⟩ := by rw [bareE, if_neg (by decide), if_neg (by decide), if_pos (by decide)]; unfold nameB; rw [if_neg (by simp [hm])]
    rw [e]
    exact textL_call5 Lw hLw op a m n t b ks ha7 hm (textsE vt ks) (textsE_len vt ks) (fun i x s hx hsx => by
      have h9 := textsE_get vt ks i x hx
      rw [hsx] at h9
      cases h9
      exact hkid x (List.mem_of_getElem? hx) 1 (by decide)) (by omega) (by omega)
  · unfold shapedB at hs
    rw [if_neg (by decide), if_neg (by decide), if_neg (by decide), if_neg (by decide), if_neg (by decide), if_pos rfl] at hs
    simp only [Bool.and_eq_true, decide_eq_true_eq] at hs
    obtain ⟨⟨⟨⟨g1, g2⟩, g3⟩, g4⟩, g5, g6⟩ := hs
    obtain rfl := empty_of g2
    obtain rfl := empty_of g3
    subst g5 g6
    match ks, g4 with
    | .cons x .nil, _ =>
    have hx := hkid x (by simp [Exs.toList])
    have hsx := bare_le vt hvt x
    have hcx : costE x + 4 ≤ costL (.cons x .nil) := costL_mem (by simp [Exs.toList])
    have hp1 := parE_le (lvl x.k x.op < 1) (bareE vt x)
    have hp6 := parE_le (lvl x.k x.op < 6) (bareE vt x)
    have ho : op = 1 ∨ op = 2 ∨ op = 3 ∨ op = 4 := by omega
    rcases ho with rfl | rfl | rfl | rfl
    · have e : bareE vt (.mk 6 1 ⟨#[]⟩ ⟨#[]⟩ 0 0 (.cons x .nil)) = ⟨#[45]⟩ ++ parE (lvl x.k x.op < 6) (bareE vt x) := by rw [bareE, if_neg (by decide), if_neg (by decide), if_neg (by decide), if_pos rfl, unE, if_pos rfl]
      rw [e]
      exact textL_un1 Lw hLw a x _ (by simpa [lvl] using hal) (hx 6 (by decide)) (by omega)
    · have e : bareE vt (.mk 6 2 ⟨#[]⟩ ⟨#[]⟩ 0 0 (.cons x .nil)) = ⟨#[33]⟩ ++ parE (lvl x.k x.op < 6) (bareE vt x) := by rw [bareE, if_neg (by decide), if_neg (by decide), if_neg (by decide), if_pos rfl, unE, if_neg (by decide), if_pos rfl]
      rw [e]
      exact textL_un2 Lw hLw a x _ (by simpa [lvl] using hal) (hx 6 (by decide)) (by omega)
    · have e : bareE vt (.mk 6 3 ⟨#[]⟩ ⟨#[]⟩ 0 0 (.cons x .nil)) = ⟨#[105, 110, 116, 40]⟩ ++ parE (lvl x.k x.op < 1) (bareE vt x) ++ ⟨#[41]⟩ := by rw [bareE, if_neg (by decide), if_neg (by decide), if_neg (by decide), if_pos rfl, unE, if_neg (by decide), if_neg (by decide), if_pos rfl]
      rw [e]
      exact textL_un3 Lw hLw a x _ ha7 (hx 1 (by decide)) (by omega)
    · have e : bareE vt (.mk 6 4 ⟨#[]⟩ ⟨#[]⟩ 0 0 (.cons x .nil)) = ⟨#[102, 108, 111, 97, 116, 40]⟩ ++ parE (lvl x.k x.op < 1) (bareE vt x) ++ ⟨#[41]⟩ := by rw [bareE, if_neg (by decide), if_neg (by decide), if_neg (by decide), if_pos rfl, unE, if_neg (by decide), if_neg (by decide), if_neg (by decide)]
      rw [e]
      exact textL_un4 Lw hLw a x _ ha7 (hx 1 (by decide)) (by omega)
  · unfold shapedB at hs
    rw [if_neg (by decide), if_neg (by decide), if_neg (by decide), if_neg (by decide), if_neg (by decide), if_neg (by decide), if_pos rfl] at hs
    simp only [Bool.and_eq_true, decide_eq_true_eq] at hs
    obtain ⟨⟨⟨⟨g1, g2⟩, g3⟩, g4⟩, g5, g6⟩ := hs
    obtain rfl := empty_of g2
    obtain rfl := empty_of g3
    subst g5 g6
    match ks, g4 with
    | .cons x (.cons y .nil), _ =>
    have hx := hkid x (by simp [Exs.toList])
    have hy := hkid y (by simp [Exs.toList])
    have hsx := bare_le vt hvt x
    have hsy := bare_le vt hvt y
    have hcx : costE x + 4 ≤ costL (.cons x (.cons y .nil)) := costL_mem (by simp [Exs.toList])
    have hcy : costE y + 4 ≤ costL (.cons x (.cons y .nil)) := costL_mem (by simp [Exs.toList])
    have hp1 := parE_le (lvl x.k x.op < plc 7 op 0) (bareE vt x)
    have hp2 := parE_le (lvl y.k y.op < plc 7 op 1) (bareE vt y)
    have hmk := markB_le op
    have hll := lvl_bin g1.1 g1.2
    have hp0 : plc 7 op 0 ≤ 7 := by unfold plc; split <;> omega
    have hq0 : plc 7 op 1 ≤ 7 := by unfold plc; split <;> omega
    have e : bareE vt (.mk 7 op ⟨#[]⟩ ⟨#[]⟩ 0 0 (.cons x (.cons y .nil))) = parE (lvl x.k x.op < plc 7 op 0) (bareE vt x) ++ ⟨#[32]⟩ ++ markB op ++ ⟨#[32]⟩ ++ parE (lvl y.k y.op < plc 7 op 1) (bareE vt y) := by rw [bareE, if_neg (by decide), if_neg (by decide), if_neg (by decide), if_neg (by decide), if_pos rfl, binTE, binTL]
    rw [e]
    exact textL_bin Lw hLw op _ _ _ a (markB op) _ _ x y rfl (by omega) rfl rfl (mark_any op g1.1 g1.2) (hx _ hp0) (hy _ hq0) (by omega)
  · unfold shapedB at hs
    rw [if_neg (by decide), if_neg (by decide), if_neg (by decide), if_neg (by decide), if_neg (by decide), if_neg (by decide), if_neg (by decide), if_pos rfl] at hs
    simp only [Bool.and_eq_true, decide_eq_true_eq] at hs
    obtain ⟨⟨⟨⟨g1, g2⟩, g3⟩, g4⟩, g5⟩ := hs
    have e : bareE vt (.mk 8 op m n t b ks) = ⟨#[105, 110, 112, 117, 116]⟩ := by rw [bareE, if_neg (by decide), if_pos rfl]
    rw [e]
    exact textL_input Lw hLw op a m n t b ks ha7 (empty_of g2)
end
end Go.Proofs.YtbhgpegcdiohlaaGreatDoor.Tr
