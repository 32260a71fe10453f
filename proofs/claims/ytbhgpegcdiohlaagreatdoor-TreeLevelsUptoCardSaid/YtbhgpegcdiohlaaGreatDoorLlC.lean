import Derived.Test.YtbhgpegcdiohlaaGreatDoorLlB
import Derived.Test.YtbhgpegcdiohlaaGreatDoorFxG
import Derived.Lib.ItoaLen
namespace Go.Proofs.YtbhgpegcdiohlaaGreatDoor.Tr
open Go Go.RowKit Go.Proofs
set_option linter.unusedVariables false
set_option maxRecDepth 100000
set_option maxHeartbeats 1000000
/-- a literal's text, at every number -/
def vtF (t b : Int) : ByteArray := if t = 1 then (if 0 ≤ b ∧ b < 9223372036854775808 then ⟨(Lib.itoa b).toArray⟩ else ⟨#[]⟩) else if t = 2 then strOfNums (txtL b) else if b = 1 then ⟨#[116, 114, 117, 101]⟩ else ⟨#[102, 97, 108, 115, 101]⟩
def LwF (w : World) : Prop := Lib.TabIs Tryz.prog w "internal/strconv.uint64pow10" .u64 Lib.pow10Tab
theorem stays_F : Stays LwF := fun w w' hb h => Lib.tabBelow_of_tabIs h w' hb
theorem vtF_size (t b : Int) : (vtF t b).size ≤ 64 := by
  unfold vtF
  split
  · split
    · rename_i _ h
      have := Lib.itoa_length_le b (by omega) (by omega)
      show (Lib.itoa b).toArray.size ≤ 64
      simp; omega
    · decide
  · split
    · rw [strOfNums_size]
      have := txtL_len b
      omega
    · split <;> decide
theorem vals_F : ValsL vtF LwF := by
  intro t b h0 h1 hl w hw
  have h := vals_any LwF stays_F (fun b => strOfNums (txtL b)) (fun w h => h) (fun b h0 h1 w _ => float_text b h0 h1 w) t b h0 h1 hl w hw
  have e : vtF t b = litT (fun b => strOfNums (txtL b)) t b := by
    unfold vtF litT
    by_cases ht : t = 1
    · subst ht
      rw [if_pos rfl, if_pos rfl]
      unfold litB at hl
      rw [if_pos rfl] at hl
      rw [if_pos ⟨h0, of_decide_eq_true hl⟩]
    · rw [if_neg ht, if_neg ht]
  rw [e]
  exact h
theorem text_F (x : Ex) (v : Value) (w : World) (hw : LwF w) (hx : x.Is w v) (hwf : x.Wf) (hc : costE x ≤ 70368744177664) : Calls Tryz.prog 20 #[v] w (SaysT (if errX x = 0 then bareE vtF x else ⟨#[]⟩) (errX x) w) := text_any vtF LwF stays_F vtF_size vals_F x v w hw hx hwf hc
theorem maxI_le {a b c d : Int} (h1 : a ≤ b) (h2 : c ≤ d) : maxI a c ≤ maxI b d := by unfold maxI; split <;> split <;> omega
theorem maxI_l (a b : Int) : a ≤ maxI a b := by unfold maxI; split <;> omega
theorem maxI_r (a b : Int) : b ≤ maxI a b := by unfold maxI; split <;> omega
theorem deepL_most (k op : Int) : ∀ (ks : Exs) (i d most : Int), most ≤ deepL k op ks i d most
  | .nil, i, d, most => by rw [deepL]; omega
  | .cons e l, i, d, most => by
    rw [deepL]
    exact Int.le_trans (maxI_l _ _) (deepL_most k op l _ _ _)
theorem std_more (k op i : Int) : 0 ≤ (std k op i).2 ∧ (std k op i).2 ≤ 1 := by
  unfold std
  split
  · decide
  · split
    · decide
    · split
      · decide
      · split <;> exact ⟨Int.le_refl _, by dsimp only; omega⟩
theorem wrap_small {x : Int} (h0 : 0 ≤ x) (h1 : x ≤ 4611686018427387904) : wrap64 x = x := by unfold wrap64; omega
mutual
theorem deepE_mono : ∀ (x : Ex) (a a' d d' : Int), a ≤ a' → d ≤ d' → 0 ≤ d → d' + costE x ≤ 4611686018427387904 → deepE x a d ≤ deepE x a' d'
  | .mk k op m n t b ks, a, a', d, d', h1, h2, h3, h4 => by
    rw [deepE, deepE]
    rw [costE] at h4
    rw [wrap_small (x := d + 1) (by omega) (by omega), wrap_small (x := d' + 1) (by omega) (by omega)]
    have hle : (if lvl k op < a then d + 1 else d) ≤ (if lvl k op < a' then d' + 1 else d') := by
      split <;> split <;> omega
    exact deepL_mono k op ks 0 _ _ _ _ hle hle (by split <;> omega) (by split <;> omega)
theorem deepL_mono (k op : Int) : ∀ (ks : Exs) (i d d' most most' : Int), d ≤ d' → most ≤ most' → 0 ≤ d → d' + costL ks ≤ 4611686018427387904 → deepL k op ks i d most ≤ deepL k op ks i d' most'
  | .nil, i, d, d', most, most', h1, h2, h3, h4 => by rw [deepL, deepL]; exact h2
  | .cons e l, i, d, d', most, most', h1, h2, h3, h4 => by
    rw [deepL, deepL]
    rw [costL] at h4
    have hm := std_more k op i
    refine deepL_mono k op l _ _ _ _ _ h1 (maxI_le h2 ?_) h3 (by omega)
    rw [wrap_small (x := d + (std k op i).2) (by omega) (by omega), wrap_small (x := d' + (std k op i).2) (by omega) (by omega)]
    exact deepE_mono e _ _ _ _ (Int.le_refl _) (by omega) (by omega) (by omega)
end
theorem std7 (op i : Int) : (std 7 op i).2 = 0 ∧ 1 ≤ (std 7 op i).1 := by
  unfold std
  rw [if_neg (by decide), if_neg (fun h => by omega), if_neg (fun h => by omega)]
  split
  · refine ⟨rfl, ?_⟩
    have := (lvl_le 7 op).1
    unfold plc
    dsimp only
    split <;> omega
  · exact ⟨rfl, by decide⟩
theorem bin_deep (op : Int) (x y : Ex) (cx : costE x ≤ 30000000000000) (cy : costE y ≤ 30000000000000) : deepE x 1 0 ≤ deepE (binE op x y) 1 0 ∧ deepE y 1 0 ≤ deepE (binE op x y) 1 0 := by
  have h1 : ¬ lvl 7 op < 1 := by have := (lvl_le 7 op).1; omega
  unfold binE
  rw [deepE]
  rw [if_neg h1, deepL, deepL, deepL, (std7 op 0).1, (std7 op (0 + 1)).1, show wrap64 (0 + 0) = 0 from wrap_small (by omega) (by omega)]
  have e1 := deepE_mono x 1 (std 7 op 0).1 0 0 (std7 op 0).2 (by omega) (by omega) (by omega)
  have e2 := deepE_mono y 1 (std 7 op (0 + 1)).1 0 0 (std7 op (0 + 1)).2 (by omega) (by omega) (by omega)
  exact ⟨Int.le_trans e1 (Int.le_trans (maxI_r _ _) (maxI_l _ _)), Int.le_trans e2 (maxI_r _ _)⟩
theorem errX_parts {x : Ex} (h : errX x = 0) : deepE x 1 0 ≤ 32 ∧ errE x = 0 := by
  unfold errX at h
  obtain ⟨h1, h2⟩ := seqI_zero h
  refine ⟨?_, h2⟩
  split at h1
  · assumption
  · cases h1
theorem bin_err (op : Int) (x y : Ex) (cx : costE x ≤ 30000000000000) (cy : costE y ≤ 30000000000000) (h : errX (binE op x y) = 0) : errX x = 0 ∧ errX y = 0 ∧ 1 ≤ op ∧ op ≤ 13 := by
  obtain ⟨hd, he⟩ := errX_parts h
  obtain ⟨d1, d2⟩ := bin_deep op x y cx cy
  unfold binE at he
  obtain ⟨hs, _, hk⟩ := errE_parts he
  have kx := hk x (by simp [Exs.toList])
  have ky := hk y (by simp [Exs.toList])
  refine ⟨?_, ?_, ?_⟩
  · unfold errX; rw [if_pos (by omega), seqI_0 rfl]; exact kx
  · unfold errX; rw [if_pos (by omega), seqI_0 rfl]; exact ky
  · unfold shapedB at hs
    simp at hs
    exact hs.1
theorem bin_right (op : Int) (x y : Ex) (hx : errX x = 0) (hy : errX y = 0) (h1 : 1 ≤ op) (h2 : op ≤ 13) : errX (binE op x y) = 0 ∨ errX (binE op x y) = 13 := by
  have he : errE (binE op x y) = 0 := by
    unfold binE
    have hs : shapedB 7 op ⟨#[]⟩ ⟨#[]⟩ 0 0 (Exs.cons x (.cons y .nil)).toList.length = true := by
      unfold shapedB
      simp [Exs.toList, h1, h2]
    rw [errE, if_pos hs, seqI_0 rfl, if_neg (by decide), seqI_0 rfl, if_neg (by decide), seqI_0 rfl, if_neg (by simp [Exs.toList]), seqI_0 rfl, errL, errL, errL, seqI_0 (errX_parts hx).2, seqI_0 (errX_parts hy).2]
  unfold errX
  rw [he]
  split
  · left; rfl
  · right; rfl
theorem bin_text (op : Int) (x y : Ex) : bareE vtF (binE op x y) = parE (lvl x.k x.op < plc 7 op 0) (bareE vtF x) ++ (⟨#[32]⟩ ++ markB op ++ ⟨#[32]⟩) ++ parE (lvl y.k y.op < plc 7 op 1) (bareE vtF y) := by
  unfold binE
  rw [bareE, if_neg (by decide), if_neg (by decide), if_neg (by decide), if_neg (by decide), if_pos rfl, binTE, binTL]
  simp only [ByteArray.append_assoc]
theorem tree_levels (x y : Ex) (op : Int) (w : World) (u v : Value) (hw : LwF w) (hx : x.Is w u) (hy : y.Is w v) (wx : x.Wf) (wy : y.Wf) (cx : costE x ≤ 30000000000000) (cy : costE y ≤ 30000000000000) : Calls Tryz.prog 6 #[u, v, .int .i64 op] w (Says true w) := by
  have XA : ∀ w', Below w.heap.size w w' → Calls Tryz.prog 20 #[u] w' (SaysT (if errX x = 0 then bareE vtF x else ⟨#[]⟩) (errX x) w') := fun w' hb => text_F x u w' (stays_F _ _ hb hw) (Ex.Is_below hb hx) wx (by omega)
  have XB : ∀ w', Below w.heap.size w w' → Calls Tryz.prog 20 #[v] w' (SaysT (if errX y = 0 then bareE vtF y else ⟨#[]⟩) (errX y) w') := fun w' hb => text_F y v w' (stays_F _ _ hb hw) (Ex.Is_below hb hy) wy (by omega)
  have cb : costE (binE op x y) ≤ 70368744177664 := by
    unfold binE
    rw [costE, costL, costL, costL]
    have : (⟨#[]⟩ : ByteArray).size = 0 := rfl
    omega
  have wb : (binE op x y).Wf := by
    unfold binE
    unfold Ex.Wf
    have : strOk ⟨#[]⟩ := by unfold strOk; decide
    exact ⟨by decide, by decide, this, this, by unfold Exs.Wf; exact ⟨wx, by unfold Exs.Wf; exact ⟨wy, by unfold Exs.Wf; trivial⟩⟩⟩
  have XU : ∀ w' z, Below w.heap.size w w' → (binE op x y).Is w' z → Calls Tryz.prog 20 #[z] w' (SaysT (if errX (binE op x y) = 0 then bareE vtF (binE op x y) else ⟨#[]⟩) (errX (binE op x y)) w') := fun w' z hb hz => text_F _ z w' (stays_F _ _ hb hw) hz wb cb
  by_cases hg : errX (binE op x y) = 0
  · obtain ⟨e1, e2, o1, o2⟩ := bin_err op x y cx cy hg
    obtain ⟨o, rfl⟩ := Int.eq_ofNat_of_zero_le (by omega : 0 ≤ op)
    rw [hg, if_pos rfl] at XU
    rw [e1, if_pos rfl] at XA
    rw [e2, if_pos rfl] at XB
    have s1 := bare_le vtF vtF_size x
    have s2 := bare_le vtF vtF_size y
    refine levels_ok x y u v o w hx hy _ _ _ XA XB XU (by omega) (by omega) (markB o) rfl (by omega) (by omega) ?_
    rw [bin_text]
    unfold parE
    split <;> split <;> simp only [ByteArray.append_assoc, true_or, or_true]
  · rw [if_neg hg] at XU
    by_cases hbad : errX x ≠ 0 ∨ errX y ≠ 0 ∨ op < 1 ∨ 13 < op
    · exact levels_bad x y u v op w hx hy _ _ _ _ _ XA XB XU hg hbad
    · have e1 : errX x = 0 := Classical.byContradiction fun h => hbad (.inl h)
      have e2 : errX y = 0 := Classical.byContradiction fun h => hbad (.inr (.inl h))
      have o1 : 1 ≤ op := by omega
      have o2 : op ≤ 13 := by omega
      have h13 := (bin_right op x y e1 e2 o1 o2).resolve_left hg
      rw [h13] at XU
      rw [e1, if_pos rfl] at XA
      rw [e2, if_pos rfl] at XB
      exact levels_deep x y u v op w hx hy _ _ _ XA XB XU o1 o2
end Go.Proofs.YtbhgpegcdiohlaaGreatDoor.Tr
