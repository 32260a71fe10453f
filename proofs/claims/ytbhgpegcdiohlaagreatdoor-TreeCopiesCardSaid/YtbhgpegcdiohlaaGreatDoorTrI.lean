import Derived.Test.YtbhgpegcdiohlaaGreatDoorTrH
namespace Go.Proofs.YtbhgpegcdiohlaaGreatDoor.Tr
open Go Go.RowKit Go.Proofs
set_option linter.unusedVariables false

theorem max2_int (k k' : IntKind) (x y : Int) : Builtin.max2 (.int k x) (.int k' y) = pure (.int k (if x < y then y else x)) := by simp only [Builtin.max2, gt_iff_lt]
theorem max_two (ats : Array TypeId) (ty : TypeId) (a b : Value) : Builtin.max_ ats ty #[a, b] = (Builtin.max2 a b >>= fun s => pure s) := by simp only [Builtin.max_, List.foldlM_cons, List.foldlM_nil]
attribute [local go_sem] max2_int max_two
def maxI (a b : Int) : Int := if a < b then b else a
mutual
def deepE : Ex → Int → Int → Int
  | .mk k op m n t b ks, at_, d => let d' := if lvl k op < at_ then wrap64 (d + 1) else d; deepL k op ks 0 d' d'
def deepL (k op : Int) : Exs → Int → Int → Int → Int
  | .nil, i, d, most => most
  | .cons e l, i, d, most => deepL k op l (i + 1) d (maxI most (deepE e (std k op i).1 (wrap64 (d + (std k op i).2))))
end
def DeepIs (x : Ex) : Prop := ∀ (at_ d : Int) (w : World) (v : Value), x.Is w v → Calls Tryz.prog 41 #[v, .int .i64 at_, .int .i64 d] w (SaysI (deepE x at_ d) w)
theorem Exs.drop {ks : Exs} : ∀ (i : Nat), i ≤ ks.toList.length → ∃ l : Exs, l.toList = ks.toList.drop i := by
  intro i
  induction i generalizing ks with
  | zero => intro _; exact ⟨ks, rfl⟩
  | succ i ih =>
    intro h
    cases ks with
    | nil => simp [Exs.toList] at h
    | cons e l =>
      simp only [Exs.toList, List.length_cons] at h
      obtain ⟨m, hm⟩ := ih (ks := l) (by omega)
      exact ⟨m, by simp [Exs.toList, hm]⟩

set_option maxHeartbeats 4000000 in
set_option maxRecDepth 100000 in
theorem deep_walk (k op : Int) (m n : ByteArray) (t b : Int) (ks : Exs) (hK : ∀ x ∈ ks.toList, DeepIs x) : DeepIs (.mk k op m n t b ks) := by
  intro at_ d w v hv
  unfold Ex.Is at hv
  obtain ⟨A, l, c, rfl, h1⟩ := hv
  have hn := h1.2.1
  have hlen := Hd.mk h1.1
  have H1 := Hd.mk h1
  have HK := Hd.mk hK
  clear h1 hK
  have hR : deepE (.mk k op m n t b ks) at_ d = deepL k op ks 0 (if lvl k op < at_ then wrap64 (d + 1) else d) (if lvl k op < at_ then wrap64 (d + 1) else d) := by rw [deepE]
  rw [hR]
  clear hR
  generalize hx : lvl k op = x
  have HX := Hd.mk hx
  clear hx
  rcases Nat.eq_zero_or_pos l with hz | hp
  · have hnil : ks = .nil := Exs.toList_inj (b := .nil) (by have := hlen.out; rw [hz] at this; exact List.eq_nil_of_length_eq_zero this.symm)
    subst hz hnil
    by_cases hat : x < at_
    all_goals
      first | rw [if_pos hat] | rw [if_neg hat]
      rw [deepL]
      go_enter Tryz.func41, Tryz.ntmps41
      go_wp2_with (first
        | (go_at_call 89; (with_reducible refine ((level_any k op _ _ _ _ _ _).mono ?_)); (rw [HX.out]; rintro e w1 ⟨rfl, hb1⟩; have HB1 := Hd.mk hb1; have hc1 := bcell hb1; have hs1 := bsize1 rfl hb1; clear hb1)))
      refine wp_loop_rounds 1 ?_
      rw [rounds_succ]
      go_wp2_with fail
      go_ret
      exact ⟨rfl, step (up (up0 _) _) HB1.out⟩
  · obtain ⟨B, o, rfl, g1⟩ := H1.out.at hp
    have G1 := Hd.mk g1
    clear g1
    by_cases hat : x < at_
    all_goals
      first | (rw [if_pos hat]; generalize hw0 : wrap64 (d + 1) = d'; have HW := Hd.mk hw0; clear hw0) | (rw [if_neg hat]; generalize d = d')
      go_enter Tryz.func41, Tryz.ntmps41
      go_wp2_with (first
        | (go_at_call 89; (with_reducible refine ((level_any k op _ _ _ _ _ _).mono ?_)); (rw [HX.out]; rintro e w1 ⟨rfl, hb1⟩; have HB1 := Hd.mk hb1; have hc1 := bcell hb1; have hs1 := bsize1 rfl hb1; clear hb1)))
      try simp only [HW.out]
      go_loopw [7, 22] (fun v i w' => ∃ (j : Nat) (mo : Int) (r : Exs), j ≤ l ∧ v = .int .i64 mo ∧ i = .int .i64 j ∧ r.toList = ks.toList.drop j ∧ deepL k op r (j : Int) d' mo = deepL k op ks 0 d' d' ∧ Below w1.heap.size w1 w') (fun _ i _ => l - (intOf i).toNat)
      case atStart => exact ⟨0, _, ks, by omega, rfl, rfl, rfl, rfl, Below.refl _ _⟩
      case round =>
        obtain ⟨j, mo, r, hj, rfl, rfl, hr, hd, hb⟩ := hrel
        have HR := Hd.mk hr
        have HD := Hd.mk hd
        have HB := Hd.mk hb
        have hcr := bcell hb
        clear hr hd hb
        by_cases hlt : j < l
        · cases r with
          | nil => exfalso; have := congrArg List.length HR.out; simp [Exs.toList] at this; have := hlen.out; omega
          | cons e1 r =>
          rename_i wr
          have m1 : ks.toList[j]? = some e1 := by
            have := congrArg List.head? HR.out
            rw [List.head?_drop] at this
            exact this.symm
          have i1 := Ex.In_below (step (step (up (up0 _) _) HB1.out) HB.out) e1 (G1.out j e1 m1)
          obtain ⟨v0, v1, v2, v3, v4, v5, v6, v7, v8, a0, a1, a2, a3, a4, a5, a6, ax⟩ := Ex.In_Is i1
          have M1 := Hd.mk m1
          have AX := Hd.mk ax
          clear m1 ax i1
          have lt1 : B < wr.heap.size := World.block_lt_of_cell? wr _ a0
          have hsr : w.heap.size < wr.heap.size := by have := HB.out.size; omega
          generalize hst : (std k op (j : Int)) = st
          have HS := Hd.mk hst
          clear hst
          obtain ⟨s1, s2⟩ := st
          go_wp2_with (first
            | (go_at_call 90; (with_reducible refine ((stands_any k op m n t b _ l c (j : Int) _).mono ?_)); (rw [HS.out]; rintro e w2 ⟨rfl, hb2⟩; have HB2 := Hd.mk hb2; have hc2 := bcell hb2; have hs2 := bsize1 rfl hb2; clear hb2))
            | (go_at_call 41; (refine (((HK.out e1 (List.mem_of_getElem? M1.out)) s1 (wrap64 (d' + s2)) _ _ (Ex.Is_below (step (up (up0 _) _) HB2.out) AX.out)).mono ?_)); (rintro e w3 ⟨rfl, hb3⟩; have HB3 := Hd.mk hb3; clear hb3)))
          all_goals
            go_roundw
            case rel =>
              refine ⟨j + 1, _, r, by omega, rfl, by go_num, ?_, ?_, HB.out.trans ((step (step (up (up0 _) _) HB2.out) HB3.out).mono HB.out.size)⟩
              · have := congrArg List.tail HR.out
                rw [List.tail_drop] at this
                exact this
              · have hd := HD.out
                rw [deepL, HS.out] at hd
                rw [← hd, show ((j + 1 : Nat) : Int) = (j : Int) + 1 by omega]
                congr 1 <;> unfold maxI <;> first | rw [if_pos (by assumption)] | rw [if_neg (by omega)]
            case measure => simp [intOf]; omega
        · have hj2 : j = l := by omega
          subst hj2
          have hnil : r = .nil := Exs.toList_inj (b := .nil) (by have := HR.out; rw [List.drop_of_length_le (by rw [← hlen.out]; omega)] at this; exact this)
          subst hnil
          go_wp2_with fail
          go_ret
          have hd := HD.out
          rw [deepL] at hd
          exact saysI_of hd ⟨rfl, step (step (up (up0 _) _) HB1.out) HB.out⟩
mutual
theorem deepIs : ∀ x : Ex, DeepIs x
  | .mk k op m n t b ks => deep_walk k op m n t b ks (deepIss ks)
theorem deepIss : ∀ (ks : Exs), ∀ x ∈ ks.toList, DeepIs x
  | .nil => fun x hx => by simp [Exs.toList] at hx
  | .cons e l => fun x hx => by
    simp only [Exs.toList, List.mem_cons] at hx
    rcases hx with h | hx
    · rw [h]; exact deepIs e
    · exact deepIss l x hx
end
end Go.Proofs.YtbhgpegcdiohlaaGreatDoor.Tr
