import Derived.Test.YtbhgpegcdiohlaaGreatDoorRrG
import Derived.Test.YtbhgpegcdiohlaaGreatDoorTrM
namespace Go.Proofs.YtbhgpegcdiohlaaGreatDoor.Tr
open Go Go.RowKit Go.Proofs
set_option linter.unusedVariables false
set_option maxRecDepth 100000
set_option maxHeartbeats 8000000
def RExprIs (x : Ex) : Prop := x.Wf → ∀ (w : World) (v : Value), x.Is w v → Calls Tryz.prog 44 #[v] w (SaysI (errE x) w)
theorem shapedB_k {k op : Int} {m n : ByteArray} {t b : Int} {l : Nat} (h : shapedB k op m n t b l = true) : k = 1 ∨ k = 2 ∨ k = 3 ∨ k = 4 ∨ k = 5 ∨ k = 6 ∨ k = 7 ∨ k = 8 := by
  unfold shapedB at h
  by_cases hk : k < 1 ∨ 8 < k
  · rw [if_neg (by omega), if_neg (by omega), if_neg (by omega), if_neg (by omega), if_neg (by omega), if_neg (by omega), if_neg (by omega), if_neg (by omega)] at h
    cases h
  · omega
theorem rshaped_b (k op : Int) (m n : ByteArray) (t b : Int) (A : Option Addr) (l c : Nat) (h0 : 0 ≤ b) (h1 : b < 18446744073709551616) (z : Bool) (hz : shapedB k op m n t b l = z) (w : World) : Calls Tryz.prog 95 #[.agg #[.int .i64 k, .int .i64 op, .string m, .string n, .int .i64 t, .int .u64 b, .slice A l c]] w (Says z w) := hz ▸ rshaped_any k op m n t b A l c h0 h1 w
theorem rex_no (k : Int) (op : Int) (m n : ByteArray) (t b : Int) (ks : Exs) (h0 : 0 ≤ b) (h2 : b < 18446744073709551616) (hs : shapedB k op m n t b ks.toList.length = false) : ∀ w v, (Ex.mk k op m n t b ks).Is w v → Calls Tryz.prog 44 #[v] w (SaysI 1 w) := by
  intro w v hv
  unfold Ex.Is at hv
  obtain ⟨A, l, c, rfl, h1⟩ := hv
  have hn := h1.2.1
  have HLEN := Hd.mk h1.1
  have H1 := Hd.mk h1
  have SB := Hd.mk (rshaped_b k op m n t b A l c h0 h2 false (by rw [h1.1]; exact hs))
  clear h1 hs
  go_enter Tryz.func44, Tryz.ntmps44
  go_wp2_with (go_at_call 95; (with_reducible refine ((SB.out _).mono ?_)); (rintro e w1 ⟨rfl, hb1⟩; have HB1 := Hd.mk hb1; have hc1 := bcell hb1; have hs1 := bsize1 rfl hb1; clear hb1))
  go_ret
  exact ⟨rfl, step (up (up0 _) _) HB1.out⟩
theorem rex1 (op : Int) (m n : ByteArray) (t b : Int) (ks : Exs) (h0 : 0 ≤ b) (h2 : b < 18446744073709551616) (hmz : strOk m) (hnz : strOk n) (hK : ∀ x ∈ ks.toList, ∀ w v, x.Is w v → Calls Tryz.prog 44 #[v] w (SaysI (errE x) w)) (hs : shapedB 1 op m n t b ks.toList.length = true) : ∀ w v, (Ex.mk 1 op m n t b ks).Is w v → Calls Tryz.prog 44 #[v] w (SaysI (errE (.mk 1 op m n t b ks)) w) := by
  have E := Hd.mk (show errE (.mk 1 op m n t b ks) = seqI (if 8 < ks.toList.length then 3 else 0) (errL ks) by rw [errE, if_pos hs, seqI_0 rfl, if_neg (show ¬ ((1 : Int) = 3 ∨ (1 : Int) = 5) by decide), seqI_0 rfl, if_neg (show ¬ ((2 : Int) ≤ 1 ∧ (1 : Int) ≤ 5) by decide), seqI_0 rfl])
  generalize errE (.mk 1 op m n t b ks) = R at *
  intro w v hv
  unfold Ex.Is at hv
  obtain ⟨A, l, c, rfl, h1⟩ := hv
  have hn := h1.2.1
  have HLEN := Hd.mk h1.1
  have H1 := Hd.mk h1
  have SB := Hd.mk (rshaped_b 1 op m n t b A l c h0 h2 true (by rw [h1.1]; exact hs))
  have HK := Hd.mk hK
  clear h1 hs hK
  by_cases h8 : 8 < ks.toList.length
  · have Q := Hd.mk (show (3 : Int) = R from (E.out.trans (by rw [if_pos h8, seqI_n (by decide)])).symm)
    have g8 : decide (8 < (l : Int)) = true := decide_eq_true (by have := HLEN.out; omega)
    have g9 : 8 < l := by have := HLEN.out; omega
    clear h8
    go_enter Tryz.func44, Tryz.ntmps44
    go_wp2_with (first
    | (go_at_call 95; (with_reducible refine ((SB.out _).mono ?_)); (rintro e w1 ⟨rfl, hb1⟩; have HB1 := Hd.mk hb1; have hc1 := bcell hb1; have hs1 := bsize1 rfl hb1; clear hb1)))
    go_ret
    exact saysI_of Q.out ⟨rfl, step (up (up0 _) _) (HB1.out)⟩
  have E2 := Hd.mk (show R = errL ks from E.out.trans (by rw [if_neg h8, seqI_0 rfl]))
  have g8 : decide (8 < (l : Int)) = false := decide_eq_false (by have := HLEN.out; omega)
  have g9 : ¬ 8 < l := by have := HLEN.out; omega
  clear h8
  go_enter Tryz.func44, Tryz.ntmps44
  go_wp2_with (first
    | (go_at_call 95; (with_reducible refine ((SB.out _).mono ?_)); (rintro e w1 ⟨rfl, hb1⟩; have HB1 := Hd.mk hb1; have hc1 := bcell hb1; have hs1 := bsize1 rfl hb1; clear hb1)))
  have HBX := Hd.mk (HB1.out)
  go_loopw [5] (fun i w' => ∃ (j : Nat) (r : Exs), j ≤ l ∧ i = .int .i64 j ∧ r.toList = ks.toList.drop j ∧ errL r = errL ks ∧ Below (w.alloc (.cells #[.int .i64 1, .int .i64 op, .string m, .string n, .int .i64 t, .int .u64 b, .slice A l c] 31 (0, 0))).heap.size (w.alloc (.cells #[.int .i64 1, .int .i64 op, .string m, .string n, .int .i64 t, .int .u64 b, .slice A l c] 31 (0, 0))) w') (fun i _ => l - (intOf i).toNat)
  case atStart => exact ⟨0, ks, by omega, rfl, rfl, rfl, HBX.out⟩
  case round =>
    obtain ⟨j, r, hj, rfl, hr, hd, hb⟩ := hrel
    have HR := Hd.mk hr
    have HD := Hd.mk hd
    have HB := Hd.mk hb
    have hcr := bcell hb
    have hsr : w.heap.size < wr.heap.size := by have := hb.size; simp at this; omega
    clear hr hd hb
    by_cases hlt : j < l
    · cases r with
      | nil => exfalso; have := congrArg List.length HR.out; simp [Exs.toList] at this; have := HLEN.out; omega
      | cons e1 r =>
      obtain ⟨m1, hr2⟩ := at_drop HR.out
      have HR2 := Hd.mk hr2
      have M1 := Hd.mk m1
      obtain ⟨B, o, rfl, g1⟩ := H1.out.at (by omega)
      have i0 := g1 j e1 m1
      obtain ⟨v0, v1, v2, v3, v4, v5, v6, v7, v8, a0, a1, a2, a3, a4, a5, a6, ax⟩ := Ex.In_Is i0
      have AX := Hd.mk ax
      have lt1 : B < w.heap.size := World.block_lt_of_cell? w _ a0
      clear m1 hr2 g1 i0 ax
      generalize hq : errE e1 = q
      have K1 := Hd.mk (fun w v h => hq ▸ HK.out e1 (List.mem_of_getElem? M1.out) w v h)
      have QE := Hd.mk hq
      clear hq
      by_cases hq0 : q = 0
      · subst hq0
        go_wp2_with (go_at_call 44; (refine ((K1.out _ _ (Ex.Is_below (step (up (up0 _) _) HB.out) AX.out)).mono ?_)); (rintro e w5 ⟨rfl, hb5⟩; have HB5 := Hd.mk hb5; clear hb5))
        go_roundw
        case rel => exact ⟨j + 1, r, by omega, by go_num, HR2.out, by rw [← HD.out, errL, seqI_0 QE.out], HB.out.trans (HB5.out.mono HB.out.size)⟩
        case measure => simp [intOf]; omega
      · have Q := Hd.mk (show q = R by rw [E2.out, ← HD.out, errL, QE.out, seqI_n hq0])
        have hq2 : (q == 0) = false := beq_eq_false_iff_ne.mpr hq0
        have hq3 : (q != 0) = true := bne_iff_ne.mpr hq0
        clear hq0
        go_wp2_with (go_at_call 44; (refine ((K1.out _ _ (Ex.Is_below (step (up (up0 _) _) HB.out) AX.out)).mono ?_)); (rintro e w5 ⟨rfl, hb5⟩; have HB5 := Hd.mk hb5; clear hb5))
        go_ret
        exact saysI_of Q.out ⟨rfl, step (step (up (up0 _) _) HB.out) HB5.out⟩
    · have hnil : r = .nil := Exs.toList_inj (b := .nil) (by have := HR.out; rw [List.drop_of_length_le (by rw [← HLEN.out]; omega)] at this; exact this)
      subst hnil
      go_wp2_with fail
      go_ret
      exact saysI_of (b := 0) (by rw [E2.out, ← HD.out, errL]) ⟨rfl, step (up (up0 _) _) HB.out⟩
theorem rex2 (op : Int) (m n : ByteArray) (t b : Int) (ks : Exs) (h0 : 0 ≤ b) (h2 : b < 18446744073709551616) (hmz : strOk m) (hnz : strOk n) (hK : ∀ x ∈ ks.toList, ∀ w v, x.Is w v → Calls Tryz.prog 44 #[v] w (SaysI (errE x) w)) (hs : shapedB 2 op m n t b ks.toList.length = true) : ∀ w v, (Ex.mk 2 op m n t b ks).Is w v → Calls Tryz.prog 44 #[v] w (SaysI (errE (.mk 2 op m n t b ks)) w) := by
  have E := Hd.mk (show errE (.mk 2 op m n t b ks) = seqI (nameErr n) (seqI (if 8 < ks.toList.length then 3 else 0) (errL ks)) by rw [errE, if_pos hs, seqI_0 rfl, if_neg (show ¬ ((2 : Int) = 3 ∨ (2 : Int) = 5) by decide), seqI_0 rfl, if_pos (show (2 : Int) ≤ 2 ∧ (2 : Int) ≤ 5 by decide)])
  generalize errE (.mk 2 op m n t b ks) = R at *
  intro w v hv
  unfold Ex.Is at hv
  obtain ⟨A, l, c, rfl, h1⟩ := hv
  have hn := h1.2.1
  have HLEN := Hd.mk h1.1
  have H1 := Hd.mk h1
  have SB := Hd.mk (rshaped_b 2 op m n t b A l c h0 h2 true (by rw [h1.1]; exact hs))
  have HK := Hd.mk hK
  clear h1 hs hK
  by_cases hn : nameErr n = 0
  rotate_left
  · have Q := Hd.mk (show nameErr n = R from (E.out.trans (by rw [seqI_n hn])).symm)
    generalize hqq : nameErr n = q2 at *
    have HN := Hd.mk hqq
    have hq2 : (q2 == 0) = false := beq_eq_false_iff_ne.mpr hn
    have hq3 : (q2 != 0) = true := bne_iff_ne.mpr hn
    clear hqq hn
    go_enter Tryz.func44, Tryz.ntmps44
    go_wp2_with (first
    | (go_at_call 95; (with_reducible refine ((SB.out _).mono ?_)); (rintro e w1 ⟨rfl, hb1⟩; have HB1 := Hd.mk hb1; have hc1 := bcell hb1; have hs1 := bsize1 rfl hb1; clear hb1))
    | (go_at_call 38; (with_reducible refine ((rnameRight n hnz _).mono ?_)); (rw [HN.out]; rintro e w3 ⟨rfl, hb3⟩; have HB3 := Hd.mk hb3; have hc3 := bcell hb3; have hs3 := Nat.lt_of_lt_of_le hs1 hb3.size; clear hb3)))
    go_ret
    exact saysI_of Q.out ⟨rfl, step (up (up0 _) _) (step (HB1.out) HB3.out)⟩
  have HN := Hd.mk hn
  by_cases h8 : 8 < ks.toList.length
  · have Q := Hd.mk (show (3 : Int) = R from (E.out.trans (by rw [seqI_0 hn, if_pos h8, seqI_n (by decide)])).symm)
    have g8 : decide (8 < (l : Int)) = true := decide_eq_true (by have := HLEN.out; omega)
    have g9 : 8 < l := by have := HLEN.out; omega
    clear h8 hn
    go_enter Tryz.func44, Tryz.ntmps44
    go_wp2_with (first
    | (go_at_call 95; (with_reducible refine ((SB.out _).mono ?_)); (rintro e w1 ⟨rfl, hb1⟩; have HB1 := Hd.mk hb1; have hc1 := bcell hb1; have hs1 := bsize1 rfl hb1; clear hb1))
    | (go_at_call 38; (with_reducible refine ((rnameRight n hnz _).mono ?_)); (rw [HN.out]; rintro e w3 ⟨rfl, hb3⟩; have HB3 := Hd.mk hb3; have hc3 := bcell hb3; have hs3 := Nat.lt_of_lt_of_le hs1 hb3.size; clear hb3)))
    go_ret
    exact saysI_of Q.out ⟨rfl, step (up (up0 _) _) (step (HB1.out) HB3.out)⟩
  have E2 := Hd.mk (show R = errL ks from E.out.trans (by rw [seqI_0 hn, if_neg h8, seqI_0 rfl]))
  have g8 : decide (8 < (l : Int)) = false := decide_eq_false (by have := HLEN.out; omega)
  have g9 : ¬ 8 < l := by have := HLEN.out; omega
  clear h8 hn
  go_enter Tryz.func44, Tryz.ntmps44
  go_wp2_with (first
    | (go_at_call 95; (with_reducible refine ((SB.out _).mono ?_)); (rintro e w1 ⟨rfl, hb1⟩; have HB1 := Hd.mk hb1; have hc1 := bcell hb1; have hs1 := bsize1 rfl hb1; clear hb1))
    | (go_at_call 38; (with_reducible refine ((rnameRight n hnz _).mono ?_)); (rw [HN.out]; rintro e w3 ⟨rfl, hb3⟩; have HB3 := Hd.mk hb3; have hc3 := bcell hb3; have hs3 := Nat.lt_of_lt_of_le hs1 hb3.size; clear hb3)))
  have HBX := Hd.mk (step (HB1.out) HB3.out)
  go_loopw [5] (fun i w' => ∃ (j : Nat) (r : Exs), j ≤ l ∧ i = .int .i64 j ∧ r.toList = ks.toList.drop j ∧ errL r = errL ks ∧ Below (w.alloc (.cells #[.int .i64 2, .int .i64 op, .string m, .string n, .int .i64 t, .int .u64 b, .slice A l c] 31 (0, 0))).heap.size (w.alloc (.cells #[.int .i64 2, .int .i64 op, .string m, .string n, .int .i64 t, .int .u64 b, .slice A l c] 31 (0, 0))) w') (fun i _ => l - (intOf i).toNat)
  case atStart => exact ⟨0, ks, by omega, rfl, rfl, rfl, HBX.out⟩
  case round =>
    obtain ⟨j, r, hj, rfl, hr, hd, hb⟩ := hrel
    have HR := Hd.mk hr
    have HD := Hd.mk hd
    have HB := Hd.mk hb
    have hcr := bcell hb
    have hsr : w.heap.size < wr.heap.size := by have := hb.size; simp at this; omega
    clear hr hd hb
    by_cases hlt : j < l
    · cases r with
      | nil => exfalso; have := congrArg List.length HR.out; simp [Exs.toList] at this; have := HLEN.out; omega
      | cons e1 r =>
      obtain ⟨m1, hr2⟩ := at_drop HR.out
      have HR2 := Hd.mk hr2
      have M1 := Hd.mk m1
      obtain ⟨B, o, rfl, g1⟩ := H1.out.at (by omega)
      have i0 := g1 j e1 m1
      obtain ⟨v0, v1, v2, v3, v4, v5, v6, v7, v8, a0, a1, a2, a3, a4, a5, a6, ax⟩ := Ex.In_Is i0
      have AX := Hd.mk ax
      have lt1 : B < w.heap.size := World.block_lt_of_cell? w _ a0
      clear m1 hr2 g1 i0 ax
      generalize hq : errE e1 = q
      have K1 := Hd.mk (fun w v h => hq ▸ HK.out e1 (List.mem_of_getElem? M1.out) w v h)
      have QE := Hd.mk hq
      clear hq
      by_cases hq0 : q = 0
      · subst hq0
        go_wp2_with (go_at_call 44; (refine ((K1.out _ _ (Ex.Is_below (step (up (up0 _) _) HB.out) AX.out)).mono ?_)); (rintro e w5 ⟨rfl, hb5⟩; have HB5 := Hd.mk hb5; clear hb5))
        go_roundw
        case rel => exact ⟨j + 1, r, by omega, by go_num, HR2.out, by rw [← HD.out, errL, seqI_0 QE.out], HB.out.trans (HB5.out.mono HB.out.size)⟩
        case measure => simp [intOf]; omega
      · have Q := Hd.mk (show q = R by rw [E2.out, ← HD.out, errL, QE.out, seqI_n hq0])
        have hq2 : (q == 0) = false := beq_eq_false_iff_ne.mpr hq0
        have hq3 : (q != 0) = true := bne_iff_ne.mpr hq0
        clear hq0
        go_wp2_with (go_at_call 44; (refine ((K1.out _ _ (Ex.Is_below (step (up (up0 _) _) HB.out) AX.out)).mono ?_)); (rintro e w5 ⟨rfl, hb5⟩; have HB5 := Hd.mk hb5; clear hb5))
        go_ret
        exact saysI_of Q.out ⟨rfl, step (step (up (up0 _) _) HB.out) HB5.out⟩
    · have hnil : r = .nil := Exs.toList_inj (b := .nil) (by have := HR.out; rw [List.drop_of_length_le (by rw [← HLEN.out]; omega)] at this; exact this)
      subst hnil
      go_wp2_with fail
      go_ret
      exact saysI_of (b := 0) (by rw [E2.out, ← HD.out, errL]) ⟨rfl, step (up (up0 _) _) HB.out⟩
theorem rex3 (op : Int) (m n : ByteArray) (t b : Int) (ks : Exs) (h0 : 0 ≤ b) (h2 : b < 18446744073709551616) (hmz : strOk m) (hnz : strOk n) (hK : ∀ x ∈ ks.toList, ∀ w v, x.Is w v → Calls Tryz.prog 44 #[v] w (SaysI (errE x) w)) (hs : shapedB 3 op m n t b ks.toList.length = true) : ∀ w v, (Ex.mk 3 op m n t b ks).Is w v → Calls Tryz.prog 44 #[v] w (SaysI (errE (.mk 3 op m n t b ks)) w) := by
  have E := Hd.mk (show errE (.mk 3 op m n t b ks) = seqI (nameErr m) (seqI (nameErr n) (seqI (if 8 < ks.toList.length then 3 else 0) (errL ks))) by rw [errE, if_pos hs, seqI_0 rfl, if_pos (show (3 : Int) = 3 ∨ (3 : Int) = 5 by decide), if_pos (show (2 : Int) ≤ 3 ∧ (3 : Int) ≤ 5 by decide)])
  generalize errE (.mk 3 op m n t b ks) = R at *
  intro w v hv
  unfold Ex.Is at hv
  obtain ⟨A, l, c, rfl, h1⟩ := hv
  have hn := h1.2.1
  have HLEN := Hd.mk h1.1
  have H1 := Hd.mk h1
  have SB := Hd.mk (rshaped_b 3 op m n t b A l c h0 h2 true (by rw [h1.1]; exact hs))
  have HK := Hd.mk hK
  clear h1 hs hK
  by_cases hm : nameErr m = 0
  rotate_left
  · have Q := Hd.mk (show nameErr m = R from (E.out.trans (by rw [seqI_n hm])).symm)
    generalize hqq : nameErr m = q2 at *
    have HM := Hd.mk hqq
    have hq2 : (q2 == 0) = false := beq_eq_false_iff_ne.mpr hm
    have hq3 : (q2 != 0) = true := bne_iff_ne.mpr hm
    clear hqq hm
    go_enter Tryz.func44, Tryz.ntmps44
    go_wp2_with (first
    | (go_at_call 95; (with_reducible refine ((SB.out _).mono ?_)); (rintro e w1 ⟨rfl, hb1⟩; have HB1 := Hd.mk hb1; have hc1 := bcell hb1; have hs1 := bsize1 rfl hb1; clear hb1))
    | (go_at_call 38; (with_reducible refine ((rnameRight m hmz _).mono ?_)); (rw [HM.out]; rintro e w2 ⟨rfl, hb2⟩; have HB2 := Hd.mk hb2; have hc2 := bcell hb2; have hs2 := Nat.lt_of_lt_of_le hs1 hb2.size; clear hb2)))
    go_ret
    exact saysI_of Q.out ⟨rfl, step (up (up0 _) _) (step (HB1.out) HB2.out)⟩
  have HM := Hd.mk hm
  by_cases hn : nameErr n = 0
  rotate_left
  · have Q := Hd.mk (show nameErr n = R from (E.out.trans (by rw [seqI_0 hm, seqI_n hn])).symm)
    generalize hqq : nameErr n = q2 at *
    have HN := Hd.mk hqq
    have hq2 : (q2 == 0) = false := beq_eq_false_iff_ne.mpr hn
    have hq3 : (q2 != 0) = true := bne_iff_ne.mpr hn
    clear hqq hn
    go_enter Tryz.func44, Tryz.ntmps44
    go_wp2_with (first
    | (go_at_call 95; (with_reducible refine ((SB.out _).mono ?_)); (rintro e w1 ⟨rfl, hb1⟩; have HB1 := Hd.mk hb1; have hc1 := bcell hb1; have hs1 := bsize1 rfl hb1; clear hb1))
    | (go_at_call 38; (with_reducible refine ((rnameRight m hmz _).mono ?_)); (rw [HM.out]; rintro e w2 ⟨rfl, hb2⟩; have HB2 := Hd.mk hb2; have hc2 := bcell hb2; have hs2 := Nat.lt_of_lt_of_le hs1 hb2.size; clear hb2))
    | (go_at_call 38; (with_reducible refine ((rnameRight n hnz _).mono ?_)); (rw [HN.out]; rintro e w3 ⟨rfl, hb3⟩; have HB3 := Hd.mk hb3; have hc3 := bcell hb3; have hs3 := Nat.lt_of_lt_of_le hs2 hb3.size; clear hb3)))
    go_ret
    exact saysI_of Q.out ⟨rfl, step (up (up0 _) _) (step (step (HB1.out) HB2.out) HB3.out)⟩
  have HN := Hd.mk hn
  by_cases h8 : 8 < ks.toList.length
  · have Q := Hd.mk (show (3 : Int) = R from (E.out.trans (by rw [seqI_0 hm, seqI_0 hn, if_pos h8, seqI_n (by decide)])).symm)
    have g8 : decide (8 < (l : Int)) = true := decide_eq_true (by have := HLEN.out; omega)
    have g9 : 8 < l := by have := HLEN.out; omega
    clear h8 hm hn
    go_enter Tryz.func44, Tryz.ntmps44
    go_wp2_with (first
    | (go_at_call 95; (with_reducible refine ((SB.out _).mono ?_)); (rintro e w1 ⟨rfl, hb1⟩; have HB1 := Hd.mk hb1; have hc1 := bcell hb1; have hs1 := bsize1 rfl hb1; clear hb1))
    | (go_at_call 38; (with_reducible refine ((rnameRight m hmz _).mono ?_)); (rw [HM.out]; rintro e w2 ⟨rfl, hb2⟩; have HB2 := Hd.mk hb2; have hc2 := bcell hb2; have hs2 := Nat.lt_of_lt_of_le hs1 hb2.size; clear hb2))
    | (go_at_call 38; (with_reducible refine ((rnameRight n hnz _).mono ?_)); (rw [HN.out]; rintro e w3 ⟨rfl, hb3⟩; have HB3 := Hd.mk hb3; have hc3 := bcell hb3; have hs3 := Nat.lt_of_lt_of_le hs2 hb3.size; clear hb3)))
    go_ret
    exact saysI_of Q.out ⟨rfl, step (up (up0 _) _) (step (step (HB1.out) HB2.out) HB3.out)⟩
  have E2 := Hd.mk (show R = errL ks from E.out.trans (by rw [seqI_0 hm, seqI_0 hn, if_neg h8, seqI_0 rfl]))
  have g8 : decide (8 < (l : Int)) = false := decide_eq_false (by have := HLEN.out; omega)
  have g9 : ¬ 8 < l := by have := HLEN.out; omega
  clear h8 hm hn
  go_enter Tryz.func44, Tryz.ntmps44
  go_wp2_with (first
    | (go_at_call 95; (with_reducible refine ((SB.out _).mono ?_)); (rintro e w1 ⟨rfl, hb1⟩; have HB1 := Hd.mk hb1; have hc1 := bcell hb1; have hs1 := bsize1 rfl hb1; clear hb1))
    | (go_at_call 38; (with_reducible refine ((rnameRight m hmz _).mono ?_)); (rw [HM.out]; rintro e w2 ⟨rfl, hb2⟩; have HB2 := Hd.mk hb2; have hc2 := bcell hb2; have hs2 := Nat.lt_of_lt_of_le hs1 hb2.size; clear hb2))
    | (go_at_call 38; (with_reducible refine ((rnameRight n hnz _).mono ?_)); (rw [HN.out]; rintro e w3 ⟨rfl, hb3⟩; have HB3 := Hd.mk hb3; have hc3 := bcell hb3; have hs3 := Nat.lt_of_lt_of_le hs2 hb3.size; clear hb3)))
  have HBX := Hd.mk (step (step (HB1.out) HB2.out) HB3.out)
  go_loopw [5] (fun i w' => ∃ (j : Nat) (r : Exs), j ≤ l ∧ i = .int .i64 j ∧ r.toList = ks.toList.drop j ∧ errL r = errL ks ∧ Below (w.alloc (.cells #[.int .i64 3, .int .i64 op, .string m, .string n, .int .i64 t, .int .u64 b, .slice A l c] 31 (0, 0))).heap.size (w.alloc (.cells #[.int .i64 3, .int .i64 op, .string m, .string n, .int .i64 t, .int .u64 b, .slice A l c] 31 (0, 0))) w') (fun i _ => l - (intOf i).toNat)
  case atStart => exact ⟨0, ks, by omega, rfl, rfl, rfl, HBX.out⟩
  case round =>
    obtain ⟨j, r, hj, rfl, hr, hd, hb⟩ := hrel
    have HR := Hd.mk hr
    have HD := Hd.mk hd
    have HB := Hd.mk hb
    have hcr := bcell hb
    have hsr : w.heap.size < wr.heap.size := by have := hb.size; simp at this; omega
    clear hr hd hb
    by_cases hlt : j < l
    · cases r with
      | nil => exfalso; have := congrArg List.length HR.out; simp [Exs.toList] at this; have := HLEN.out; omega
      | cons e1 r =>
      obtain ⟨m1, hr2⟩ := at_drop HR.out
      have HR2 := Hd.mk hr2
      have M1 := Hd.mk m1
      obtain ⟨B, o, rfl, g1⟩ := H1.out.at (by omega)
      have i0 := g1 j e1 m1
      obtain ⟨v0, v1, v2, v3, v4, v5, v6, v7, v8, a0, a1, a2, a3, a4, a5, a6, ax⟩ := Ex.In_Is i0
      have AX := Hd.mk ax
      have lt1 : B < w.heap.size := World.block_lt_of_cell? w _ a0
      clear m1 hr2 g1 i0 ax
      generalize hq : errE e1 = q
      have K1 := Hd.mk (fun w v h => hq ▸ HK.out e1 (List.mem_of_getElem? M1.out) w v h)
      have QE := Hd.mk hq
      clear hq
      by_cases hq0 : q = 0
      · subst hq0
        go_wp2_with (go_at_call 44; (refine ((K1.out _ _ (Ex.Is_below (step (up (up0 _) _) HB.out) AX.out)).mono ?_)); (rintro e w5 ⟨rfl, hb5⟩; have HB5 := Hd.mk hb5; clear hb5))
        go_roundw
        case rel => exact ⟨j + 1, r, by omega, by go_num, HR2.out, by rw [← HD.out, errL, seqI_0 QE.out], HB.out.trans (HB5.out.mono HB.out.size)⟩
        case measure => simp [intOf]; omega
      · have Q := Hd.mk (show q = R by rw [E2.out, ← HD.out, errL, QE.out, seqI_n hq0])
        have hq2 : (q == 0) = false := beq_eq_false_iff_ne.mpr hq0
        have hq3 : (q != 0) = true := bne_iff_ne.mpr hq0
        clear hq0
        go_wp2_with (go_at_call 44; (refine ((K1.out _ _ (Ex.Is_below (step (up (up0 _) _) HB.out) AX.out)).mono ?_)); (rintro e w5 ⟨rfl, hb5⟩; have HB5 := Hd.mk hb5; clear hb5))
        go_ret
        exact saysI_of Q.out ⟨rfl, step (step (up (up0 _) _) HB.out) HB5.out⟩
    · have hnil : r = .nil := Exs.toList_inj (b := .nil) (by have := HR.out; rw [List.drop_of_length_le (by rw [← HLEN.out]; omega)] at this; exact this)
      subst hnil
      go_wp2_with fail
      go_ret
      exact saysI_of (b := 0) (by rw [E2.out, ← HD.out, errL]) ⟨rfl, step (up (up0 _) _) HB.out⟩
theorem rex4 (op : Int) (m n : ByteArray) (t b : Int) (ks : Exs) (h0 : 0 ≤ b) (h2 : b < 18446744073709551616) (hmz : strOk m) (hnz : strOk n) (hK : ∀ x ∈ ks.toList, ∀ w v, x.Is w v → Calls Tryz.prog 44 #[v] w (SaysI (errE x) w)) (hs : shapedB 4 op m n t b ks.toList.length = true) : ∀ w v, (Ex.mk 4 op m n t b ks).Is w v → Calls Tryz.prog 44 #[v] w (SaysI (errE (.mk 4 op m n t b ks)) w) := by
  have E := Hd.mk (show errE (.mk 4 op m n t b ks) = seqI (nameErr n) (seqI (if 8 < ks.toList.length then 3 else 0) (errL ks)) by rw [errE, if_pos hs, seqI_0 rfl, if_neg (show ¬ ((4 : Int) = 3 ∨ (4 : Int) = 5) by decide), seqI_0 rfl, if_pos (show (2 : Int) ≤ 4 ∧ (4 : Int) ≤ 5 by decide)])
  generalize errE (.mk 4 op m n t b ks) = R at *
  intro w v hv
  unfold Ex.Is at hv
  obtain ⟨A, l, c, rfl, h1⟩ := hv
  have hn := h1.2.1
  have HLEN := Hd.mk h1.1
  have H1 := Hd.mk h1
  have SB := Hd.mk (rshaped_b 4 op m n t b A l c h0 h2 true (by rw [h1.1]; exact hs))
  have HK := Hd.mk hK
  clear h1 hs hK
  by_cases hn : nameErr n = 0
  rotate_left
  · have Q := Hd.mk (show nameErr n = R from (E.out.trans (by rw [seqI_n hn])).symm)
    generalize hqq : nameErr n = q2 at *
    have HN := Hd.mk hqq
    have hq2 : (q2 == 0) = false := beq_eq_false_iff_ne.mpr hn
    have hq3 : (q2 != 0) = true := bne_iff_ne.mpr hn
    clear hqq hn
    go_enter Tryz.func44, Tryz.ntmps44
    go_wp2_with (first
    | (go_at_call 95; (with_reducible refine ((SB.out _).mono ?_)); (rintro e w1 ⟨rfl, hb1⟩; have HB1 := Hd.mk hb1; have hc1 := bcell hb1; have hs1 := bsize1 rfl hb1; clear hb1))
    | (go_at_call 38; (with_reducible refine ((rnameRight n hnz _).mono ?_)); (rw [HN.out]; rintro e w3 ⟨rfl, hb3⟩; have HB3 := Hd.mk hb3; have hc3 := bcell hb3; have hs3 := Nat.lt_of_lt_of_le hs1 hb3.size; clear hb3)))
    go_ret
    exact saysI_of Q.out ⟨rfl, step (up (up0 _) _) (step (HB1.out) HB3.out)⟩
  have HN := Hd.mk hn
  by_cases h8 : 8 < ks.toList.length
  · have Q := Hd.mk (show (3 : Int) = R from (E.out.trans (by rw [seqI_0 hn, if_pos h8, seqI_n (by decide)])).symm)
    have g8 : decide (8 < (l : Int)) = true := decide_eq_true (by have := HLEN.out; omega)
    have g9 : 8 < l := by have := HLEN.out; omega
    clear h8 hn
    go_enter Tryz.func44, Tryz.ntmps44
    go_wp2_with (first
    | (go_at_call 95; (with_reducible refine ((SB.out _).mono ?_)); (rintro e w1 ⟨rfl, hb1⟩; have HB1 := Hd.mk hb1; have hc1 := bcell hb1; have hs1 := bsize1 rfl hb1; clear hb1))
    | (go_at_call 38; (with_reducible refine ((rnameRight n hnz _).mono ?_)); (rw [HN.out]; rintro e w3 ⟨rfl, hb3⟩; have HB3 := Hd.mk hb3; have hc3 := bcell hb3; have hs3 := Nat.lt_of_lt_of_le hs1 hb3.size; clear hb3)))
    go_ret
    exact saysI_of Q.out ⟨rfl, step (up (up0 _) _) (step (HB1.out) HB3.out)⟩
  have E2 := Hd.mk (show R = errL ks from E.out.trans (by rw [seqI_0 hn, if_neg h8, seqI_0 rfl]))
  have g8 : decide (8 < (l : Int)) = false := decide_eq_false (by have := HLEN.out; omega)
  have g9 : ¬ 8 < l := by have := HLEN.out; omega
  clear h8 hn
  go_enter Tryz.func44, Tryz.ntmps44
  go_wp2_with (first
    | (go_at_call 95; (with_reducible refine ((SB.out _).mono ?_)); (rintro e w1 ⟨rfl, hb1⟩; have HB1 := Hd.mk hb1; have hc1 := bcell hb1; have hs1 := bsize1 rfl hb1; clear hb1))
    | (go_at_call 38; (with_reducible refine ((rnameRight n hnz _).mono ?_)); (rw [HN.out]; rintro e w3 ⟨rfl, hb3⟩; have HB3 := Hd.mk hb3; have hc3 := bcell hb3; have hs3 := Nat.lt_of_lt_of_le hs1 hb3.size; clear hb3)))
  have HBX := Hd.mk (step (HB1.out) HB3.out)
  go_loopw [5] (fun i w' => ∃ (j : Nat) (r : Exs), j ≤ l ∧ i = .int .i64 j ∧ r.toList = ks.toList.drop j ∧ errL r = errL ks ∧ Below (w.alloc (.cells #[.int .i64 4, .int .i64 op, .string m, .string n, .int .i64 t, .int .u64 b, .slice A l c] 31 (0, 0))).heap.size (w.alloc (.cells #[.int .i64 4, .int .i64 op, .string m, .string n, .int .i64 t, .int .u64 b, .slice A l c] 31 (0, 0))) w') (fun i _ => l - (intOf i).toNat)
  case atStart => exact ⟨0, ks, by omega, rfl, rfl, rfl, HBX.out⟩
  case round =>
    obtain ⟨j, r, hj, rfl, hr, hd, hb⟩ := hrel
    have HR := Hd.mk hr
    have HD := Hd.mk hd
    have HB := Hd.mk hb
    have hcr := bcell hb
    have hsr : w.heap.size < wr.heap.size := by have := hb.size; simp at this; omega
    clear hr hd hb
    by_cases hlt : j < l
    · cases r with
      | nil => exfalso; have := congrArg List.length HR.out; simp [Exs.toList] at this; have := HLEN.out; omega
      | cons e1 r =>
      obtain ⟨m1, hr2⟩ := at_drop HR.out
      have HR2 := Hd.mk hr2
      have M1 := Hd.mk m1
      obtain ⟨B, o, rfl, g1⟩ := H1.out.at (by omega)
      have i0 := g1 j e1 m1
      obtain ⟨v0, v1, v2, v3, v4, v5, v6, v7, v8, a0, a1, a2, a3, a4, a5, a6, ax⟩ := Ex.In_Is i0
      have AX := Hd.mk ax
      have lt1 : B < w.heap.size := World.block_lt_of_cell? w _ a0
      clear m1 hr2 g1 i0 ax
      generalize hq : errE e1 = q
      have K1 := Hd.mk (fun w v h => hq ▸ HK.out e1 (List.mem_of_getElem? M1.out) w v h)
      have QE := Hd.mk hq
      clear hq
      by_cases hq0 : q = 0
      · subst hq0
        go_wp2_with (go_at_call 44; (refine ((K1.out _ _ (Ex.Is_below (step (up (up0 _) _) HB.out) AX.out)).mono ?_)); (rintro e w5 ⟨rfl, hb5⟩; have HB5 := Hd.mk hb5; clear hb5))
        go_roundw
        case rel => exact ⟨j + 1, r, by omega, by go_num, HR2.out, by rw [← HD.out, errL, seqI_0 QE.out], HB.out.trans (HB5.out.mono HB.out.size)⟩
        case measure => simp [intOf]; omega
      · have Q := Hd.mk (show q = R by rw [E2.out, ← HD.out, errL, QE.out, seqI_n hq0])
        have hq2 : (q == 0) = false := beq_eq_false_iff_ne.mpr hq0
        have hq3 : (q != 0) = true := bne_iff_ne.mpr hq0
        clear hq0
        go_wp2_with (go_at_call 44; (refine ((K1.out _ _ (Ex.Is_below (step (up (up0 _) _) HB.out) AX.out)).mono ?_)); (rintro e w5 ⟨rfl, hb5⟩; have HB5 := Hd.mk hb5; clear hb5))
        go_ret
        exact saysI_of Q.out ⟨rfl, step (step (up (up0 _) _) HB.out) HB5.out⟩
    · have hnil : r = .nil := Exs.toList_inj (b := .nil) (by have := HR.out; rw [List.drop_of_length_le (by rw [← HLEN.out]; omega)] at this; exact this)
      subst hnil
      go_wp2_with fail
      go_ret
      exact saysI_of (b := 0) (by rw [E2.out, ← HD.out, errL]) ⟨rfl, step (up (up0 _) _) HB.out⟩
theorem rex5 (op : Int) (m n : ByteArray) (t b : Int) (ks : Exs) (h0 : 0 ≤ b) (h2 : b < 18446744073709551616) (hmz : strOk m) (hnz : strOk n) (hK : ∀ x ∈ ks.toList, ∀ w v, x.Is w v → Calls Tryz.prog 44 #[v] w (SaysI (errE x) w)) (hs : shapedB 5 op m n t b ks.toList.length = true) : ∀ w v, (Ex.mk 5 op m n t b ks).Is w v → Calls Tryz.prog 44 #[v] w (SaysI (errE (.mk 5 op m n t b ks)) w) := by
  have E := Hd.mk (show errE (.mk 5 op m n t b ks) = seqI (nameErr m) (seqI (nameErr n) (seqI (if 8 < ks.toList.length then 3 else 0) (errL ks))) by rw [errE, if_pos hs, seqI_0 rfl, if_pos (show (5 : Int) = 3 ∨ (5 : Int) = 5 by decide), if_pos (show (2 : Int) ≤ 5 ∧ (5 : Int) ≤ 5 by decide)])
  generalize errE (.mk 5 op m n t b ks) = R at *
  intro w v hv
  unfold Ex.Is at hv
  obtain ⟨A, l, c, rfl, h1⟩ := hv
  have hn := h1.2.1
  have HLEN := Hd.mk h1.1
  have H1 := Hd.mk h1
  have SB := Hd.mk (rshaped_b 5 op m n t b A l c h0 h2 true (by rw [h1.1]; exact hs))
  have HK := Hd.mk hK
  clear h1 hs hK
  by_cases hm : nameErr m = 0
  rotate_left
  · have Q := Hd.mk (show nameErr m = R from (E.out.trans (by rw [seqI_n hm])).symm)
    generalize hqq : nameErr m = q2 at *
    have HM := Hd.mk hqq
    have hq2 : (q2 == 0) = false := beq_eq_false_iff_ne.mpr hm
    have hq3 : (q2 != 0) = true := bne_iff_ne.mpr hm
    clear hqq hm
    go_enter Tryz.func44, Tryz.ntmps44
    go_wp2_with (first
    | (go_at_call 95; (with_reducible refine ((SB.out _).mono ?_)); (rintro e w1 ⟨rfl, hb1⟩; have HB1 := Hd.mk hb1; have hc1 := bcell hb1; have hs1 := bsize1 rfl hb1; clear hb1))
    | (go_at_call 38; (with_reducible refine ((rnameRight m hmz _).mono ?_)); (rw [HM.out]; rintro e w2 ⟨rfl, hb2⟩; have HB2 := Hd.mk hb2; have hc2 := bcell hb2; have hs2 := Nat.lt_of_lt_of_le hs1 hb2.size; clear hb2)))
    go_ret
    exact saysI_of Q.out ⟨rfl, step (up (up0 _) _) (step (HB1.out) HB2.out)⟩
  have HM := Hd.mk hm
  by_cases hn : nameErr n = 0
  rotate_left
  · have Q := Hd.mk (show nameErr n = R from (E.out.trans (by rw [seqI_0 hm, seqI_n hn])).symm)
    generalize hqq : nameErr n = q2 at *
    have HN := Hd.mk hqq
    have hq2 : (q2 == 0) = false := beq_eq_false_iff_ne.mpr hn
    have hq3 : (q2 != 0) = true := bne_iff_ne.mpr hn
    clear hqq hn
    go_enter Tryz.func44, Tryz.ntmps44
    go_wp2_with (first
    | (go_at_call 95; (with_reducible refine ((SB.out _).mono ?_)); (rintro e w1 ⟨rfl, hb1⟩; have HB1 := Hd.mk hb1; have hc1 := bcell hb1; have hs1 := bsize1 rfl hb1; clear hb1))
    | (go_at_call 38; (with_reducible refine ((rnameRight m hmz _).mono ?_)); (rw [HM.out]; rintro e w2 ⟨rfl, hb2⟩; have HB2 := Hd.mk hb2; have hc2 := bcell hb2; have hs2 := Nat.lt_of_lt_of_le hs1 hb2.size; clear hb2))
    | (go_at_call 38; (with_reducible refine ((rnameRight n hnz _).mono ?_)); (rw [HN.out]; rintro e w3 ⟨rfl, hb3⟩; have HB3 := Hd.mk hb3; have hc3 := bcell hb3; have hs3 := Nat.lt_of_lt_of_le hs2 hb3.size; clear hb3)))
    go_ret
    exact saysI_of Q.out ⟨rfl, step (up (up0 _) _) (step (step (HB1.out) HB2.out) HB3.out)⟩
  have HN := Hd.mk hn
  by_cases h8 : 8 < ks.toList.length
  · have Q := Hd.mk (show (3 : Int) = R from (E.out.trans (by rw [seqI_0 hm, seqI_0 hn, if_pos h8, seqI_n (by decide)])).symm)
    have g8 : decide (8 < (l : Int)) = true := decide_eq_true (by have := HLEN.out; omega)
    have g9 : 8 < l := by have := HLEN.out; omega
    clear h8 hm hn
    go_enter Tryz.func44, Tryz.ntmps44
    go_wp2_with (first
    | (go_at_call 95; (with_reducible refine ((SB.out _).mono ?_)); (rintro e w1 ⟨rfl, hb1⟩; have HB1 := Hd.mk hb1; have hc1 := bcell hb1; have hs1 := bsize1 rfl hb1; clear hb1))
    | (go_at_call 38; (with_reducible refine ((rnameRight m hmz _).mono ?_)); (rw [HM.out]; rintro e w2 ⟨rfl, hb2⟩; have HB2 := Hd.mk hb2; have hc2 := bcell hb2; have hs2 := Nat.lt_of_lt_of_le hs1 hb2.size; clear hb2))
    | (go_at_call 38; (with_reducible refine ((rnameRight n hnz _).mono ?_)); (rw [HN.out]; rintro e w3 ⟨rfl, hb3⟩; have HB3 := Hd.mk hb3; have hc3 := bcell hb3; have hs3 := Nat.lt_of_lt_of_le hs2 hb3.size; clear hb3)))
    go_ret
    exact saysI_of Q.out ⟨rfl, step (up (up0 _) _) (step (step (HB1.out) HB2.out) HB3.out)⟩
  have E2 := Hd.mk (show R = errL ks from E.out.trans (by rw [seqI_0 hm, seqI_0 hn, if_neg h8, seqI_0 rfl]))
  have g8 : decide (8 < (l : Int)) = false := decide_eq_false (by have := HLEN.out; omega)
  have g9 : ¬ 8 < l := by have := HLEN.out; omega
  clear h8 hm hn
  go_enter Tryz.func44, Tryz.ntmps44
  go_wp2_with (first
    | (go_at_call 95; (with_reducible refine ((SB.out _).mono ?_)); (rintro e w1 ⟨rfl, hb1⟩; have HB1 := Hd.mk hb1; have hc1 := bcell hb1; have hs1 := bsize1 rfl hb1; clear hb1))
    | (go_at_call 38; (with_reducible refine ((rnameRight m hmz _).mono ?_)); (rw [HM.out]; rintro e w2 ⟨rfl, hb2⟩; have HB2 := Hd.mk hb2; have hc2 := bcell hb2; have hs2 := Nat.lt_of_lt_of_le hs1 hb2.size; clear hb2))
    | (go_at_call 38; (with_reducible refine ((rnameRight n hnz _).mono ?_)); (rw [HN.out]; rintro e w3 ⟨rfl, hb3⟩; have HB3 := Hd.mk hb3; have hc3 := bcell hb3; have hs3 := Nat.lt_of_lt_of_le hs2 hb3.size; clear hb3)))
  have HBX := Hd.mk (step (step (HB1.out) HB2.out) HB3.out)
  go_loopw [5] (fun i w' => ∃ (j : Nat) (r : Exs), j ≤ l ∧ i = .int .i64 j ∧ r.toList = ks.toList.drop j ∧ errL r = errL ks ∧ Below (w.alloc (.cells #[.int .i64 5, .int .i64 op, .string m, .string n, .int .i64 t, .int .u64 b, .slice A l c] 31 (0, 0))).heap.size (w.alloc (.cells #[.int .i64 5, .int .i64 op, .string m, .string n, .int .i64 t, .int .u64 b, .slice A l c] 31 (0, 0))) w') (fun i _ => l - (intOf i).toNat)
  case atStart => exact ⟨0, ks, by omega, rfl, rfl, rfl, HBX.out⟩
  case round =>
    obtain ⟨j, r, hj, rfl, hr, hd, hb⟩ := hrel
    have HR := Hd.mk hr
    have HD := Hd.mk hd
    have HB := Hd.mk hb
    have hcr := bcell hb
    have hsr : w.heap.size < wr.heap.size := by have := hb.size; simp at this; omega
    clear hr hd hb
    by_cases hlt : j < l
    · cases r with
      | nil => exfalso; have := congrArg List.length HR.out; simp [Exs.toList] at this; have := HLEN.out; omega
      | cons e1 r =>
      obtain ⟨m1, hr2⟩ := at_drop HR.out
      have HR2 := Hd.mk hr2
      have M1 := Hd.mk m1
      obtain ⟨B, o, rfl, g1⟩ := H1.out.at (by omega)
      have i0 := g1 j e1 m1
      obtain ⟨v0, v1, v2, v3, v4, v5, v6, v7, v8, a0, a1, a2, a3, a4, a5, a6, ax⟩ := Ex.In_Is i0
      have AX := Hd.mk ax
      have lt1 : B < w.heap.size := World.block_lt_of_cell? w _ a0
      clear m1 hr2 g1 i0 ax
      generalize hq : errE e1 = q
      have K1 := Hd.mk (fun w v h => hq ▸ HK.out e1 (List.mem_of_getElem? M1.out) w v h)
      have QE := Hd.mk hq
      clear hq
      by_cases hq0 : q = 0
      · subst hq0
        go_wp2_with (go_at_call 44; (refine ((K1.out _ _ (Ex.Is_below (step (up (up0 _) _) HB.out) AX.out)).mono ?_)); (rintro e w5 ⟨rfl, hb5⟩; have HB5 := Hd.mk hb5; clear hb5))
        go_roundw
        case rel => exact ⟨j + 1, r, by omega, by go_num, HR2.out, by rw [← HD.out, errL, seqI_0 QE.out], HB.out.trans (HB5.out.mono HB.out.size)⟩
        case measure => simp [intOf]; omega
      · have Q := Hd.mk (show q = R by rw [E2.out, ← HD.out, errL, QE.out, seqI_n hq0])
        have hq2 : (q == 0) = false := beq_eq_false_iff_ne.mpr hq0
        have hq3 : (q != 0) = true := bne_iff_ne.mpr hq0
        clear hq0
        go_wp2_with (go_at_call 44; (refine ((K1.out _ _ (Ex.Is_below (step (up (up0 _) _) HB.out) AX.out)).mono ?_)); (rintro e w5 ⟨rfl, hb5⟩; have HB5 := Hd.mk hb5; clear hb5))
        go_ret
        exact saysI_of Q.out ⟨rfl, step (step (up (up0 _) _) HB.out) HB5.out⟩
    · have hnil : r = .nil := Exs.toList_inj (b := .nil) (by have := HR.out; rw [List.drop_of_length_le (by rw [← HLEN.out]; omega)] at this; exact this)
      subst hnil
      go_wp2_with fail
      go_ret
      exact saysI_of (b := 0) (by rw [E2.out, ← HD.out, errL]) ⟨rfl, step (up (up0 _) _) HB.out⟩
theorem rex6 (op : Int) (m n : ByteArray) (t b : Int) (ks : Exs) (h0 : 0 ≤ b) (h2 : b < 18446744073709551616) (hmz : strOk m) (hnz : strOk n) (hK : ∀ x ∈ ks.toList, ∀ w v, x.Is w v → Calls Tryz.prog 44 #[v] w (SaysI (errE x) w)) (hs : shapedB 6 op m n t b ks.toList.length = true) : ∀ w v, (Ex.mk 6 op m n t b ks).Is w v → Calls Tryz.prog 44 #[v] w (SaysI (errE (.mk 6 op m n t b ks)) w) := by
  have E := Hd.mk (show errE (.mk 6 op m n t b ks) = seqI (if 8 < ks.toList.length then 3 else 0) (errL ks) by rw [errE, if_pos hs, seqI_0 rfl, if_neg (show ¬ ((6 : Int) = 3 ∨ (6 : Int) = 5) by decide), seqI_0 rfl, if_neg (show ¬ ((2 : Int) ≤ 6 ∧ (6 : Int) ≤ 5) by decide), seqI_0 rfl])
  generalize errE (.mk 6 op m n t b ks) = R at *
  intro w v hv
  unfold Ex.Is at hv
  obtain ⟨A, l, c, rfl, h1⟩ := hv
  have hn := h1.2.1
  have HLEN := Hd.mk h1.1
  have H1 := Hd.mk h1
  have SB := Hd.mk (rshaped_b 6 op m n t b A l c h0 h2 true (by rw [h1.1]; exact hs))
  have HK := Hd.mk hK
  clear h1 hs hK
  by_cases h8 : 8 < ks.toList.length
  · have Q := Hd.mk (show (3 : Int) = R from (E.out.trans (by rw [if_pos h8, seqI_n (by decide)])).symm)
    have g8 : decide (8 < (l : Int)) = true := decide_eq_true (by have := HLEN.out; omega)
    have g9 : 8 < l := by have := HLEN.out; omega
    clear h8
    go_enter Tryz.func44, Tryz.ntmps44
    go_wp2_with (first
    | (go_at_call 95; (with_reducible refine ((SB.out _).mono ?_)); (rintro e w1 ⟨rfl, hb1⟩; have HB1 := Hd.mk hb1; have hc1 := bcell hb1; have hs1 := bsize1 rfl hb1; clear hb1)))
    go_ret
    exact saysI_of Q.out ⟨rfl, step (up (up0 _) _) (HB1.out)⟩
  have E2 := Hd.mk (show R = errL ks from E.out.trans (by rw [if_neg h8, seqI_0 rfl]))
  have g8 : decide (8 < (l : Int)) = false := decide_eq_false (by have := HLEN.out; omega)
  have g9 : ¬ 8 < l := by have := HLEN.out; omega
  clear h8
  go_enter Tryz.func44, Tryz.ntmps44
  go_wp2_with (first
    | (go_at_call 95; (with_reducible refine ((SB.out _).mono ?_)); (rintro e w1 ⟨rfl, hb1⟩; have HB1 := Hd.mk hb1; have hc1 := bcell hb1; have hs1 := bsize1 rfl hb1; clear hb1)))
  have HBX := Hd.mk (HB1.out)
  go_loopw [5] (fun i w' => ∃ (j : Nat) (r : Exs), j ≤ l ∧ i = .int .i64 j ∧ r.toList = ks.toList.drop j ∧ errL r = errL ks ∧ Below (w.alloc (.cells #[.int .i64 6, .int .i64 op, .string m, .string n, .int .i64 t, .int .u64 b, .slice A l c] 31 (0, 0))).heap.size (w.alloc (.cells #[.int .i64 6, .int .i64 op, .string m, .string n, .int .i64 t, .int .u64 b, .slice A l c] 31 (0, 0))) w') (fun i _ => l - (intOf i).toNat)
  case atStart => exact ⟨0, ks, by omega, rfl, rfl, rfl, HBX.out⟩
  case round =>
    obtain ⟨j, r, hj, rfl, hr, hd, hb⟩ := hrel
    have HR := Hd.mk hr
    have HD := Hd.mk hd
    have HB := Hd.mk hb
    have hcr := bcell hb
    have hsr : w.heap.size < wr.heap.size := by have := hb.size; simp at this; omega
    clear hr hd hb
    by_cases hlt : j < l
    · cases r with
      | nil => exfalso; have := congrArg List.length HR.out; simp [Exs.toList] at this; have := HLEN.out; omega
      | cons e1 r =>
      obtain ⟨m1, hr2⟩ := at_drop HR.out
      have HR2 := Hd.mk hr2
      have M1 := Hd.mk m1
      obtain ⟨B, o, rfl, g1⟩ := H1.out.at (by omega)
      have i0 := g1 j e1 m1
      obtain ⟨v0, v1, v2, v3, v4, v5, v6, v7, v8, a0, a1, a2, a3, a4, a5, a6, ax⟩ := Ex.In_Is i0
      have AX := Hd.mk ax
      have lt1 : B < w.heap.size := World.block_lt_of_cell? w _ a0
      clear m1 hr2 g1 i0 ax
      generalize hq : errE e1 = q
      have K1 := Hd.mk (fun w v h => hq ▸ HK.out e1 (List.mem_of_getElem? M1.out) w v h)
      have QE := Hd.mk hq
      clear hq
      by_cases hq0 : q = 0
      · subst hq0
        go_wp2_with (go_at_call 44; (refine ((K1.out _ _ (Ex.Is_below (step (up (up0 _) _) HB.out) AX.out)).mono ?_)); (rintro e w5 ⟨rfl, hb5⟩; have HB5 := Hd.mk hb5; clear hb5))
        go_roundw
        case rel => exact ⟨j + 1, r, by omega, by go_num, HR2.out, by rw [← HD.out, errL, seqI_0 QE.out], HB.out.trans (HB5.out.mono HB.out.size)⟩
        case measure => simp [intOf]; omega
      · have Q := Hd.mk (show q = R by rw [E2.out, ← HD.out, errL, QE.out, seqI_n hq0])
        have hq2 : (q == 0) = false := beq_eq_false_iff_ne.mpr hq0
        have hq3 : (q != 0) = true := bne_iff_ne.mpr hq0
        clear hq0
        go_wp2_with (go_at_call 44; (refine ((K1.out _ _ (Ex.Is_below (step (up (up0 _) _) HB.out) AX.out)).mono ?_)); (rintro e w5 ⟨rfl, hb5⟩; have HB5 := Hd.mk hb5; clear hb5))
        go_ret
        exact saysI_of Q.out ⟨rfl, step (step (up (up0 _) _) HB.out) HB5.out⟩
    · have hnil : r = .nil := Exs.toList_inj (b := .nil) (by have := HR.out; rw [List.drop_of_length_le (by rw [← HLEN.out]; omega)] at this; exact this)
      subst hnil
      go_wp2_with fail
      go_ret
      exact saysI_of (b := 0) (by rw [E2.out, ← HD.out, errL]) ⟨rfl, step (up (up0 _) _) HB.out⟩
theorem rex7 (op : Int) (m n : ByteArray) (t b : Int) (ks : Exs) (h0 : 0 ≤ b) (h2 : b < 18446744073709551616) (hmz : strOk m) (hnz : strOk n) (hK : ∀ x ∈ ks.toList, ∀ w v, x.Is w v → Calls Tryz.prog 44 #[v] w (SaysI (errE x) w)) (hs : shapedB 7 op m n t b ks.toList.length = true) : ∀ w v, (Ex.mk 7 op m n t b ks).Is w v → Calls Tryz.prog 44 #[v] w (SaysI (errE (.mk 7 op m n t b ks)) w) := by
  have E := Hd.mk (show errE (.mk 7 op m n t b ks) = seqI (if 8 < ks.toList.length then 3 else 0) (errL ks) by rw [errE, if_pos hs, seqI_0 rfl, if_neg (show ¬ ((7 : Int) = 3 ∨ (7 : Int) = 5) by decide), seqI_0 rfl, if_neg (show ¬ ((2 : Int) ≤ 7 ∧ (7 : Int) ≤ 5) by decide), seqI_0 rfl])
  generalize errE (.mk 7 op m n t b ks) = R at *
  intro w v hv
  unfold Ex.Is at hv
  obtain ⟨A, l, c, rfl, h1⟩ := hv
  have hn := h1.2.1
  have HLEN := Hd.mk h1.1
  have H1 := Hd.mk h1
  have SB := Hd.mk (rshaped_b 7 op m n t b A l c h0 h2 true (by rw [h1.1]; exact hs))
  have HK := Hd.mk hK
  clear h1 hs hK
  by_cases h8 : 8 < ks.toList.length
  · have Q := Hd.mk (show (3 : Int) = R from (E.out.trans (by rw [if_pos h8, seqI_n (by decide)])).symm)
    have g8 : decide (8 < (l : Int)) = true := decide_eq_true (by have := HLEN.out; omega)
    have g9 : 8 < l := by have := HLEN.out; omega
    clear h8
    go_enter Tryz.func44, Tryz.ntmps44
    go_wp2_with (first
    | (go_at_call 95; (with_reducible refine ((SB.out _).mono ?_)); (rintro e w1 ⟨rfl, hb1⟩; have HB1 := Hd.mk hb1; have hc1 := bcell hb1; have hs1 := bsize1 rfl hb1; clear hb1)))
    go_ret
    exact saysI_of Q.out ⟨rfl, step (up (up0 _) _) (HB1.out)⟩
  have E2 := Hd.mk (show R = errL ks from E.out.trans (by rw [if_neg h8, seqI_0 rfl]))
  have g8 : decide (8 < (l : Int)) = false := decide_eq_false (by have := HLEN.out; omega)
  have g9 : ¬ 8 < l := by have := HLEN.out; omega
  clear h8
  go_enter Tryz.func44, Tryz.ntmps44
  go_wp2_with (first
    | (go_at_call 95; (with_reducible refine ((SB.out _).mono ?_)); (rintro e w1 ⟨rfl, hb1⟩; have HB1 := Hd.mk hb1; have hc1 := bcell hb1; have hs1 := bsize1 rfl hb1; clear hb1)))
  have HBX := Hd.mk (HB1.out)
  go_loopw [5] (fun i w' => ∃ (j : Nat) (r : Exs), j ≤ l ∧ i = .int .i64 j ∧ r.toList = ks.toList.drop j ∧ errL r = errL ks ∧ Below (w.alloc (.cells #[.int .i64 7, .int .i64 op, .string m, .string n, .int .i64 t, .int .u64 b, .slice A l c] 31 (0, 0))).heap.size (w.alloc (.cells #[.int .i64 7, .int .i64 op, .string m, .string n, .int .i64 t, .int .u64 b, .slice A l c] 31 (0, 0))) w') (fun i _ => l - (intOf i).toNat)
  case atStart => exact ⟨0, ks, by omega, rfl, rfl, rfl, HBX.out⟩
  case round =>
    obtain ⟨j, r, hj, rfl, hr, hd, hb⟩ := hrel
    have HR := Hd.mk hr
    have HD := Hd.mk hd
    have HB := Hd.mk hb
    have hcr := bcell hb
    have hsr : w.heap.size < wr.heap.size := by have := hb.size; simp at this; omega
    clear hr hd hb
    by_cases hlt : j < l
    · cases r with
      | nil => exfalso; have := congrArg List.length HR.out; simp [Exs.toList] at this; have := HLEN.out; omega
      | cons e1 r =>
      obtain ⟨m1, hr2⟩ := at_drop HR.out
      have HR2 := Hd.mk hr2
      have M1 := Hd.mk m1
      obtain ⟨B, o, rfl, g1⟩ := H1.out.at (by omega)
      have i0 := g1 j e1 m1
      obtain ⟨v0, v1, v2, v3, v4, v5, v6, v7, v8, a0, a1, a2, a3, a4, a5, a6, ax⟩ := Ex.In_Is i0
      have AX := Hd.mk ax
      have lt1 : B < w.heap.size := World.block_lt_of_cell? w _ a0
      clear m1 hr2 g1 i0 ax
      generalize hq : errE e1 = q
      have K1 := Hd.mk (fun w v h => hq ▸ HK.out e1 (List.mem_of_getElem? M1.out) w v h)
      have QE := Hd.mk hq
      clear hq
      by_cases hq0 : q = 0
      · subst hq0
        go_wp2_with (go_at_call 44; (refine ((K1.out _ _ (Ex.Is_below (step (up (up0 _) _) HB.out) AX.out)).mono ?_)); (rintro e w5 ⟨rfl, hb5⟩; have HB5 := Hd.mk hb5; clear hb5))
        go_roundw
        case rel => exact ⟨j + 1, r, by omega, by go_num, HR2.out, by rw [← HD.out, errL, seqI_0 QE.out], HB.out.trans (HB5.out.mono HB.out.size)⟩
        case measure => simp [intOf]; omega
      · have Q := Hd.mk (show q = R by rw [E2.out, ← HD.out, errL, QE.out, seqI_n hq0])
        have hq2 : (q == 0) = false := beq_eq_false_iff_ne.mpr hq0
        have hq3 : (q != 0) = true := bne_iff_ne.mpr hq0
        clear hq0
        go_wp2_with (go_at_call 44; (refine ((K1.out _ _ (Ex.Is_below (step (up (up0 _) _) HB.out) AX.out)).mono ?_)); (rintro e w5 ⟨rfl, hb5⟩; have HB5 := Hd.mk hb5; clear hb5))
        go_ret
        exact saysI_of Q.out ⟨rfl, step (step (up (up0 _) _) HB.out) HB5.out⟩
    · have hnil : r = .nil := Exs.toList_inj (b := .nil) (by have := HR.out; rw [List.drop_of_length_le (by rw [← HLEN.out]; omega)] at this; exact this)
      subst hnil
      go_wp2_with fail
      go_ret
      exact saysI_of (b := 0) (by rw [E2.out, ← HD.out, errL]) ⟨rfl, step (up (up0 _) _) HB.out⟩
theorem rex8 (op : Int) (m n : ByteArray) (t b : Int) (ks : Exs) (h0 : 0 ≤ b) (h2 : b < 18446744073709551616) (hmz : strOk m) (hnz : strOk n) (hK : ∀ x ∈ ks.toList, ∀ w v, x.Is w v → Calls Tryz.prog 44 #[v] w (SaysI (errE x) w)) (hs : shapedB 8 op m n t b ks.toList.length = true) : ∀ w v, (Ex.mk 8 op m n t b ks).Is w v → Calls Tryz.prog 44 #[v] w (SaysI (errE (.mk 8 op m n t b ks)) w) := by
  have E := Hd.mk (show errE (.mk 8 op m n t b ks) = seqI (if 8 < ks.toList.length then 3 else 0) (errL ks) by rw [errE, if_pos hs, seqI_0 rfl, if_neg (show ¬ ((8 : Int) = 3 ∨ (8 : Int) = 5) by decide), seqI_0 rfl, if_neg (show ¬ ((2 : Int) ≤ 8 ∧ (8 : Int) ≤ 5) by decide), seqI_0 rfl])
  generalize errE (.mk 8 op m n t b ks) = R at *
  intro w v hv
  unfold Ex.Is at hv
  obtain ⟨A, l, c, rfl, h1⟩ := hv
  have hn := h1.2.1
  have HLEN := Hd.mk h1.1
  have H1 := Hd.mk h1
  have SB := Hd.mk (rshaped_b 8 op m n t b A l c h0 h2 true (by rw [h1.1]; exact hs))
  have HK := Hd.mk hK
  clear h1 hs hK
  by_cases h8 : 8 < ks.toList.length
  · have Q := Hd.mk (show (3 : Int) = R from (E.out.trans (by rw [if_pos h8, seqI_n (by decide)])).symm)
    have g8 : decide (8 < (l : Int)) = true := decide_eq_true (by have := HLEN.out; omega)
    have g9 : 8 < l := by have := HLEN.out; omega
    clear h8
    go_enter Tryz.func44, Tryz.ntmps44
    go_wp2_with (first
    | (go_at_call 95; (with_reducible refine ((SB.out _).mono ?_)); (rintro e w1 ⟨rfl, hb1⟩; have HB1 := Hd.mk hb1; have hc1 := bcell hb1; have hs1 := bsize1 rfl hb1; clear hb1)))
    go_ret
    exact saysI_of Q.out ⟨rfl, step (up (up0 _) _) (HB1.out)⟩
  have E2 := Hd.mk (show R = errL ks from E.out.trans (by rw [if_neg h8, seqI_0 rfl]))
  have g8 : decide (8 < (l : Int)) = false := decide_eq_false (by have := HLEN.out; omega)
  have g9 : ¬ 8 < l := by have := HLEN.out; omega
  clear h8
  go_enter Tryz.func44, Tryz.ntmps44
  go_wp2_with (first
    | (go_at_call 95; (with_reducible refine ((SB.out _).mono ?_)); (rintro e w1 ⟨rfl, hb1⟩; have HB1 := Hd.mk hb1; have hc1 := bcell hb1; have hs1 := bsize1 rfl hb1; clear hb1)))
  have HBX := Hd.mk (HB1.out)
  go_loopw [5] (fun i w' => ∃ (j : Nat) (r : Exs), j ≤ l ∧ i = .int .i64 j ∧ r.toList = ks.toList.drop j ∧ errL r = errL ks ∧ Below (w.alloc (.cells #[.int .i64 8, .int .i64 op, .string m, .string n, .int .i64 t, .int .u64 b, .slice A l c] 31 (0, 0))).heap.size (w.alloc (.cells #[.int .i64 8, .int .i64 op, .string m, .string n, .int .i64 t, .int .u64 b, .slice A l c] 31 (0, 0))) w') (fun i _ => l - (intOf i).toNat)
  case atStart => exact ⟨0, ks, by omega, rfl, rfl, rfl, HBX.out⟩
  case round =>
    obtain ⟨j, r, hj, rfl, hr, hd, hb⟩ := hrel
    have HR := Hd.mk hr
    have HD := Hd.mk hd
    have HB := Hd.mk hb
    have hcr := bcell hb
    have hsr : w.heap.size < wr.heap.size := by have := hb.size; simp at this; omega
    clear hr hd hb
    by_cases hlt : j < l
    · cases r with
      | nil => exfalso; have := congrArg List.length HR.out; simp [Exs.toList] at this; have := HLEN.out; omega
      | cons e1 r =>
      obtain ⟨m1, hr2⟩ := at_drop HR.out
      have HR2 := Hd.mk hr2
      have M1 := Hd.mk m1
      obtain ⟨B, o, rfl, g1⟩ := H1.out.at (by omega)
      have i0 := g1 j e1 m1
      obtain ⟨v0, v1, v2, v3, v4, v5, v6, v7, v8, a0, a1, a2, a3, a4, a5, a6, ax⟩ := Ex.In_Is i0
      have AX := Hd.mk ax
      have lt1 : B < w.heap.size := World.block_lt_of_cell? w _ a0
      clear m1 hr2 g1 i0 ax
      generalize hq : errE e1 = q
      have K1 := Hd.mk (fun w v h => hq ▸ HK.out e1 (List.mem_of_getElem? M1.out) w v h)
      have QE := Hd.mk hq
      clear hq
      by_cases hq0 : q = 0
      · subst hq0
        go_wp2_with (go_at_call 44; (refine ((K1.out _ _ (Ex.Is_below (step (up (up0 _) _) HB.out) AX.out)).mono ?_)); (rintro e w5 ⟨rfl, hb5⟩; have HB5 := Hd.mk hb5; clear hb5))
        go_roundw
        case rel => exact ⟨j + 1, r, by omega, by go_num, HR2.out, by rw [← HD.out, errL, seqI_0 QE.out], HB.out.trans (HB5.out.mono HB.out.size)⟩
        case measure => simp [intOf]; omega
      · have Q := Hd.mk (show q = R by rw [E2.out, ← HD.out, errL, QE.out, seqI_n hq0])
        have hq2 : (q == 0) = false := beq_eq_false_iff_ne.mpr hq0
        have hq3 : (q != 0) = true := bne_iff_ne.mpr hq0
        clear hq0
        go_wp2_with (go_at_call 44; (refine ((K1.out _ _ (Ex.Is_below (step (up (up0 _) _) HB.out) AX.out)).mono ?_)); (rintro e w5 ⟨rfl, hb5⟩; have HB5 := Hd.mk hb5; clear hb5))
        go_ret
        exact saysI_of Q.out ⟨rfl, step (step (up (up0 _) _) HB.out) HB5.out⟩
    · have hnil : r = .nil := Exs.toList_inj (b := .nil) (by have := HR.out; rw [List.drop_of_length_le (by rw [← HLEN.out]; omega)] at this; exact this)
      subst hnil
      go_wp2_with fail
      go_ret
      exact saysI_of (b := 0) (by rw [E2.out, ← HD.out, errL]) ⟨rfl, step (up (up0 _) _) HB.out⟩
theorem rexpr_walk (k op : Int) (m n : ByteArray) (t b : Int) (ks : Exs) (hK : ∀ x ∈ ks.toList, RExprIs x) : RExprIs (.mk k op m n t b ks) := by
  intro hw
  unfold Ex.Wf at hw
  obtain ⟨h0, h2, hmz, hnz, hks⟩ := hw
  have hK' : ∀ x ∈ ks.toList, ∀ w v, x.Is w v → Calls Tryz.prog 44 #[v] w (SaysI (errE x) w) := fun x hx => hK x hx (Exs.Wf_iff.1 hks x hx)
  by_cases hs : shapedB k op m n t b ks.toList.length = true
  · rcases shapedB_k hs with rfl | rfl | rfl | rfl | rfl | rfl | rfl | rfl
    · exact rex1 op m n t b ks h0 h2 hmz hnz hK' hs
    · exact rex2 op m n t b ks h0 h2 hmz hnz hK' hs
    · exact rex3 op m n t b ks h0 h2 hmz hnz hK' hs
    · exact rex4 op m n t b ks h0 h2 hmz hnz hK' hs
    · exact rex5 op m n t b ks h0 h2 hmz hnz hK' hs
    · exact rex6 op m n t b ks h0 h2 hmz hnz hK' hs
    · exact rex7 op m n t b ks h0 h2 hmz hnz hK' hs
    · exact rex8 op m n t b ks h0 h2 hmz hnz hK' hs
  · have e : errE (.mk k op m n t b ks) = 1 := by rw [errE, if_neg hs, seqI_n (by decide)]
    rw [e]
    exact rex_no k op m n t b ks h0 h2 (by simpa using hs)
theorem rexprIs : ∀ x, RExprIs x := Ex.ind rexpr_walk
end Go.Proofs.YtbhgpegcdiohlaaGreatDoor.Tr
