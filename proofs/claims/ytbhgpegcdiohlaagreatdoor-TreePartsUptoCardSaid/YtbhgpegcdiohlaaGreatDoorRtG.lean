import Derived.Test.YtbhgpegcdiohlaaGreatDoorRtE
import Derived.Test.YtbhgpegcdiohlaaGreatDoorRtF
namespace Go.Proofs.YtbhgpegcdiohlaaGreatDoor.Tr
open Go Go.RowKit Go.Proofs
set_option linter.unusedVariables false
set_option maxRecDepth 100000
set_option maxHeartbeats 40000000
theorem shape1 (w : World) : Calls Tryz.prog 121 #[.int .i64 1] w fun e w' => e = .returned (.tuple #[.bool true, .int .i64 1, .int .i64 1, .bool false, .bool false]) ∧ w = w' := by
  go_enter Tryz.func121, Tryz.ntmps121
  go_wp2
  exact bodyPost_ret (v := .tuple #[.bool true, .int .i64 1, .int .i64 1, .bool false, .bool false]) (by simp [results, Tryz.results121, go_sem]) rfl ⟨rfl, rfl⟩
theorem shape2 (w : World) : Calls Tryz.prog 121 #[.int .i64 2] w fun e w' => e = .returned (.tuple #[.bool true, .int .i64 1, .int .i64 1, .bool false, .bool false]) ∧ w = w' := by
  go_enter Tryz.func121, Tryz.ntmps121
  go_wp2
  exact bodyPost_ret (v := .tuple #[.bool true, .int .i64 1, .int .i64 1, .bool false, .bool false]) (by simp [results, Tryz.results121, go_sem]) rfl ⟨rfl, rfl⟩
theorem shape3 (w : World) : Calls Tryz.prog 121 #[.int .i64 3] w fun e w' => e = .returned (.tuple #[.bool false, .int .i64 1, .int .i64 1, .bool true, .bool true]) ∧ w = w' := by
  go_enter Tryz.func121, Tryz.ntmps121
  go_wp2
  exact bodyPost_ret (v := .tuple #[.bool false, .int .i64 1, .int .i64 1, .bool true, .bool true]) (by simp [results, Tryz.results121, go_sem]) rfl ⟨rfl, rfl⟩
theorem shape4 (w : World) : Calls Tryz.prog 121 #[.int .i64 4] w fun e w' => e = .returned (.tuple #[.bool false, .int .i64 1, .int .i64 1, .bool true, .bool false]) ∧ w = w' := by
  go_enter Tryz.func121, Tryz.ntmps121
  go_wp2
  exact bodyPost_ret (v := .tuple #[.bool false, .int .i64 1, .int .i64 1, .bool true, .bool false]) (by simp [results, Tryz.results121, go_sem]) rfl ⟨rfl, rfl⟩
theorem shape5 (w : World) : Calls Tryz.prog 121 #[.int .i64 5] w fun e w' => e = .returned (.tuple #[.bool false, .int .i64 0, .int .i64 1, .bool false, .bool false]) ∧ w = w' := by
  go_enter Tryz.func121, Tryz.ntmps121
  go_wp2
  exact bodyPost_ret (v := .tuple #[.bool false, .int .i64 0, .int .i64 1, .bool false, .bool false]) (by simp [results, Tryz.results121, go_sem]) rfl ⟨rfl, rfl⟩
theorem shape6 (w : World) : Calls Tryz.prog 121 #[.int .i64 6] w fun e w' => e = .returned (.tuple #[.bool false, .int .i64 1, .int .i64 1, .bool false, .bool false]) ∧ w = w' := by
  go_enter Tryz.func121, Tryz.ntmps121
  go_wp2
  exact bodyPost_ret (v := .tuple #[.bool false, .int .i64 1, .int .i64 1, .bool false, .bool false]) (by simp [results, Tryz.results121, go_sem]) rfl ⟨rfl, rfl⟩
theorem shape7 (w : World) : Calls Tryz.prog 121 #[.int .i64 7] w fun e w' => e = .returned (.tuple #[.bool false, .int .i64 1, .int .i64 1, .bool false, .bool false]) ∧ w = w' := by
  go_enter Tryz.func121, Tryz.ntmps121
  go_wp2
  exact bodyPost_ret (v := .tuple #[.bool false, .int .i64 1, .int .i64 1, .bool false, .bool false]) (by simp [results, Tryz.results121, go_sem]) rfl ⟨rfl, rfl⟩
theorem shape8 (w : World) : Calls Tryz.prog 121 #[.int .i64 8] w fun e w' => e = .returned (.tuple #[.bool true, .int .i64 0, .int .i64 0, .bool true, .bool true]) ∧ w = w' := by
  go_enter Tryz.func121, Tryz.ntmps121
  go_wp2
  exact bodyPost_ret (v := .tuple #[.bool true, .int .i64 0, .int .i64 0, .bool true, .bool true]) (by simp [results, Tryz.results121, go_sem]) rfl ⟨rfl, rfl⟩
theorem shape9 (w : World) : Calls Tryz.prog 121 #[.int .i64 9] w fun e w' => e = .returned (.tuple #[.bool false, .int .i64 1, .int .i64 1, .bool false, .bool false]) ∧ w = w' := by
  go_enter Tryz.func121, Tryz.ntmps121
  go_wp2
  exact bodyPost_ret (v := .tuple #[.bool false, .int .i64 1, .int .i64 1, .bool false, .bool false]) (by simp [results, Tryz.results121, go_sem]) rfl ⟨rfl, rfl⟩
theorem stated_yes {k : Int} {n : ByteArray} {e : Exs} {lb le : Nat} (h : statedB k n e.toList lb le = true) : (k = 1 ∧ e.toList.length = 1 ∧ lb = 0 ∧ le = 0) ∨ (k = 2 ∧ e.toList.length = 1 ∧ lb = 0 ∧ le = 0) ∨ (k = 3 ∧ n.toList.isEmpty = true ∧ e.toList.length = 1) ∨ (k = 4 ∧ n.toList.isEmpty = true ∧ e.toList.length = 1 ∧ le = 0) ∨ (k = 5 ∧ n.toList.isEmpty = true ∧ e.toList.length ≤ 1 ∧ lb = 0 ∧ le = 0) ∨ (k = 6 ∧ n.toList.isEmpty = true ∧ e.toList.length = 1 ∧ lb = 0 ∧ le = 0) ∨ (k = 7 ∧ n.toList.isEmpty = true ∧ e.toList.length = 1 ∧ lb = 0 ∧ le = 0) ∨ (k = 8 ∧ e.toList.length = 0) ∨ (k = 9 ∧ n.toList.isEmpty = true ∧ e.toList.length = 1 ∧ lb = 0 ∧ le = 0 ∧ (∀ x ∈ e.toList, x.k = 4 ∨ x.k = 5)) := by
  unfold statedB at h
  by_cases h1 : k = 1
  · subst h1; simp at h; simp [h]
  by_cases h2 : k = 2
  · subst h2; simp at h; simp [h]
  by_cases h3 : k = 3
  · subst h3; simp at h; simp [h]
  by_cases h4 : k = 4
  · subst h4; simp at h; simp [h]
  by_cases h5 : k = 5
  · subst h5; simp at h; simp [h]
  by_cases h6 : k = 6
  · subst h6; simp at h; simp [h]
  by_cases h7 : k = 7
  · subst h7; simp at h; simp [h]
  by_cases h8 : k = 8
  · subst h8; simp at h; simp [h]
  by_cases h9 : k = 9
  · subst h9; simp at h; simp [h]; exact h.2
  simp [h1, h2, h3, h4, h5, h6, h7, h8, h9] at h
def StmtsIs (ks : Sts) : Prop := ks.Wf → ∀ (w : World) (A : Option Addr) (l c : Nat), Sl 5 (fun x => x.In w) ks.toList A l → Calls Tryz.prog 81 #[.slice A l c] w (Ends (errSs ks) w)
theorem empty_no {s : ByteArray} (h : ¬ s.toList.isEmpty = true) : s.toList.isEmpty = false := by simpa using h
theorem stmts_walk (ks : Sts) (hK : ∀ x ∈ ks.toList, StmtsIs x.bd ∧ StmtsIs x.el) : StmtsIs ks := by
  intro hWf w A l c hs
  have hn := hs.2.1
  have HLEN := Hd.mk hs.1
  have G := Hd.mk hs
  have HK := Hd.mk hK
  have HW := Hd.mk (Sts.Wf_iff.1 hWf)
  clear hs hK hWf
  go_enter Tryz.func81, Tryz.ntmps81
  go_wp2_with fail
  go_loopw [13] (fun i w' => ∃ (j : Nat) (r : Sts), j ≤ l ∧ i = .int .i64 j ∧ r.toList = ks.toList.drop j ∧ errSs r = errSs ks ∧ Below w.heap.size w w') (fun i _ => l - (intOf i).toNat)
  case atStart => exact ⟨0, ks, by omega, rfl, rfl, rfl, Below.refl _ _⟩
  case round =>
    obtain ⟨j, r, hj, rfl, hr, hd, hb⟩ := hrel
    have HR := Hd.mk hr
    have HD := Hd.mk hd
    have HB := Hd.mk hb
    clear hr hd hb
    by_cases hlt : j < l
    rotate_left
    · have hj2 : j = l := by omega
      subst hj2
      have hnil : r = .nil := Sts.toList_inj (b := .nil) (by have := HR.out; rw [List.drop_of_length_le (by rw [← HLEN.out]; omega)] at this; exact this)
      subst hnil
      go_wp2_with fail
      go_end0
      exact ends_ok (by rw [← HD.out, errSs]) ⟨rfl, HB.out⟩
    cases r with
    | nil => exfalso; have := congrArg List.length HR.out; simp [Sts.toList] at this; have := HLEN.out; omega
    | cons s r =>
    obtain ⟨m1, hr2⟩ := at_drop HR.out
    have HR2 := Hd.mk hr2
    obtain ⟨B, o, rfl, g1⟩ := G.out.at (by omega)
    have i1 := St.In_below HB.out s (g1 j s m1)
    have hk1 := HK.out s (List.mem_of_getElem? m1)
    have hw1 := HW.out s (List.mem_of_getElem? m1)
    cases s with
    | mk k n e bd el =>
    unfold St.Wf at hw1
    obtain ⟨hnz, he0, hbd0, hel0⟩ := hw1
    obtain ⟨A1, l1, c1, A2, l2, c2, A3, l3, c3, a0, a1, a2, a3, a4, s1, s2, s3⟩ := St.In_mk i1
    have hn1 := s1.2.1
    have S1 := Hd.mk s1
    have S2 := Hd.mk s2
    have S3 := Hd.mk s3
    have NZ := Hd.mk hnz
    have EI := Hd.mk (exprIss e he0)
    have hl1 := Hd.mk s1.1
    have hl2 := Hd.mk s2.1
    have hl3 := Hd.mk s3.1
    have K3 := Hd.mk (fun w (h : Sl 5 (fun x => x.In w) bd.toList A2 l2) => hk1.1 hbd0 w A2 l2 c2 h)
    have K4 := Hd.mk (fun w (h : Sl 5 (fun x => x.In w) el.toList A3 l3) => hk1.2 hel0 w A3 l3 c3 h)
    have lt1 : B < wr.heap.size := World.block_lt_of_cell? wr _ a0
    have HE := Hd.mk (show errSs (.cons (.mk k n e bd el) r) = errSs ks from HD.out)
    clear g1 i1 hk1 s1 s2 s3 m1 hr2 he0 hbd0 hel0 hnz
    by_cases hst : statedB k n e.toList bd.toList.length el.toList.length = true
    · have HE2 := Hd.mk (show seqI (seqI (if k = 1 ∨ k = 2 ∨ k = 8 then nameErr n else 0) (seqI (errL e) (seqI (errSs bd) (errSs el)))) (errSs r) = errSs ks by rw [← HE.out, errSs, errS, if_pos hst, seqI_0 rfl])
      have YES := stated_yes hst
      rw [← hl1.out, ← hl2.out, ← hl3.out] at YES
      clear hst
      rcases YES with YES | YES | YES | YES | YES | YES | YES | YES | YES
      · as_aux_lemma =>
        obtain ⟨rfl, gl, rfl, rfl⟩ := YES
        obtain rfl : l1 = 1 := gl
        obtain ⟨wo, rfl⟩ : ∃ wo : World, wo = wr := ⟨_, rfl⟩
        by_cases hq : nameErr n = 0
        · have HN := Hd.mk hq
          have HE3 := Hd.mk (show seqI (seqI (errL e) (seqI (errSs bd) (errSs el))) (errSs r) = errSs ks by rw [← HE2.out, if_pos (by decide), hq, seqI_0 rfl])
          clear hq
          go_wp2_with (first
            |(go_at_call 36; (with_reducible refine ((ask_ok _ _).mono ?_)); (rintro e w1 ⟨rfl, rfl⟩))
            | (go_at_call 121; (with_reducible refine ((shape1 _).mono ?_)); (rintro e w1 ⟨rfl, rfl⟩))
            | (go_at_call 35; (with_reducible refine ((nameRight n NZ.out _).mono ?_)); (rw [HN.out]; rintro e w2 ⟨rfl, hb2⟩; have HB2 := Hd.mk hb2; have hc2 := bcell hb2; have hs2 := bsize1 rfl hb2; clear hb2))
            | (go_at_call 34; (with_reducible refine ((must_ok _).mono ?_)); (rintro e w1 ⟨rfl, rfl⟩)))
          go_loopw [102] (fun i w' => ∃ (j2 : Nat) (r2 : Exs), j2 ≤ 1 ∧ i = .int .i64 j2 ∧ r2.toList = e.toList.drop j2 ∧ errL r2 = errL e ∧ Below (wo.alloc (.cells #[.int .i64 1, .string n, .slice A1 1 c1, .slice A2 0 c2, .slice A3 0 c3] 98 (0, 0))).heap.size (wo.alloc (.cells #[.int .i64 1, .string n, .slice A1 1 c1, .slice A2 0 c2, .slice A3 0 c3] 98 (0, 0))) w') (fun i _ => 1 - (intOf i).toNat)
          case atStart => exact ⟨0, e, by omega, rfl, rfl, rfl, HB2.out⟩
          case round =>
            obtain ⟨j2, r2, hj2, rfl, hr, hd, hb⟩ := hrel
            have HR' := Hd.mk hr
            have HD' := Hd.mk hd
            have HB' := Hd.mk hb
            have hcb := bcell hb
            have hsz : wo.heap.size < wr.heap.size := by have := hb.size; simp at this; omega
            clear hr hd hb
            by_cases hlt2 : j2 < 1
            · cases r2 with
              | nil => exfalso; have := congrArg List.length HR'.out; simp [Exs.toList] at this; have := hl1.out; omega
              | cons e1 r2 =>
              obtain ⟨m1, hr2⟩ := at_drop HR'.out
              have HR2' := Hd.mk hr2
              obtain ⟨B', o', rfl, g1⟩ := S1.out.at (by omega)
              have i1 := Ex.In_below (step (up (up0 _) _) HB'.out) e1 (g1 j2 e1 m1)
              have hx := EI.out e1 (List.mem_of_getElem? m1)
              obtain ⟨v0, v1, v2, v3, v4, v5, v6, v7, v8, a0, a1, a2, a3, a4, a5, a6, ax⟩ := Ex.In_Is i1
              have AX := Hd.mk ax
              have lt2 : B' < wr.heap.size := World.block_lt_of_cell? wr _ a0
              clear ax i1 g1 m1 hr2
              by_cases he : errE e1 = 0
              · have E := Hd.mk (hx.ok he)
                clear hx
                go_wp2_with (go_at_call 42; (refine ((E.out _ _ (Ex.Is_below (up (up0 _) _) AX.out)).mono ?_)); (rintro e w5 ⟨rfl, hb5⟩; have HB5 := Hd.mk hb5; clear hb5))
                go_roundw
                case rel => exact ⟨j2 + 1, r2, by omega, by go_num, HR2'.out, by rw [← HD'.out, errL, seqI_0 he], HB'.out.trans ((step (up (up0 _) _) HB5.out).mono HB'.out.size)⟩
                case measure => simp [intOf]; omega
              · have E := Hd.mk (hx.no rfl he)
                have hq : errE e1 = errSs ks := by
                  have h1 : errL e = errE e1 := by rw [← HD'.out, errL, seqI_n he]
                  rw [← HE3.out, h1, seqI_n he, seqI_n he]
                have Q := Hd.mk hq
                clear hx hq
                go_wp2_with (go_at_call 42; (refine ((E.out _ _ (Ex.Is_below (up (up0 _) _) AX.out)).mono ?_)); (rintro e w5 ⟨rfl, hb5⟩; have HB5 := Hd.mk hb5; clear hb5))
                exact ⟨rfl, ends_no Q.out he ⟨rfl, step HB.out ((up (up0 _) _).trans (HB'.out.mono (by simp)) |>.trans ((step (up (up0 _) _) HB5.out).mono (by omega)))⟩⟩
            · have hj3 : j2 = 1 := by omega
              subst hj3
              have hnil : r2 = .nil := Exs.toList_inj (b := .nil) (by have := HR'.out; rw [List.drop_of_length_le (by rw [← hl1.out]; omega)] at this; exact this)
              subst hnil
              have hbig := step (up (up0 wo) _) HB'.out
              have T2 := Hd.mk (SlS_up hbig S2.out)
              have T3 := Hd.mk (SlS_up hbig S3.out)
              have HE4 := Hd.mk (show seqI (seqI (errSs bd) (errSs el)) (errSs r) = errSs ks by rw [← HE3.out, ← HD'.out, errL, seqI_0 rfl])
              have HBB := Hd.mk (step HB.out hbig)
              clear hbig
              by_cases hbd : errSs bd = 0
              · have K5 := Hd.mk (fun w h => (K3.out w h).mono fun _ _ g => g.1 hbd)
                by_cases hel : errSs el = 0
                · have K6 := Hd.mk (fun w h => (K4.out w h).mono fun _ _ g => g.1 hel)
                  go_wp2_with (first
                    | (go_at_call 81; (with_reducible refine ((K5.out _ T2.out).mono ?_)); (rintro e w5 ⟨rfl, hb5⟩; have HB5 := Hd.mk hb5; have hc5 := bcell hb5; clear hb5))
                    | (go_at_call 81; (with_reducible refine ((K6.out _ (SlS_up HB5.out T3.out)).mono ?_)); (rintro e w6 ⟨rfl, hb6⟩; have HB6 := Hd.mk hb6; clear hb6)))
                  go_roundw
                  case rel => exact ⟨j + 1, r, by omega, by go_num, HR2.out, by rw [← HE4.out, hbd, hel, seqI_0 rfl, seqI_0 rfl], step (step HBB.out HB5.out) HB6.out⟩
                  case measure => simp [intOf]; omega
                · have K6 := Hd.mk (fun w h => (K4.out w h).mono fun _ _ g => g.2 hel)
                  have Q := Hd.mk (show errSs el = errSs ks by rw [← HE4.out, hbd, seqI_0 rfl, seqI_n hel])
                  go_wp2_with (first
                    | (go_at_call 81; (with_reducible refine ((K5.out _ T2.out).mono ?_)); (rintro e w5 ⟨rfl, hb5⟩; have HB5 := Hd.mk hb5; have hc5 := bcell hb5; clear hb5))
                    | (go_at_call 81; (with_reducible refine ((K6.out _ (SlS_up HB5.out T3.out)).mono ?_)); (rintro e w6 ⟨rfl, hb6⟩; have HB6 := Hd.mk hb6; clear hb6)))
                  exact ⟨rfl, ends_no Q.out hel ⟨rfl, step (step HBB.out HB5.out) HB6.out⟩⟩
              · have K5 := Hd.mk (fun w h => (K3.out w h).mono fun _ _ g => g.2 hbd)
                have Q := Hd.mk (show errSs bd = errSs ks by rw [← HE4.out, seqI_n hbd, seqI_n hbd])
                go_wp2_with (first
                    | (go_at_call 81; (with_reducible refine ((K5.out _ T2.out).mono ?_)); (rintro e w5 ⟨rfl, hb5⟩; have HB5 := Hd.mk hb5; have hc5 := bcell hb5; clear hb5)))
                exact ⟨rfl, ends_no Q.out hbd ⟨rfl, step HBB.out HB5.out⟩⟩
        · have Q := Hd.mk (show nameErr n = errSs ks by rw [← HE2.out, if_pos (by decide), seqI_n hq, seqI_n hq])
          generalize hqq : nameErr n = q at *
          have HN := Hd.mk hqq
          have HQ := Hd.mk hq
          clear hqq hq
          go_wp2_with (first
            |(go_at_call 36; (with_reducible refine ((ask_ok _ _).mono ?_)); (rintro e w1 ⟨rfl, rfl⟩))
            | (go_at_call 121; (with_reducible refine ((shape1 _).mono ?_)); (rintro e w1 ⟨rfl, rfl⟩))
            | (go_at_call 35; (with_reducible refine ((nameRight n NZ.out _).mono ?_)); (rw [HN.out]; rintro e w2 ⟨rfl, hb2⟩; have HB2 := Hd.mk hb2; have hc2 := bcell hb2; have hs2 := bsize1 rfl hb2; clear hb2))
            | (go_at_call 34; (with_reducible refine ((must_b q HQ.out _).mono ?_)); (rintro e w1 ⟨rfl, rfl⟩)))
          exact ⟨rfl, ends_no Q.out HQ.out ⟨rfl, step (up HB.out _) HB2.out⟩⟩
      · as_aux_lemma =>
        obtain ⟨rfl, gl, rfl, rfl⟩ := YES
        obtain rfl : l1 = 1 := gl
        obtain ⟨wo, rfl⟩ : ∃ wo : World, wo = wr := ⟨_, rfl⟩
        by_cases hq : nameErr n = 0
        · have HN := Hd.mk hq
          have HE3 := Hd.mk (show seqI (seqI (errL e) (seqI (errSs bd) (errSs el))) (errSs r) = errSs ks by rw [← HE2.out, if_pos (by decide), hq, seqI_0 rfl])
          clear hq
          go_wp2_with (first
            |(go_at_call 36; (with_reducible refine ((ask_ok _ _).mono ?_)); (rintro e w1 ⟨rfl, rfl⟩))
            | (go_at_call 121; (with_reducible refine ((shape2 _).mono ?_)); (rintro e w1 ⟨rfl, rfl⟩))
            | (go_at_call 35; (with_reducible refine ((nameRight n NZ.out _).mono ?_)); (rw [HN.out]; rintro e w2 ⟨rfl, hb2⟩; have HB2 := Hd.mk hb2; have hc2 := bcell hb2; have hs2 := bsize1 rfl hb2; clear hb2))
            | (go_at_call 34; (with_reducible refine ((must_ok _).mono ?_)); (rintro e w1 ⟨rfl, rfl⟩)))
          go_loopw [102] (fun i w' => ∃ (j2 : Nat) (r2 : Exs), j2 ≤ 1 ∧ i = .int .i64 j2 ∧ r2.toList = e.toList.drop j2 ∧ errL r2 = errL e ∧ Below (wo.alloc (.cells #[.int .i64 2, .string n, .slice A1 1 c1, .slice A2 0 c2, .slice A3 0 c3] 98 (0, 0))).heap.size (wo.alloc (.cells #[.int .i64 2, .string n, .slice A1 1 c1, .slice A2 0 c2, .slice A3 0 c3] 98 (0, 0))) w') (fun i _ => 1 - (intOf i).toNat)
          case atStart => exact ⟨0, e, by omega, rfl, rfl, rfl, HB2.out⟩
          case round =>
            obtain ⟨j2, r2, hj2, rfl, hr, hd, hb⟩ := hrel
            have HR' := Hd.mk hr
            have HD' := Hd.mk hd
            have HB' := Hd.mk hb
            have hcb := bcell hb
            have hsz : wo.heap.size < wr.heap.size := by have := hb.size; simp at this; omega
            clear hr hd hb
            by_cases hlt2 : j2 < 1
            · cases r2 with
              | nil => exfalso; have := congrArg List.length HR'.out; simp [Exs.toList] at this; have := hl1.out; omega
              | cons e1 r2 =>
              obtain ⟨m1, hr2⟩ := at_drop HR'.out
              have HR2' := Hd.mk hr2
              obtain ⟨B', o', rfl, g1⟩ := S1.out.at (by omega)
              have i1 := Ex.In_below (step (up (up0 _) _) HB'.out) e1 (g1 j2 e1 m1)
              have hx := EI.out e1 (List.mem_of_getElem? m1)
              obtain ⟨v0, v1, v2, v3, v4, v5, v6, v7, v8, a0, a1, a2, a3, a4, a5, a6, ax⟩ := Ex.In_Is i1
              have AX := Hd.mk ax
              have lt2 : B' < wr.heap.size := World.block_lt_of_cell? wr _ a0
              clear ax i1 g1 m1 hr2
              by_cases he : errE e1 = 0
              · have E := Hd.mk (hx.ok he)
                clear hx
                go_wp2_with (go_at_call 42; (refine ((E.out _ _ (Ex.Is_below (up (up0 _) _) AX.out)).mono ?_)); (rintro e w5 ⟨rfl, hb5⟩; have HB5 := Hd.mk hb5; clear hb5))
                go_roundw
                case rel => exact ⟨j2 + 1, r2, by omega, by go_num, HR2'.out, by rw [← HD'.out, errL, seqI_0 he], HB'.out.trans ((step (up (up0 _) _) HB5.out).mono HB'.out.size)⟩
                case measure => simp [intOf]; omega
              · have E := Hd.mk (hx.no rfl he)
                have hq : errE e1 = errSs ks := by
                  have h1 : errL e = errE e1 := by rw [← HD'.out, errL, seqI_n he]
                  rw [← HE3.out, h1, seqI_n he, seqI_n he]
                have Q := Hd.mk hq
                clear hx hq
                go_wp2_with (go_at_call 42; (refine ((E.out _ _ (Ex.Is_below (up (up0 _) _) AX.out)).mono ?_)); (rintro e w5 ⟨rfl, hb5⟩; have HB5 := Hd.mk hb5; clear hb5))
                exact ⟨rfl, ends_no Q.out he ⟨rfl, step HB.out ((up (up0 _) _).trans (HB'.out.mono (by simp)) |>.trans ((step (up (up0 _) _) HB5.out).mono (by omega)))⟩⟩
            · have hj3 : j2 = 1 := by omega
              subst hj3
              have hnil : r2 = .nil := Exs.toList_inj (b := .nil) (by have := HR'.out; rw [List.drop_of_length_le (by rw [← hl1.out]; omega)] at this; exact this)
              subst hnil
              have hbig := step (up (up0 wo) _) HB'.out
              have T2 := Hd.mk (SlS_up hbig S2.out)
              have T3 := Hd.mk (SlS_up hbig S3.out)
              have HE4 := Hd.mk (show seqI (seqI (errSs bd) (errSs el)) (errSs r) = errSs ks by rw [← HE3.out, ← HD'.out, errL, seqI_0 rfl])
              have HBB := Hd.mk (step HB.out hbig)
              clear hbig
              by_cases hbd : errSs bd = 0
              · have K5 := Hd.mk (fun w h => (K3.out w h).mono fun _ _ g => g.1 hbd)
                by_cases hel : errSs el = 0
                · have K6 := Hd.mk (fun w h => (K4.out w h).mono fun _ _ g => g.1 hel)
                  go_wp2_with (first
                    | (go_at_call 81; (with_reducible refine ((K5.out _ T2.out).mono ?_)); (rintro e w5 ⟨rfl, hb5⟩; have HB5 := Hd.mk hb5; have hc5 := bcell hb5; clear hb5))
                    | (go_at_call 81; (with_reducible refine ((K6.out _ (SlS_up HB5.out T3.out)).mono ?_)); (rintro e w6 ⟨rfl, hb6⟩; have HB6 := Hd.mk hb6; clear hb6)))
                  go_roundw
                  case rel => exact ⟨j + 1, r, by omega, by go_num, HR2.out, by rw [← HE4.out, hbd, hel, seqI_0 rfl, seqI_0 rfl], step (step HBB.out HB5.out) HB6.out⟩
                  case measure => simp [intOf]; omega
                · have K6 := Hd.mk (fun w h => (K4.out w h).mono fun _ _ g => g.2 hel)
                  have Q := Hd.mk (show errSs el = errSs ks by rw [← HE4.out, hbd, seqI_0 rfl, seqI_n hel])
                  go_wp2_with (first
                    | (go_at_call 81; (with_reducible refine ((K5.out _ T2.out).mono ?_)); (rintro e w5 ⟨rfl, hb5⟩; have HB5 := Hd.mk hb5; have hc5 := bcell hb5; clear hb5))
                    | (go_at_call 81; (with_reducible refine ((K6.out _ (SlS_up HB5.out T3.out)).mono ?_)); (rintro e w6 ⟨rfl, hb6⟩; have HB6 := Hd.mk hb6; clear hb6)))
                  exact ⟨rfl, ends_no Q.out hel ⟨rfl, step (step HBB.out HB5.out) HB6.out⟩⟩
              · have K5 := Hd.mk (fun w h => (K3.out w h).mono fun _ _ g => g.2 hbd)
                have Q := Hd.mk (show errSs bd = errSs ks by rw [← HE4.out, seqI_n hbd, seqI_n hbd])
                go_wp2_with (first
                    | (go_at_call 81; (with_reducible refine ((K5.out _ T2.out).mono ?_)); (rintro e w5 ⟨rfl, hb5⟩; have HB5 := Hd.mk hb5; have hc5 := bcell hb5; clear hb5)))
                exact ⟨rfl, ends_no Q.out hbd ⟨rfl, step HBB.out HB5.out⟩⟩
        · have Q := Hd.mk (show nameErr n = errSs ks by rw [← HE2.out, if_pos (by decide), seqI_n hq, seqI_n hq])
          generalize hqq : nameErr n = q at *
          have HN := Hd.mk hqq
          have HQ := Hd.mk hq
          clear hqq hq
          go_wp2_with (first
            |(go_at_call 36; (with_reducible refine ((ask_ok _ _).mono ?_)); (rintro e w1 ⟨rfl, rfl⟩))
            | (go_at_call 121; (with_reducible refine ((shape2 _).mono ?_)); (rintro e w1 ⟨rfl, rfl⟩))
            | (go_at_call 35; (with_reducible refine ((nameRight n NZ.out _).mono ?_)); (rw [HN.out]; rintro e w2 ⟨rfl, hb2⟩; have HB2 := Hd.mk hb2; have hc2 := bcell hb2; have hs2 := bsize1 rfl hb2; clear hb2))
            | (go_at_call 34; (with_reducible refine ((must_b q HQ.out _).mono ?_)); (rintro e w1 ⟨rfl, rfl⟩)))
          exact ⟨rfl, ends_no Q.out HQ.out ⟨rfl, step (up HB.out _) HB2.out⟩⟩
      · as_aux_lemma =>
        obtain ⟨rfl, gn, gl⟩ := YES
        obtain rfl : l1 = 1 := gl
        obtain rfl := empty_of gn
        clear gn
        obtain ⟨wo, rfl⟩ : ∃ wo : World, wo = wr := ⟨_, rfl⟩
        · have HE3 := Hd.mk (show seqI (seqI (errL e) (seqI (errSs bd) (errSs el))) (errSs r) = errSs ks by rw [← HE2.out, if_neg (by decide), seqI_0 rfl])
          go_wp2_with (first
            |(go_at_call 36; (with_reducible refine ((ask_ok _ _).mono ?_)); (rintro e w1 ⟨rfl, rfl⟩))
            | (go_at_call 121; (with_reducible refine ((shape3 _).mono ?_)); (rintro e w1 ⟨rfl, rfl⟩)))
          go_loopw [102] (fun i w' => ∃ (j2 : Nat) (r2 : Exs), j2 ≤ 1 ∧ i = .int .i64 j2 ∧ r2.toList = e.toList.drop j2 ∧ errL r2 = errL e ∧ Below (wo.alloc (.cells #[.int .i64 3, .string ⟨#[]⟩, .slice A1 1 c1, .slice A2 l2 c2, .slice A3 l3 c3] 98 (0, 0))).heap.size (wo.alloc (.cells #[.int .i64 3, .string ⟨#[]⟩, .slice A1 1 c1, .slice A2 l2 c2, .slice A3 l3 c3] 98 (0, 0))) w') (fun i _ => 1 - (intOf i).toNat)
          case atStart => exact ⟨0, e, by omega, rfl, rfl, rfl, Below.refl _ _⟩
          case round =>
            obtain ⟨j2, r2, hj2, rfl, hr, hd, hb⟩ := hrel
            have HR' := Hd.mk hr
            have HD' := Hd.mk hd
            have HB' := Hd.mk hb
            have hcb := bcell hb
            have hsz : wo.heap.size < wr.heap.size := by have := hb.size; simp at this; omega
            clear hr hd hb
            by_cases hlt2 : j2 < 1
            · cases r2 with
              | nil => exfalso; have := congrArg List.length HR'.out; simp [Exs.toList] at this; have := hl1.out; omega
              | cons e1 r2 =>
              obtain ⟨m1, hr2⟩ := at_drop HR'.out
              have HR2' := Hd.mk hr2
              obtain ⟨B', o', rfl, g1⟩ := S1.out.at (by omega)
              have i1 := Ex.In_below (step (up (up0 _) _) HB'.out) e1 (g1 j2 e1 m1)
              have hx := EI.out e1 (List.mem_of_getElem? m1)
              obtain ⟨v0, v1, v2, v3, v4, v5, v6, v7, v8, a0, a1, a2, a3, a4, a5, a6, ax⟩ := Ex.In_Is i1
              have AX := Hd.mk ax
              have lt2 : B' < wr.heap.size := World.block_lt_of_cell? wr _ a0
              clear ax i1 g1 m1 hr2
              by_cases he : errE e1 = 0
              · have E := Hd.mk (hx.ok he)
                clear hx
                go_wp2_with (go_at_call 42; (refine ((E.out _ _ (Ex.Is_below (up (up0 _) _) AX.out)).mono ?_)); (rintro e w5 ⟨rfl, hb5⟩; have HB5 := Hd.mk hb5; clear hb5))
                go_roundw
                case rel => exact ⟨j2 + 1, r2, by omega, by go_num, HR2'.out, by rw [← HD'.out, errL, seqI_0 he], HB'.out.trans ((step (up (up0 _) _) HB5.out).mono HB'.out.size)⟩
                case measure => simp [intOf]; omega
              · have E := Hd.mk (hx.no rfl he)
                have hq : errE e1 = errSs ks := by
                  have h1 : errL e = errE e1 := by rw [← HD'.out, errL, seqI_n he]
                  rw [← HE3.out, h1, seqI_n he, seqI_n he]
                have Q := Hd.mk hq
                clear hx hq
                go_wp2_with (go_at_call 42; (refine ((E.out _ _ (Ex.Is_below (up (up0 _) _) AX.out)).mono ?_)); (rintro e w5 ⟨rfl, hb5⟩; have HB5 := Hd.mk hb5; clear hb5))
                exact ⟨rfl, ends_no Q.out he ⟨rfl, step HB.out ((up (up0 _) _).trans (HB'.out.mono (by simp)) |>.trans ((step (up (up0 _) _) HB5.out).mono (by omega)))⟩⟩
            · have hj3 : j2 = 1 := by omega
              subst hj3
              have hnil : r2 = .nil := Exs.toList_inj (b := .nil) (by have := HR'.out; rw [List.drop_of_length_le (by rw [← hl1.out]; omega)] at this; exact this)
              subst hnil
              have hbig := step (up (up0 wo) _) HB'.out
              have T2 := Hd.mk (SlS_up hbig S2.out)
              have T3 := Hd.mk (SlS_up hbig S3.out)
              have HE4 := Hd.mk (show seqI (seqI (errSs bd) (errSs el)) (errSs r) = errSs ks by rw [← HE3.out, ← HD'.out, errL, seqI_0 rfl])
              have HBB := Hd.mk (step HB.out hbig)
              clear hbig
              by_cases hbd : errSs bd = 0
              · have K5 := Hd.mk (fun w h => (K3.out w h).mono fun _ _ g => g.1 hbd)
                by_cases hel : errSs el = 0
                · have K6 := Hd.mk (fun w h => (K4.out w h).mono fun _ _ g => g.1 hel)
                  go_wp2_with (first
                    | (go_at_call 81; (with_reducible refine ((K5.out _ T2.out).mono ?_)); (rintro e w5 ⟨rfl, hb5⟩; have HB5 := Hd.mk hb5; have hc5 := bcell hb5; clear hb5))
                    | (go_at_call 81; (with_reducible refine ((K6.out _ (SlS_up HB5.out T3.out)).mono ?_)); (rintro e w6 ⟨rfl, hb6⟩; have HB6 := Hd.mk hb6; clear hb6)))
                  go_roundw
                  case rel => exact ⟨j + 1, r, by omega, by go_num, HR2.out, by rw [← HE4.out, hbd, hel, seqI_0 rfl, seqI_0 rfl], step (step HBB.out HB5.out) HB6.out⟩
                  case measure => simp [intOf]; omega
                · have K6 := Hd.mk (fun w h => (K4.out w h).mono fun _ _ g => g.2 hel)
                  have Q := Hd.mk (show errSs el = errSs ks by rw [← HE4.out, hbd, seqI_0 rfl, seqI_n hel])
                  go_wp2_with (first
                    | (go_at_call 81; (with_reducible refine ((K5.out _ T2.out).mono ?_)); (rintro e w5 ⟨rfl, hb5⟩; have HB5 := Hd.mk hb5; have hc5 := bcell hb5; clear hb5))
                    | (go_at_call 81; (with_reducible refine ((K6.out _ (SlS_up HB5.out T3.out)).mono ?_)); (rintro e w6 ⟨rfl, hb6⟩; have HB6 := Hd.mk hb6; clear hb6)))
                  exact ⟨rfl, ends_no Q.out hel ⟨rfl, step (step HBB.out HB5.out) HB6.out⟩⟩
              · have K5 := Hd.mk (fun w h => (K3.out w h).mono fun _ _ g => g.2 hbd)
                have Q := Hd.mk (show errSs bd = errSs ks by rw [← HE4.out, seqI_n hbd, seqI_n hbd])
                go_wp2_with (first
                    | (go_at_call 81; (with_reducible refine ((K5.out _ T2.out).mono ?_)); (rintro e w5 ⟨rfl, hb5⟩; have HB5 := Hd.mk hb5; have hc5 := bcell hb5; clear hb5)))
                exact ⟨rfl, ends_no Q.out hbd ⟨rfl, step HBB.out HB5.out⟩⟩
      · as_aux_lemma =>
        obtain ⟨rfl, gn, gl, rfl⟩ := YES
        obtain rfl : l1 = 1 := gl
        obtain rfl := empty_of gn
        clear gn
        obtain ⟨wo, rfl⟩ : ∃ wo : World, wo = wr := ⟨_, rfl⟩
        · have HE3 := Hd.mk (show seqI (seqI (errL e) (seqI (errSs bd) (errSs el))) (errSs r) = errSs ks by rw [← HE2.out, if_neg (by decide), seqI_0 rfl])
          go_wp2_with (first
            |(go_at_call 36; (with_reducible refine ((ask_ok _ _).mono ?_)); (rintro e w1 ⟨rfl, rfl⟩))
            | (go_at_call 121; (with_reducible refine ((shape4 _).mono ?_)); (rintro e w1 ⟨rfl, rfl⟩)))
          go_loopw [102] (fun i w' => ∃ (j2 : Nat) (r2 : Exs), j2 ≤ 1 ∧ i = .int .i64 j2 ∧ r2.toList = e.toList.drop j2 ∧ errL r2 = errL e ∧ Below (wo.alloc (.cells #[.int .i64 4, .string ⟨#[]⟩, .slice A1 1 c1, .slice A2 l2 c2, .slice A3 0 c3] 98 (0, 0))).heap.size (wo.alloc (.cells #[.int .i64 4, .string ⟨#[]⟩, .slice A1 1 c1, .slice A2 l2 c2, .slice A3 0 c3] 98 (0, 0))) w') (fun i _ => 1 - (intOf i).toNat)
          case atStart => exact ⟨0, e, by omega, rfl, rfl, rfl, Below.refl _ _⟩
          case round =>
            obtain ⟨j2, r2, hj2, rfl, hr, hd, hb⟩ := hrel
            have HR' := Hd.mk hr
            have HD' := Hd.mk hd
            have HB' := Hd.mk hb
            have hcb := bcell hb
            have hsz : wo.heap.size < wr.heap.size := by have := hb.size; simp at this; omega
            clear hr hd hb
            by_cases hlt2 : j2 < 1
            · cases r2 with
              | nil => exfalso; have := congrArg List.length HR'.out; simp [Exs.toList] at this; have := hl1.out; omega
              | cons e1 r2 =>
              obtain ⟨m1, hr2⟩ := at_drop HR'.out
              have HR2' := Hd.mk hr2
              obtain ⟨B', o', rfl, g1⟩ := S1.out.at (by omega)
              have i1 := Ex.In_below (step (up (up0 _) _) HB'.out) e1 (g1 j2 e1 m1)
              have hx := EI.out e1 (List.mem_of_getElem? m1)
              obtain ⟨v0, v1, v2, v3, v4, v5, v6, v7, v8, a0, a1, a2, a3, a4, a5, a6, ax⟩ := Ex.In_Is i1
              have AX := Hd.mk ax
              have lt2 : B' < wr.heap.size := World.block_lt_of_cell? wr _ a0
              clear ax i1 g1 m1 hr2
              by_cases he : errE e1 = 0
              · have E := Hd.mk (hx.ok he)
                clear hx
                go_wp2_with (go_at_call 42; (refine ((E.out _ _ (Ex.Is_below (up (up0 _) _) AX.out)).mono ?_)); (rintro e w5 ⟨rfl, hb5⟩; have HB5 := Hd.mk hb5; clear hb5))
                go_roundw
                case rel => exact ⟨j2 + 1, r2, by omega, by go_num, HR2'.out, by rw [← HD'.out, errL, seqI_0 he], HB'.out.trans ((step (up (up0 _) _) HB5.out).mono HB'.out.size)⟩
                case measure => simp [intOf]; omega
              · have E := Hd.mk (hx.no rfl he)
                have hq : errE e1 = errSs ks := by
                  have h1 : errL e = errE e1 := by rw [← HD'.out, errL, seqI_n he]
                  rw [← HE3.out, h1, seqI_n he, seqI_n he]
                have Q := Hd.mk hq
                clear hx hq
                go_wp2_with (go_at_call 42; (refine ((E.out _ _ (Ex.Is_below (up (up0 _) _) AX.out)).mono ?_)); (rintro e w5 ⟨rfl, hb5⟩; have HB5 := Hd.mk hb5; clear hb5))
                exact ⟨rfl, ends_no Q.out he ⟨rfl, step HB.out ((up (up0 _) _).trans (HB'.out.mono (by simp)) |>.trans ((step (up (up0 _) _) HB5.out).mono (by omega)))⟩⟩
            · have hj3 : j2 = 1 := by omega
              subst hj3
              have hnil : r2 = .nil := Exs.toList_inj (b := .nil) (by have := HR'.out; rw [List.drop_of_length_le (by rw [← hl1.out]; omega)] at this; exact this)
              subst hnil
              have hbig := step (up (up0 wo) _) HB'.out
              have T2 := Hd.mk (SlS_up hbig S2.out)
              have T3 := Hd.mk (SlS_up hbig S3.out)
              have HE4 := Hd.mk (show seqI (seqI (errSs bd) (errSs el)) (errSs r) = errSs ks by rw [← HE3.out, ← HD'.out, errL, seqI_0 rfl])
              have HBB := Hd.mk (step HB.out hbig)
              clear hbig
              by_cases hbd : errSs bd = 0
              · have K5 := Hd.mk (fun w h => (K3.out w h).mono fun _ _ g => g.1 hbd)
                by_cases hel : errSs el = 0
                · have K6 := Hd.mk (fun w h => (K4.out w h).mono fun _ _ g => g.1 hel)
                  go_wp2_with (first
                    | (go_at_call 81; (with_reducible refine ((K5.out _ T2.out).mono ?_)); (rintro e w5 ⟨rfl, hb5⟩; have HB5 := Hd.mk hb5; have hc5 := bcell hb5; clear hb5))
                    | (go_at_call 81; (with_reducible refine ((K6.out _ (SlS_up HB5.out T3.out)).mono ?_)); (rintro e w6 ⟨rfl, hb6⟩; have HB6 := Hd.mk hb6; clear hb6)))
                  go_roundw
                  case rel => exact ⟨j + 1, r, by omega, by go_num, HR2.out, by rw [← HE4.out, hbd, hel, seqI_0 rfl, seqI_0 rfl], step (step HBB.out HB5.out) HB6.out⟩
                  case measure => simp [intOf]; omega
                · have K6 := Hd.mk (fun w h => (K4.out w h).mono fun _ _ g => g.2 hel)
                  have Q := Hd.mk (show errSs el = errSs ks by rw [← HE4.out, hbd, seqI_0 rfl, seqI_n hel])
                  go_wp2_with (first
                    | (go_at_call 81; (with_reducible refine ((K5.out _ T2.out).mono ?_)); (rintro e w5 ⟨rfl, hb5⟩; have HB5 := Hd.mk hb5; have hc5 := bcell hb5; clear hb5))
                    | (go_at_call 81; (with_reducible refine ((K6.out _ (SlS_up HB5.out T3.out)).mono ?_)); (rintro e w6 ⟨rfl, hb6⟩; have HB6 := Hd.mk hb6; clear hb6)))
                  exact ⟨rfl, ends_no Q.out hel ⟨rfl, step (step HBB.out HB5.out) HB6.out⟩⟩
              · have K5 := Hd.mk (fun w h => (K3.out w h).mono fun _ _ g => g.2 hbd)
                have Q := Hd.mk (show errSs bd = errSs ks by rw [← HE4.out, seqI_n hbd, seqI_n hbd])
                go_wp2_with (first
                    | (go_at_call 81; (with_reducible refine ((K5.out _ T2.out).mono ?_)); (rintro e w5 ⟨rfl, hb5⟩; have HB5 := Hd.mk hb5; have hc5 := bcell hb5; clear hb5)))
                exact ⟨rfl, ends_no Q.out hbd ⟨rfl, step HBB.out HB5.out⟩⟩
      · as_aux_lemma =>
        obtain ⟨rfl, gn, gl, rfl, rfl⟩ := YES
        have gm3 : decide ((l1 : Int) ≤ 1) = true := decide_eq_true (by omega)
        obtain rfl := empty_of gn
        clear gn
        obtain ⟨wo, rfl⟩ : ∃ wo : World, wo = wr := ⟨_, rfl⟩
        · have HE3 := Hd.mk (show seqI (seqI (errL e) (seqI (errSs bd) (errSs el))) (errSs r) = errSs ks by rw [← HE2.out, if_neg (by decide), seqI_0 rfl])
          go_wp2_with (first
            |(go_at_call 36; (with_reducible refine ((ask_ok _ _).mono ?_)); (rintro e w1 ⟨rfl, rfl⟩))
            | (go_at_call 121; (with_reducible refine ((shape5 _).mono ?_)); (rintro e w1 ⟨rfl, rfl⟩)))
          go_loopw [102] (fun i w' => ∃ (j2 : Nat) (r2 : Exs), j2 ≤ l1 ∧ i = .int .i64 j2 ∧ r2.toList = e.toList.drop j2 ∧ errL r2 = errL e ∧ Below (wo.alloc (.cells #[.int .i64 5, .string ⟨#[]⟩, .slice A1 l1 c1, .slice A2 0 c2, .slice A3 0 c3] 98 (0, 0))).heap.size (wo.alloc (.cells #[.int .i64 5, .string ⟨#[]⟩, .slice A1 l1 c1, .slice A2 0 c2, .slice A3 0 c3] 98 (0, 0))) w') (fun i _ => l1 - (intOf i).toNat)
          case atStart => exact ⟨0, e, by omega, rfl, rfl, rfl, Below.refl _ _⟩
          case round =>
            obtain ⟨j2, r2, hj2, rfl, hr, hd, hb⟩ := hrel
            have HR' := Hd.mk hr
            have HD' := Hd.mk hd
            have HB' := Hd.mk hb
            have hcb := bcell hb
            have hsz : wo.heap.size < wr.heap.size := by have := hb.size; simp at this; omega
            clear hr hd hb
            by_cases hlt2 : j2 < l1
            · cases r2 with
              | nil => exfalso; have := congrArg List.length HR'.out; simp [Exs.toList] at this; have := hl1.out; omega
              | cons e1 r2 =>
              obtain ⟨m1, hr2⟩ := at_drop HR'.out
              have HR2' := Hd.mk hr2
              obtain ⟨B', o', rfl, g1⟩ := S1.out.at (by omega)
              have i1 := Ex.In_below (step (up (up0 _) _) HB'.out) e1 (g1 j2 e1 m1)
              have hx := EI.out e1 (List.mem_of_getElem? m1)
              obtain ⟨v0, v1, v2, v3, v4, v5, v6, v7, v8, a0, a1, a2, a3, a4, a5, a6, ax⟩ := Ex.In_Is i1
              have AX := Hd.mk ax
              have lt2 : B' < wr.heap.size := World.block_lt_of_cell? wr _ a0
              clear ax i1 g1 m1 hr2
              by_cases he : errE e1 = 0
              · have E := Hd.mk (hx.ok he)
                clear hx
                go_wp2_with (go_at_call 42; (refine ((E.out _ _ (Ex.Is_below (up (up0 _) _) AX.out)).mono ?_)); (rintro e w5 ⟨rfl, hb5⟩; have HB5 := Hd.mk hb5; clear hb5))
                go_roundw
                case rel => exact ⟨j2 + 1, r2, by omega, by go_num, HR2'.out, by rw [← HD'.out, errL, seqI_0 he], HB'.out.trans ((step (up (up0 _) _) HB5.out).mono HB'.out.size)⟩
                case measure => simp [intOf]; omega
              · have E := Hd.mk (hx.no rfl he)
                have hq : errE e1 = errSs ks := by
                  have h1 : errL e = errE e1 := by rw [← HD'.out, errL, seqI_n he]
                  rw [← HE3.out, h1, seqI_n he, seqI_n he]
                have Q := Hd.mk hq
                clear hx hq
                go_wp2_with (go_at_call 42; (refine ((E.out _ _ (Ex.Is_below (up (up0 _) _) AX.out)).mono ?_)); (rintro e w5 ⟨rfl, hb5⟩; have HB5 := Hd.mk hb5; clear hb5))
                exact ⟨rfl, ends_no Q.out he ⟨rfl, step HB.out ((up (up0 _) _).trans (HB'.out.mono (by simp)) |>.trans ((step (up (up0 _) _) HB5.out).mono (by omega)))⟩⟩
            · have hj3 : j2 = l1 := by omega
              subst hj3
              have hnil : r2 = .nil := Exs.toList_inj (b := .nil) (by have := HR'.out; rw [List.drop_of_length_le (by rw [← hl1.out]; omega)] at this; exact this)
              subst hnil
              have hbig := step (up (up0 wo) _) HB'.out
              have T2 := Hd.mk (SlS_up hbig S2.out)
              have T3 := Hd.mk (SlS_up hbig S3.out)
              have HE4 := Hd.mk (show seqI (seqI (errSs bd) (errSs el)) (errSs r) = errSs ks by rw [← HE3.out, ← HD'.out, errL, seqI_0 rfl])
              have HBB := Hd.mk (step HB.out hbig)
              clear hbig
              by_cases hbd : errSs bd = 0
              · have K5 := Hd.mk (fun w h => (K3.out w h).mono fun _ _ g => g.1 hbd)
                by_cases hel : errSs el = 0
                · have K6 := Hd.mk (fun w h => (K4.out w h).mono fun _ _ g => g.1 hel)
                  go_wp2_with (first
                    | (go_at_call 81; (with_reducible refine ((K5.out _ T2.out).mono ?_)); (rintro e w5 ⟨rfl, hb5⟩; have HB5 := Hd.mk hb5; have hc5 := bcell hb5; clear hb5))
                    | (go_at_call 81; (with_reducible refine ((K6.out _ (SlS_up HB5.out T3.out)).mono ?_)); (rintro e w6 ⟨rfl, hb6⟩; have HB6 := Hd.mk hb6; clear hb6)))
                  go_roundw
                  case rel => exact ⟨j + 1, r, by omega, by go_num, HR2.out, by rw [← HE4.out, hbd, hel, seqI_0 rfl, seqI_0 rfl], step (step HBB.out HB5.out) HB6.out⟩
                  case measure => simp [intOf]; omega
                · have K6 := Hd.mk (fun w h => (K4.out w h).mono fun _ _ g => g.2 hel)
                  have Q := Hd.mk (show errSs el = errSs ks by rw [← HE4.out, hbd, seqI_0 rfl, seqI_n hel])
                  go_wp2_with (first
                    | (go_at_call 81; (with_reducible refine ((K5.out _ T2.out).mono ?_)); (rintro e w5 ⟨rfl, hb5⟩; have HB5 := Hd.mk hb5; have hc5 := bcell hb5; clear hb5))
                    | (go_at_call 81; (with_reducible refine ((K6.out _ (SlS_up HB5.out T3.out)).mono ?_)); (rintro e w6 ⟨rfl, hb6⟩; have HB6 := Hd.mk hb6; clear hb6)))
                  exact ⟨rfl, ends_no Q.out hel ⟨rfl, step (step HBB.out HB5.out) HB6.out⟩⟩
              · have K5 := Hd.mk (fun w h => (K3.out w h).mono fun _ _ g => g.2 hbd)
                have Q := Hd.mk (show errSs bd = errSs ks by rw [← HE4.out, seqI_n hbd, seqI_n hbd])
                go_wp2_with (first
                    | (go_at_call 81; (with_reducible refine ((K5.out _ T2.out).mono ?_)); (rintro e w5 ⟨rfl, hb5⟩; have HB5 := Hd.mk hb5; have hc5 := bcell hb5; clear hb5)))
                exact ⟨rfl, ends_no Q.out hbd ⟨rfl, step HBB.out HB5.out⟩⟩
      · as_aux_lemma =>
        obtain ⟨rfl, gn, gl, rfl, rfl⟩ := YES
        obtain rfl : l1 = 1 := gl
        obtain rfl := empty_of gn
        clear gn
        obtain ⟨wo, rfl⟩ : ∃ wo : World, wo = wr := ⟨_, rfl⟩
        · have HE3 := Hd.mk (show seqI (seqI (errL e) (seqI (errSs bd) (errSs el))) (errSs r) = errSs ks by rw [← HE2.out, if_neg (by decide), seqI_0 rfl])
          go_wp2_with (first
            |(go_at_call 36; (with_reducible refine ((ask_ok _ _).mono ?_)); (rintro e w1 ⟨rfl, rfl⟩))
            | (go_at_call 121; (with_reducible refine ((shape6 _).mono ?_)); (rintro e w1 ⟨rfl, rfl⟩)))
          go_loopw [102] (fun i w' => ∃ (j2 : Nat) (r2 : Exs), j2 ≤ 1 ∧ i = .int .i64 j2 ∧ r2.toList = e.toList.drop j2 ∧ errL r2 = errL e ∧ Below (wo.alloc (.cells #[.int .i64 6, .string ⟨#[]⟩, .slice A1 1 c1, .slice A2 0 c2, .slice A3 0 c3] 98 (0, 0))).heap.size (wo.alloc (.cells #[.int .i64 6, .string ⟨#[]⟩, .slice A1 1 c1, .slice A2 0 c2, .slice A3 0 c3] 98 (0, 0))) w') (fun i _ => 1 - (intOf i).toNat)
          case atStart => exact ⟨0, e, by omega, rfl, rfl, rfl, Below.refl _ _⟩
          case round =>
            obtain ⟨j2, r2, hj2, rfl, hr, hd, hb⟩ := hrel
            have HR' := Hd.mk hr
            have HD' := Hd.mk hd
            have HB' := Hd.mk hb
            have hcb := bcell hb
            have hsz : wo.heap.size < wr.heap.size := by have := hb.size; simp at this; omega
            clear hr hd hb
            by_cases hlt2 : j2 < 1
            · cases r2 with
              | nil => exfalso; have := congrArg List.length HR'.out; simp [Exs.toList] at this; have := hl1.out; omega
              | cons e1 r2 =>
              obtain ⟨m1, hr2⟩ := at_drop HR'.out
              have HR2' := Hd.mk hr2
              obtain ⟨B', o', rfl, g1⟩ := S1.out.at (by omega)
              have i1 := Ex.In_below (step (up (up0 _) _) HB'.out) e1 (g1 j2 e1 m1)
              have hx := EI.out e1 (List.mem_of_getElem? m1)
              obtain ⟨v0, v1, v2, v3, v4, v5, v6, v7, v8, a0, a1, a2, a3, a4, a5, a6, ax⟩ := Ex.In_Is i1
              have AX := Hd.mk ax
              have lt2 : B' < wr.heap.size := World.block_lt_of_cell? wr _ a0
              clear ax i1 g1 m1 hr2
              by_cases he : errE e1 = 0
              · have E := Hd.mk (hx.ok he)
                clear hx
                go_wp2_with (go_at_call 42; (refine ((E.out _ _ (Ex.Is_below (up (up0 _) _) AX.out)).mono ?_)); (rintro e w5 ⟨rfl, hb5⟩; have HB5 := Hd.mk hb5; clear hb5))
                go_roundw
                case rel => exact ⟨j2 + 1, r2, by omega, by go_num, HR2'.out, by rw [← HD'.out, errL, seqI_0 he], HB'.out.trans ((step (up (up0 _) _) HB5.out).mono HB'.out.size)⟩
                case measure => simp [intOf]; omega
              · have E := Hd.mk (hx.no rfl he)
                have hq : errE e1 = errSs ks := by
                  have h1 : errL e = errE e1 := by rw [← HD'.out, errL, seqI_n he]
                  rw [← HE3.out, h1, seqI_n he, seqI_n he]
                have Q := Hd.mk hq
                clear hx hq
                go_wp2_with (go_at_call 42; (refine ((E.out _ _ (Ex.Is_below (up (up0 _) _) AX.out)).mono ?_)); (rintro e w5 ⟨rfl, hb5⟩; have HB5 := Hd.mk hb5; clear hb5))
                exact ⟨rfl, ends_no Q.out he ⟨rfl, step HB.out ((up (up0 _) _).trans (HB'.out.mono (by simp)) |>.trans ((step (up (up0 _) _) HB5.out).mono (by omega)))⟩⟩
            · have hj3 : j2 = 1 := by omega
              subst hj3
              have hnil : r2 = .nil := Exs.toList_inj (b := .nil) (by have := HR'.out; rw [List.drop_of_length_le (by rw [← hl1.out]; omega)] at this; exact this)
              subst hnil
              have hbig := step (up (up0 wo) _) HB'.out
              have T2 := Hd.mk (SlS_up hbig S2.out)
              have T3 := Hd.mk (SlS_up hbig S3.out)
              have HE4 := Hd.mk (show seqI (seqI (errSs bd) (errSs el)) (errSs r) = errSs ks by rw [← HE3.out, ← HD'.out, errL, seqI_0 rfl])
              have HBB := Hd.mk (step HB.out hbig)
              clear hbig
              by_cases hbd : errSs bd = 0
              · have K5 := Hd.mk (fun w h => (K3.out w h).mono fun _ _ g => g.1 hbd)
                by_cases hel : errSs el = 0
                · have K6 := Hd.mk (fun w h => (K4.out w h).mono fun _ _ g => g.1 hel)
                  go_wp2_with (first
                    | (go_at_call 81; (with_reducible refine ((K5.out _ T2.out).mono ?_)); (rintro e w5 ⟨rfl, hb5⟩; have HB5 := Hd.mk hb5; have hc5 := bcell hb5; clear hb5))
                    | (go_at_call 81; (with_reducible refine ((K6.out _ (SlS_up HB5.out T3.out)).mono ?_)); (rintro e w6 ⟨rfl, hb6⟩; have HB6 := Hd.mk hb6; clear hb6)))
                  go_roundw
                  case rel => exact ⟨j + 1, r, by omega, by go_num, HR2.out, by rw [← HE4.out, hbd, hel, seqI_0 rfl, seqI_0 rfl], step (step HBB.out HB5.out) HB6.out⟩
                  case measure => simp [intOf]; omega
                · have K6 := Hd.mk (fun w h => (K4.out w h).mono fun _ _ g => g.2 hel)
                  have Q := Hd.mk (show errSs el = errSs ks by rw [← HE4.out, hbd, seqI_0 rfl, seqI_n hel])
                  go_wp2_with (first
                    | (go_at_call 81; (with_reducible refine ((K5.out _ T2.out).mono ?_)); (rintro e w5 ⟨rfl, hb5⟩; have HB5 := Hd.mk hb5; have hc5 := bcell hb5; clear hb5))
                    | (go_at_call 81; (with_reducible refine ((K6.out _ (SlS_up HB5.out T3.out)).mono ?_)); (rintro e w6 ⟨rfl, hb6⟩; have HB6 := Hd.mk hb6; clear hb6)))
                  exact ⟨rfl, ends_no Q.out hel ⟨rfl, step (step HBB.out HB5.out) HB6.out⟩⟩
              · have K5 := Hd.mk (fun w h => (K3.out w h).mono fun _ _ g => g.2 hbd)
                have Q := Hd.mk (show errSs bd = errSs ks by rw [← HE4.out, seqI_n hbd, seqI_n hbd])
                go_wp2_with (first
                    | (go_at_call 81; (with_reducible refine ((K5.out _ T2.out).mono ?_)); (rintro e w5 ⟨rfl, hb5⟩; have HB5 := Hd.mk hb5; have hc5 := bcell hb5; clear hb5)))
                exact ⟨rfl, ends_no Q.out hbd ⟨rfl, step HBB.out HB5.out⟩⟩
      · as_aux_lemma =>
        obtain ⟨rfl, gn, gl, rfl, rfl⟩ := YES
        obtain rfl : l1 = 1 := gl
        obtain rfl := empty_of gn
        clear gn
        obtain ⟨wo, rfl⟩ : ∃ wo : World, wo = wr := ⟨_, rfl⟩
        · have HE3 := Hd.mk (show seqI (seqI (errL e) (seqI (errSs bd) (errSs el))) (errSs r) = errSs ks by rw [← HE2.out, if_neg (by decide), seqI_0 rfl])
          go_wp2_with (first
            |(go_at_call 36; (with_reducible refine ((ask_ok _ _).mono ?_)); (rintro e w1 ⟨rfl, rfl⟩))
            | (go_at_call 121; (with_reducible refine ((shape7 _).mono ?_)); (rintro e w1 ⟨rfl, rfl⟩)))
          go_loopw [102] (fun i w' => ∃ (j2 : Nat) (r2 : Exs), j2 ≤ 1 ∧ i = .int .i64 j2 ∧ r2.toList = e.toList.drop j2 ∧ errL r2 = errL e ∧ Below (wo.alloc (.cells #[.int .i64 7, .string ⟨#[]⟩, .slice A1 1 c1, .slice A2 0 c2, .slice A3 0 c3] 98 (0, 0))).heap.size (wo.alloc (.cells #[.int .i64 7, .string ⟨#[]⟩, .slice A1 1 c1, .slice A2 0 c2, .slice A3 0 c3] 98 (0, 0))) w') (fun i _ => 1 - (intOf i).toNat)
          case atStart => exact ⟨0, e, by omega, rfl, rfl, rfl, Below.refl _ _⟩
          case round =>
            obtain ⟨j2, r2, hj2, rfl, hr, hd, hb⟩ := hrel
            have HR' := Hd.mk hr
            have HD' := Hd.mk hd
            have HB' := Hd.mk hb
            have hcb := bcell hb
            have hsz : wo.heap.size < wr.heap.size := by have := hb.size; simp at this; omega
            clear hr hd hb
            by_cases hlt2 : j2 < 1
            · cases r2 with
              | nil => exfalso; have := congrArg List.length HR'.out; simp [Exs.toList] at this; have := hl1.out; omega
              | cons e1 r2 =>
              obtain ⟨m1, hr2⟩ := at_drop HR'.out
              have HR2' := Hd.mk hr2
              obtain ⟨B', o', rfl, g1⟩ := S1.out.at (by omega)
              have i1 := Ex.In_below (step (up (up0 _) _) HB'.out) e1 (g1 j2 e1 m1)
              have hx := EI.out e1 (List.mem_of_getElem? m1)
              obtain ⟨v0, v1, v2, v3, v4, v5, v6, v7, v8, a0, a1, a2, a3, a4, a5, a6, ax⟩ := Ex.In_Is i1
              have AX := Hd.mk ax
              have lt2 : B' < wr.heap.size := World.block_lt_of_cell? wr _ a0
              clear ax i1 g1 m1 hr2
              by_cases he : errE e1 = 0
              · have E := Hd.mk (hx.ok he)
                clear hx
                go_wp2_with (go_at_call 42; (refine ((E.out _ _ (Ex.Is_below (up (up0 _) _) AX.out)).mono ?_)); (rintro e w5 ⟨rfl, hb5⟩; have HB5 := Hd.mk hb5; clear hb5))
                go_roundw
                case rel => exact ⟨j2 + 1, r2, by omega, by go_num, HR2'.out, by rw [← HD'.out, errL, seqI_0 he], HB'.out.trans ((step (up (up0 _) _) HB5.out).mono HB'.out.size)⟩
                case measure => simp [intOf]; omega
              · have E := Hd.mk (hx.no rfl he)
                have hq : errE e1 = errSs ks := by
                  have h1 : errL e = errE e1 := by rw [← HD'.out, errL, seqI_n he]
                  rw [← HE3.out, h1, seqI_n he, seqI_n he]
                have Q := Hd.mk hq
                clear hx hq
                go_wp2_with (go_at_call 42; (refine ((E.out _ _ (Ex.Is_below (up (up0 _) _) AX.out)).mono ?_)); (rintro e w5 ⟨rfl, hb5⟩; have HB5 := Hd.mk hb5; clear hb5))
                exact ⟨rfl, ends_no Q.out he ⟨rfl, step HB.out ((up (up0 _) _).trans (HB'.out.mono (by simp)) |>.trans ((step (up (up0 _) _) HB5.out).mono (by omega)))⟩⟩
            · have hj3 : j2 = 1 := by omega
              subst hj3
              have hnil : r2 = .nil := Exs.toList_inj (b := .nil) (by have := HR'.out; rw [List.drop_of_length_le (by rw [← hl1.out]; omega)] at this; exact this)
              subst hnil
              have hbig := step (up (up0 wo) _) HB'.out
              have T2 := Hd.mk (SlS_up hbig S2.out)
              have T3 := Hd.mk (SlS_up hbig S3.out)
              have HE4 := Hd.mk (show seqI (seqI (errSs bd) (errSs el)) (errSs r) = errSs ks by rw [← HE3.out, ← HD'.out, errL, seqI_0 rfl])
              have HBB := Hd.mk (step HB.out hbig)
              clear hbig
              by_cases hbd : errSs bd = 0
              · have K5 := Hd.mk (fun w h => (K3.out w h).mono fun _ _ g => g.1 hbd)
                by_cases hel : errSs el = 0
                · have K6 := Hd.mk (fun w h => (K4.out w h).mono fun _ _ g => g.1 hel)
                  go_wp2_with (first
                    | (go_at_call 81; (with_reducible refine ((K5.out _ T2.out).mono ?_)); (rintro e w5 ⟨rfl, hb5⟩; have HB5 := Hd.mk hb5; have hc5 := bcell hb5; clear hb5))
                    | (go_at_call 81; (with_reducible refine ((K6.out _ (SlS_up HB5.out T3.out)).mono ?_)); (rintro e w6 ⟨rfl, hb6⟩; have HB6 := Hd.mk hb6; clear hb6)))
                  go_roundw
                  case rel => exact ⟨j + 1, r, by omega, by go_num, HR2.out, by rw [← HE4.out, hbd, hel, seqI_0 rfl, seqI_0 rfl], step (step HBB.out HB5.out) HB6.out⟩
                  case measure => simp [intOf]; omega
                · have K6 := Hd.mk (fun w h => (K4.out w h).mono fun _ _ g => g.2 hel)
                  have Q := Hd.mk (show errSs el = errSs ks by rw [← HE4.out, hbd, seqI_0 rfl, seqI_n hel])
                  go_wp2_with (first
                    | (go_at_call 81; (with_reducible refine ((K5.out _ T2.out).mono ?_)); (rintro e w5 ⟨rfl, hb5⟩; have HB5 := Hd.mk hb5; have hc5 := bcell hb5; clear hb5))
                    | (go_at_call 81; (with_reducible refine ((K6.out _ (SlS_up HB5.out T3.out)).mono ?_)); (rintro e w6 ⟨rfl, hb6⟩; have HB6 := Hd.mk hb6; clear hb6)))
                  exact ⟨rfl, ends_no Q.out hel ⟨rfl, step (step HBB.out HB5.out) HB6.out⟩⟩
              · have K5 := Hd.mk (fun w h => (K3.out w h).mono fun _ _ g => g.2 hbd)
                have Q := Hd.mk (show errSs bd = errSs ks by rw [← HE4.out, seqI_n hbd, seqI_n hbd])
                go_wp2_with (first
                    | (go_at_call 81; (with_reducible refine ((K5.out _ T2.out).mono ?_)); (rintro e w5 ⟨rfl, hb5⟩; have HB5 := Hd.mk hb5; have hc5 := bcell hb5; clear hb5)))
                exact ⟨rfl, ends_no Q.out hbd ⟨rfl, step HBB.out HB5.out⟩⟩
      · as_aux_lemma =>
        obtain ⟨rfl, gl⟩ := YES
        obtain rfl : l1 = 0 := gl
        obtain ⟨wo, rfl⟩ : ∃ wo : World, wo = wr := ⟨_, rfl⟩
        by_cases hq : nameErr n = 0
        · have HN := Hd.mk hq
          have HE3 := Hd.mk (show seqI (seqI (errL e) (seqI (errSs bd) (errSs el))) (errSs r) = errSs ks by rw [← HE2.out, if_pos (by decide), hq, seqI_0 rfl])
          clear hq
          go_wp2_with (first
            |(go_at_call 36; (with_reducible refine ((ask_ok _ _).mono ?_)); (rintro e w1 ⟨rfl, rfl⟩))
            | (go_at_call 121; (with_reducible refine ((shape8 _).mono ?_)); (rintro e w1 ⟨rfl, rfl⟩))
            | (go_at_call 35; (with_reducible refine ((nameRight n NZ.out _).mono ?_)); (rw [HN.out]; rintro e w2 ⟨rfl, hb2⟩; have HB2 := Hd.mk hb2; have hc2 := bcell hb2; have hs2 := bsize1 rfl hb2; clear hb2))
            | (go_at_call 34; (with_reducible refine ((must_ok _).mono ?_)); (rintro e w1 ⟨rfl, rfl⟩)))
          go_loopw [102] (fun i w' => ∃ (j2 : Nat) (r2 : Exs), j2 ≤ 0 ∧ i = .int .i64 j2 ∧ r2.toList = e.toList.drop j2 ∧ errL r2 = errL e ∧ Below (wo.alloc (.cells #[.int .i64 8, .string n, .slice A1 0 c1, .slice A2 l2 c2, .slice A3 l3 c3] 98 (0, 0))).heap.size (wo.alloc (.cells #[.int .i64 8, .string n, .slice A1 0 c1, .slice A2 l2 c2, .slice A3 l3 c3] 98 (0, 0))) w') (fun i _ => 0 - (intOf i).toNat)
          case atStart => exact ⟨0, e, by omega, rfl, rfl, rfl, HB2.out⟩
          case round =>
            obtain ⟨j2, r2, hj2, rfl, hr, hd, hb⟩ := hrel
            have HR' := Hd.mk hr
            have HD' := Hd.mk hd
            have HB' := Hd.mk hb
            have hcb := bcell hb
            have hsz : wo.heap.size < wr.heap.size := by have := hb.size; simp at this; omega
            clear hr hd hb
            by_cases hlt2 : j2 < 0
            · exact absurd hlt2 (by omega)
            · have hj3 : j2 = 0 := by omega
              subst hj3
              have hnil : r2 = .nil := Exs.toList_inj (b := .nil) (by have := HR'.out; rw [List.drop_of_length_le (by rw [← hl1.out]; omega)] at this; exact this)
              subst hnil
              have hbig := step (up (up0 wo) _) HB'.out
              have T2 := Hd.mk (SlS_up hbig S2.out)
              have T3 := Hd.mk (SlS_up hbig S3.out)
              have HE4 := Hd.mk (show seqI (seqI (errSs bd) (errSs el)) (errSs r) = errSs ks by rw [← HE3.out, ← HD'.out, errL, seqI_0 rfl])
              have HBB := Hd.mk (step HB.out hbig)
              clear hbig
              by_cases hbd : errSs bd = 0
              · have K5 := Hd.mk (fun w h => (K3.out w h).mono fun _ _ g => g.1 hbd)
                by_cases hel : errSs el = 0
                · have K6 := Hd.mk (fun w h => (K4.out w h).mono fun _ _ g => g.1 hel)
                  go_wp2_with (first
                    | (go_at_call 81; (with_reducible refine ((K5.out _ T2.out).mono ?_)); (rintro e w5 ⟨rfl, hb5⟩; have HB5 := Hd.mk hb5; have hc5 := bcell hb5; clear hb5))
                    | (go_at_call 81; (with_reducible refine ((K6.out _ (SlS_up HB5.out T3.out)).mono ?_)); (rintro e w6 ⟨rfl, hb6⟩; have HB6 := Hd.mk hb6; clear hb6)))
                  go_roundw
                  case rel => exact ⟨j + 1, r, by omega, by go_num, HR2.out, by rw [← HE4.out, hbd, hel, seqI_0 rfl, seqI_0 rfl], step (step HBB.out HB5.out) HB6.out⟩
                  case measure => simp [intOf]; omega
                · have K6 := Hd.mk (fun w h => (K4.out w h).mono fun _ _ g => g.2 hel)
                  have Q := Hd.mk (show errSs el = errSs ks by rw [← HE4.out, hbd, seqI_0 rfl, seqI_n hel])
                  go_wp2_with (first
                    | (go_at_call 81; (with_reducible refine ((K5.out _ T2.out).mono ?_)); (rintro e w5 ⟨rfl, hb5⟩; have HB5 := Hd.mk hb5; have hc5 := bcell hb5; clear hb5))
                    | (go_at_call 81; (with_reducible refine ((K6.out _ (SlS_up HB5.out T3.out)).mono ?_)); (rintro e w6 ⟨rfl, hb6⟩; have HB6 := Hd.mk hb6; clear hb6)))
                  exact ⟨rfl, ends_no Q.out hel ⟨rfl, step (step HBB.out HB5.out) HB6.out⟩⟩
              · have K5 := Hd.mk (fun w h => (K3.out w h).mono fun _ _ g => g.2 hbd)
                have Q := Hd.mk (show errSs bd = errSs ks by rw [← HE4.out, seqI_n hbd, seqI_n hbd])
                go_wp2_with (first
                    | (go_at_call 81; (with_reducible refine ((K5.out _ T2.out).mono ?_)); (rintro e w5 ⟨rfl, hb5⟩; have HB5 := Hd.mk hb5; have hc5 := bcell hb5; clear hb5)))
                exact ⟨rfl, ends_no Q.out hbd ⟨rfl, step HBB.out HB5.out⟩⟩
        · have Q := Hd.mk (show nameErr n = errSs ks by rw [← HE2.out, if_pos (by decide), seqI_n hq, seqI_n hq])
          generalize hqq : nameErr n = q at *
          have HN := Hd.mk hqq
          have HQ := Hd.mk hq
          clear hqq hq
          go_wp2_with (first
            |(go_at_call 36; (with_reducible refine ((ask_ok _ _).mono ?_)); (rintro e w1 ⟨rfl, rfl⟩))
            | (go_at_call 121; (with_reducible refine ((shape8 _).mono ?_)); (rintro e w1 ⟨rfl, rfl⟩))
            | (go_at_call 35; (with_reducible refine ((nameRight n NZ.out _).mono ?_)); (rw [HN.out]; rintro e w2 ⟨rfl, hb2⟩; have HB2 := Hd.mk hb2; have hc2 := bcell hb2; have hs2 := bsize1 rfl hb2; clear hb2))
            | (go_at_call 34; (with_reducible refine ((must_b q HQ.out _).mono ?_)); (rintro e w1 ⟨rfl, rfl⟩)))
          exact ⟨rfl, ends_no Q.out HQ.out ⟨rfl, step (up HB.out _) HB2.out⟩⟩
      · as_aux_lemma =>
        obtain ⟨rfl, gn, gl, rfl, rfl, gx⟩ := YES
        obtain rfl : l1 = 1 := gl
        obtain rfl := empty_of gn
        clear gn
        obtain ⟨wo, rfl⟩ : ∃ wo : World, wo = wr := ⟨_, rfl⟩
        obtain ⟨B9, o9, rfl, g1⟩ := S1.out.at (by decide)
        obtain ⟨x, hx⟩ : ∃ x, e.toList = [x] := List.length_eq_one_iff.1 hl1.out.symm
        have i1 := g1 0 x (by rw [hx]; rfl)
        obtain ⟨v0, v1, v2, v3, v4, v5, v6, v7, v8, b0, b1, b2, b3, b4, b5, b6, ax⟩ := Ex.In_Is i1
        rw [Nat.zero_mul, Nat.add_zero] at b0
        have hv0 : v0 = x.k := by cases x; unfold Ex.Is at ax; obtain ⟨_, _, _, he, _⟩ := ax; injection he with he; simp only [Array.mk.injEq, List.cons.injEq, Value.int.injEq, true_and] at he; exact he.1
        have lt2 : B9 < wo.heap.size := World.block_lt_of_cell? wo _ b0
        have gx' := gx x (by rw [hx]; exact List.mem_singleton.2 rfl)
        rw [← hv0] at gx'
        have HE3 := Hd.mk (show seqI (seqI (errL e) (seqI (errSs bd) (errSs el))) (errSs r) = errSs ks by rw [← HE2.out, if_neg (by decide), seqI_0 rfl])
        clear gx hv0 ax b1 b2 b3 b4 b5 b6 g1 hx i1
        rcases gx' with rfl | rfl
        · go_wp2_with (first
            |(go_at_call 36; (with_reducible refine ((ask_ok _ _).mono ?_)); (rintro e w1 ⟨rfl, rfl⟩))
            | (go_at_call 121; (with_reducible refine ((shape9 _).mono ?_)); (rintro e w1 ⟨rfl, rfl⟩)))
          clear b0 lt2
          go_loopw [102] (fun i w' => ∃ (j2 : Nat) (r2 : Exs), j2 ≤ 1 ∧ i = .int .i64 j2 ∧ r2.toList = e.toList.drop j2 ∧ errL r2 = errL e ∧ Below (wo.alloc (.cells #[.int .i64 9, .string ⟨#[]⟩, .slice (some ⟨B9, o9, none⟩) 1 c1, .slice A2 0 c2, .slice A3 0 c3] 98 (0, 0))).heap.size (wo.alloc (.cells #[.int .i64 9, .string ⟨#[]⟩, .slice (some ⟨B9, o9, none⟩) 1 c1, .slice A2 0 c2, .slice A3 0 c3] 98 (0, 0))) w') (fun i _ => 1 - (intOf i).toNat)
          case atStart => exact ⟨0, e, by omega, rfl, rfl, rfl, Below.refl _ _⟩
          case round =>
            obtain ⟨j2, r2, hj2, rfl, hr, hd, hb⟩ := hrel
            have HR' := Hd.mk hr
            have HD' := Hd.mk hd
            have HB' := Hd.mk hb
            have hcb := bcell hb
            have hsz : wo.heap.size < wr.heap.size := by have := hb.size; simp at this; omega
            clear hr hd hb
            by_cases hlt2 : j2 < 1
            · cases r2 with
              | nil => exfalso; have := congrArg List.length HR'.out; simp [Exs.toList] at this; have := hl1.out; omega
              | cons e1 r2 =>
              obtain ⟨m1, hr2⟩ := at_drop HR'.out
              have HR2' := Hd.mk hr2
              obtain ⟨B', o', hB', g1⟩ := S1.out.at (by omega)
              cases hB'
              have i1 := Ex.In_below (step (up (up0 _) _) HB'.out) e1 (g1 j2 e1 m1)
              have hx := EI.out e1 (List.mem_of_getElem? m1)
              obtain ⟨v0, v1, v2, v3, v4, v5, v6, v7, v8, a0, a1, a2, a3, a4, a5, a6, ax⟩ := Ex.In_Is i1
              have AX := Hd.mk ax
              have lt2 : B9 < wr.heap.size := World.block_lt_of_cell? wr _ a0
              clear ax i1 g1 m1 hr2
              by_cases he : errE e1 = 0
              · have E := Hd.mk (hx.ok he)
                clear hx
                go_wp2_with (go_at_call 42; (refine ((E.out _ _ (Ex.Is_below (up (up0 _) _) AX.out)).mono ?_)); (rintro e w5 ⟨rfl, hb5⟩; have HB5 := Hd.mk hb5; clear hb5))
                go_roundw
                case rel => exact ⟨j2 + 1, r2, by omega, by go_num, HR2'.out, by rw [← HD'.out, errL, seqI_0 he], HB'.out.trans ((step (up (up0 _) _) HB5.out).mono HB'.out.size)⟩
                case measure => simp [intOf]; omega
              · have E := Hd.mk (hx.no rfl he)
                have hq : errE e1 = errSs ks := by
                  have h1 : errL e = errE e1 := by rw [← HD'.out, errL, seqI_n he]
                  rw [← HE3.out, h1, seqI_n he, seqI_n he]
                have Q := Hd.mk hq
                clear hx hq
                go_wp2_with (go_at_call 42; (refine ((E.out _ _ (Ex.Is_below (up (up0 _) _) AX.out)).mono ?_)); (rintro e w5 ⟨rfl, hb5⟩; have HB5 := Hd.mk hb5; clear hb5))
                exact ⟨rfl, ends_no Q.out he ⟨rfl, step HB.out ((up (up0 _) _).trans (HB'.out.mono (by simp)) |>.trans ((step (up (up0 _) _) HB5.out).mono (by omega)))⟩⟩
            · have hj3 : j2 = 1 := by omega
              subst hj3
              have hnil : r2 = .nil := Exs.toList_inj (b := .nil) (by have := HR'.out; rw [List.drop_of_length_le (by rw [← hl1.out]; omega)] at this; exact this)
              subst hnil
              have hbig := step (up (up0 wo) _) HB'.out
              have T2 := Hd.mk (SlS_up hbig S2.out)
              have T3 := Hd.mk (SlS_up hbig S3.out)
              have HE4 := Hd.mk (show seqI (seqI (errSs bd) (errSs el)) (errSs r) = errSs ks by rw [← HE3.out, ← HD'.out, errL, seqI_0 rfl])
              have HBB := Hd.mk (step HB.out hbig)
              clear hbig
              by_cases hbd : errSs bd = 0
              · have K5 := Hd.mk (fun w h => (K3.out w h).mono fun _ _ g => g.1 hbd)
                by_cases hel : errSs el = 0
                · have K6 := Hd.mk (fun w h => (K4.out w h).mono fun _ _ g => g.1 hel)
                  go_wp2_with (first
                    | (go_at_call 81; (with_reducible refine ((K5.out _ T2.out).mono ?_)); (rintro e w5 ⟨rfl, hb5⟩; have HB5 := Hd.mk hb5; have hc5 := bcell hb5; clear hb5))
                    | (go_at_call 81; (with_reducible refine ((K6.out _ (SlS_up HB5.out T3.out)).mono ?_)); (rintro e w6 ⟨rfl, hb6⟩; have HB6 := Hd.mk hb6; clear hb6)))
                  go_roundw
                  case rel => exact ⟨j + 1, r, by omega, by go_num, HR2.out, by rw [← HE4.out, hbd, hel, seqI_0 rfl, seqI_0 rfl], step (step HBB.out HB5.out) HB6.out⟩
                  case measure => simp [intOf]; omega
                · have K6 := Hd.mk (fun w h => (K4.out w h).mono fun _ _ g => g.2 hel)
                  have Q := Hd.mk (show errSs el = errSs ks by rw [← HE4.out, hbd, seqI_0 rfl, seqI_n hel])
                  go_wp2_with (first
                    | (go_at_call 81; (with_reducible refine ((K5.out _ T2.out).mono ?_)); (rintro e w5 ⟨rfl, hb5⟩; have HB5 := Hd.mk hb5; have hc5 := bcell hb5; clear hb5))
                    | (go_at_call 81; (with_reducible refine ((K6.out _ (SlS_up HB5.out T3.out)).mono ?_)); (rintro e w6 ⟨rfl, hb6⟩; have HB6 := Hd.mk hb6; clear hb6)))
                  exact ⟨rfl, ends_no Q.out hel ⟨rfl, step (step HBB.out HB5.out) HB6.out⟩⟩
              · have K5 := Hd.mk (fun w h => (K3.out w h).mono fun _ _ g => g.2 hbd)
                have Q := Hd.mk (show errSs bd = errSs ks by rw [← HE4.out, seqI_n hbd, seqI_n hbd])
                go_wp2_with (first
                    | (go_at_call 81; (with_reducible refine ((K5.out _ T2.out).mono ?_)); (rintro e w5 ⟨rfl, hb5⟩; have HB5 := Hd.mk hb5; have hc5 := bcell hb5; clear hb5)))
                exact ⟨rfl, ends_no Q.out hbd ⟨rfl, step HBB.out HB5.out⟩⟩
        · go_wp2_with (first
            |(go_at_call 36; (with_reducible refine ((ask_ok _ _).mono ?_)); (rintro e w1 ⟨rfl, rfl⟩))
            | (go_at_call 121; (with_reducible refine ((shape9 _).mono ?_)); (rintro e w1 ⟨rfl, rfl⟩)))
          clear b0 lt2
          go_loopw [102] (fun i w' => ∃ (j2 : Nat) (r2 : Exs), j2 ≤ 1 ∧ i = .int .i64 j2 ∧ r2.toList = e.toList.drop j2 ∧ errL r2 = errL e ∧ Below (wo.alloc (.cells #[.int .i64 9, .string ⟨#[]⟩, .slice (some ⟨B9, o9, none⟩) 1 c1, .slice A2 0 c2, .slice A3 0 c3] 98 (0, 0))).heap.size (wo.alloc (.cells #[.int .i64 9, .string ⟨#[]⟩, .slice (some ⟨B9, o9, none⟩) 1 c1, .slice A2 0 c2, .slice A3 0 c3] 98 (0, 0))) w') (fun i _ => 1 - (intOf i).toNat)
          case atStart => exact ⟨0, e, by omega, rfl, rfl, rfl, Below.refl _ _⟩
          case round =>
            obtain ⟨j2, r2, hj2, rfl, hr, hd, hb⟩ := hrel
            have HR' := Hd.mk hr
            have HD' := Hd.mk hd
            have HB' := Hd.mk hb
            have hcb := bcell hb
            have hsz : wo.heap.size < wr.heap.size := by have := hb.size; simp at this; omega
            clear hr hd hb
            by_cases hlt2 : j2 < 1
            · cases r2 with
              | nil => exfalso; have := congrArg List.length HR'.out; simp [Exs.toList] at this; have := hl1.out; omega
              | cons e1 r2 =>
              obtain ⟨m1, hr2⟩ := at_drop HR'.out
              have HR2' := Hd.mk hr2
              obtain ⟨B', o', hB', g1⟩ := S1.out.at (by omega)
              cases hB'
              have i1 := Ex.In_below (step (up (up0 _) _) HB'.out) e1 (g1 j2 e1 m1)
              have hx := EI.out e1 (List.mem_of_getElem? m1)
              obtain ⟨v0, v1, v2, v3, v4, v5, v6, v7, v8, a0, a1, a2, a3, a4, a5, a6, ax⟩ := Ex.In_Is i1
              have AX := Hd.mk ax
              have lt2 : B9 < wr.heap.size := World.block_lt_of_cell? wr _ a0
              clear ax i1 g1 m1 hr2
              by_cases he : errE e1 = 0
              · have E := Hd.mk (hx.ok he)
                clear hx
                go_wp2_with (go_at_call 42; (refine ((E.out _ _ (Ex.Is_below (up (up0 _) _) AX.out)).mono ?_)); (rintro e w5 ⟨rfl, hb5⟩; have HB5 := Hd.mk hb5; clear hb5))
                go_roundw
                case rel => exact ⟨j2 + 1, r2, by omega, by go_num, HR2'.out, by rw [← HD'.out, errL, seqI_0 he], HB'.out.trans ((step (up (up0 _) _) HB5.out).mono HB'.out.size)⟩
                case measure => simp [intOf]; omega
              · have E := Hd.mk (hx.no rfl he)
                have hq : errE e1 = errSs ks := by
                  have h1 : errL e = errE e1 := by rw [← HD'.out, errL, seqI_n he]
                  rw [← HE3.out, h1, seqI_n he, seqI_n he]
                have Q := Hd.mk hq
                clear hx hq
                go_wp2_with (go_at_call 42; (refine ((E.out _ _ (Ex.Is_below (up (up0 _) _) AX.out)).mono ?_)); (rintro e w5 ⟨rfl, hb5⟩; have HB5 := Hd.mk hb5; clear hb5))
                exact ⟨rfl, ends_no Q.out he ⟨rfl, step HB.out ((up (up0 _) _).trans (HB'.out.mono (by simp)) |>.trans ((step (up (up0 _) _) HB5.out).mono (by omega)))⟩⟩
            · have hj3 : j2 = 1 := by omega
              subst hj3
              have hnil : r2 = .nil := Exs.toList_inj (b := .nil) (by have := HR'.out; rw [List.drop_of_length_le (by rw [← hl1.out]; omega)] at this; exact this)
              subst hnil
              have hbig := step (up (up0 wo) _) HB'.out
              have T2 := Hd.mk (SlS_up hbig S2.out)
              have T3 := Hd.mk (SlS_up hbig S3.out)
              have HE4 := Hd.mk (show seqI (seqI (errSs bd) (errSs el)) (errSs r) = errSs ks by rw [← HE3.out, ← HD'.out, errL, seqI_0 rfl])
              have HBB := Hd.mk (step HB.out hbig)
              clear hbig
              by_cases hbd : errSs bd = 0
              · have K5 := Hd.mk (fun w h => (K3.out w h).mono fun _ _ g => g.1 hbd)
                by_cases hel : errSs el = 0
                · have K6 := Hd.mk (fun w h => (K4.out w h).mono fun _ _ g => g.1 hel)
                  go_wp2_with (first
                    | (go_at_call 81; (with_reducible refine ((K5.out _ T2.out).mono ?_)); (rintro e w5 ⟨rfl, hb5⟩; have HB5 := Hd.mk hb5; have hc5 := bcell hb5; clear hb5))
                    | (go_at_call 81; (with_reducible refine ((K6.out _ (SlS_up HB5.out T3.out)).mono ?_)); (rintro e w6 ⟨rfl, hb6⟩; have HB6 := Hd.mk hb6; clear hb6)))
                  go_roundw
                  case rel => exact ⟨j + 1, r, by omega, by go_num, HR2.out, by rw [← HE4.out, hbd, hel, seqI_0 rfl, seqI_0 rfl], step (step HBB.out HB5.out) HB6.out⟩
                  case measure => simp [intOf]; omega
                · have K6 := Hd.mk (fun w h => (K4.out w h).mono fun _ _ g => g.2 hel)
                  have Q := Hd.mk (show errSs el = errSs ks by rw [← HE4.out, hbd, seqI_0 rfl, seqI_n hel])
                  go_wp2_with (first
                    | (go_at_call 81; (with_reducible refine ((K5.out _ T2.out).mono ?_)); (rintro e w5 ⟨rfl, hb5⟩; have HB5 := Hd.mk hb5; have hc5 := bcell hb5; clear hb5))
                    | (go_at_call 81; (with_reducible refine ((K6.out _ (SlS_up HB5.out T3.out)).mono ?_)); (rintro e w6 ⟨rfl, hb6⟩; have HB6 := Hd.mk hb6; clear hb6)))
                  exact ⟨rfl, ends_no Q.out hel ⟨rfl, step (step HBB.out HB5.out) HB6.out⟩⟩
              · have K5 := Hd.mk (fun w h => (K3.out w h).mono fun _ _ g => g.2 hbd)
                have Q := Hd.mk (show errSs bd = errSs ks by rw [← HE4.out, seqI_n hbd, seqI_n hbd])
                go_wp2_with (first
                    | (go_at_call 81; (with_reducible refine ((K5.out _ T2.out).mono ?_)); (rintro e w5 ⟨rfl, hb5⟩; have HB5 := Hd.mk hb5; have hc5 := bcell hb5; clear hb5)))
                exact ⟨rfl, ends_no Q.out hbd ⟨rfl, step HBB.out HB5.out⟩⟩
    · have NO := Hd.mk (show errSs ks = 1 by rw [← HE.out, errSs, errS, if_neg hst]; rfl)
      rw [← hl2.out, ← hl3.out] at hst
      have HST := Hd.mk hst
      clear hst
      by_cases hk0 : k < 1
      · go_wp2_with (first
          | (go_at_call 36; (with_reducible refine ((ask_ok _ _).mono ?_)); (rintro e w1 ⟨rfl, rfl⟩))
          | (go_at_call 36; (with_reducible refine ((ask_no 1 (by decide) _).mono ?_)); (rintro e w1 ⟨rfl, rfl⟩)))
        exact ⟨rfl, ends_no NO.out.symm (by decide) ⟨rfl, up HB.out _⟩⟩
      by_cases hk9 : 9 < k
      · have h9 : decide (k ≤ 9) = false := decide_eq_false (by omega)
        go_wp2_with (first
          | (go_at_call 36; (with_reducible refine ((ask_ok _ _).mono ?_)); (rintro e w1 ⟨rfl, rfl⟩))
          | (go_at_call 36; (with_reducible refine ((ask_no 1 (by decide) _).mono ?_)); (rintro e w1 ⟨rfl, rfl⟩)))
        exact ⟨rfl, ends_no NO.out.symm (by decide) ⟨rfl, up HB.out _⟩⟩
      have hk' : k = 1 ∨ k = 2 ∨ k = 3 ∨ k = 4 ∨ k = 5 ∨ k = 6 ∨ k = 7 ∨ k = 8 ∨ k = 9 := by omega
      rcases hk' with rfl | rfl | rfl | rfl | rfl | rfl | rfl | rfl | rfl
      · clear hk0 hk9
        by_cases gl : 1 ≤ l1
        rotate_left
        · have gl2 : l1 = 0 := by omega
          have gl3 : decide ((1 : Int) ≤ (l1 : Int)) = false := decide_eq_false (by omega)
          clear gl
          go_wp2_with (first
          | (go_at_call 36; (with_reducible refine ((ask_ok _ _).mono ?_)); (rintro e w1 ⟨rfl, rfl⟩))
          | (go_at_call 36; (with_reducible refine ((ask_no 1 (by decide) _).mono ?_)); (rintro e w1 ⟨rfl, rfl⟩))
          | (go_at_call 121; (with_reducible refine ((shape1 _).mono ?_)); (rintro e w1 ⟨rfl, rfl⟩)))
          exact ⟨rfl, ends_no NO.out.symm (by decide) ⟨rfl, up HB.out _⟩⟩
        by_cases gm : l1 ≤ 1
        rotate_left
        · have gm2 : decide ((l1 : Int) ≤ 1) = false := decide_eq_false (by omega)
          clear gm
          go_wp2_with (first
          | (go_at_call 36; (with_reducible refine ((ask_ok _ _).mono ?_)); (rintro e w1 ⟨rfl, rfl⟩))
          | (go_at_call 36; (with_reducible refine ((ask_no 1 (by decide) _).mono ?_)); (rintro e w1 ⟨rfl, rfl⟩))
          | (go_at_call 121; (with_reducible refine ((shape1 _).mono ?_)); (rintro e w1 ⟨rfl, rfl⟩)))
          exact ⟨rfl, ends_no NO.out.symm (by decide) ⟨rfl, up HB.out _⟩⟩
        obtain rfl : l1 = 1 := by omega
        by_cases gb : l2 = 0
        rotate_left
        · have gb2 : ((l2 : Int) == 0) = false := beq_eq_false_iff_ne.mpr (by omega)
          clear gb
          go_wp2_with (first
          | (go_at_call 36; (with_reducible refine ((ask_ok _ _).mono ?_)); (rintro e w1 ⟨rfl, rfl⟩))
          | (go_at_call 36; (with_reducible refine ((ask_no 1 (by decide) _).mono ?_)); (rintro e w1 ⟨rfl, rfl⟩))
          | (go_at_call 121; (with_reducible refine ((shape1 _).mono ?_)); (rintro e w1 ⟨rfl, rfl⟩)))
          exact ⟨rfl, ends_no NO.out.symm (by decide) ⟨rfl, up HB.out _⟩⟩
        obtain rfl : l2 = 0 := gb
        by_cases ge : l3 = 0
        rotate_left
        · have ge2 : ((l3 : Int) == 0) = false := beq_eq_false_iff_ne.mpr (by omega)
          clear ge
          go_wp2_with (first
          | (go_at_call 36; (with_reducible refine ((ask_ok _ _).mono ?_)); (rintro e w1 ⟨rfl, rfl⟩))
          | (go_at_call 36; (with_reducible refine ((ask_no 1 (by decide) _).mono ?_)); (rintro e w1 ⟨rfl, rfl⟩))
          | (go_at_call 121; (with_reducible refine ((shape1 _).mono ?_)); (rintro e w1 ⟨rfl, rfl⟩)))
          exact ⟨rfl, ends_no NO.out.symm (by decide) ⟨rfl, up HB.out _⟩⟩
        obtain rfl : l3 = 0 := ge
        exact absurd (by unfold statedB; simp [← hl1.out]; try omega) HST.out
      · clear hk0 hk9
        by_cases gl : 1 ≤ l1
        rotate_left
        · have gl2 : l1 = 0 := by omega
          have gl3 : decide ((1 : Int) ≤ (l1 : Int)) = false := decide_eq_false (by omega)
          clear gl
          go_wp2_with (first
          | (go_at_call 36; (with_reducible refine ((ask_ok _ _).mono ?_)); (rintro e w1 ⟨rfl, rfl⟩))
          | (go_at_call 36; (with_reducible refine ((ask_no 1 (by decide) _).mono ?_)); (rintro e w1 ⟨rfl, rfl⟩))
          | (go_at_call 121; (with_reducible refine ((shape2 _).mono ?_)); (rintro e w1 ⟨rfl, rfl⟩)))
          exact ⟨rfl, ends_no NO.out.symm (by decide) ⟨rfl, up HB.out _⟩⟩
        by_cases gm : l1 ≤ 1
        rotate_left
        · have gm2 : decide ((l1 : Int) ≤ 1) = false := decide_eq_false (by omega)
          clear gm
          go_wp2_with (first
          | (go_at_call 36; (with_reducible refine ((ask_ok _ _).mono ?_)); (rintro e w1 ⟨rfl, rfl⟩))
          | (go_at_call 36; (with_reducible refine ((ask_no 1 (by decide) _).mono ?_)); (rintro e w1 ⟨rfl, rfl⟩))
          | (go_at_call 121; (with_reducible refine ((shape2 _).mono ?_)); (rintro e w1 ⟨rfl, rfl⟩)))
          exact ⟨rfl, ends_no NO.out.symm (by decide) ⟨rfl, up HB.out _⟩⟩
        obtain rfl : l1 = 1 := by omega
        by_cases gb : l2 = 0
        rotate_left
        · have gb2 : ((l2 : Int) == 0) = false := beq_eq_false_iff_ne.mpr (by omega)
          clear gb
          go_wp2_with (first
          | (go_at_call 36; (with_reducible refine ((ask_ok _ _).mono ?_)); (rintro e w1 ⟨rfl, rfl⟩))
          | (go_at_call 36; (with_reducible refine ((ask_no 1 (by decide) _).mono ?_)); (rintro e w1 ⟨rfl, rfl⟩))
          | (go_at_call 121; (with_reducible refine ((shape2 _).mono ?_)); (rintro e w1 ⟨rfl, rfl⟩)))
          exact ⟨rfl, ends_no NO.out.symm (by decide) ⟨rfl, up HB.out _⟩⟩
        obtain rfl : l2 = 0 := gb
        by_cases ge : l3 = 0
        rotate_left
        · have ge2 : ((l3 : Int) == 0) = false := beq_eq_false_iff_ne.mpr (by omega)
          clear ge
          go_wp2_with (first
          | (go_at_call 36; (with_reducible refine ((ask_ok _ _).mono ?_)); (rintro e w1 ⟨rfl, rfl⟩))
          | (go_at_call 36; (with_reducible refine ((ask_no 1 (by decide) _).mono ?_)); (rintro e w1 ⟨rfl, rfl⟩))
          | (go_at_call 121; (with_reducible refine ((shape2 _).mono ?_)); (rintro e w1 ⟨rfl, rfl⟩)))
          exact ⟨rfl, ends_no NO.out.symm (by decide) ⟨rfl, up HB.out _⟩⟩
        obtain rfl : l3 = 0 := ge
        exact absurd (by unfold statedB; simp [← hl1.out]; try omega) HST.out
      · clear hk0 hk9
        by_cases gn : n.toList.isEmpty = true
        rotate_left
        · have gn2 := empty_no gn
          clear gn
          go_wp2_with (first
          | (go_at_call 36; (with_reducible refine ((ask_ok _ _).mono ?_)); (rintro e w1 ⟨rfl, rfl⟩))
          | (go_at_call 36; (with_reducible refine ((ask_no 1 (by decide) _).mono ?_)); (rintro e w1 ⟨rfl, rfl⟩))
          | (go_at_call 121; (with_reducible refine ((shape3 _).mono ?_)); (rintro e w1 ⟨rfl, rfl⟩)))
          exact ⟨rfl, ends_no NO.out.symm (by decide) ⟨rfl, up HB.out _⟩⟩
        obtain rfl := empty_of gn
        by_cases gl : 1 ≤ l1
        rotate_left
        · have gl2 : l1 = 0 := by omega
          have gl3 : decide ((1 : Int) ≤ (l1 : Int)) = false := decide_eq_false (by omega)
          clear gl
          go_wp2_with (first
          | (go_at_call 36; (with_reducible refine ((ask_ok _ _).mono ?_)); (rintro e w1 ⟨rfl, rfl⟩))
          | (go_at_call 36; (with_reducible refine ((ask_no 1 (by decide) _).mono ?_)); (rintro e w1 ⟨rfl, rfl⟩))
          | (go_at_call 121; (with_reducible refine ((shape3 _).mono ?_)); (rintro e w1 ⟨rfl, rfl⟩)))
          exact ⟨rfl, ends_no NO.out.symm (by decide) ⟨rfl, up HB.out _⟩⟩
        by_cases gm : l1 ≤ 1
        rotate_left
        · have gm2 : decide ((l1 : Int) ≤ 1) = false := decide_eq_false (by omega)
          clear gm
          go_wp2_with (first
          | (go_at_call 36; (with_reducible refine ((ask_ok _ _).mono ?_)); (rintro e w1 ⟨rfl, rfl⟩))
          | (go_at_call 36; (with_reducible refine ((ask_no 1 (by decide) _).mono ?_)); (rintro e w1 ⟨rfl, rfl⟩))
          | (go_at_call 121; (with_reducible refine ((shape3 _).mono ?_)); (rintro e w1 ⟨rfl, rfl⟩)))
          exact ⟨rfl, ends_no NO.out.symm (by decide) ⟨rfl, up HB.out _⟩⟩
        obtain rfl : l1 = 1 := by omega
        exact absurd (by unfold statedB; simp [← hl1.out]; try omega) HST.out
      · clear hk0 hk9
        by_cases gn : n.toList.isEmpty = true
        rotate_left
        · have gn2 := empty_no gn
          clear gn
          go_wp2_with (first
          | (go_at_call 36; (with_reducible refine ((ask_ok _ _).mono ?_)); (rintro e w1 ⟨rfl, rfl⟩))
          | (go_at_call 36; (with_reducible refine ((ask_no 1 (by decide) _).mono ?_)); (rintro e w1 ⟨rfl, rfl⟩))
          | (go_at_call 121; (with_reducible refine ((shape4 _).mono ?_)); (rintro e w1 ⟨rfl, rfl⟩)))
          exact ⟨rfl, ends_no NO.out.symm (by decide) ⟨rfl, up HB.out _⟩⟩
        obtain rfl := empty_of gn
        by_cases gl : 1 ≤ l1
        rotate_left
        · have gl2 : l1 = 0 := by omega
          have gl3 : decide ((1 : Int) ≤ (l1 : Int)) = false := decide_eq_false (by omega)
          clear gl
          go_wp2_with (first
          | (go_at_call 36; (with_reducible refine ((ask_ok _ _).mono ?_)); (rintro e w1 ⟨rfl, rfl⟩))
          | (go_at_call 36; (with_reducible refine ((ask_no 1 (by decide) _).mono ?_)); (rintro e w1 ⟨rfl, rfl⟩))
          | (go_at_call 121; (with_reducible refine ((shape4 _).mono ?_)); (rintro e w1 ⟨rfl, rfl⟩)))
          exact ⟨rfl, ends_no NO.out.symm (by decide) ⟨rfl, up HB.out _⟩⟩
        by_cases gm : l1 ≤ 1
        rotate_left
        · have gm2 : decide ((l1 : Int) ≤ 1) = false := decide_eq_false (by omega)
          clear gm
          go_wp2_with (first
          | (go_at_call 36; (with_reducible refine ((ask_ok _ _).mono ?_)); (rintro e w1 ⟨rfl, rfl⟩))
          | (go_at_call 36; (with_reducible refine ((ask_no 1 (by decide) _).mono ?_)); (rintro e w1 ⟨rfl, rfl⟩))
          | (go_at_call 121; (with_reducible refine ((shape4 _).mono ?_)); (rintro e w1 ⟨rfl, rfl⟩)))
          exact ⟨rfl, ends_no NO.out.symm (by decide) ⟨rfl, up HB.out _⟩⟩
        obtain rfl : l1 = 1 := by omega
        by_cases ge : l3 = 0
        rotate_left
        · have ge2 : ((l3 : Int) == 0) = false := beq_eq_false_iff_ne.mpr (by omega)
          clear ge
          go_wp2_with (first
          | (go_at_call 36; (with_reducible refine ((ask_ok _ _).mono ?_)); (rintro e w1 ⟨rfl, rfl⟩))
          | (go_at_call 36; (with_reducible refine ((ask_no 1 (by decide) _).mono ?_)); (rintro e w1 ⟨rfl, rfl⟩))
          | (go_at_call 121; (with_reducible refine ((shape4 _).mono ?_)); (rintro e w1 ⟨rfl, rfl⟩)))
          exact ⟨rfl, ends_no NO.out.symm (by decide) ⟨rfl, up HB.out _⟩⟩
        obtain rfl : l3 = 0 := ge
        exact absurd (by unfold statedB; simp [← hl1.out]; try omega) HST.out
      · clear hk0 hk9
        by_cases gn : n.toList.isEmpty = true
        rotate_left
        · have gn2 := empty_no gn
          clear gn
          go_wp2_with (first
          | (go_at_call 36; (with_reducible refine ((ask_ok _ _).mono ?_)); (rintro e w1 ⟨rfl, rfl⟩))
          | (go_at_call 36; (with_reducible refine ((ask_no 1 (by decide) _).mono ?_)); (rintro e w1 ⟨rfl, rfl⟩))
          | (go_at_call 121; (with_reducible refine ((shape5 _).mono ?_)); (rintro e w1 ⟨rfl, rfl⟩)))
          exact ⟨rfl, ends_no NO.out.symm (by decide) ⟨rfl, up HB.out _⟩⟩
        obtain rfl := empty_of gn
        by_cases gm : l1 ≤ 1
        rotate_left
        · have gm2 : decide ((l1 : Int) ≤ 1) = false := decide_eq_false (by omega)
          clear gm
          go_wp2_with (first
          | (go_at_call 36; (with_reducible refine ((ask_ok _ _).mono ?_)); (rintro e w1 ⟨rfl, rfl⟩))
          | (go_at_call 36; (with_reducible refine ((ask_no 1 (by decide) _).mono ?_)); (rintro e w1 ⟨rfl, rfl⟩))
          | (go_at_call 121; (with_reducible refine ((shape5 _).mono ?_)); (rintro e w1 ⟨rfl, rfl⟩)))
          exact ⟨rfl, ends_no NO.out.symm (by decide) ⟨rfl, up HB.out _⟩⟩
        have gm3 : decide ((l1 : Int) ≤ 1) = true := decide_eq_true (by omega)
        by_cases gb : l2 = 0
        rotate_left
        · have gb2 : ((l2 : Int) == 0) = false := beq_eq_false_iff_ne.mpr (by omega)
          clear gb
          go_wp2_with (first
          | (go_at_call 36; (with_reducible refine ((ask_ok _ _).mono ?_)); (rintro e w1 ⟨rfl, rfl⟩))
          | (go_at_call 36; (with_reducible refine ((ask_no 1 (by decide) _).mono ?_)); (rintro e w1 ⟨rfl, rfl⟩))
          | (go_at_call 121; (with_reducible refine ((shape5 _).mono ?_)); (rintro e w1 ⟨rfl, rfl⟩)))
          exact ⟨rfl, ends_no NO.out.symm (by decide) ⟨rfl, up HB.out _⟩⟩
        obtain rfl : l2 = 0 := gb
        by_cases ge : l3 = 0
        rotate_left
        · have ge2 : ((l3 : Int) == 0) = false := beq_eq_false_iff_ne.mpr (by omega)
          clear ge
          go_wp2_with (first
          | (go_at_call 36; (with_reducible refine ((ask_ok _ _).mono ?_)); (rintro e w1 ⟨rfl, rfl⟩))
          | (go_at_call 36; (with_reducible refine ((ask_no 1 (by decide) _).mono ?_)); (rintro e w1 ⟨rfl, rfl⟩))
          | (go_at_call 121; (with_reducible refine ((shape5 _).mono ?_)); (rintro e w1 ⟨rfl, rfl⟩)))
          exact ⟨rfl, ends_no NO.out.symm (by decide) ⟨rfl, up HB.out _⟩⟩
        obtain rfl : l3 = 0 := ge
        exact absurd (by unfold statedB; simp [← hl1.out]; try omega) HST.out
      · clear hk0 hk9
        by_cases gn : n.toList.isEmpty = true
        rotate_left
        · have gn2 := empty_no gn
          clear gn
          go_wp2_with (first
          | (go_at_call 36; (with_reducible refine ((ask_ok _ _).mono ?_)); (rintro e w1 ⟨rfl, rfl⟩))
          | (go_at_call 36; (with_reducible refine ((ask_no 1 (by decide) _).mono ?_)); (rintro e w1 ⟨rfl, rfl⟩))
          | (go_at_call 121; (with_reducible refine ((shape6 _).mono ?_)); (rintro e w1 ⟨rfl, rfl⟩)))
          exact ⟨rfl, ends_no NO.out.symm (by decide) ⟨rfl, up HB.out _⟩⟩
        obtain rfl := empty_of gn
        by_cases gl : 1 ≤ l1
        rotate_left
        · have gl2 : l1 = 0 := by omega
          have gl3 : decide ((1 : Int) ≤ (l1 : Int)) = false := decide_eq_false (by omega)
          clear gl
          go_wp2_with (first
          | (go_at_call 36; (with_reducible refine ((ask_ok _ _).mono ?_)); (rintro e w1 ⟨rfl, rfl⟩))
          | (go_at_call 36; (with_reducible refine ((ask_no 1 (by decide) _).mono ?_)); (rintro e w1 ⟨rfl, rfl⟩))
          | (go_at_call 121; (with_reducible refine ((shape6 _).mono ?_)); (rintro e w1 ⟨rfl, rfl⟩)))
          exact ⟨rfl, ends_no NO.out.symm (by decide) ⟨rfl, up HB.out _⟩⟩
        by_cases gm : l1 ≤ 1
        rotate_left
        · have gm2 : decide ((l1 : Int) ≤ 1) = false := decide_eq_false (by omega)
          clear gm
          go_wp2_with (first
          | (go_at_call 36; (with_reducible refine ((ask_ok _ _).mono ?_)); (rintro e w1 ⟨rfl, rfl⟩))
          | (go_at_call 36; (with_reducible refine ((ask_no 1 (by decide) _).mono ?_)); (rintro e w1 ⟨rfl, rfl⟩))
          | (go_at_call 121; (with_reducible refine ((shape6 _).mono ?_)); (rintro e w1 ⟨rfl, rfl⟩)))
          exact ⟨rfl, ends_no NO.out.symm (by decide) ⟨rfl, up HB.out _⟩⟩
        obtain rfl : l1 = 1 := by omega
        by_cases gb : l2 = 0
        rotate_left
        · have gb2 : ((l2 : Int) == 0) = false := beq_eq_false_iff_ne.mpr (by omega)
          clear gb
          go_wp2_with (first
          | (go_at_call 36; (with_reducible refine ((ask_ok _ _).mono ?_)); (rintro e w1 ⟨rfl, rfl⟩))
          | (go_at_call 36; (with_reducible refine ((ask_no 1 (by decide) _).mono ?_)); (rintro e w1 ⟨rfl, rfl⟩))
          | (go_at_call 121; (with_reducible refine ((shape6 _).mono ?_)); (rintro e w1 ⟨rfl, rfl⟩)))
          exact ⟨rfl, ends_no NO.out.symm (by decide) ⟨rfl, up HB.out _⟩⟩
        obtain rfl : l2 = 0 := gb
        by_cases ge : l3 = 0
        rotate_left
        · have ge2 : ((l3 : Int) == 0) = false := beq_eq_false_iff_ne.mpr (by omega)
          clear ge
          go_wp2_with (first
          | (go_at_call 36; (with_reducible refine ((ask_ok _ _).mono ?_)); (rintro e w1 ⟨rfl, rfl⟩))
          | (go_at_call 36; (with_reducible refine ((ask_no 1 (by decide) _).mono ?_)); (rintro e w1 ⟨rfl, rfl⟩))
          | (go_at_call 121; (with_reducible refine ((shape6 _).mono ?_)); (rintro e w1 ⟨rfl, rfl⟩)))
          exact ⟨rfl, ends_no NO.out.symm (by decide) ⟨rfl, up HB.out _⟩⟩
        obtain rfl : l3 = 0 := ge
        exact absurd (by unfold statedB; simp [← hl1.out]; try omega) HST.out
      · clear hk0 hk9
        by_cases gn : n.toList.isEmpty = true
        rotate_left
        · have gn2 := empty_no gn
          clear gn
          go_wp2_with (first
          | (go_at_call 36; (with_reducible refine ((ask_ok _ _).mono ?_)); (rintro e w1 ⟨rfl, rfl⟩))
          | (go_at_call 36; (with_reducible refine ((ask_no 1 (by decide) _).mono ?_)); (rintro e w1 ⟨rfl, rfl⟩))
          | (go_at_call 121; (with_reducible refine ((shape7 _).mono ?_)); (rintro e w1 ⟨rfl, rfl⟩)))
          exact ⟨rfl, ends_no NO.out.symm (by decide) ⟨rfl, up HB.out _⟩⟩
        obtain rfl := empty_of gn
        by_cases gl : 1 ≤ l1
        rotate_left
        · have gl2 : l1 = 0 := by omega
          have gl3 : decide ((1 : Int) ≤ (l1 : Int)) = false := decide_eq_false (by omega)
          clear gl
          go_wp2_with (first
          | (go_at_call 36; (with_reducible refine ((ask_ok _ _).mono ?_)); (rintro e w1 ⟨rfl, rfl⟩))
          | (go_at_call 36; (with_reducible refine ((ask_no 1 (by decide) _).mono ?_)); (rintro e w1 ⟨rfl, rfl⟩))
          | (go_at_call 121; (with_reducible refine ((shape7 _).mono ?_)); (rintro e w1 ⟨rfl, rfl⟩)))
          exact ⟨rfl, ends_no NO.out.symm (by decide) ⟨rfl, up HB.out _⟩⟩
        by_cases gm : l1 ≤ 1
        rotate_left
        · have gm2 : decide ((l1 : Int) ≤ 1) = false := decide_eq_false (by omega)
          clear gm
          go_wp2_with (first
          | (go_at_call 36; (with_reducible refine ((ask_ok _ _).mono ?_)); (rintro e w1 ⟨rfl, rfl⟩))
          | (go_at_call 36; (with_reducible refine ((ask_no 1 (by decide) _).mono ?_)); (rintro e w1 ⟨rfl, rfl⟩))
          | (go_at_call 121; (with_reducible refine ((shape7 _).mono ?_)); (rintro e w1 ⟨rfl, rfl⟩)))
          exact ⟨rfl, ends_no NO.out.symm (by decide) ⟨rfl, up HB.out _⟩⟩
        obtain rfl : l1 = 1 := by omega
        by_cases gb : l2 = 0
        rotate_left
        · have gb2 : ((l2 : Int) == 0) = false := beq_eq_false_iff_ne.mpr (by omega)
          clear gb
          go_wp2_with (first
          | (go_at_call 36; (with_reducible refine ((ask_ok _ _).mono ?_)); (rintro e w1 ⟨rfl, rfl⟩))
          | (go_at_call 36; (with_reducible refine ((ask_no 1 (by decide) _).mono ?_)); (rintro e w1 ⟨rfl, rfl⟩))
          | (go_at_call 121; (with_reducible refine ((shape7 _).mono ?_)); (rintro e w1 ⟨rfl, rfl⟩)))
          exact ⟨rfl, ends_no NO.out.symm (by decide) ⟨rfl, up HB.out _⟩⟩
        obtain rfl : l2 = 0 := gb
        by_cases ge : l3 = 0
        rotate_left
        · have ge2 : ((l3 : Int) == 0) = false := beq_eq_false_iff_ne.mpr (by omega)
          clear ge
          go_wp2_with (first
          | (go_at_call 36; (with_reducible refine ((ask_ok _ _).mono ?_)); (rintro e w1 ⟨rfl, rfl⟩))
          | (go_at_call 36; (with_reducible refine ((ask_no 1 (by decide) _).mono ?_)); (rintro e w1 ⟨rfl, rfl⟩))
          | (go_at_call 121; (with_reducible refine ((shape7 _).mono ?_)); (rintro e w1 ⟨rfl, rfl⟩)))
          exact ⟨rfl, ends_no NO.out.symm (by decide) ⟨rfl, up HB.out _⟩⟩
        obtain rfl : l3 = 0 := ge
        exact absurd (by unfold statedB; simp [← hl1.out]; try omega) HST.out
      · clear hk0 hk9
        by_cases gm : l1 ≤ 0
        rotate_left
        · have gm2 : decide ((l1 : Int) ≤ 0) = false := decide_eq_false (by omega)
          have gm4 : l1 ≠ 0 := by omega
          have gm5 : decide (l1 = 0) = false := decide_eq_false gm4
          clear gm
          go_wp2_with (first
          | (go_at_call 36; (with_reducible refine ((ask_ok _ _).mono ?_)); (rintro e w1 ⟨rfl, rfl⟩))
          | (go_at_call 36; (with_reducible refine ((ask_no 1 (by decide) _).mono ?_)); (rintro e w1 ⟨rfl, rfl⟩))
          | (go_at_call 121; (with_reducible refine ((shape8 _).mono ?_)); (rintro e w1 ⟨rfl, rfl⟩)))
          exact ⟨rfl, ends_no NO.out.symm (by decide) ⟨rfl, up HB.out _⟩⟩
        obtain rfl : l1 = 0 := by omega
        exact absurd (by unfold statedB; simp [← hl1.out]; try omega) HST.out
      · clear hk0 hk9
        by_cases gn : n.toList.isEmpty = true
        rotate_left
        · have gn2 := empty_no gn
          clear gn
          go_wp2_with (first
          | (go_at_call 36; (with_reducible refine ((ask_ok _ _).mono ?_)); (rintro e w1 ⟨rfl, rfl⟩))
          | (go_at_call 36; (with_reducible refine ((ask_no 1 (by decide) _).mono ?_)); (rintro e w1 ⟨rfl, rfl⟩))
          | (go_at_call 121; (with_reducible refine ((shape9 _).mono ?_)); (rintro e w1 ⟨rfl, rfl⟩)))
          exact ⟨rfl, ends_no NO.out.symm (by decide) ⟨rfl, up HB.out _⟩⟩
        obtain rfl := empty_of gn
        by_cases gl : 1 ≤ l1
        rotate_left
        · have gl2 : l1 = 0 := by omega
          have gl3 : decide ((1 : Int) ≤ (l1 : Int)) = false := decide_eq_false (by omega)
          clear gl
          go_wp2_with (first
          | (go_at_call 36; (with_reducible refine ((ask_ok _ _).mono ?_)); (rintro e w1 ⟨rfl, rfl⟩))
          | (go_at_call 36; (with_reducible refine ((ask_no 1 (by decide) _).mono ?_)); (rintro e w1 ⟨rfl, rfl⟩))
          | (go_at_call 121; (with_reducible refine ((shape9 _).mono ?_)); (rintro e w1 ⟨rfl, rfl⟩)))
          exact ⟨rfl, ends_no NO.out.symm (by decide) ⟨rfl, up HB.out _⟩⟩
        by_cases gm : l1 ≤ 1
        rotate_left
        · have gm2 : decide ((l1 : Int) ≤ 1) = false := decide_eq_false (by omega)
          clear gm
          go_wp2_with (first
          | (go_at_call 36; (with_reducible refine ((ask_ok _ _).mono ?_)); (rintro e w1 ⟨rfl, rfl⟩))
          | (go_at_call 36; (with_reducible refine ((ask_no 1 (by decide) _).mono ?_)); (rintro e w1 ⟨rfl, rfl⟩))
          | (go_at_call 121; (with_reducible refine ((shape9 _).mono ?_)); (rintro e w1 ⟨rfl, rfl⟩)))
          exact ⟨rfl, ends_no NO.out.symm (by decide) ⟨rfl, up HB.out _⟩⟩
        obtain rfl : l1 = 1 := by omega
        by_cases gb : l2 = 0
        rotate_left
        · have gb2 : ((l2 : Int) == 0) = false := beq_eq_false_iff_ne.mpr (by omega)
          clear gb
          go_wp2_with (first
          | (go_at_call 36; (with_reducible refine ((ask_ok _ _).mono ?_)); (rintro e w1 ⟨rfl, rfl⟩))
          | (go_at_call 36; (with_reducible refine ((ask_no 1 (by decide) _).mono ?_)); (rintro e w1 ⟨rfl, rfl⟩))
          | (go_at_call 121; (with_reducible refine ((shape9 _).mono ?_)); (rintro e w1 ⟨rfl, rfl⟩)))
          exact ⟨rfl, ends_no NO.out.symm (by decide) ⟨rfl, up HB.out _⟩⟩
        obtain rfl : l2 = 0 := gb
        by_cases ge : l3 = 0
        rotate_left
        · have ge2 : ((l3 : Int) == 0) = false := beq_eq_false_iff_ne.mpr (by omega)
          clear ge
          go_wp2_with (first
          | (go_at_call 36; (with_reducible refine ((ask_ok _ _).mono ?_)); (rintro e w1 ⟨rfl, rfl⟩))
          | (go_at_call 36; (with_reducible refine ((ask_no 1 (by decide) _).mono ?_)); (rintro e w1 ⟨rfl, rfl⟩))
          | (go_at_call 121; (with_reducible refine ((shape9 _).mono ?_)); (rintro e w1 ⟨rfl, rfl⟩)))
          exact ⟨rfl, ends_no NO.out.symm (by decide) ⟨rfl, up HB.out _⟩⟩
        obtain rfl : l3 = 0 := ge
        obtain ⟨B', o', rfl, g1⟩ := S1.out.at (by decide)
        obtain ⟨x, hx⟩ : ∃ x, e.toList = [x] := List.length_eq_one_iff.1 hl1.out.symm
        have i1 := g1 0 x (by rw [hx]; rfl)
        obtain ⟨v0, v1, v2, v3, v4, v5, v6, v7, v8, b0, b1, b2, b3, b4, b5, b6, ax⟩ := Ex.In_Is i1
        rw [Nat.zero_mul, Nat.add_zero] at b0
        have hv0 : v0 = x.k := by cases x; unfold Ex.Is at ax; obtain ⟨_, _, _, he, _⟩ := ax; injection he with he; simp only [Array.mk.injEq, List.cons.injEq, Value.int.injEq, true_and] at he; exact he.1
        have lt2 : B' < wr.heap.size := World.block_lt_of_cell? wr _ b0
        by_cases gx : x.k = 4 ∨ x.k = 5
        · exact absurd (by unfold statedB; simp [gx, hx]) HST.out
        · have x4 : (v0 == 4) = false := beq_eq_false_iff_ne.mpr (by rw [hv0]; omega)
          have x5 : (v0 == 5) = false := beq_eq_false_iff_ne.mpr (by rw [hv0]; omega)
          clear gx hv0 ax b1 b2 b3 b4 b5 b6 g1 hx i1
          go_wp2_with (first
          | (go_at_call 36; (with_reducible refine ((ask_ok _ _).mono ?_)); (rintro e w1 ⟨rfl, rfl⟩))
          | (go_at_call 36; (with_reducible refine ((ask_no 1 (by decide) _).mono ?_)); (rintro e w1 ⟨rfl, rfl⟩))
          | (go_at_call 121; (with_reducible refine ((shape9 _).mono ?_)); (rintro e w1 ⟨rfl, rfl⟩)))
          exact ⟨rfl, ends_no NO.out.symm (by decide) ⟨rfl, up HB.out _⟩⟩
theorem stmtsIs : ∀ ks, StmtsIs ks := Sts.ind stmts_walk
end Go.Proofs.YtbhgpegcdiohlaaGreatDoor.Tr
