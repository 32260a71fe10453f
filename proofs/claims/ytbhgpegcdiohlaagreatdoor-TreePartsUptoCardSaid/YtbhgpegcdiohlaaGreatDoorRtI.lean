import Derived.Test.YtbhgpegcdiohlaaGreatDoorRtH
import Derived.Test.YtbhgpegcdiohlaaGreatDoorLvI
namespace Go.Proofs.YtbhgpegcdiohlaaGreatDoor.Tr
open Go Go.RowKit Go.Proofs
set_option linter.unusedVariables false
set_option maxRecDepth 100000
set_option maxHeartbeats 4000000
theorem mod33 (m : Mo) (hw : m.Wf) (cs : Array Value) (b : Nat) (w : World) (hx : m.Is w (.agg cs)) (hc : ∀ i v, cs[i]? = some v → w.cell? ⟨b, i, none⟩ = some v) :
    Calls Tryz.prog 33 #[.pointer (some ⟨b, 0, none⟩)] w (Ends (errM m) w) := by
  obtain ⟨A1, l1, c1, A2, l2, c2, hcs, s1, s2⟩ := hx
  injection hcs with hcs
  subst hcs
  have a0 := hc 0 _ rfl
  have a1 := hc 1 _ rfl
  have a2 := hc 2 _ rfl
  clear hc
  have lb : b < w.heap.size := World.block_lt_of_cell? w _ a0
  have HL1 := Hd.mk s1.1
  have HL2 := Hd.mk s2.1
  have hn1 := s1.2.1
  have hn2 := s2.2.1
  have S1 := Hd.mk s1
  have S2 := Hd.mk s2
  obtain ⟨mn, im, ds⟩ := m
  dsimp only at *
  have NZ := Hd.mk hw.1
  have IZ := Hd.mk hw.2.1
  have DI := Hd.mk (fun (d : De) (h : d ∈ ds) => declIs d (hw.2.2 d h))
  have E := Hd.mk (show errM ⟨mn, im, ds⟩ = seqI (nameErr mn) (seqI (if im.length ≤ 16 then 0 else 3) (seqI (errN im) (seqI (if ds.length ≤ 64 then 0 else 3) (errDs ds)))) from rfl)
  clear s1 s2 hw
  by_cases hq : nameErr mn = 0
  rotate_left
  · have Q := Hd.mk (show nameErr mn = _ from (E.out.trans (seqI_n hq)).symm)
    generalize hqq : nameErr mn = q2 at *
    have HN := Hd.mk hqq
    have HQ := Hd.mk hq
    clear hqq hq
    go_enter Tryz.func33, Tryz.ntmps33
    go_wp2_with (first
      | (go_at_call 35; (with_reducible refine ((nameRight mn NZ.out _).mono ?_)); (rw [HN.out]; rintro e w4 ⟨rfl, hb4⟩; have HB4 := Hd.mk hb4; have hc4 := bcell hb4; clear hb4))
      | (go_at_call 34; (with_reducible refine ((must_b q2 HQ.out _).mono ?_)); (rintro e w1 ⟨rfl, rfl⟩)))
    exact ⟨rfl, ends_no Q.out HQ.out ⟨rfl, HB4.out⟩⟩
  have HN := Hd.mk hq
  by_cases h8 : im.length ≤ 16
  rotate_left
  · have Q := Hd.mk (show (3 : Int) = _ from (E.out.trans (by rw [seqI_0 hq, if_neg h8, seqI_n (by decide)])).symm)
    have g8 : decide ((l1 : Int) ≤ 16) = false := decide_eq_false (by have := HL1.out; omega)
    clear h8 hq
    go_enter Tryz.func33, Tryz.ntmps33
    go_wp2_with (first
      | (go_at_call 35; (with_reducible refine ((nameRight mn NZ.out _).mono ?_)); (rw [HN.out]; rintro e w4 ⟨rfl, hb4⟩; have HB4 := Hd.mk hb4; have hc4 := bcell hb4; clear hb4))
      | (go_at_call 36; (with_reducible refine ((ask_no 3 (by decide) _).mono ?_)); (rintro e w1 ⟨rfl, rfl⟩))
      | (go_at_call 34; (with_reducible refine ((must_ok _).mono ?_)); (rintro e w1 ⟨rfl, rfl⟩)))
    exact ⟨rfl, ends_no Q.out (by decide) ⟨rfl, HB4.out⟩⟩
  have E2 := Hd.mk (show errM ⟨mn, im, ds⟩ = seqI (errN im) (seqI (if ds.length ≤ 64 then 0 else 3) (errDs ds)) from E.out.trans (by rw [seqI_0 hq, if_pos h8, seqI_0 rfl]))
  have g8 : decide ((l1 : Int) ≤ 16) = true := decide_eq_true (by have := HL1.out; omega)
  clear h8 hq E
  go_enter Tryz.func33, Tryz.ntmps33
  go_wp2_with (first
      | (go_at_call 35; (with_reducible refine ((nameRight mn NZ.out _).mono ?_)); (rw [HN.out]; rintro e w4 ⟨rfl, hb4⟩; have HB4 := Hd.mk hb4; have hc4 := bcell hb4; clear hb4))
      | (go_at_call 36; (with_reducible refine ((ask_ok _ _).mono ?_)); (rintro e w1 ⟨rfl, rfl⟩))
      | (go_at_call 34; (with_reducible refine ((must_ok _).mono ?_)); (rintro e w1 ⟨rfl, rfl⟩)))
  go_loopw [17] (fun i w' => ∃ (j2 : Nat) (r2 : List ByteArray), j2 ≤ l1 ∧ i = .int .i64 j2 ∧ r2 = im.drop j2 ∧ errN r2 = errN im ∧ Below w.heap.size w w') (fun i _ => l1 - (intOf i).toNat)
  case atStart => exact ⟨0, im, by omega, rfl, rfl, rfl, HB4.out⟩
  case round =>
    obtain ⟨j2, r2, hj2, rfl, hr, hd, hb⟩ := hrel
    have HR' := Hd.mk hr
    have HD' := Hd.mk hd
    have HB' := Hd.mk hb
    have hcb := bcell hb
    clear hr hd hb hc4
    by_cases hlt2 : j2 < l1
    · cases r2 with
      | nil => exfalso; have := congrArg List.length HR'.out; simp at this; have := HL1.out; omega
      | cons p r2 =>
      obtain ⟨m1, hr2⟩ := at_drop HR'.out
      have HR2' := Hd.mk hr2
      obtain ⟨B', o', rfl, g1⟩ := S1.out.at (by omega)
      have a5 := g1 j2 p m1
      unfold strIn at a5
      rw [Nat.mul_one] at a5
      have PZ1 := Hd.mk (IZ.out p (List.mem_of_getElem? m1))
      have lt2 : B' < w.heap.size := World.block_lt_of_cell? w _ a5
      clear g1 m1 hr2
      by_cases hq : nameErr p = 0
      rotate_left
      · have Q := Hd.mk (show nameErr p = errM ⟨mn, im, ds⟩ from by rw [E2.out, ← HD'.out, errN, seqI_n hq, seqI_n hq])
        generalize hqq : nameErr p = q2 at *
        have HN2 := Hd.mk hqq
        have HQ := Hd.mk hq
        clear hqq hq
        go_wp2_with (first
          | (go_at_call 35; (with_reducible refine ((nameRight p PZ1.out _).mono ?_)); (rw [HN2.out]; rintro e w5 ⟨rfl, hb5⟩; have HB5 := Hd.mk hb5; clear hb5))
          | (go_at_call 34; (with_reducible refine ((must_b q2 HQ.out _).mono ?_)); (rintro e w1 ⟨rfl, rfl⟩)))
        exact ⟨rfl, ends_no Q.out HQ.out ⟨rfl, step HB'.out HB5.out⟩⟩
      have HN2 := Hd.mk hq
      have HDn := Hd.mk (show errN r2 = errN im by rw [← HD'.out, errN, seqI_0 hq])
      clear hq
      go_wp2_with (first
          | (go_at_call 35; (with_reducible refine ((nameRight p PZ1.out _).mono ?_)); (rw [HN2.out]; rintro e w5 ⟨rfl, hb5⟩; have HB5 := Hd.mk hb5; clear hb5))
          | (go_at_call 34; (with_reducible refine ((must_ok _).mono ?_)); (rintro e w1 ⟨rfl, rfl⟩)))
      go_roundw
      case rel => exact ⟨j2 + 1, r2, by omega, by go_num, HR2'.out, HDn.out, step HB'.out HB5.out⟩
      case measure => simp [intOf]; omega
    · have hnil : r2 = [] := by have := HR'.out; rw [List.drop_of_length_le (by rw [← HL1.out]; omega)] at this; exact this
      subst hnil
      clear hj2
      have E3 := Hd.mk (show errM ⟨mn, im, ds⟩ = seqI (if ds.length ≤ 64 then 0 else 3) (errDs ds) by rw [E2.out, ← HD'.out, errN, seqI_0 rfl])
      clear HD' HR'
      by_cases h64 : ds.length ≤ 64
      rotate_left
      · have Q := Hd.mk (show (3 : Int) = _ from (E3.out.trans (by rw [if_neg h64, seqI_n (by decide)])).symm)
        have g64 : decide ((l2 : Int) ≤ 64) = false := decide_eq_false (by have := HL2.out; omega)
        clear h64
        go_wp2_with (go_at_call 36; (with_reducible refine ((ask_no 3 (by decide) _).mono ?_)); (rintro e w1 ⟨rfl, rfl⟩))
        exact ⟨rfl, ends_no Q.out (by decide) ⟨rfl, HB'.out⟩⟩
      have E4 := Hd.mk (show errM ⟨mn, im, ds⟩ = errDs ds by rw [E3.out, if_pos h64, seqI_0 rfl])
      have g64 : decide ((l2 : Int) ≤ 64) = true := decide_eq_true (by have := HL2.out; omega)
      clear h64
      go_wp2_with (go_at_call 36; (with_reducible refine ((ask_ok _ _).mono ?_)); (rintro e w1 ⟨rfl, rfl⟩))
      obtain ⟨wp, rfl⟩ : ∃ wp : World, wp = wr := ⟨_, rfl⟩
      go_loopw [33] (fun i w' => ∃ (j3 : Nat) (r3 : List De), j3 ≤ l2 ∧ i = .int .i64 j3 ∧ r3 = ds.drop j3 ∧ errDs r3 = errDs ds ∧ Below w.heap.size w w') (fun i _ => l2 - (intOf i).toNat)
      case atStart => exact ⟨0, ds, by omega, rfl, rfl, rfl, HB'.out⟩
      case round =>
        obtain ⟨j3, r3, hj3, rfl, hr, hd, hb⟩ := hrel
        have HR3 := Hd.mk hr
        have HD3 := Hd.mk hd
        have HB3 := Hd.mk hb
        clear hr hd hb hcb
        by_cases hlt3 : j3 < l2
        · cases r3 with
          | nil => exfalso; have := congrArg List.length HR3.out; simp at this; have := HL2.out; omega
          | cons d r3 =>
          obtain ⟨m1, hr2⟩ := at_drop HR3.out
          have HR4 := Hd.mk hr2
          obtain ⟨B', o', rfl, g1⟩ := S2.out.at (by omega)
          have i1 := De.In_below HB3.out d (g1 j3 d m1)
          have hx := DI.out d (List.mem_of_getElem? m1)
          obtain ⟨v0, v1, v2, v3, v4, v5, v6, v7, v8, v9, v10, v11, v12, b0, b1, b2, b3, b4, b5, b6, ax⟩ := De.In_Is i1
          have AX := Hd.mk ax
          have lt2 : B' < wr.heap.size := World.block_lt_of_cell? wr _ b0
          clear ax i1 g1 m1 hr2
          by_cases he : errD d = 0
          · have EE := Hd.mk (fun (w : World) (v : Value) (h : d.Is w v) => (hx w v h).mono fun _ _ g => g.1 he)
            clear hx
            go_wp2_with (go_at_call 37; (refine ((EE.out _ _ (De.Is_below (up (up0 _) _) AX.out)).mono ?_)); (rintro e w5 ⟨rfl, hb5⟩; have HB5 := Hd.mk hb5; clear hb5))
            go_roundw
            case rel => exact ⟨j3 + 1, r3, by omega, by go_num, HR4.out, by rw [← HD3.out, errDs, seqI_0 he], step (up HB3.out _) HB5.out⟩
            case measure => simp [intOf]; omega
          · have EE := Hd.mk (fun (w : World) (v : Value) (h : d.Is w v) => (hx w v h).mono fun _ _ g => g.2 he)
            have Q := Hd.mk (show errD d = errM ⟨mn, im, ds⟩ by rw [E4.out, ← HD3.out, errDs, seqI_n he])
            clear hx
            go_wp2_with (go_at_call 37; (refine ((EE.out _ _ (De.Is_below (up (up0 _) _) AX.out)).mono ?_)); (rintro e w5 ⟨rfl, hb5⟩; have HB5 := Hd.mk hb5; clear hb5))
            exact ⟨rfl, ends_no Q.out he ⟨rfl, step (up HB3.out _) HB5.out⟩⟩
        · have hnil : r3 = [] := by have := HR3.out; rw [List.drop_of_length_le (by rw [← HL2.out]; omega)] at this; exact this
          subst hnil
          go_wp2_with fail
          go_end0
          exact ends_ok (by rw [E4.out, ← HD3.out, errDs]) ⟨rfl, HB3.out⟩
theorem caught33_no (b : Nat) (n : Int) (w : World) (hK : ∀ w1, Below w.heap.size w w1 → Calls Tryz.prog 33 #[.pointer (some ⟨b, 0, none⟩)] w1 (Fails n w1)) :
    Calls Tryz.prog 32 #[.func (.func 33) #[] #[.pointer (some ⟨b, 0, none⟩)]] w (SaysI n w) := by
  have hmf : ∀ (fn : Fn) (first cap : Array Value) (w : World), (Instr.makeFunc fn first cap).run Tryz.prog w = .ok (.func fn first cap) w := fun _ _ _ _ => rfl
  have HK := Hd.mk hK
  clear hK
  go_enter_defers Tryz.func32, Tryz.ntmps32
  go_wp2_with (go_at_call 33; (refine (HK.out _ (up (up0 _) _)).mono ?_); (rintro e w2 ⟨rfl, hb2⟩; have HB2 := Hd.mk hb2; obtain ⟨hc2, hz2⟩ := bbox1 hb2 (heap_alloc_new _ _); clear hb2))
  refine leaves_cons (f := 77) (args := #[.pointer (some ⟨w.heap.size, 0, none⟩)]) (by simp) (by simp [go_sem]) ?_
  refine (catch_panicking ⟨w.heap.size, 0, none⟩ _ n 0 hc2 hz2).mono ?_
  rintro e u' w'' ⟨rfl, rfl, rfl⟩
  have hset : (w2.setCell ⟨w.heap.size, 0, none⟩ (.int .i64 n)).cell? ⟨w.heap.size, 0, none⟩ = some (.int .i64 n) := World.cell?_setCell_same _ _ _ hc2
  simp [Leaves, settle, results, Tryz.results32, go_sem, hset, SaysI]
  exact (step (up (up0 _) _) HB2.out).setCell (Nat.le_refl _) _
theorem right_any (m : Mo) (hw : m.Wf) (v : Value) (w : World) (hx : m.Is w v) : Calls Tryz.prog 13 #[v] w (SaysI (errM m) w) := by
  have hmf : ∀ (fn : Fn) (first cap : Array Value) (w : World), (Instr.makeFunc fn first cap).run Tryz.prog w = .ok (.func fn first cap) w := fun _ _ _ _ => rfl
  have X := Hd.mk hx
  have W := Hd.mk hw
  obtain ⟨A1, l1, c1, A2, l2, c2, rfl, s1, s2⟩ := hx
  clear s1 s2 hw
  have CT : ∀ w1, Below (w.alloc (.cells #[.string m.n, .slice A1 l1 c1, .slice A2 l2 c2] 25 (0, 0))).heap.size (w.alloc (.cells #[.string m.n, .slice A1 l1 c1, .slice A2 l2 c2] 25 (0, 0))) w1 → Calls Tryz.prog 33 #[.pointer (some ⟨w.heap.size, 0, none⟩)] w1 (Ends (errM m) w1) := fun w1 hb => mod33 m W.out _ _ w1 (Mo.Is_below (step (up (up0 _) _) hb) X.out) (fun i v hv => keep hb ((new_cell ..).trans hv))
  by_cases h0 : errM m = 0
  · have C2 := Hd.mk (caught33 w.heap.size _ (fun w1 hb => (CT w1 hb).mono fun _ _ g => g.1 h0))
    rw [h0]
    clear CT X W h0
    generalize m.n = mn at *
    go_enter Tryz.func13, Tryz.ntmps13
    go_wp2_with (go_at_call 32; (with_reducible refine (C2.out.mono ?_)); (rintro e w2 ⟨rfl, hb2⟩; have HB2 := Hd.mk hb2; clear hb2))
    go_ret
    exact ⟨rfl, step (up (up0 _) _) HB2.out⟩
  · have C2 := Hd.mk (caught33_no w.heap.size (errM m) _ (fun w1 hb => (CT w1 hb).mono fun _ _ g => g.2 h0))
    clear CT X W h0
    generalize errM m = q at *
    generalize m.n = mn at *
    go_enter Tryz.func13, Tryz.ntmps13
    go_wp2_with (go_at_call 32; (with_reducible refine (C2.out.mono ?_)); (rintro e w2 ⟨rfl, hb2⟩; have HB2 := Hd.mk hb2; clear hb2))
    go_ret
    exact ⟨rfl, step (up (up0 _) _) HB2.out⟩
theorem right1_deep (x : Ex) (cs : Array Value) (b : Nat) (w : World) (hx : x.Is w (.agg cs)) (hc : ∀ i v, cs[i]? = some v → w.cell? ⟨b, i, none⟩ = some v) (hd : ¬ deepE x 1 0 ≤ 32) :
    Calls Tryz.prog 40 #[.pointer (some ⟨b, 0, none⟩)] w (Fails 13 w) := by
  obtain ⟨v0, v1, v2, v3, v4, v5, v6, v7, v8, rfl, _⟩ := Ex.boxed hx 31
  have a0 := hc 0 _ rfl
  have a1 := hc 1 _ rfl
  have a2 := hc 2 _ rfl
  have a3 := hc 3 _ rfl
  have a4 := hc 4 _ rfl
  have a5 := hc 5 _ rfl
  have a6 := hc 6 _ rfl
  clear hc
  have X := Hd.mk hx
  generalize hq : deepE x 1 0 = q at hd
  have Q := Hd.mk hq
  have h32 : decide (q ≤ 32) = false := decide_eq_false hd
  clear hx hq
  go_enter Tryz.func40, Tryz.ntmps40
  go_wp2_with (first
    | (go_at_call 36; (with_reducible refine ((ask_no 13 (by decide) _).mono ?_)); (rintro e w1 ⟨rfl, rfl⟩))
    | (go_at_call 41; (refine (((deepIs x) 1 0 _ _ X.out).mono ?_)); (rw [Q.out]; rintro e w1 ⟨rfl, hb1⟩; have HB1 := Hd.mk hb1; clear hb1)))
  exact ⟨rfl, rfl, HB1.out⟩
theorem rightExpr_any (x : Ex) (hw : x.Wf) (v : Value) (w : World) (hx : x.Is w v) : Calls Tryz.prog 15 #[v] w (SaysI (errX x) w) := by
  by_cases hd : deepE x 1 0 ≤ 32
  · have e : errX x = errE x := by unfold errX; rw [if_pos hd, seqI_0 rfl]
    rw [e]
    by_cases h0 : errE x = 0
    · rw [h0]
      exact rightExpr_ok x v w hx hd ((exprIs x hw).ok h0)
    · exact rightExpr_no x (errE x) v w hx hd ((exprIs x hw).no rfl h0)
  · have e : errX x = 13 := by unfold errX; rw [if_neg hd, seqI_n (by decide)]
    rw [e]
    have hmf : ∀ (fn : Fn) (first cap : Array Value) (w : World), (Instr.makeFunc fn first cap).run Tryz.prog w = .ok (.func fn first cap) w := fun _ _ _ _ => rfl
    obtain ⟨cs, rfl⟩ : ∃ cs, v = .agg cs := by
      cases x; unfold Ex.Is at hx; obtain ⟨A, l, c, e, _⟩ := hx; exact ⟨_, e⟩
    obtain ⟨v0, v1, v2, v3, v4, v5, v6, v7, v8, rfl, hc⟩ := Ex.boxed hx 31
    have C := Hd.mk hc
    have X := Hd.mk hx
    have D := Hd.mk hd
    clear hc hx hd e hw
    go_enter Tryz.func15, Tryz.ntmps15
    go_wp2_with (go_at_call 32; (refine (caught_no _ 13 _ (fun w1 hb => right1_deep x _ _ w1 (Ex.Is_below (step (up (up0 _) _) hb) X.out) (fun i v hv => keep hb (C.out i v hv)) D.out)).mono ?_); (rintro e w2 ⟨rfl, hb2⟩; have HB2 := Hd.mk hb2; clear hb2))
    go_ret
    exact ⟨rfl, step (up (up0 _) _) HB2.out⟩
end Go.Proofs.YtbhgpegcdiohlaaGreatDoor.Tr
