import Derived.Test.YtbhgpegcdiohlaaGreatDoorCpL
namespace Go.Proofs.YtbhgpegcdiohlaaGreatDoor.Tr
open Go Go.RowKit Go.Proofs
set_option linter.unusedVariables false
set_option maxRecDepth 100000
set_option maxHeartbeats 8000000
theorem copies_walk (m : Mo) (w : World) (v : Value) (hv : m.Is w v) (hR : m.Rm) : Calls Tryz.prog 11 #[v] w (Says true w) := by
  obtain ⟨A, l, c, A1, l1, c1, rfl, h0, h1⟩ := hv
  obtain ⟨n, im, ds⟩ := m
  have V : Hd (∀ w', Below w.heap.size w w' → (⟨n, im, ds⟩ : Mo).Is w' (.agg #[.string n, .slice A l c, .slice A1 l1 c1])) := ⟨fun w' hb => ⟨A, l, c, A1, l1, c1, rfl, Slt_up hb h0, SlD_up hb h1⟩⟩
  have X := Hd.mk (fun w' (hb : Below w.heap.size w w') => copyM ⟨n, im, ds⟩ w' (.agg #[.string n, .slice A l c, .slice A1 l1 c1]) (V.out w' hb) hR)
  clear h0 h1 hR
  dsimp only
  go_enter Tryz.func11, Tryz.ntmps11
  go_wp2_with (go_at_call 17; (with_reducible refine ((live_any _).mono ?_)); (rintro e w1 ⟨rfl, hb1⟩; have HB1 := Hd.mk (step (up (up0 w) _) hb1); have a0 : w1.cell? ⟨w.heap.size, 0, none⟩ = some (.string n) := keep hb1 (by rw [new_cell]; rfl); have a1 : w1.cell? ⟨w.heap.size, 1, none⟩ = some (.slice A l c) := keep hb1 (by rw [new_cell]; rfl); have a2 : w1.cell? ⟨w.heap.size, 2, none⟩ = some (.slice A1 l1 c1) := keep hb1 (by rw [new_cell]; rfl); have hN : w.heap.size < w1.heap.size := World.block_lt_of_cell? w1 _ a0; clear hb1))
  refine wp_region_inv (CIc w.heap.size (.agg #[.string n, .slice A l c, .slice A1 l1 c1]) ⟨n, im, ds⟩ w1) (by kernel_rfl) (hac_ofP (by kernel_rfl)) ?_ ?_ ?_
  · exact ⟨undef, undef, undef, undef, undef, undef, 0, 0, 0, 0, 0, 0, rfl, (Below.refl _ _).drew, ⟨fun h => by simp at h, fun h => by simp at h, fun h => by simp at h, fun h => by simp at h⟩, ⟨fun h => by simp at h, fun h => by simp at h, fun h => by simp at h, fun h => by simp at h⟩, ⟨fun h => by simp at h, fun h => by simp at h, fun h => by simp at h, fun h => by simp at h⟩, fun h => by simp at h, fun h => by simp at h⟩
  · intro i o L a w' ho hsz h1 h2 hI
    have hi : i < 8 := (Array.getElem?_eq_some_iff.1 ho).1
    obtain ⟨v3, v4, v7, v8, v9, v10, la, ha, b3, lb, hb, b4, rfl, hB, H1, H2, HX, f0, f2⟩ := hI
    have d0 := keep hB a0
    have d1 := keep hB a1
    have d2 := keep hB a2
    have hi' : i = 0 ∨ i = 1 ∨ i = 2 ∨ i = 3 ∨ i = 4 ∨ i = 5 ∨ i = 6 ∨ i = 7 := by omega
    rcases hi' with rfl | rfl | rfl | rfl | rfl | rfl | rfl | rfl
    all_goals obtain rfl := Option.some.inj ho
    all_goals clear ho
    · refine wpOp_doP (o := _) rfl rfl fun K hK => ?_
      go_simp
      refine hK _ _ ?_
      unfold CIc
      simp only [gneP (show (0 : Nat) ≠ 1 by decide), gneP (show (0 : Nat) ≠ 2 by decide), gneP (show (0 : Nat) ≠ 3 by decide), gneP (show (0 : Nat) ≠ 4 by decide), gneP (show (0 : Nat) ≠ 5 by decide), gneP (show (0 : Nat) ≠ 6 by decide), gneP (show (0 : Nat) ≠ 7 by decide)]
      exact ⟨v3, v4, _, v8, v9, v10, la, ha, b3, lb, hb, b4, rfl, hB, H1, H2, HX, fun _ => rfl, f2⟩
    · obtain rfl := f0 (h2 ⟨0, .data⟩ (by simp) rfl)
      have e0 : L.getD 1 false = false := by cases hh : L.getD _ false with | false => rfl | true => exact absurd hh (nofP h1)
      refine wpOp_doP (o := _) rfl rfl fun K hK => ?_
      go_simp
      refine (X.out _ (step HB1.out hB)).mono ?_
      rintro r w2 ⟨v, rfl, hb2, hr⟩
      have hs := hB.size
      refine hK _ _ ?_
      unfold CIc
      simp only [gneP (show (1 : Nat) ≠ 0 by decide), gneP (show (1 : Nat) ≠ 2 by decide), gneP (show (1 : Nat) ≠ 3 by decide), gneP (show (1 : Nat) ≠ 4 by decide), gneP (show (1 : Nat) ≠ 5 by decide), gneP (show (1 : Nat) ≠ 6 by decide), gneP (show (1 : Nat) ≠ 7 by decide)]
      rw [geqP (show 1 < L.size by rw [hsz]; decide)]
      rw [e0] at H1 HX
      exact ⟨v3, v4, _, _, v9, v10, w'.heap.size, w2.heap.size, b3, lb, hb, b4, rfl, step hB hb2, H1.call hb2 hs hr, H2.keep hb2, HX.call H1 H2, fun _ => rfl, f2⟩
    · refine wpOp_doP (o := _) rfl rfl fun K hK => ?_
      go_simp
      refine hK _ _ ?_
      unfold CIc
      simp only [gneP (show (2 : Nat) ≠ 0 by decide), gneP (show (2 : Nat) ≠ 1 by decide), gneP (show (2 : Nat) ≠ 3 by decide), gneP (show (2 : Nat) ≠ 4 by decide), gneP (show (2 : Nat) ≠ 5 by decide), gneP (show (2 : Nat) ≠ 6 by decide), gneP (show (2 : Nat) ≠ 7 by decide)]
      exact ⟨v3, v4, v7, v8, _, v10, la, ha, b3, lb, hb, b4, rfl, hB, H1, H2, HX, f0, fun _ => rfl⟩
    · obtain rfl := f2 (h2 ⟨2, .data⟩ (by simp) rfl)
      have e0 : L.getD 3 false = false := by cases hh : L.getD _ false with | false => rfl | true => exact absurd hh (nofP h1)
      refine wpOp_doP (o := _) rfl rfl fun K hK => ?_
      go_simp
      refine (X.out _ (step HB1.out hB)).mono ?_
      rintro r w2 ⟨v, rfl, hb2, hr⟩
      have hs := hB.size
      refine hK _ _ ?_
      unfold CIc
      simp only [gneP (show (3 : Nat) ≠ 0 by decide), gneP (show (3 : Nat) ≠ 1 by decide), gneP (show (3 : Nat) ≠ 2 by decide), gneP (show (3 : Nat) ≠ 4 by decide), gneP (show (3 : Nat) ≠ 5 by decide), gneP (show (3 : Nat) ≠ 6 by decide), gneP (show (3 : Nat) ≠ 7 by decide)]
      rw [geqP (show 3 < L.size by rw [hsz]; decide)]
      rw [e0] at H2 HX
      exact ⟨v3, v4, v7, v8, _, _, la, ha, b3, w'.heap.size, w2.heap.size, b4, rfl, step hB hb2, H1.keep hb2, H2.call hb2 hs hr, (HX.symm.call H2 H1).symm, f0, fun _ => rfl⟩
    · have e0 : L.getD 4 false = false := by cases hh : L.getD _ false with | false => rfl | true => exact absurd hh (nofP h1)
      refine wpOp_doP (o := _) rfl rfl fun K hK => ?_
      go_simp
      have hs := hB.size
      have hb2 := up (up0 w') (.cells #[.string ⟨#[]⟩, .slice none 0 0, .slice none 0 0] 25 (0, 0))
      refine hK _ _ ?_
      unfold CIc
      simp only [gneP (show (4 : Nat) ≠ 0 by decide), gneP (show (4 : Nat) ≠ 1 by decide), gneP (show (4 : Nat) ≠ 2 by decide), gneP (show (4 : Nat) ≠ 3 by decide), gneP (show (4 : Nat) ≠ 5 by decide), gneP (show (4 : Nat) ≠ 6 by decide), gneP (show (4 : Nat) ≠ 7 by decide)]
      rw [geqP (show 4 < L.size by rw [hsz]; decide)]
      rw [e0] at H1 HX
      exact ⟨_, v4, v7, v8, v9, v10, la, ha, w'.heap.size, lb, hb, b4, rfl, step hB hb2, H1.mk_box hs _ rfl, H2.keep hb2, HX.mk_box H2, f0, f2⟩
    · have e0 : L.getD 5 false = false := by cases hh : L.getD _ false with | false => rfl | true => exact absurd hh (nofP h1)
      refine wpOp_doP (o := _) rfl rfl fun K hK => ?_
      go_simp
      have hs := hB.size
      have hb2 := up (up0 w') (.cells #[.string ⟨#[]⟩, .slice none 0 0, .slice none 0 0] 25 (0, 0))
      refine hK _ _ ?_
      unfold CIc
      simp only [gneP (show (5 : Nat) ≠ 0 by decide), gneP (show (5 : Nat) ≠ 1 by decide), gneP (show (5 : Nat) ≠ 2 by decide), gneP (show (5 : Nat) ≠ 3 by decide), gneP (show (5 : Nat) ≠ 4 by decide), gneP (show (5 : Nat) ≠ 6 by decide), gneP (show (5 : Nat) ≠ 7 by decide)]
      rw [geqP (show 5 < L.size by rw [hsz]; decide)]
      rw [e0] at H2 HX
      exact ⟨v3, _, v7, v8, v9, v10, la, ha, b3, lb, hb, w'.heap.size, rfl, step hB hb2, H1.keep hb2, H2.mk_box hs _ rfl, (HX.symm.mk_box H1).symm, f0, f2⟩
    · have ec : L.getD 1 false = true := h2 ⟨1, .data⟩ (by simp) rfl
      have ea : L.getD 4 false = true := h2 ⟨4, .data⟩ (by simp) rfl
      obtain ⟨⟨A3, n3, c3, A4, n4, c4, rfl, _⟩, _, _⟩ := H1.res ec
      obtain ⟨rfl, kb, kl, k3, k4⟩ := H1.box ea
      obtain ⟨u0, g0⟩ := Option.isSome_iff_exists.1 (k4 0 (by decide))
      obtain ⟨u1, g1⟩ := Option.isSome_iff_exists.1 (k4 1 (by decide))
      obtain ⟨u2, g2⟩ := Option.isSome_iff_exists.1 (k4 2 (by decide))
      refine wpOp_doP (o := _) rfl rfl fun K hK => ?_
      clear k4
      go_simp
      obtain ⟨W, hW⟩ : ∃ W, W = ((w'.setCell ⟨b3, 0, none⟩ (.string n)).setCell ⟨b3, 1, none⟩ (.slice A3 n3 c3)).setCell ⟨b3, 2, none⟩ (.slice A4 n4 c4) := ⟨_, rfl⟩
      obtain ⟨q1, q2, q3⟩ := H1.put ea ec (show W = w'.setCells b3 0 [.string n, .slice A3 n3 c3, .slice A4 n4 c4] from hW)
      rw [← hW]
      have hbb : Below w1.heap.size w1 W := below_setRow hB q2 q3 kb (show W = w'.setCells b3 0 [.string n, .slice A3 n3 c3, .slice A4 n4 c4] from hW)
      have hot := H2.other q2 q3 (fun e => (HX.ne ea e).symm) (fun e => HX.e1 ea e)
      refine hK _ _ ?_
      unfold CIc
      simp only [gneP (show (6 : Nat) ≠ 0 by decide), gneP (show (6 : Nat) ≠ 1 by decide), gneP (show (6 : Nat) ≠ 2 by decide), gneP (show (6 : Nat) ≠ 3 by decide), gneP (show (6 : Nat) ≠ 4 by decide), gneP (show (6 : Nat) ≠ 5 by decide), gneP (show (6 : Nat) ≠ 7 by decide)]
      rw [geqP (show 6 < L.size by rw [hsz]; decide)]
      exact ⟨_, v4, v7, _, v9, v10, la, ha, b3, lb, hb, b4, rfl, hbb, q1, hot, HX, f0, f2⟩
    · have ec : L.getD 3 false = true := h2 ⟨3, .data⟩ (by simp) rfl
      have ea : L.getD 5 false = true := h2 ⟨5, .data⟩ (by simp) rfl
      obtain ⟨⟨A3, n3, c3, A4, n4, c4, rfl, _⟩, _, _⟩ := H2.res ec
      obtain ⟨rfl, kb, kl, k3, k4⟩ := H2.box ea
      obtain ⟨u0, g0⟩ := Option.isSome_iff_exists.1 (k4 0 (by decide))
      obtain ⟨u1, g1⟩ := Option.isSome_iff_exists.1 (k4 1 (by decide))
      obtain ⟨u2, g2⟩ := Option.isSome_iff_exists.1 (k4 2 (by decide))
      refine wpOp_doP (o := _) rfl rfl fun K hK => ?_
      clear k4
      go_simp
      obtain ⟨W, hW⟩ : ∃ W, W = ((w'.setCell ⟨b4, 0, none⟩ (.string n)).setCell ⟨b4, 1, none⟩ (.slice A3 n3 c3)).setCell ⟨b4, 2, none⟩ (.slice A4 n4 c4) := ⟨_, rfl⟩
      obtain ⟨q1, q2, q3⟩ := H2.put ea ec (show W = w'.setCells b4 0 [.string n, .slice A3 n3 c3, .slice A4 n4 c4] from hW)
      rw [← hW]
      have hbb : Below w1.heap.size w1 W := below_setRow hB q2 q3 kb (show W = w'.setCells b4 0 [.string n, .slice A3 n3 c3, .slice A4 n4 c4] from hW)
      have hot := H1.other q2 q3 (fun e => (HX.symm.ne ea e).symm) (fun e => HX.symm.e1 ea e)
      refine hK _ _ ?_
      unfold CIc
      simp only [gneP (show (7 : Nat) ≠ 0 by decide), gneP (show (7 : Nat) ≠ 1 by decide), gneP (show (7 : Nat) ≠ 2 by decide), gneP (show (7 : Nat) ≠ 3 by decide), gneP (show (7 : Nat) ≠ 4 by decide), gneP (show (7 : Nat) ≠ 5 by decide), gneP (show (7 : Nat) ≠ 6 by decide)]
      rw [geqP (show 7 < L.size by rw [hsz]; decide)]
      exact ⟨v3, _, v7, v8, v9, _, la, ha, b3, lb, hb, b4, rfl, hbb, hot, q1, HX, f0, f2⟩
  · intro L a w' hsz hall hI
    have ha : ∀ i, i < 8 → L.getD i false = true := hall
    obtain ⟨v3, v4, v7, v8, v9, v10, la, hA, b3, lb, hb, b4, rfl, hB, H1, H2, HX, f0, f2⟩ := hI
    rw [ha 1 (by decide), ha 4 (by decide), ha 6 (by decide)] at H1
    rw [ha 3 (by decide), ha 5 (by decide), ha 7 (by decide)] at H2
    rw [ha 1 (by decide), ha 3 (by decide), ha 4 (by decide), ha 5 (by decide)] at HX
    obtain rfl := f0 (ha 0 (by decide))
    obtain rfl := f2 (ha 2 (by decide))
    obtain ⟨R1, p1, p2⟩ := H1.res rfl
    obtain ⟨R2, p3, p4⟩ := H2.res rfl
    obtain ⟨rfl, q1, q2, _, _⟩ := H1.box rfl
    obtain ⟨rfl, q3, q4, _, _⟩ := H2.box rfl
    obtain ⟨_, _, u0, u1, u2, rfl, r1⟩ := H1.sto rfl
    obtain ⟨_, _, x0, x1, x2, rfl, r2⟩ := H2.sto rfl
    have o1 := H1.out rfl rfl
    have o2 := H2.out rfl rfl
    have cx1 := HX.d rfl rfl
    have cx2 := HX.e2 rfl rfl
    clear H1 H2 HX f0 f2 ha hall hsz
    have d0 := keep hB a0
    have d1 := keep hB a1
    have d2 := keep hB a2
    have s0 := r1 0 _ rfl
    have s1 := r1 1 _ rfl
    have s2 := r1 2 _ rfl
    have t0 := r2 0 _ rfl
    have t1 := r2 1 _ rfl
    have t2 := r2 2 _ rfl
    simp only [Nat.zero_add] at s0 s1 s2 t0 t1 t2
    have HBB := Hd.mk (step HB1.out hB)
    have R1' := Hd.mk R1
    have R2' := Hd.mk R2
    have HP := Hd.mk (And.intro p1 (And.intro p2 (And.intro p3 (And.intro p4 (And.intro o1 (And.intro o2 (And.intro cx1 (And.intro cx2 (And.intro q1 (And.intro q2 (And.intro q3 (And.intro q4 hN))))))))))))
    clear R1 R2 r1 r2 p1 p2 p3 p4 o1 o2 cx1 cx2 q1 q2 q3 q4 X a0 a1 a2 hN
    refine ‹∀ (a : Act) (w : World), Code.wp Tryz.prog _ _ a w → _› _ _ ?_
    go_wp2_with fail
    refine ((same_any _ _ _ _ _ R1'.out.is (V.out _ HBB.out)).mono fun e w' h => says_of (eqB_self _) h).mono ?_
    rintro e w2 ⟨rfl, hb2⟩
    have e0 := keep hb2 d0
    have e1 := keep hb2 d1
    have e2 := keep hb2 d2
    have g0 := keep hb2 s0
    have g1 := keep hb2 s1
    have g2 := keep hb2 s2
    have k0 := keep hb2 t0
    have k1 := keep hb2 t1
    have k2 := keep hb2 t2
    have HB2 := Hd.mk hb2
    have HS2 := Hd.mk hb2.size
    clear hb2 d0 d1 d2 s0 s1 s2 t0 t1 t2
    go_wp2_with fail
    refine ((same_any _ _ _ _ _ (R1'.out.keep (Kp.of_below HB2.out HP.out.2.1)).is (R2'.out.keep (Kp.of_below HB2.out HP.out.2.2.2.1)).is).mono fun e w' h => says_of (eqB_self _) h).mono ?_
    rintro e w3 ⟨rfl, hb3⟩
    have d0 := keep hb3 e0
    have d1 := keep hb3 e1
    have d2 := keep hb3 e2
    have s0 := keep hb3 g0
    have s1 := keep hb3 g1
    have s2 := keep hb3 g2
    have t0 := keep hb3 k0
    have t1 := keep hb3 k1
    have t2 := keep hb3 k2
    have HB3 := Hd.mk (step HB2.out hb3)
    have HS3 := Hd.mk (step HB2.out hb3).size
    have R3 := Hd.mk (R1'.out.keep (Kp.of_below (step HB2.out hb3) HP.out.2.1))
    have R4 := Hd.mk (R2'.out.keep (Kp.of_below (step HB2.out hb3) HP.out.2.2.2.1))
    clear hb3 e0 e1 e2 g0 g1 g2 k0 k1 k2
    go_wp2_with fail
    refine ((spoil28 R3.out (Nat.le_trans HP.out.2.1 HS3.out)).mono ?_)
    rintro e w4 ⟨rfl, hs4⟩
    have fc : ∀ b r v, w3.cell? ⟨b, r, none⟩ = some v → b < la ∨ hA ≤ b → w4.cell? ⟨b, r, none⟩ = some v := fun b r v hc hf => (World.cell?_of_block (w := w3) (a := ⟨b, r, none⟩) (hs4.far b (World.block_lt_of_cell? w3 _ hc) hf)).trans hc
    obtain ⟨p1, p2, p3, p4, o1, o2, cx1, cx2, q1, q2, q3, q4, hN⟩ := HP.out
    have d0' := fc _ _ _ d0 (.inl (by omega))
    have d1' := fc _ _ _ d1 (.inl (by omega))
    have d2' := fc _ _ _ d2 (.inl (by omega))
    have t0' := fc _ _ _ t0 cx2
    have t1' := fc _ _ _ t1 cx2
    have t2' := fc _ _ _ t2 cx2
    have R5 := Hd.mk (R4.out.keep (w' := w4) fun q k1 k2 => hs4.far q (Nat.lt_of_lt_of_le k2 (Nat.le_trans p4 HS3.out)) (by omega))
    have hw13 : w1.heap.size ≤ w3.heap.size := by have := HS3.out; omega
    have hbw : Below w.heap.size w w4 := (step HBB.out HB3.out).trans ((⟨hs4.os, hs4.tape, hs4.output, hs4.size, fun k hk => hs4.far k (by omega) (.inl (by omega))⟩ : Below w1.heap.size w3 w4).mono (by omega))
    have HW4 := Hd.mk hbw
    clear fc hs4 d0 d1 d2 s0 s1 s2 t0 t1 t2 p1 p2 p3 p4 o1 o2 cx1 cx2 q1 q2 q3 q4 hbw hw13
    go_wp2_with fail
    refine ((same_any _ _ _ _ _ R5.out.is (V.out _ HW4.out)).mono fun e w' h => says_of (eqB_self _) h).mono ?_
    rintro e w5 ⟨rfl, hb5⟩
    have HB5 := Hd.mk (step HW4.out hb5)
    clear hb5
    go_wp2_with fail
    go_ret
    exact ⟨rfl, HB5.out⟩
end Go.Proofs.YtbhgpegcdiohlaaGreatDoor.Tr
