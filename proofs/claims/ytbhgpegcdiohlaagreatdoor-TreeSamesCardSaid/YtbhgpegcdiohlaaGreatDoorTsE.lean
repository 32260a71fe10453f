import Derived.Test.YtbhgpegcdiohlaaGreatDoorTsD
import Derived.Deep.RegionHeld3
namespace Go.Proofs.YtbhgpegcdiohlaaGreatDoor.Tr
open Go Go.RowKit Go.Proofs
set_option linter.unusedVariables false
set_option maxRecDepth 100000
theorem S16 {N : Nat} {w0 w w' : World} (hb : Below w.heap.size w w') (hN : w0.heap.size = N) {a0 a1 a2 a3 a4 a5 a6 a7 a8 a9 a10 a11 a12 a13 a14 a15 : Addr} {v0 v1 v2 v3 v4 v5 v6 v7 v8 v9 v10 v11 v12 v13 v14 v15 : Value} (h : Below N w0 w ∧ w.cell? a0 = some v0 ∧ w.cell? a1 = some v1 ∧ w.cell? a2 = some v2 ∧ w.cell? a3 = some v3 ∧ w.cell? a4 = some v4 ∧ w.cell? a5 = some v5 ∧ w.cell? a6 = some v6 ∧ w.cell? a7 = some v7 ∧ w.cell? a8 = some v8 ∧ w.cell? a9 = some v9 ∧ w.cell? a10 = some v10 ∧ w.cell? a11 = some v11 ∧ w.cell? a12 = some v12 ∧ w.cell? a13 = some v13 ∧ w.cell? a14 = some v14 ∧ w.cell? a15 = some v15) : Below N w0 w' ∧ w'.cell? a0 = some v0 ∧ w'.cell? a1 = some v1 ∧ w'.cell? a2 = some v2 ∧ w'.cell? a3 = some v3 ∧ w'.cell? a4 = some v4 ∧ w'.cell? a5 = some v5 ∧ w'.cell? a6 = some v6 ∧ w'.cell? a7 = some v7 ∧ w'.cell? a8 = some v8 ∧ w'.cell? a9 = some v9 ∧ w'.cell? a10 = some v10 ∧ w'.cell? a11 = some v11 ∧ w'.cell? a12 = some v12 ∧ w'.cell? a13 = some v13 ∧ w'.cell? a14 = some v14 ∧ w'.cell? a15 = some v15 := by
  subst hN
  obtain ⟨h, c0, c1, c2, c3, c4, c5, c6, c7, c8, c9, c10, c11, c12, c13, c14, c15⟩ := h
  exact ⟨step h hb, keep hb c0, keep hb c1, keep hb c2, keep hb c3, keep hb c4, keep hb c5, keep hb c6, keep hb c7, keep hb c8, keep hb c9, keep hb c10, keep hb c11, keep hb c12, keep hb c13, keep hb c14, keep hb c15⟩
set_option maxHeartbeats 8000000 in
theorem ref_same_any (x y : Mo) (w : World) (v u : Value) (hv : x.Is w v) (hu : y.Is w u) : Calls Tryz.prog 24 #[v, u] w (Says (eqB x y) w) := by
  obtain ⟨n, im, ds⟩ := x
  obtain ⟨n', im', ds'⟩ := y
  unfold Mo.Is at hv hu
  obtain ⟨A, l, c, A1, l1, c1, rfl, h1, h2⟩ := hv
  obtain ⟨B, m, d, B1, m1, d1, rfl, i1, i2⟩ := hu
  dsimp only at h1 h2 i1 i2 ⊢
  have H1 := Hd.mk h1
  have H2 := Hd.mk h2
  have I1 := Hd.mk i1
  have I2 := Hd.mk i2
  have hn := h1.2.1
  have hn1 := h2.2.1
  clear h1 h2 i1 i2
  by_cases hall : n = n' ∧ l = m ∧ l1 = m1
  rotate_left
  · have hall2 : (⟨n, im, ds⟩ : Mo) ≠ ⟨n', im', ds'⟩ := fun h => hall (by injection h with g1 g2 g3; exact ⟨g1, by rw [H1.out.1, I1.out.1, g2], by rw [H2.out.1, I2.out.1, g3]⟩)
    have HE := Hd.mk (eqB_ne hall2)
    have HN := Hd.mk hall
    clear hall hall2
    go_enter Tryz.func24, Tryz.ntmps24
    go_wp2_with fail
    all_goals first
      | (go_ret; rw [HE.out]; exact ⟨rfl, up (up (up0 _) _) _⟩)
      | (exfalso; exact HN.out ⟨bytes_eq (by assumption), by have q := ‹(l : Int) = (m : Int)›; omega, by have q := ‹((l1 : Int) != (m1 : Int)) = false›; simp only [bne_eq_false_iff_eq] at q; omega⟩)
  obtain ⟨rfl, rfl, rfl⟩ := hall
  have HQ : Hd (eqB (⟨n, im, ds⟩ : Mo) ⟨n, im', ds'⟩ = (eqB im im' && eqB ds ds')) := ⟨by
    by_cases q1 : im = im'
    · by_cases q2 : ds = ds'
      · rw [q1, q2, eqB_self, eqB_self, eqB_self]; rfl
      · rw [eqB_ne (fun h => q2 (by injection h)), eqB_ne q2, Bool.and_false]
    · rw [eqB_ne (fun h => q1 (by injection h)), eqB_ne q1]; rfl⟩
  have k0 := new_cell w #[.string n, .slice A l c, .slice A1 l1 c1] 25
  have k1 := new_cell (w.alloc (.cells #[.string n, .slice A l c, .slice A1 l1 c1] 25 (0, 0))) #[.string n, .slice B l d, .slice B1 l1 d1] 25
  have z1 : (w.alloc (.cells #[.string n, .slice A l c, .slice A1 l1 c1] 25 (0, 0))).heap.size = w.heap.size + 1 := by simp
  rw [z1] at k1
  have t1 := up (up0 (w.alloc (.cells #[.string n, .slice A l c, .slice A1 l1 c1] 25 (0, 0)))) (.cells #[.string n, .slice B l d, .slice B1 l1 d1] 25 (0, 0))
  have C4 := Hd.mk (keep t1 (k0 1))
  have C5 := Hd.mk (keep t1 (k0 2))
  have D4 := Hd.mk (k1 1)
  have D5 := Hd.mk (k1 2)
  have HW := Hd.mk (up (up (up0 w) (.cells #[.string n, .slice A l c, .slice A1 l1 c1] 25 (0, 0))) (.cells #[.string n, .slice B l d, .slice B1 l1 d1] 25 (0, 0)))
  clear k0 k1 t1 z1
  go_enter Tryz.func24, Tryz.ntmps24
  go_wp2_with fail
  generalize hW0 : ((w.alloc (.cells #[.string n, .slice A l c, .slice A1 l1 c1] 25 (0, 0))).alloc (.cells #[.string n, .slice B l d, .slice B1 l1 d1] 25 (0, 0))) = W0 at *
  clear hW0
  go_loopw [5] (fun i w' => ∃ j : Nat, j ≤ l ∧ i = .int .i64 j ∧ Below W0.heap.size W0 w' ∧ im.take j = im'.take j) (fun i _ => l - (intOf i).toNat)
  case atStart => exact ⟨0, by omega, rfl, Below.refl _ _, rfl⟩
  case round =>
    obtain ⟨j, hj, rfl, hb, ht⟩ := hrel
    have HB := Hd.mk hb
    have HT := Hd.mk ht
    have r4 := keep hb C4.out
    have r5 := keep hb C5.out
    have s4 := keep hb D4.out
    have s5 := keep hb D5.out
    have y0 := World.block_lt_of_cell? _ _ r4
    have y1 := World.block_lt_of_cell? _ _ s4
    clear hb ht
    by_cases hlt : j < l
    · obtain ⟨B1', o1, rfl, g1⟩ := H1.out.at (by omega)
      obtain ⟨B2', o2, rfl, g2⟩ := I1.out.at (by omega)
      obtain ⟨x1, m1'⟩ : ∃ x, im[j]? = some x := ⟨_, List.getElem?_eq_getElem (by rw [← H1.out.1]; exact hlt)⟩
      obtain ⟨x2, m2'⟩ : ∃ x, im'[j]? = some x := ⟨_, List.getElem?_eq_getElem (by rw [← I1.out.1]; exact hlt)⟩
      have i1 := strIn_below (step HW.out HB.out) x1 (g1 j x1 m1')
      have i2 := strIn_below (step HW.out HB.out) x2 (g2 j x2 m2')
      have M1 := Hd.mk m1'
      have M2 := Hd.mk m2'
      clear m1' m2' g1 g2
      unfold strIn at i1 i2
      have a0 := i1
      have b0 := i2
      rw [Nat.mul_one] at a0 b0
      clear i1 i2
      have k0 : (0 : Int) ≤ (j : Int) := by omega
      have k1 : (j : Int) < (l : Int) := by omega
      by_cases he : x1 = x2
      · subst he
        go_wp2_with fail
        go_quiet (fail)
        go_wp2_with fail
        refine ⟨⟨j + 1, by omega, by go_num, HB.out.trans (drewN_below _ _ _), ?_⟩, by simp [intOf]; omega⟩
        rw [take_next M1.out, take_next M2.out, HT.out]
      · have hans2 : eqB im im' = false := eqB_ne fun h => he (by have := M1.out; rw [h, M2.out] at this; exact (Option.some.inj this).symm)
        have HE : Hd (eqB (⟨n, im, ds⟩ : Mo) ⟨n, im', ds'⟩ = false) := ⟨by rw [HQ.out, hans2]; rfl⟩
        clear hans2
        have hx : (x1.toList == x2.toList) = false := beq_eq_false_iff_ne.mpr fun h => he (bytes_eq h)
        go_wp2_with fail
        go_quiet (fail)
        go_wp2_with fail
        go_ret
        rw [HE.out]
        exact ⟨rfl, step HW.out (HB.out.trans (drewN_below _ _ _))⟩
    · have hk2 : j = l := by omega
      subst hk2
      have hans2 : im = im' := by
        have := HT.out
        rw [List.take_of_length_le (by rw [← H1.out.1]; omega), List.take_of_length_le (by rw [← I1.out.1]; omega)] at this
        exact this
      have HE : Hd (eqB (⟨n, im, ds⟩ : Mo) ⟨n, im', ds'⟩ = eqB ds ds') := ⟨by rw [HQ.out, hans2, eqB_self, Bool.true_and]⟩
      clear hans2 hlt hj
      rename World => wo
      have HV := Hd.mk (step HW.out HB.out)
      have C5' := Hd.mk r5
      have D5' := Hd.mk s5
      go_wp2_with fail
      clear r4 r5 s4 s5 y0 y1
      go_loopw [6] (fun i w' => ∃ j : Nat, j ≤ l1 ∧ i = .int .i64 j ∧ Below wo.heap.size wo w' ∧ ds.take j = ds'.take j) (fun i _ => l1 - (intOf i).toNat)
      case atStart => exact ⟨0, by omega, rfl, Below.refl _ _, rfl⟩
      case round =>
        obtain ⟨k, hk, rfl, hb, ht⟩ := hrel
        rename World => wq
        have HB2 := Hd.mk hb
        have HT2 := Hd.mk ht
        have g4 := keep hb C5'.out
        have f4 := keep hb D5'.out
        have y0 := World.block_lt_of_cell? _ _ g4
        have y1 := World.block_lt_of_cell? _ _ f4
        clear hb ht
        by_cases hlt : k < l1
        · obtain ⟨E1, o1, rfl, q1⟩ := H2.out.at (by omega)
          obtain ⟨E2, o2, rfl, q2⟩ := I2.out.at (by omega)
          obtain ⟨x1, m1⟩ : ∃ x, ds[k]? = some x := ⟨_, List.getElem?_eq_getElem (by rw [← H2.out.1]; exact hlt)⟩
          obtain ⟨x2, m2⟩ : ∃ x, ds'[k]? = some x := ⟨_, List.getElem?_eq_getElem (by rw [← I2.out.1]; exact hlt)⟩
          have i1 := De.In_below (step HV.out HB2.out) x1 (q1 k x1 m1)
          have i2 := De.In_below (step HV.out HB2.out) x2 (q2 k x2 m2)
          obtain ⟨v0, v1, v2, v3, v4, v5, v6, v7, v8, v9, v10, v11, v12, a0, a1, a2, a3, a4, a5, a6, ax⟩ := De.In_Is i1
          obtain ⟨u0, u1, u2, u3, u4, u5, u6, u7, u8, u9, u10, u11, u12, b0, b1, b2, b3, b4, b5, b6, bx⟩ := De.In_Is i2
          have M1 := Hd.mk m1
          have M2 := Hd.mk m2
          have AX := Hd.mk ax
          have BX := Hd.mk bx
          clear m1 m2 ax bx i1 i2 q1 q2
          have k0 : (0 : Int) ≤ (k : Int) := by omega
          have k1 : (k : Int) < (l1 : Int) := by omega
          by_cases he : x1 = x2
          · have hans : Says (eqB x1 x2) = Says true := by rw [he, eqB_self]
            have HA := Hd.mk hans
            have HEQ := Hd.mk he
            clear hans he
            have H0 : Hd ((fun w' => Below wq.heap.size wq w' ∧ w'.cell? ⟨w.heap.size, 2, none⟩ = some (.slice (some ⟨E1, o1, none⟩) l1 c1) ∧ w'.cell? ⟨w.heap.size + 1, 2, none⟩ = some (.slice (some ⟨E2, o2, none⟩) l1 d1) ∧ w'.cell? ⟨E1, o1 + k * 7, none⟩ = some (.int .i64 v0) ∧ w'.cell? ⟨E1, o1 + k * 7 + 1, none⟩ = some (.bool v1) ∧ w'.cell? ⟨E1, o1 + k * 7 + 2, none⟩ = some (.string v2) ∧ w'.cell? ⟨E1, o1 + k * 7 + 3, none⟩ = some (.int .i64 v3) ∧ w'.cell? ⟨E1, o1 + k * 7 + 4, none⟩ = some (.slice v4 v5 v6) ∧ w'.cell? ⟨E1, o1 + k * 7 + 5, none⟩ = some (.slice v7 v8 v9) ∧ w'.cell? ⟨E1, o1 + k * 7 + 6, none⟩ = some (.slice v10 v11 v12) ∧ w'.cell? ⟨E2, o2 + k * 7, none⟩ = some (.int .i64 u0) ∧ w'.cell? ⟨E2, o2 + k * 7 + 1, none⟩ = some (.bool u1) ∧ w'.cell? ⟨E2, o2 + k * 7 + 2, none⟩ = some (.string u2) ∧ w'.cell? ⟨E2, o2 + k * 7 + 3, none⟩ = some (.int .i64 u3) ∧ w'.cell? ⟨E2, o2 + k * 7 + 4, none⟩ = some (.slice u4 u5 u6) ∧ w'.cell? ⟨E2, o2 + k * 7 + 5, none⟩ = some (.slice u7 u8 u9) ∧ w'.cell? ⟨E2, o2 + k * 7 + 6, none⟩ = some (.slice u10 u11 u12)) wq) := ⟨⟨up0 _, g4, f4, a0, a1, a2, a3, a4, a5, a6, b0, b1, b2, b3, b4, b5, b6⟩⟩
            have X : Hd (∀ w', Below wq.heap.size wq w' → Calls Tryz.prog 58 #[.agg #[.int .i64 v0, .bool v1, .string v2, .int .i64 v3, .slice v4 v5 v6, .slice v7 v8 v9, .slice v10 v11 v12], .agg #[.int .i64 u0, .bool u1, .string u2, .int .i64 u3, .slice u4 u5 u6, .slice u7 u8 u9, .slice u10 u11 u12]] w' (Says true w')) := ⟨fun w' hb => HA.out ▸ refDe x1 x2 _ _ _ (De.Is_below hb AX.out) (De.Is_below hb BX.out)⟩
            clear a0 a1 a2 a3 a4 a5 a6 b0 b1 b2 b3 b4 b5 b6
            go_wp2_with fail
            go_region_held3 (fun w' => Below wq.heap.size wq w' ∧ w'.cell? ⟨w.heap.size, 2, none⟩ = some (.slice (some ⟨E1, o1, none⟩) l1 c1) ∧ w'.cell? ⟨w.heap.size + 1, 2, none⟩ = some (.slice (some ⟨E2, o2, none⟩) l1 d1) ∧ w'.cell? ⟨E1, o1 + k * 7, none⟩ = some (.int .i64 v0) ∧ w'.cell? ⟨E1, o1 + k * 7 + 1, none⟩ = some (.bool v1) ∧ w'.cell? ⟨E1, o1 + k * 7 + 2, none⟩ = some (.string v2) ∧ w'.cell? ⟨E1, o1 + k * 7 + 3, none⟩ = some (.int .i64 v3) ∧ w'.cell? ⟨E1, o1 + k * 7 + 4, none⟩ = some (.slice v4 v5 v6) ∧ w'.cell? ⟨E1, o1 + k * 7 + 5, none⟩ = some (.slice v7 v8 v9) ∧ w'.cell? ⟨E1, o1 + k * 7 + 6, none⟩ = some (.slice v10 v11 v12) ∧ w'.cell? ⟨E2, o2 + k * 7, none⟩ = some (.int .i64 u0) ∧ w'.cell? ⟨E2, o2 + k * 7 + 1, none⟩ = some (.bool u1) ∧ w'.cell? ⟨E2, o2 + k * 7 + 2, none⟩ = some (.string u2) ∧ w'.cell? ⟨E2, o2 + k * 7 + 3, none⟩ = some (.int .i64 u3) ∧ w'.cell? ⟨E2, o2 + k * 7 + 4, none⟩ = some (.slice u4 u5 u6) ∧ w'.cell? ⟨E2, o2 + k * 7 + 5, none⟩ = some (.slice u7 u8 u9) ∧ w'.cell? ⟨E2, o2 + k * 7 + 6, none⟩ = some (.slice u10 u11 u12)) (first | exact ⟨H0.out.1.drew, H0.out.2⟩ | exact S16 (by assumption) rfl (by assumption)) (first | (go_at_call 58; (with_reducible refine ((X.out _ (And.left (by assumption))).mono ?_)); (rintro e w1 ⟨rfl, hb1⟩)))
            obtain ⟨hS, _⟩ := (show Below _ _ _ ∧ _ from by assumption)
            have HS := Hd.mk hS
            clear hS
            go_wp2_with fail
            refine ⟨⟨k + 1, by omega, by go_num, step HB2.out HS.out, ?_⟩, by simp [intOf]; omega⟩
            rw [take_next M1.out, take_next M2.out, HT2.out, HEQ.out]
          · have hans : Says (eqB x1 x2) = Says false := by rw [eqB_ne he]
            have HA := Hd.mk hans
            have hans2 : eqB ds ds' = false := eqB_ne fun h => he (by have := M1.out; rw [h, M2.out] at this; exact (Option.some.inj this).symm)
            have HE2 := Hd.mk hans2
            clear hans hans2 he
            have H0 : Hd ((fun w' => Below wq.heap.size wq w' ∧ w'.cell? ⟨w.heap.size, 2, none⟩ = some (.slice (some ⟨E1, o1, none⟩) l1 c1) ∧ w'.cell? ⟨w.heap.size + 1, 2, none⟩ = some (.slice (some ⟨E2, o2, none⟩) l1 d1) ∧ w'.cell? ⟨E1, o1 + k * 7, none⟩ = some (.int .i64 v0) ∧ w'.cell? ⟨E1, o1 + k * 7 + 1, none⟩ = some (.bool v1) ∧ w'.cell? ⟨E1, o1 + k * 7 + 2, none⟩ = some (.string v2) ∧ w'.cell? ⟨E1, o1 + k * 7 + 3, none⟩ = some (.int .i64 v3) ∧ w'.cell? ⟨E1, o1 + k * 7 + 4, none⟩ = some (.slice v4 v5 v6) ∧ w'.cell? ⟨E1, o1 + k * 7 + 5, none⟩ = some (.slice v7 v8 v9) ∧ w'.cell? ⟨E1, o1 + k * 7 + 6, none⟩ = some (.slice v10 v11 v12) ∧ w'.cell? ⟨E2, o2 + k * 7, none⟩ = some (.int .i64 u0) ∧ w'.cell? ⟨E2, o2 + k * 7 + 1, none⟩ = some (.bool u1) ∧ w'.cell? ⟨E2, o2 + k * 7 + 2, none⟩ = some (.string u2) ∧ w'.cell? ⟨E2, o2 + k * 7 + 3, none⟩ = some (.int .i64 u3) ∧ w'.cell? ⟨E2, o2 + k * 7 + 4, none⟩ = some (.slice u4 u5 u6) ∧ w'.cell? ⟨E2, o2 + k * 7 + 5, none⟩ = some (.slice u7 u8 u9) ∧ w'.cell? ⟨E2, o2 + k * 7 + 6, none⟩ = some (.slice u10 u11 u12)) wq) := ⟨⟨up0 _, g4, f4, a0, a1, a2, a3, a4, a5, a6, b0, b1, b2, b3, b4, b5, b6⟩⟩
            have X : Hd (∀ w', Below wq.heap.size wq w' → Calls Tryz.prog 58 #[.agg #[.int .i64 v0, .bool v1, .string v2, .int .i64 v3, .slice v4 v5 v6, .slice v7 v8 v9, .slice v10 v11 v12], .agg #[.int .i64 u0, .bool u1, .string u2, .int .i64 u3, .slice u4 u5 u6, .slice u7 u8 u9, .slice u10 u11 u12]] w' (Says false w')) := ⟨fun w' hb => HA.out ▸ refDe x1 x2 _ _ _ (De.Is_below hb AX.out) (De.Is_below hb BX.out)⟩
            clear a0 a1 a2 a3 a4 a5 a6 b0 b1 b2 b3 b4 b5 b6
            go_wp2_with fail
            go_region_held3 (fun w' => Below wq.heap.size wq w' ∧ w'.cell? ⟨w.heap.size, 2, none⟩ = some (.slice (some ⟨E1, o1, none⟩) l1 c1) ∧ w'.cell? ⟨w.heap.size + 1, 2, none⟩ = some (.slice (some ⟨E2, o2, none⟩) l1 d1) ∧ w'.cell? ⟨E1, o1 + k * 7, none⟩ = some (.int .i64 v0) ∧ w'.cell? ⟨E1, o1 + k * 7 + 1, none⟩ = some (.bool v1) ∧ w'.cell? ⟨E1, o1 + k * 7 + 2, none⟩ = some (.string v2) ∧ w'.cell? ⟨E1, o1 + k * 7 + 3, none⟩ = some (.int .i64 v3) ∧ w'.cell? ⟨E1, o1 + k * 7 + 4, none⟩ = some (.slice v4 v5 v6) ∧ w'.cell? ⟨E1, o1 + k * 7 + 5, none⟩ = some (.slice v7 v8 v9) ∧ w'.cell? ⟨E1, o1 + k * 7 + 6, none⟩ = some (.slice v10 v11 v12) ∧ w'.cell? ⟨E2, o2 + k * 7, none⟩ = some (.int .i64 u0) ∧ w'.cell? ⟨E2, o2 + k * 7 + 1, none⟩ = some (.bool u1) ∧ w'.cell? ⟨E2, o2 + k * 7 + 2, none⟩ = some (.string u2) ∧ w'.cell? ⟨E2, o2 + k * 7 + 3, none⟩ = some (.int .i64 u3) ∧ w'.cell? ⟨E2, o2 + k * 7 + 4, none⟩ = some (.slice u4 u5 u6) ∧ w'.cell? ⟨E2, o2 + k * 7 + 5, none⟩ = some (.slice u7 u8 u9) ∧ w'.cell? ⟨E2, o2 + k * 7 + 6, none⟩ = some (.slice u10 u11 u12)) (first | exact ⟨H0.out.1.drew, H0.out.2⟩ | exact S16 (by assumption) rfl (by assumption)) (first | (go_at_call 58; (with_reducible refine ((X.out _ (And.left (by assumption))).mono ?_)); (rintro e w1 ⟨rfl, hb1⟩)))
            obtain ⟨hS, _⟩ := (show Below _ _ _ ∧ _ from by assumption)
            have HS := Hd.mk hS
            clear hS
            go_wp2_with fail
            go_ret
            rw [HE.out, HE2.out]
            exact ⟨rfl, step HV.out (step HB2.out HS.out)⟩
        · have hk2 : k = l1 := by omega
          subst hk2
          have hans2 : eqB ds ds' = true := by
            have := HT2.out
            rw [List.take_of_length_le (by rw [← H2.out.1]; omega), List.take_of_length_le (by rw [← I2.out.1]; omega)] at this
            rw [this, eqB_self]
          have HE2 := Hd.mk hans2
          clear hans2
          go_wp2_with fail
          go_ret
          rw [HE.out, HE2.out]
          exact ⟨rfl, step HV.out HB2.out⟩
end Go.Proofs.YtbhgpegcdiohlaaGreatDoor.Tr
