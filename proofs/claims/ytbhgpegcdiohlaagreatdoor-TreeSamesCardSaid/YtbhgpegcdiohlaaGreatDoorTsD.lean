import Derived.Test.YtbhgpegcdiohlaaGreatDoorTsC
namespace Go.Proofs.YtbhgpegcdiohlaaGreatDoor.Tr
open Go Go.RowKit Go.Proofs
set_option linter.unusedVariables false
set_option maxRecDepth 100000
/-- what a loop over parameters that lie boxed says: function 58's loop, in a lemma of its own -/
def RefDe (x : De) : Prop := ∀ (y : De) (w : World) (v u : Value), x.Is w v → y.Is w u → Calls Tryz.prog 58 #[v, u] w (Says (eqB x y) w)
theorem refSts_any (ks : Sts) (l2 : List St) (w : World) (A1 A2 : Option Addr) (n1 n2 c1 c2 : Nat) (h1 : Sl 5 (fun x => x.In w) ks.toList A1 n1) (h2 : Sl 5 (fun x => x.In w) l2 A2 n2) : Calls Tryz.prog 115 #[.slice A1 n1 c1, .slice A2 n2 c2] w (Says (eqB ks.toList l2) w) := refSts ks l2 w A1 A2 n1 n2 c1 c2 h1 h2
set_option maxHeartbeats 8000000 in
theorem refDe : ∀ x : De, RefDe x := by
  rintro ⟨k, x, n, t, ps, e, bd⟩ ⟨k', x', n', t', ps', e', bd'⟩ w v u hv hu
  unfold De.Is at hv hu
  obtain ⟨A, l, c, A1, l1, c1, A2, l2, c2, rfl, h1, h2, h3⟩ := hv
  obtain ⟨B, m, d, B1, m1, d1, B2, m2, d2, rfl, i1, i2, i3⟩ := hu
  dsimp only at h1 h2 h3 i1 i2 i3 ⊢
  have H1 := Hd.mk h1
  have H2 := Hd.mk h2
  have H3 := Hd.mk h3
  have I1 := Hd.mk i1
  have I2 := Hd.mk i2
  have I3 := Hd.mk i3
  have hn := h1.2.1
  clear h1 h2 h3 i1 i2 i3
  by_cases hall : k = k' ∧ x = x' ∧ n = n' ∧ t = t' ∧ l = m
  rotate_left
  · have hall2 : (⟨k, x, n, t, ps, e, bd⟩ : De) ≠ ⟨k', x', n', t', ps', e', bd'⟩ := fun h => hall (by injection h with g1 g2 g3 g4 g5; exact ⟨g1, g2, g3, g4, by rw [H1.out.1, I1.out.1, g5]⟩)
    have HE := Hd.mk (eqB_ne hall2)
    have HN := Hd.mk hall
    clear hall hall2
    go_enter Tryz.func58, Tryz.ntmps58
    go_wp2_with fail
    all_goals first
      | (go_ret; rw [HE.out]; exact ⟨rfl, up (up (up0 _) _) _⟩)
      | (exfalso; exact HN.out ⟨by assumption, by assumption, bytes_eq (by assumption), by assumption, by have q := ‹((l : Int) != (m : Int)) = false›; simp only [bne_eq_false_iff_eq] at q; omega⟩)
  obtain ⟨rfl, rfl, rfl, rfl, rfl⟩ := hall
  have HQ : Hd (eqB (⟨k, x, n, t, ps, e, bd⟩ : De) ⟨k, x, n, t, ps', e', bd'⟩ = (eqB ps ps' && eqB e.toList e'.toList && eqB bd.toList bd'.toList)) := ⟨by
    by_cases q1 : ps = ps'
    · by_cases q2 : e = e'
      · by_cases q3 : bd = bd'
        · rw [q1, q2, q3, eqB_self, eqB_self, eqB_self, eqB_self]; rfl
        · rw [eqB_ne (fun h => q3 (by injection h)), eqB_ne (x := bd.toList) (fun h => q3 (Sts.toList_inj h)), Bool.and_false]
      · rw [eqB_ne (fun h => q2 (by injection h)), eqB_ne (x := e.toList) (fun h => q2 (Exs.toList_inj h)), Bool.and_false, Bool.false_and]
    · rw [eqB_ne (fun h => q1 (by injection h)), eqB_ne q1]; rfl⟩
  have k0 := new_cell w #[.int .i64 k, .bool x, .string n, .int .i64 t, .slice A l c, .slice A1 l1 c1, .slice A2 l2 c2] 47
  have k1 := new_cell (w.alloc (.cells #[.int .i64 k, .bool x, .string n, .int .i64 t, .slice A l c, .slice A1 l1 c1, .slice A2 l2 c2] 47 (0, 0))) #[.int .i64 k, .bool x, .string n, .int .i64 t, .slice B l d, .slice B1 m1 d1, .slice B2 m2 d2] 47
  have z1 : (w.alloc (.cells #[.int .i64 k, .bool x, .string n, .int .i64 t, .slice A l c, .slice A1 l1 c1, .slice A2 l2 c2] 47 (0, 0))).heap.size = w.heap.size + 1 := by simp
  rw [z1] at k1
  have t1 := up (up0 (w.alloc (.cells #[.int .i64 k, .bool x, .string n, .int .i64 t, .slice A l c, .slice A1 l1 c1, .slice A2 l2 c2] 47 (0, 0)))) (.cells #[.int .i64 k, .bool x, .string n, .int .i64 t, .slice B l d, .slice B1 m1 d1, .slice B2 m2 d2] 47 (0, 0))
  have C4 := Hd.mk (keep t1 (k0 4))
  have C5 := Hd.mk (keep t1 (k0 5))
  have C6 := Hd.mk (keep t1 (k0 6))
  have D4 := Hd.mk (k1 4)
  have D5 := Hd.mk (k1 5)
  have D6 := Hd.mk (k1 6)
  have HW := Hd.mk (up (up (up0 w) (.cells #[.int .i64 k, .bool x, .string n, .int .i64 t, .slice A l c, .slice A1 l1 c1, .slice A2 l2 c2] 47 (0, 0))) (.cells #[.int .i64 k, .bool x, .string n, .int .i64 t, .slice B l d, .slice B1 m1 d1, .slice B2 m2 d2] 47 (0, 0)))
  clear k0 k1 t1 z1
  go_enter Tryz.func58, Tryz.ntmps58
  go_wp2_with fail
  generalize hW0 : ((w.alloc (.cells #[.int .i64 k, .bool x, .string n, .int .i64 t, .slice A l c, .slice A1 l1 c1, .slice A2 l2 c2] 47 (0, 0))).alloc (.cells #[.int .i64 k, .bool x, .string n, .int .i64 t, .slice B l d, .slice B1 m1 d1, .slice B2 m2 d2] 47 (0, 0))) = W0 at *
  clear hW0
  go_loopw [5] (fun i w' => ∃ j : Nat, j ≤ l ∧ i = .int .i64 j ∧ Below W0.heap.size W0 w' ∧ ps.take j = ps'.take j) (fun i _ => l - (intOf i).toNat)
  case atStart => exact ⟨0, by omega, rfl, Below.refl _ _, rfl⟩
  case round =>
    obtain ⟨j, hj, rfl, hb, ht⟩ := hrel
    have HB := Hd.mk hb
    have HT := Hd.mk ht
    have r4 := keep hb C4.out
    have r5 := keep hb C5.out
    have r6 := keep hb C6.out
    have s4 := keep hb D4.out
    have s5 := keep hb D5.out
    have s6 := keep hb D6.out
    have y0 := World.block_lt_of_cell? _ _ r4
    have y1 := World.block_lt_of_cell? _ _ s4
    clear hb ht
    by_cases hlt : j < l
    · obtain ⟨B1', o1, rfl, g1⟩ := H1.out.at (by omega)
      obtain ⟨B2', o2, rfl, g2⟩ := I1.out.at (by omega)
      obtain ⟨x1, m1'⟩ : ∃ x, ps[j]? = some x := ⟨_, List.getElem?_eq_getElem (by rw [← H1.out.1]; exact hlt)⟩
      obtain ⟨x2, m2'⟩ : ∃ x, ps'[j]? = some x := ⟨_, List.getElem?_eq_getElem (by rw [← I1.out.1]; exact hlt)⟩
      have i1 := Pa.In_below (step HW.out HB.out) x1 (g1 j x1 m1')
      have i2 := Pa.In_below (step HW.out HB.out) x2 (g2 j x2 m2')
      have M1 := Hd.mk m1'
      have M2 := Hd.mk m2'
      clear m1' m2' g1 g2
      obtain ⟨a0, a1⟩ := i1
      obtain ⟨b0, b1⟩ := i2
      obtain ⟨s1, t1⟩ := x1
      obtain ⟨s2, t2⟩ := x2
      dsimp only at a0 a1 b0 b1
      have k0 : (0 : Int) ≤ (j : Int) := by omega
      have k1 : (j : Int) < (l : Int) := by omega
      by_cases he : (⟨s1, t1⟩ : Pa) = ⟨s2, t2⟩
      · have hs : s1 = s2 := congrArg Pa.n he
        have ht : t1 = t2 := congrArg Pa.t he
        clear he
        subst hs ht
        go_wp2_with fail
        go_quiet (fail)
        go_wp2_with fail
        refine ⟨⟨j + 1, by omega, by go_num, HB.out.trans (drewN_below _ _ _), ?_⟩, by simp [intOf]; omega⟩
        rw [take_next M1.out, take_next M2.out, HT.out]
      · have hans2 : eqB ps ps' = false := eqB_ne fun h => he (by have := M1.out; rw [h, M2.out] at this; exact (Option.some.inj this).symm)
        have HE : Hd (eqB (⟨k, x, n, t, ps, e, bd⟩ : De) ⟨k, x, n, t, ps', e', bd'⟩ = false) := ⟨by rw [HQ.out, hans2]; rfl⟩
        clear hans2
        by_cases hs : s1 = s2
        · subst hs
          have ht : (t1 == t2) = false := beq_eq_false_iff_ne.mpr fun h => he (by rw [h])
          have ht2 : ¬ t1 = t2 := fun h => he (by rw [h])
          go_wp2_with fail
          go_quiet (fail)
          go_wp2_with fail
          go_ret
          rw [HE.out]
          exact ⟨rfl, step HW.out (HB.out.trans (drewN_below _ _ _))⟩
        · have hx : (s1.toList == s2.toList) = false := beq_eq_false_iff_ne.mpr fun h => hs (bytes_eq h)
          have hx2 : ¬ s1.toList = s2.toList := fun h => hs (bytes_eq h)
          go_wp2_with fail
          go_quiet (fail)
          go_wp2_with fail
          go_ret
          rw [HE.out]
          exact ⟨rfl, step HW.out (HB.out.trans (drewN_below _ _ _))⟩
    · have hk2 : j = l := by omega
      subst hk2
      have hans2 : ps = ps' := by
        have := HT.out
        rw [List.take_of_length_le (by rw [← H1.out.1]; omega), List.take_of_length_le (by rw [← I1.out.1]; omega)] at this
        exact this
      have HE : Hd (eqB (⟨k, x, n, t, ps, e, bd⟩ : De) ⟨k, x, n, t, ps', e', bd'⟩ = (eqB e.toList e'.toList && eqB bd.toList bd'.toList)) := ⟨by rw [HQ.out, hans2, eqB_self, Bool.true_and]⟩
      clear hans2
      go_wp2_with (first
        | (go_at_call 60; (with_reducible refine ((rf60_any e.toList e'.toList (refExs e) _ _ _ _ _ _ _ (Sl_up (step HW.out HB.out) H2.out) (Sl_up (step HW.out HB.out) I2.out)).mono ?_)); (rintro e w1 ⟨rfl, hb1⟩; have HB1 := Hd.mk hb1; have p6 := keep hb1 r6; have q6 := keep hb1 s6; clear hb1))
        | (go_at_call 115; (with_reducible refine ((refSts_any bd bd'.toList _ _ _ _ _ _ _ (SlS_up (step (step HW.out HB.out) HB1.out) H3.out) (SlS_up (step (step HW.out HB.out) HB1.out) I3.out)).mono ?_)); (rintro e w2 ⟨rfl, hb2⟩; have HB2 := Hd.mk hb2; clear hb2)))
      all_goals go_ret
      all_goals refine says_of ?_ ⟨rfl, ?_⟩
      all_goals first
        | (rw [HE.out]; simp_all; done)
        | exact step (step (step HW.out HB.out) HB1.out) HB2.out
        | exact step (step HW.out HB.out) HB1.out
        | trace_state
end Go.Proofs.YtbhgpegcdiohlaaGreatDoor.Tr
