-- WRITTEN BY A PROGRAM OF THE SESSION (wip/myprint.sh): Lean checks it.
import Derived.Test.YtjgccgjdonjlaaaDoorQAll0
import Derived.Test.YtjgccgjdonjlaaaDoorQAll2
import Derived.Test.YtjgccgjdonjlaaaDoorQAll3
namespace Go.Proofs.YtjgccgjdonjlaaaDoor.QAll
open Go.Proofs.YtjgccgjdonjlaaaDoorG
open Go.RowKit Go.Proofs.YtjgccgjdonjlaaaDoorW.PrintWords Go.Proofs.YtjgccgjdonjlaaaDoorW.PrintLast Go.Proofs.YtjgccgjdonjlaaaDoorW.PrintMore
attribute [local go_sem] max2_int min2_int max_two min_two max_three min_three max_four min_four   -- for this text's walks alone
set_option linter.unusedVariables false
set_option linter.unusedSimpArgs false

/-! ### foundrylaw02_IntsRing: function 6 -/
mutual
def foundrylaw02_IntsRing.j0 : Nat → Int → Int → Int → Bool → Option (Bool)
  | 0, _, _, _, _ => none
  | k + 1, x0, x1, x2, x63 => if x63 = true then (some false) else ((ints_Mul.f x0 x2).bind fun bt229 => ((ints_Mul.f x1 x2).bind fun bt231 => ((ints_Add.f x0 x1).bind fun bt233 => (if bt229.2 = 0 then (if bt231.2 = 0 then (foundrylaw02_IntsRing.j1 k x2 bt229.1 bt231.1 bt233.1 (bt233.2 != 0)) else (foundrylaw02_IntsRing.j1 k x2 bt229.1 bt231.1 bt233.1 true)) else (foundrylaw02_IntsRing.j1 k x2 bt229.1 bt231.1 bt233.1 true)))))
def foundrylaw02_IntsRing.j1 : Nat → Int → Int → Int → Int → Bool → Option (Bool)
  | 0, _, _, _, _, _ => none
  | k + 1, x2, x15, x16, x17, x91 => if x91 = true then (some true) else ((ints_Mul.f x17 x2).bind fun bt235 => ((ints_Add.f x15 x16).bind fun bt237 => (if bt235.2 = 0 then (if bt237.2 = 0 then (some (bt235.1 == bt237.1)) else (some false)) else (some true))))
end
def foundrylaw02_IntsRing.f (k : Nat) (a0 : Int) (a1 : Int) (a2 : Int) : Option (Bool) := (foundrylaw02_live.f k).bind fun t220 => (if t220 = true then ((ints_Add.f a0 a1).bind fun bt221 => ((ints_Add.f a1 a0).bind fun bt223 => ((ints_Mul.f a0 a1).bind fun bt225 => ((ints_Mul.f a1 a0).bind fun bt227 => (if bt221.1 = bt223.1 then (if bt221.2 = bt223.2 then (if bt225.1 = bt227.1 then (foundrylaw02_IntsRing.j0 k a0 a1 a2 (bt225.2 != bt227.2)) else (foundrylaw02_IntsRing.j0 k a0 a1 a2 true)) else (foundrylaw02_IntsRing.j0 k a0 a1 a2 true)) else (foundrylaw02_IntsRing.j0 k a0 a1 a2 true)))))) else (some false))
theorem foundrylaw02_IntsRing.mono_l : ∀ k, (∀ y0 y1 y2 y3, LeO (foundrylaw02_IntsRing.j0 k y0 y1 y2 y3) (foundrylaw02_IntsRing.j0 (k + 1) y0 y1 y2 y3)) ∧ (∀ y0 y1 y2 y3 y4, LeO (foundrylaw02_IntsRing.j1 k y0 y1 y2 y3 y4) (foundrylaw02_IntsRing.j1 (k + 1) y0 y1 y2 y3 y4))
  | 0 => ⟨fun _ _ _ _ r h => by simp [foundrylaw02_IntsRing.j0] at h, fun _ _ _ _ _ r h => by simp [foundrylaw02_IntsRing.j1] at h⟩
  | k + 1 => by
    obtain ⟨ih0, ih1⟩ := foundrylaw02_IntsRing.mono_l k
    refine ⟨?_, ?_⟩
    · intro y0 y1 y2 y3
      unfold foundrylaw02_IntsRing.j0
      repeat' first
      | (with_reducible exact ih0 _ _ _ _)
      | (with_reducible exact ih1 _ _ _ _ _)
      | (with_reducible exact foundrylaw02_live.mono _)
      | (with_reducible exact LeO.refl _)
      | (with_reducible exact LeO.none _)
      | (with_reducible refine LeO.ite ?_ ?_)
      | (with_reducible refine LeO.bind ?_ (fun _ => ?_))
      | exact ih0 _ _ _ _
      | exact ih1 _ _ _ _ _
      | exact foundrylaw02_live.mono _
      | exact LeO.none _
      | refine LeO.ite ?_ ?_
      | refine LeO.bind ?_ (fun _ => ?_)
    · intro y0 y1 y2 y3 y4
      unfold foundrylaw02_IntsRing.j1
      repeat' first
      | (with_reducible exact ih0 _ _ _ _)
      | (with_reducible exact ih1 _ _ _ _ _)
      | (with_reducible exact foundrylaw02_live.mono _)
      | (with_reducible exact LeO.refl _)
      | (with_reducible exact LeO.none _)
      | (with_reducible refine LeO.ite ?_ ?_)
      | (with_reducible refine LeO.bind ?_ (fun _ => ?_))
      | exact ih0 _ _ _ _
      | exact ih1 _ _ _ _ _
      | exact foundrylaw02_live.mono _
      | exact LeO.none _
      | refine LeO.ite ?_ ?_
      | refine LeO.bind ?_ (fun _ => ?_)
theorem foundrylaw02_IntsRing.mono : ∀ a0 a1 a2 k, LeO (foundrylaw02_IntsRing.f k a0 a1 a2) (foundrylaw02_IntsRing.f (k + 1) a0 a1 a2) := by
  intro a0 a1 a2 k
  obtain ⟨ih0, ih1⟩ := foundrylaw02_IntsRing.mono_l k
  unfold foundrylaw02_IntsRing.f
  repeat' first
      | (with_reducible exact ih0 _ _ _ _)
      | (with_reducible exact ih1 _ _ _ _ _)
      | (with_reducible exact foundrylaw02_live.mono _)
      | (with_reducible exact LeO.refl _)
      | (with_reducible exact LeO.none _)
      | (with_reducible refine LeO.ite ?_ ?_)
      | (with_reducible refine LeO.bind ?_ (fun _ => ?_))
      | exact ih0 _ _ _ _
      | exact ih1 _ _ _ _ _
      | exact foundrylaw02_live.mono _
      | exact LeO.none _
      | refine LeO.ite ?_ ?_
      | refine LeO.bind ?_ (fun _ => ?_)
set_option maxHeartbeats 8000000 in
set_option maxRecDepth 100000 in
theorem foundrylaw02_IntsRing.calls (k : Nat) (a0 : Int) (a1 : Int) (a2 : Int) (r : Bool) (w : World) (hLaid : LaidOk w) (h : foundrylaw02_IntsRing.f k a0 a1 a2 = some r) :
    Calls Tryd.prog 6 #[.int .i64 a0, .int .i64 a1, .int .i64 a2] w fun e w' => e = .returned (.bool r) ∧ Below w.heap.size w w' := by
  have HLAID := Aside0.mk hLaid
  clear hLaid
  have HB := Aside0.mk (Below.refl w.heap.size w)
  have H : ((foundrylaw02_live.f k).bind fun t220 => (if t220 = true then ((ints_Add.f a0 a1).bind fun bt221 => ((ints_Add.f a1 a0).bind fun bt223 => ((ints_Mul.f a0 a1).bind fun bt225 => ((ints_Mul.f a1 a0).bind fun bt227 => (if bt221.1 = bt223.1 then (if bt221.2 = bt223.2 then (if bt225.1 = bt227.1 then (foundrylaw02_IntsRing.j0 k a0 a1 a2 (bt225.2 != bt227.2)) else (foundrylaw02_IntsRing.j0 k a0 a1 a2 true)) else (foundrylaw02_IntsRing.j0 k a0 a1 a2 true)) else (foundrylaw02_IntsRing.j0 k a0 a1 a2 true)))))) else (some false))) = some r := h
  clear h
  replace H := Option.bind_eq_some_iff.mp H
  obtain ⟨t220, A40, H⟩ := H
  replace H : (if t220 = true then ((ints_Add.f a0 a1).bind fun bt221 => ((ints_Add.f a1 a0).bind fun bt223 => ((ints_Mul.f a0 a1).bind fun bt225 => ((ints_Mul.f a1 a0).bind fun bt227 => (if bt221.1 = bt223.1 then (if bt221.2 = bt223.2 then (if bt225.1 = bt227.1 then (foundrylaw02_IntsRing.j0 k a0 a1 a2 (bt225.2 != bt227.2)) else (foundrylaw02_IntsRing.j0 k a0 a1 a2 true)) else (foundrylaw02_IntsRing.j0 k a0 a1 a2 true)) else (foundrylaw02_IntsRing.j0 k a0 a1 a2 true)))))) else (some false)) = some r := H
  have A4 := Aside0.mk A40
  clear A40
  by_cases c5 : t220 = true
  · subst c5
    have H1 : ((ints_Add.f a0 a1).bind fun bt221 => ((ints_Add.f a1 a0).bind fun bt223 => ((ints_Mul.f a0 a1).bind fun bt225 => ((ints_Mul.f a1 a0).bind fun bt227 => (if bt221.1 = bt223.1 then (if bt221.2 = bt223.2 then (if bt225.1 = bt227.1 then (foundrylaw02_IntsRing.j0 k a0 a1 a2 (bt225.2 != bt227.2)) else (foundrylaw02_IntsRing.j0 k a0 a1 a2 true)) else (foundrylaw02_IntsRing.j0 k a0 a1 a2 true)) else (foundrylaw02_IntsRing.j0 k a0 a1 a2 true)))))) = some r := by rw [if_pos rfl] at H; exact H
    clear H
    have H := H1
    clear H1
    replace H := Option.bind_eq_some_iff.mp H
    obtain ⟨⟨t221, t222⟩, A60, H⟩ := H
    replace H : ((ints_Add.f a1 a0).bind fun bt223 => ((ints_Mul.f a0 a1).bind fun bt225 => ((ints_Mul.f a1 a0).bind fun bt227 => (if t221 = bt223.1 then (if t222 = bt223.2 then (if bt225.1 = bt227.1 then (foundrylaw02_IntsRing.j0 k a0 a1 a2 (bt225.2 != bt227.2)) else (foundrylaw02_IntsRing.j0 k a0 a1 a2 true)) else (foundrylaw02_IntsRing.j0 k a0 a1 a2 true)) else (foundrylaw02_IntsRing.j0 k a0 a1 a2 true))))) = some r := H
    have A6 := Aside0.mk A60
    clear A60
    replace H := Option.bind_eq_some_iff.mp H
    obtain ⟨⟨t223, t224⟩, A70, H⟩ := H
    replace H : ((ints_Mul.f a0 a1).bind fun bt225 => ((ints_Mul.f a1 a0).bind fun bt227 => (if t221 = t223 then (if t222 = t224 then (if bt225.1 = bt227.1 then (foundrylaw02_IntsRing.j0 k a0 a1 a2 (bt225.2 != bt227.2)) else (foundrylaw02_IntsRing.j0 k a0 a1 a2 true)) else (foundrylaw02_IntsRing.j0 k a0 a1 a2 true)) else (foundrylaw02_IntsRing.j0 k a0 a1 a2 true)))) = some r := H
    have A7 := Aside0.mk A70
    clear A70
    replace H := Option.bind_eq_some_iff.mp H
    obtain ⟨⟨t225, t226⟩, A80, H⟩ := H
    replace H : ((ints_Mul.f a1 a0).bind fun bt227 => (if t221 = t223 then (if t222 = t224 then (if t225 = bt227.1 then (foundrylaw02_IntsRing.j0 k a0 a1 a2 (t226 != bt227.2)) else (foundrylaw02_IntsRing.j0 k a0 a1 a2 true)) else (foundrylaw02_IntsRing.j0 k a0 a1 a2 true)) else (foundrylaw02_IntsRing.j0 k a0 a1 a2 true))) = some r := H
    have A8 := Aside0.mk A80
    clear A80
    replace H := Option.bind_eq_some_iff.mp H
    obtain ⟨⟨t227, t228⟩, A90, H⟩ := H
    replace H : (if t221 = t223 then (if t222 = t224 then (if t225 = t227 then (foundrylaw02_IntsRing.j0 k a0 a1 a2 (t226 != t228)) else (foundrylaw02_IntsRing.j0 k a0 a1 a2 true)) else (foundrylaw02_IntsRing.j0 k a0 a1 a2 true)) else (foundrylaw02_IntsRing.j0 k a0 a1 a2 true)) = some r := H
    have A9 := Aside0.mk A90
    clear A90
    have HC10 := Aside0.mk H
    clear H
    go_enter Tryd.func6, Tryd.ntmps6
    go_upto_region 7 with (first | ((with_reducible refine gate_callee (f := 18) rfl ?_); refine goesL_ (some 20) rfl rfl Tryd.func18 (by kernel_rfl) rfl #[] rfl (by (try simp only [List.map_toArray, List.map_cons, List.map_nil]); first | done | rfl | (simp only [List.length_drop, List.length_take]; rfl)) ?_; (with_reducible refine (foundrylaw02_live.calls k  true _ ?side1 A4.out).mono ?_); (case side1 => exact LaidOk.below (by repeat (first | (with_reducible first | exact HB.out | apply below_alloc | apply pw_below_drewN | apply below_drew1) | exact HB.out)) HLAID.out); rintro e w11 ⟨rfl, hb⟩; refine ⟨_, rfl, ?_⟩; have n0_ := Aside0.mk (below_step (by repeat (first | (with_reducible first | exact HB.out | apply below_alloc | apply pw_below_drewN | apply below_drew1) | exact HB.out)) hb); clear HB; have HB := n0_; clear n0_; (try clear hb); (try clear hb2); (try clear hk); (try clear hi)) | ((with_reducible refine gate_callee (f := 22) rfl ?_); refine goesL_ (some 25) rfl rfl Tryd.func22 (by kernel_rfl) rfl #[.int .i64 a0, .int .i64 a1] rfl (by (try simp only [List.map_toArray, List.map_cons, List.map_nil]); first | done | rfl | (simp only [List.length_drop, List.length_take]; rfl)) ?_; (with_reducible refine (ints_Add.calls a0 a1 t221 t222 _ A6.out).mono ?_); rintro e w' ⟨rfl, ⟨nd, rfl⟩⟩; refine ⟨_, rfl, ?_⟩) | ((with_reducible refine gate_callee (f := 22) rfl ?_); refine goesL_ (some 31) rfl rfl Tryd.func22 (by kernel_rfl) rfl #[.int .i64 a1, .int .i64 a0] rfl (by (try simp only [List.map_toArray, List.map_cons, List.map_nil]); first | done | rfl | (simp only [List.length_drop, List.length_take]; rfl)) ?_; (with_reducible refine (ints_Add.calls a1 a0 t223 t224 _ A7.out).mono ?_); rintro e w' ⟨rfl, ⟨nd, rfl⟩⟩; refine ⟨_, rfl, ?_⟩) | ((with_reducible refine gate_callee (f := 21) rfl ?_); refine goesL_ (some 37) rfl rfl Tryd.func21 (by kernel_rfl) rfl #[.int .i64 a0, .int .i64 a1] rfl (by (try simp only [List.map_toArray, List.map_cons, List.map_nil]); first | done | rfl | (simp only [List.length_drop, List.length_take]; rfl)) ?_; (with_reducible refine (ints_Mul.calls a0 a1 t225 t226 _ A8.out).mono ?_); rintro e w12 ⟨rfl, hb⟩; refine ⟨_, rfl, ?_⟩; have n0_ := Aside0.mk (below_step (by repeat (first | (with_reducible first | exact HB.out | apply below_alloc | apply pw_below_drewN | apply below_drew1) | exact HB.out)) hb); clear HB; have HB := n0_; clear n0_; (try clear hb); (try clear hb2); (try clear hk); (try clear hi)) | ((with_reducible refine gate_callee (f := 21) rfl ?_); refine goesL_ (some 43) rfl rfl Tryd.func21 (by kernel_rfl) rfl #[.int .i64 a1, .int .i64 a0] rfl (by (try simp only [List.map_toArray, List.map_cons, List.map_nil]); first | done | rfl | (simp only [List.length_drop, List.length_take]; rfl)) ?_; (with_reducible refine (ints_Mul.calls a1 a0 t227 t228 _ A9.out).mono ?_); rintro e w13 ⟨rfl, hb⟩; refine ⟨_, rfl, ?_⟩; have n0_ := Aside0.mk (below_step (by repeat (first | (with_reducible first | exact HB.out | apply below_alloc | apply pw_below_drewN | apply below_drew1) | exact HB.out)) hb); clear HB; have HB := n0_; clear n0_; (try clear hb); (try clear hb2); (try clear hk); (try clear hi)))
    (try simp only [Act.put, List.setIfInBounds_toArray, List.set_cons_zero, List.set_cons_succ])
    go_cut [63] (fun v63 wc => ∃ (kq : Nat) (x63_9 : Bool), v63 = .bool x63_9 ∧ Aside0 (foundrylaw02_IntsRing.j0 kq a0 a1 a2 x63_9 = some r) ∧ Aside0 (kq ≤ k) ∧ Aside0 (Below w.heap.size w wc))
    case first =>
      have H := HC10.out
      clear HC10
      by_cases c14 : t221 = t223
      · rw [if_pos c14] at H
        have c14b0 : (t221 == t223) = true := beq_iff_eq.mpr c14
        have c14b1 : (t221 != t223) = false := bne_eq_false_iff_eq.mpr c14
        clear c14
        (first | rw [c14b0] | (simp only [i64_w, i32_w]; rw [c14b0]) | skip)
        by_cases c15 : t222 = t224
        · rw [if_pos c15] at H
          have c15b0 : (t222 == t224) = true := beq_iff_eq.mpr c15
          have c15b1 : (t222 != t224) = false := bne_eq_false_iff_eq.mpr c15
          clear c15
          by_cases c16 : t225 = t227
          · rw [if_pos c16] at H
            have c16b0 : (t225 == t227) = true := beq_iff_eq.mpr c16
            have c16b1 : (t225 != t227) = false := bne_eq_false_iff_eq.mpr c16
            clear c16
            have H' := Aside0.mk H
            clear H
            go_wp2
            go_meet
            case rel => exact ⟨_, ((t226 != t228)), (by first | rfl | (simp; done) | (simp [*]; done)), H', ⟨by first | omega | exact Nat.le_refl _⟩, ⟨by repeat (first | (with_reducible first | exact HB.out | apply below_alloc | apply pw_below_drewN | apply below_drew1) | exact HB.out)⟩⟩
          · rw [if_neg c16] at H
            have c16b0 : (t225 == t227) = false := beq_eq_false_iff_ne.mpr c16
            have c16b1 : (t225 != t227) = true := bne_iff_ne.mpr c16
            have H' := Aside0.mk H
            clear H
            go_wp2
            go_meet
            case rel => exact ⟨_, (true), (by first | rfl | (simp; done) | (simp [*]; done)), H', ⟨by first | omega | exact Nat.le_refl _⟩, ⟨by repeat (first | (with_reducible first | exact HB.out | apply below_alloc | apply pw_below_drewN | apply below_drew1) | exact HB.out)⟩⟩
        · rw [if_neg c15] at H
          have c15b0 : (t222 == t224) = false := beq_eq_false_iff_ne.mpr c15
          have c15b1 : (t222 != t224) = true := bne_iff_ne.mpr c15
          have H' := Aside0.mk H
          clear H
          go_wp2
          go_meet
          case rel => exact ⟨_, (true), (by first | rfl | (simp; done) | (simp [*]; done)), H', ⟨by first | omega | exact Nat.le_refl _⟩, ⟨by repeat (first | (with_reducible first | exact HB.out | apply below_alloc | apply pw_below_drewN | apply below_drew1) | exact HB.out)⟩⟩
      · rw [if_neg c14] at H
        have c14b0 : (t221 == t223) = false := beq_eq_false_iff_ne.mpr c14
        have c14b1 : (t221 != t223) = true := bne_iff_ne.mpr c14
        (first | rw [c14b0] | (simp only [i64_w, i32_w]; rw [c14b0]) | skip)
        have H' := Aside0.mk H
        clear H
        go_wp2
        go_meet
        case rel => exact ⟨_, (true), (by first | rfl | (simp; done) | (simp [*]; done)), H', ⟨by first | omega | exact Nat.le_refl _⟩, ⟨by repeat (first | (with_reducible first | exact HB.out | apply below_alloc | apply pw_below_drewN | apply below_drew1) | exact HB.out)⟩⟩
    case rest =>
      clear HC10
      try clear c1
      try clear c2
      try clear p2
      try clear c5
      try clear c6
      try clear c14
      try clear c14b0
      try clear c14b1
      try clear c15
      try clear c15b0
      try clear c15b1
      try clear c16
      try clear c16b0
      try clear c16b1
      obtain ⟨kq, x63_9, rfl, HA, HJ9, HB⟩ := hcut
      cases kq with
      | zero => exact absurd HA.out (by simp [foundrylaw02_IntsRing.j0])
      | succ kj9 =>
        have H := HA.out
        clear HA
        simp only [foundrylaw02_IntsRing.j0] at H
        by_cases c17 : x63_9 = true
        · subst c17
          have H1 : (some false) = some r := by rw [if_pos rfl] at H; exact H
          clear H
          have H := H1
          clear H1
          obtain rfl := Option.some.inj H
          go_wp2
          go_ret
          exact ⟨by first | rfl | (simp [errW_none, errW_some] <;> rfl) | (simp [*, errW_none, errW_some] <;> rfl), by repeat (first | (with_reducible first | exact HB.out | apply below_alloc | apply pw_below_drewN | apply below_drew1) | exact HB.out)⟩
        · replace c17 := Bool.eq_false_iff.mpr c17
          subst c17
          have H1 : ((ints_Mul.f a0 a2).bind fun bt229 => ((ints_Mul.f a1 a2).bind fun bt231 => ((ints_Add.f a0 a1).bind fun bt233 => (if bt229.2 = 0 then (if bt231.2 = 0 then (foundrylaw02_IntsRing.j1 kj9 a2 bt229.1 bt231.1 bt233.1 (bt233.2 != 0)) else (foundrylaw02_IntsRing.j1 kj9 a2 bt229.1 bt231.1 bt233.1 true)) else (foundrylaw02_IntsRing.j1 kj9 a2 bt229.1 bt231.1 bt233.1 true))))) = some r := by rw [if_neg (show ¬ (false = true) by decide)] at H; exact H
          clear H
          have H := H1
          clear H1
          replace H := Option.bind_eq_some_iff.mp H
          obtain ⟨⟨t229, t230⟩, A180, H⟩ := H
          replace H : ((ints_Mul.f a1 a2).bind fun bt231 => ((ints_Add.f a0 a1).bind fun bt233 => (if t230 = 0 then (if bt231.2 = 0 then (foundrylaw02_IntsRing.j1 kj9 a2 t229 bt231.1 bt233.1 (bt233.2 != 0)) else (foundrylaw02_IntsRing.j1 kj9 a2 t229 bt231.1 bt233.1 true)) else (foundrylaw02_IntsRing.j1 kj9 a2 t229 bt231.1 bt233.1 true)))) = some r := H
          have A18 := Aside0.mk A180
          clear A180
          replace H := Option.bind_eq_some_iff.mp H
          obtain ⟨⟨t231, t232⟩, A190, H⟩ := H
          replace H : ((ints_Add.f a0 a1).bind fun bt233 => (if t230 = 0 then (if t232 = 0 then (foundrylaw02_IntsRing.j1 kj9 a2 t229 t231 bt233.1 (bt233.2 != 0)) else (foundrylaw02_IntsRing.j1 kj9 a2 t229 t231 bt233.1 true)) else (foundrylaw02_IntsRing.j1 kj9 a2 t229 t231 bt233.1 true))) = some r := H
          have A19 := Aside0.mk A190
          clear A190
          replace H := Option.bind_eq_some_iff.mp H
          obtain ⟨⟨t233, t234⟩, A200, H⟩ := H
          replace H : (if t230 = 0 then (if t232 = 0 then (foundrylaw02_IntsRing.j1 kj9 a2 t229 t231 t233 (t234 != 0)) else (foundrylaw02_IntsRing.j1 kj9 a2 t229 t231 t233 true)) else (foundrylaw02_IntsRing.j1 kj9 a2 t229 t231 t233 true)) = some r := H
          have A20 := Aside0.mk A200
          clear A200
          have HC21 := Aside0.mk H
          clear H
          go_upto_region 12 with (first | ((with_reducible refine gate_callee (f := 21) rfl ?_); refine goesL_ (some 67) rfl rfl Tryd.func21 (by kernel_rfl) rfl #[.int .i64 a0, .int .i64 a2] rfl (by (try simp only [List.map_toArray, List.map_cons, List.map_nil]); first | done | rfl | (simp only [List.length_drop, List.length_take]; rfl)) ?_; (with_reducible refine (ints_Mul.calls a0 a2 t229 t230 _ A18.out).mono ?_); rintro e w22 ⟨rfl, hb⟩; refine ⟨_, rfl, ?_⟩; have n0_ := Aside0.mk (below_step (by repeat (first | (with_reducible first | exact HB.out | apply below_alloc | apply pw_below_drewN | apply below_drew1) | exact HB.out)) hb); clear HB; have HB := n0_; clear n0_; (try clear hb); (try clear hb2); (try clear hk); (try clear hi)) | ((with_reducible refine gate_callee (f := 21) rfl ?_); refine goesL_ (some 73) rfl rfl Tryd.func21 (by kernel_rfl) rfl #[.int .i64 a1, .int .i64 a2] rfl (by (try simp only [List.map_toArray, List.map_cons, List.map_nil]); first | done | rfl | (simp only [List.length_drop, List.length_take]; rfl)) ?_; (with_reducible refine (ints_Mul.calls a1 a2 t231 t232 _ A19.out).mono ?_); rintro e w23 ⟨rfl, hb⟩; refine ⟨_, rfl, ?_⟩; have n0_ := Aside0.mk (below_step (by repeat (first | (with_reducible first | exact HB.out | apply below_alloc | apply pw_below_drewN | apply below_drew1) | exact HB.out)) hb); clear HB; have HB := n0_; clear n0_; (try clear hb); (try clear hb2); (try clear hk); (try clear hi)) | ((with_reducible refine gate_callee (f := 22) rfl ?_); refine goesL_ (some 79) rfl rfl Tryd.func22 (by kernel_rfl) rfl #[.int .i64 a0, .int .i64 a1] rfl (by (try simp only [List.map_toArray, List.map_cons, List.map_nil]); first | done | rfl | (simp only [List.length_drop, List.length_take]; rfl)) ?_; (with_reducible refine (ints_Add.calls a0 a1 t233 t234 _ A20.out).mono ?_); rintro e w' ⟨rfl, ⟨nd, rfl⟩⟩; refine ⟨_, rfl, ?_⟩))
          (try simp only [Act.put, List.setIfInBounds_toArray, List.set_cons_zero, List.set_cons_succ])
          go_cut [91] (fun v91 wc => ∃ (kq : Nat) (x91_20 : Bool), v91 = .bool x91_20 ∧ Aside0 (foundrylaw02_IntsRing.j1 kq a2 t229 t231 t233 x91_20 = some r) ∧ Aside0 (kq ≤ kj9) ∧ Aside0 (Below w.heap.size w wc))
          case first =>
            have H := HC21.out
            clear HC21
            by_cases c24 : t230 = 0
            · rw [if_pos c24] at H
              have c24b0 : (t230 == 0) = true := beq_iff_eq.mpr c24
              have c24b1 : (t230 != 0) = false := bne_eq_false_iff_eq.mpr c24
              clear c24
              (first | rw [c24b0] | (simp only [i64_w, i32_w]; rw [c24b0]) | skip)
              by_cases c25 : t232 = 0
              · rw [if_pos c25] at H
                have c25b0 : (t232 == 0) = true := beq_iff_eq.mpr c25
                have c25b1 : (t232 != 0) = false := bne_eq_false_iff_eq.mpr c25
                clear c25
                have H' := Aside0.mk H
                clear H
                go_wp2
                go_meet
                case rel => exact ⟨_, ((t234 != 0)), (by first | rfl | (simp; done) | (simp [*]; done)), H', ⟨by have := HJ9.out; first | omega | exact Nat.le_refl _⟩, ⟨by repeat (first | (with_reducible first | exact HB.out | apply below_alloc | apply pw_below_drewN | apply below_drew1) | exact HB.out)⟩⟩
              · rw [if_neg c25] at H
                have c25b0 : (t232 == 0) = false := beq_eq_false_iff_ne.mpr c25
                have c25b1 : (t232 != 0) = true := bne_iff_ne.mpr c25
                have H' := Aside0.mk H
                clear H
                go_wp2
                go_meet
                case rel => exact ⟨_, (true), (by first | rfl | (simp; done) | (simp [*]; done)), H', ⟨by have := HJ9.out; first | omega | exact Nat.le_refl _⟩, ⟨by repeat (first | (with_reducible first | exact HB.out | apply below_alloc | apply pw_below_drewN | apply below_drew1) | exact HB.out)⟩⟩
            · rw [if_neg c24] at H
              have c24b0 : (t230 == 0) = false := beq_eq_false_iff_ne.mpr c24
              have c24b1 : (t230 != 0) = true := bne_iff_ne.mpr c24
              (first | rw [c24b0] | (simp only [i64_w, i32_w]; rw [c24b0]) | skip)
              have H' := Aside0.mk H
              clear H
              go_wp2
              go_meet
              case rel => exact ⟨_, (true), (by first | rfl | (simp; done) | (simp [*]; done)), H', ⟨by have := HJ9.out; first | omega | exact Nat.le_refl _⟩, ⟨by repeat (first | (with_reducible first | exact HB.out | apply below_alloc | apply pw_below_drewN | apply below_drew1) | exact HB.out)⟩⟩
          case rest =>
            clear HC21
            try clear c1
            try clear c2
            try clear p2
            try clear c5
            try clear c6
            try clear c14
            try clear c14b0
            try clear c14b1
            try clear c15
            try clear c15b0
            try clear c15b1
            try clear c16
            try clear c16b0
            try clear c16b1
            try clear c17
            try clear c18
            try clear c21
            try clear c22
            try clear c24
            try clear c24b0
            try clear c24b1
            try clear c25
            try clear c25b0
            try clear c25b1
            try clear p2
            obtain ⟨kq, x91_20, rfl, HA, HJ20, HB⟩ := hcut
            cases kq with
            | zero => exact absurd HA.out (by simp [foundrylaw02_IntsRing.j1])
            | succ kj20 =>
              have H := HA.out
              clear HA
              simp only [foundrylaw02_IntsRing.j1] at H
              by_cases c26 : x91_20 = true
              · subst c26
                have H1 : (some true) = some r := by rw [if_pos rfl] at H; exact H
                clear H
                have H := H1
                clear H1
                obtain rfl := Option.some.inj H
                go_wp2
                go_ret
                exact ⟨by first | rfl | (simp [errW_none, errW_some] <;> rfl) | (simp [*, errW_none, errW_some] <;> rfl), by repeat (first | (with_reducible first | exact HB.out | apply below_alloc | apply pw_below_drewN | apply below_drew1) | exact HB.out)⟩
              · replace c26 := Bool.eq_false_iff.mpr c26
                subst c26
                have H1 : ((ints_Mul.f t233 a2).bind fun bt235 => ((ints_Add.f t229 t231).bind fun bt237 => (if bt235.2 = 0 then (if bt237.2 = 0 then (some (bt235.1 == bt237.1)) else (some false)) else (some true)))) = some r := by rw [if_neg (show ¬ (false = true) by decide)] at H; exact H
                clear H
                have H := H1
                clear H1
                replace H := Option.bind_eq_some_iff.mp H
                obtain ⟨⟨t235, t236⟩, A270, H⟩ := H
                replace H : ((ints_Add.f t229 t231).bind fun bt237 => (if t236 = 0 then (if bt237.2 = 0 then (some (t235 == bt237.1)) else (some false)) else (some true))) = some r := H
                have A27 := Aside0.mk A270
                clear A270
                replace H := Option.bind_eq_some_iff.mp H
                obtain ⟨⟨t237, t238⟩, A280, H⟩ := H
                replace H : (if t236 = 0 then (if t238 = 0 then (some (t235 == t237)) else (some false)) else (some true)) = some r := H
                have A28 := Aside0.mk A280
                clear A280
                by_cases c29 : t236 = 0
                · rw [if_pos c29] at H
                  have c29b0 : (t236 == 0) = true := beq_iff_eq.mpr c29
                  have c29b1 : (t236 != 0) = false := bne_eq_false_iff_eq.mpr c29
                  clear c29
                  by_cases c30 : t238 = 0
                  · rw [if_pos c30] at H
                    have c30b0 : (t238 == 0) = true := beq_iff_eq.mpr c30
                    have c30b1 : (t238 != 0) = false := bne_eq_false_iff_eq.mpr c30
                    clear c30
                    obtain rfl := Option.some.inj H
                    go_wp2_with (first | ((with_reducible refine gate_callee (f := 21) rfl ?_); refine goesL_ (some 95) rfl rfl Tryd.func21 (by kernel_rfl) rfl #[.int .i64 t233, .int .i64 a2] rfl (by (try simp only [List.map_toArray, List.map_cons, List.map_nil]); first | done | rfl | (simp only [List.length_drop, List.length_take]; rfl)) ?_; (with_reducible refine (ints_Mul.calls t233 a2 t235 t236 _ A27.out).mono ?_); rintro e w31 ⟨rfl, hb⟩; refine ⟨_, rfl, ?_⟩; have n0_ := Aside0.mk (below_step (by repeat (first | (with_reducible first | exact HB.out | apply below_alloc | apply pw_below_drewN | apply below_drew1) | exact HB.out)) hb); clear HB; have HB := n0_; clear n0_; (try clear hb); (try clear hb2); (try clear hk); (try clear hi)) | ((with_reducible refine gate_callee (f := 22) rfl ?_); refine goesL_ (some 101) rfl rfl Tryd.func22 (by kernel_rfl) rfl #[.int .i64 t229, .int .i64 t231] rfl (by (try simp only [List.map_toArray, List.map_cons, List.map_nil]); first | done | rfl | (simp only [List.length_drop, List.length_take]; rfl)) ?_; (with_reducible refine (ints_Add.calls t229 t231 t237 t238 _ A28.out).mono ?_); rintro e w' ⟨rfl, ⟨nd, rfl⟩⟩; refine ⟨_, rfl, ?_⟩))
                    go_ret
                    exact ⟨by first | rfl | (simp [errW_none, errW_some] <;> rfl) | (simp [*, errW_none, errW_some] <;> rfl), by repeat (first | (with_reducible first | exact HB.out | apply below_alloc | apply pw_below_drewN | apply below_drew1) | exact HB.out)⟩
                  · rw [if_neg c30] at H
                    have c30b0 : (t238 == 0) = false := beq_eq_false_iff_ne.mpr c30
                    have c30b1 : (t238 != 0) = true := bne_iff_ne.mpr c30
                    obtain rfl := Option.some.inj H
                    go_wp2_with (first | ((with_reducible refine gate_callee (f := 21) rfl ?_); refine goesL_ (some 95) rfl rfl Tryd.func21 (by kernel_rfl) rfl #[.int .i64 t233, .int .i64 a2] rfl (by (try simp only [List.map_toArray, List.map_cons, List.map_nil]); first | done | rfl | (simp only [List.length_drop, List.length_take]; rfl)) ?_; (with_reducible refine (ints_Mul.calls t233 a2 t235 t236 _ A27.out).mono ?_); rintro e w32 ⟨rfl, hb⟩; refine ⟨_, rfl, ?_⟩; have n0_ := Aside0.mk (below_step (by repeat (first | (with_reducible first | exact HB.out | apply below_alloc | apply pw_below_drewN | apply below_drew1) | exact HB.out)) hb); clear HB; have HB := n0_; clear n0_; (try clear hb); (try clear hb2); (try clear hk); (try clear hi)) | ((with_reducible refine gate_callee (f := 22) rfl ?_); refine goesL_ (some 101) rfl rfl Tryd.func22 (by kernel_rfl) rfl #[.int .i64 t229, .int .i64 t231] rfl (by (try simp only [List.map_toArray, List.map_cons, List.map_nil]); first | done | rfl | (simp only [List.length_drop, List.length_take]; rfl)) ?_; (with_reducible refine (ints_Add.calls t229 t231 t237 t238 _ A28.out).mono ?_); rintro e w' ⟨rfl, ⟨nd, rfl⟩⟩; refine ⟨_, rfl, ?_⟩))
                    go_ret
                    exact ⟨by first | rfl | (simp [errW_none, errW_some] <;> rfl) | (simp [*, errW_none, errW_some] <;> rfl), by repeat (first | (with_reducible first | exact HB.out | apply below_alloc | apply pw_below_drewN | apply below_drew1) | exact HB.out)⟩
                · rw [if_neg c29] at H
                  have c29b0 : (t236 == 0) = false := beq_eq_false_iff_ne.mpr c29
                  have c29b1 : (t236 != 0) = true := bne_iff_ne.mpr c29
                  obtain rfl := Option.some.inj H
                  go_wp2_with (first | ((with_reducible refine gate_callee (f := 21) rfl ?_); refine goesL_ (some 95) rfl rfl Tryd.func21 (by kernel_rfl) rfl #[.int .i64 t233, .int .i64 a2] rfl (by (try simp only [List.map_toArray, List.map_cons, List.map_nil]); first | done | rfl | (simp only [List.length_drop, List.length_take]; rfl)) ?_; (with_reducible refine (ints_Mul.calls t233 a2 t235 t236 _ A27.out).mono ?_); rintro e w33 ⟨rfl, hb⟩; refine ⟨_, rfl, ?_⟩; have n0_ := Aside0.mk (below_step (by repeat (first | (with_reducible first | exact HB.out | apply below_alloc | apply pw_below_drewN | apply below_drew1) | exact HB.out)) hb); clear HB; have HB := n0_; clear n0_; (try clear hb); (try clear hb2); (try clear hk); (try clear hi)) | ((with_reducible refine gate_callee (f := 22) rfl ?_); refine goesL_ (some 101) rfl rfl Tryd.func22 (by kernel_rfl) rfl #[.int .i64 t229, .int .i64 t231] rfl (by (try simp only [List.map_toArray, List.map_cons, List.map_nil]); first | done | rfl | (simp only [List.length_drop, List.length_take]; rfl)) ?_; (with_reducible refine (ints_Add.calls t229 t231 t237 t238 _ A28.out).mono ?_); rintro e w' ⟨rfl, ⟨nd, rfl⟩⟩; refine ⟨_, rfl, ?_⟩))
                  go_ret
                  exact ⟨by first | rfl | (simp [errW_none, errW_some] <;> rfl) | (simp [*, errW_none, errW_some] <;> rfl), by repeat (first | (with_reducible first | exact HB.out | apply below_alloc | apply pw_below_drewN | apply below_drew1) | exact HB.out)⟩
  · replace c5 := Bool.eq_false_iff.mpr c5
    subst c5
    have H1 : (some false) = some r := by rw [if_neg (show ¬ (false = true) by decide)] at H; exact H
    clear H
    have H := H1
    clear H1
    obtain rfl := Option.some.inj H
    go_enter Tryd.func6, Tryd.ntmps6
    go_wp2_with (first | ((with_reducible refine gate_callee (f := 18) rfl ?_); refine goesL_ (some 20) rfl rfl Tryd.func18 (by kernel_rfl) rfl #[] rfl (by (try simp only [List.map_toArray, List.map_cons, List.map_nil]); first | done | rfl | (simp only [List.length_drop, List.length_take]; rfl)) ?_; (with_reducible refine (foundrylaw02_live.calls k  false _ ?side1 A4.out).mono ?_); (case side1 => exact LaidOk.below (by repeat (first | (with_reducible first | exact HB.out | apply below_alloc | apply pw_below_drewN | apply below_drew1) | exact HB.out)) HLAID.out); rintro e w34 ⟨rfl, hb⟩; refine ⟨_, rfl, ?_⟩; have n0_ := Aside0.mk (below_step (by repeat (first | (with_reducible first | exact HB.out | apply below_alloc | apply pw_below_drewN | apply below_drew1) | exact HB.out)) hb); clear HB; have HB := n0_; clear n0_; (try clear hb); (try clear hb2); (try clear hk); (try clear hi)))
    go_ret
    exact ⟨by first | rfl | (simp [errW_none, errW_some] <;> rfl) | (simp [*, errW_none, errW_some] <;> rfl), by repeat (first | (with_reducible first | exact HB.out | apply below_alloc | apply pw_below_drewN | apply below_drew1) | exact HB.out)⟩

/-- THE ONE PURE STATEMENT of foundrylaw02_IntsRing: yours. -/
def foundrylaw02_IntsRing.Pure : Prop := ∀ (a0 : Int) (a1 : Int) (a2 : Int), (Lit.int .i64 a0).wf = true → (Lit.int .i64 a1).wf = true → (Lit.int .i64 a2).wf = true → ∃ k, foundrylaw02_IntsRing.f k a0 a1 a2 = some true
theorem foundrylaw02_IntsRing.walk (P : foundrylaw02_IntsRing.Pure) (a0 : Int) (a1 : Int) (a2 : Int) (w : World) (hLaid : LaidOk w) (w0 : (Lit.int .i64 a0).wf = true) (w1 : (Lit.int .i64 a1).wf = true) (w2 : (Lit.int .i64 a2).wf = true) :
    Calls Tryd.prog 6 #[.int .i64 a0, .int .i64 a1, .int .i64 a2] w fun e w' => e = .returned (.bool true) ∧ Below w.heap.size w w' := by
  obtain ⟨k, h⟩ := P a0 a1 a2 w0 w1 w2
  refine (foundrylaw02_IntsRing.calls k a0 a1 a2 true w hLaid h).mono ?_
  rintro e w' ⟨rfl, hd⟩
  exact ⟨rfl, hd⟩

/-! ### ints_Rem: function 26 -/
def ints_Rem.f (a0 : Int) (a1 : Int) : Option (Int × Int) := if a1 = 0 then (some (0, 81)) else (if a1 = (-1) then (some (0, 0)) else (some (Int.tmod a0 a1, 0)))
set_option maxHeartbeats 8000000 in
set_option maxRecDepth 100000 in
theorem ints_Rem.calls (a0 : Int) (a1 : Int) (r1 : Int) (r2 : Int) (w : World) (h : ints_Rem.f a0 a1 = some (r1, r2)) :
    Calls Tryd.prog 26 #[.int .i64 a0, .int .i64 a1] w fun e w' => e = .returned (.tuple #[.int .i64 r1, .int .i64 r2]) ∧ Drawn0 w w' := by
  have H : (if a1 = 0 then (some (0, 81)) else (if a1 = (-1) then (some (0, 0)) else (some (Int.tmod a0 a1, 0)))) = some (r1, r2) := h
  clear h
  by_cases c3 : a1 = 0
  · rw [if_pos c3] at H
    have c3b0 : (a1 == 0) = true := beq_iff_eq.mpr c3
    have c3b1 : (a1 != 0) = false := bne_eq_false_iff_eq.mpr c3
    clear c3
    simp only [Option.some.injEq, Prod.mk.injEq] at H
    obtain ⟨rfl, rfl⟩ := H
    go_enter Tryd.func26, Tryd.ntmps26
    go_wp2
    go_ret2
    exact ⟨by first | rfl | (simp; done) | (simp [*]; done), by repeat (first | exact Drawn0.refl _ | apply Drawn0.step)⟩
  · rw [if_neg c3] at H
    have c3b0 : (a1 == 0) = false := beq_eq_false_iff_ne.mpr c3
    have c3b1 : (a1 != 0) = true := bne_iff_ne.mpr c3
    by_cases c4 : a1 = (-1)
    · rw [if_pos c4] at H
      have c4b0 : (a1 == (-1)) = true := beq_iff_eq.mpr c4
      have c4b1 : (a1 != (-1)) = false := bne_eq_false_iff_eq.mpr c4
      clear c4
      simp only [Option.some.injEq, Prod.mk.injEq] at H
      obtain ⟨rfl, rfl⟩ := H
      go_enter Tryd.func26, Tryd.ntmps26
      go_wp2
      go_ret2
      exact ⟨by first | rfl | (simp; done) | (simp [*]; done), by repeat (first | exact Drawn0.refl _ | apply Drawn0.step)⟩
    · rw [if_neg c4] at H
      have c4b0 : (a1 == (-1)) = false := beq_eq_false_iff_ne.mpr c4
      have c4b1 : (a1 != (-1)) = true := bne_iff_ne.mpr c4
      simp only [Option.some.injEq, Prod.mk.injEq] at H
      obtain ⟨rfl, rfl⟩ := H
      go_enter Tryd.func26, Tryd.ntmps26
      go_wp2
      go_ret2
      exact ⟨by first | rfl | (simp; done) | (simp [*]; done), by repeat (first | exact Drawn0.refl _ | apply Drawn0.step)⟩

/-! ### foundrylaw02_IntsEuclid: function 7 -/
def foundrylaw02_IntsEuclid.j0 : Nat → Int → Int → Int → Int → Int → Bool → Option (Bool)
  | 0, _, _, _, _, _, _ => none
  | k + 1, x0, x1, x5, x6, x7, x62 => if x62 = true then (some false) else (if x6 = 0 then ((ints_Mul.f x5 x1).bind fun bt246 => ((ints_Add.f bt246.1 x7).bind fun bt248 => (if bt246.2 = 0 then (if bt248.2 = 0 then (some (bt248.1 == x0)) else (some false)) else (some false)))) else (if x6 = 80 then (if x0 = (-9223372036854775808) then (if x1 = (-1) then (some (x7 == 0)) else (some false)) else (some false)) else (some false)))
def foundrylaw02_IntsEuclid.f (k : Nat) (a0 : Int) (a1 : Int) : Option (Bool) := (foundrylaw02_live.f k).bind fun t239 => (if t239 = true then ((ints_Div.f a0 a1).bind fun bt240 => ((ints_Rem.f a0 a1).bind fun bt242 => (if a1 = 0 then (if bt240.2 = 81 then (if bt242.2 = 81 then (if bt240.1 = 0 then (some (bt242.1 == 0)) else (some false)) else (some false)) else (some false)) else (if bt242.2 = 0 then ((foundrylaw02_amount.f bt242.1).bind fun t244 => ((foundrylaw02_amount.f a1).bind fun t245 => (if t244 ≥ t245 then (foundrylaw02_IntsEuclid.j0 k a0 a1 bt240.1 bt240.2 bt242.1 true) else (if bt242.1 = 0 then (foundrylaw02_IntsEuclid.j0 k a0 a1 bt240.1 bt240.2 bt242.1 false) else (if bt242.1 < 0 then (if a0 < 0 then (foundrylaw02_IntsEuclid.j0 k a0 a1 bt240.1 bt240.2 bt242.1 false) else (foundrylaw02_IntsEuclid.j0 k a0 a1 bt240.1 bt240.2 bt242.1 true)) else (if a0 < 0 then (foundrylaw02_IntsEuclid.j0 k a0 a1 bt240.1 bt240.2 bt242.1 true) else (foundrylaw02_IntsEuclid.j0 k a0 a1 bt240.1 bt240.2 bt242.1 false))))))) else (foundrylaw02_IntsEuclid.j0 k a0 a1 bt240.1 bt240.2 bt242.1 true))))) else (some false))
theorem foundrylaw02_IntsEuclid.mono_l : ∀ k, (∀ y0 y1 y2 y3 y4 y5, LeO (foundrylaw02_IntsEuclid.j0 k y0 y1 y2 y3 y4 y5) (foundrylaw02_IntsEuclid.j0 (k + 1) y0 y1 y2 y3 y4 y5))
  | 0 => fun _ _ _ _ _ _ r h => by simp [foundrylaw02_IntsEuclid.j0] at h
  | k + 1 => by
    have ih0 := foundrylaw02_IntsEuclid.mono_l k
    · intro y0 y1 y2 y3 y4 y5
      unfold foundrylaw02_IntsEuclid.j0
      repeat' first
      | (with_reducible exact ih0 _ _ _ _ _ _)
      | (with_reducible exact foundrylaw02_live.mono _)
      | (with_reducible exact LeO.refl _)
      | (with_reducible exact LeO.none _)
      | (with_reducible refine LeO.ite ?_ ?_)
      | (with_reducible refine LeO.bind ?_ (fun _ => ?_))
      | exact ih0 _ _ _ _ _ _
      | exact foundrylaw02_live.mono _
      | exact LeO.none _
      | refine LeO.ite ?_ ?_
      | refine LeO.bind ?_ (fun _ => ?_)
theorem foundrylaw02_IntsEuclid.mono : ∀ a0 a1 k, LeO (foundrylaw02_IntsEuclid.f k a0 a1) (foundrylaw02_IntsEuclid.f (k + 1) a0 a1) := by
  intro a0 a1 k
  have ih0 := foundrylaw02_IntsEuclid.mono_l k
  unfold foundrylaw02_IntsEuclid.f
  repeat' first
      | (with_reducible exact ih0 _ _ _ _ _ _)
      | (with_reducible exact foundrylaw02_live.mono _)
      | (with_reducible exact LeO.refl _)
      | (with_reducible exact LeO.none _)
      | (with_reducible refine LeO.ite ?_ ?_)
      | (with_reducible refine LeO.bind ?_ (fun _ => ?_))
      | exact ih0 _ _ _ _ _ _
      | exact foundrylaw02_live.mono _
      | exact LeO.none _
      | refine LeO.ite ?_ ?_
      | refine LeO.bind ?_ (fun _ => ?_)
set_option maxHeartbeats 8000000 in
set_option maxRecDepth 100000 in
theorem foundrylaw02_IntsEuclid.calls (k : Nat) (a0 : Int) (a1 : Int) (r : Bool) (w : World) (hLaid : LaidOk w) (h : foundrylaw02_IntsEuclid.f k a0 a1 = some r) :
    Calls Tryd.prog 7 #[.int .i64 a0, .int .i64 a1] w fun e w' => e = .returned (.bool r) ∧ Below w.heap.size w w' := by
  have HLAID := Aside0.mk hLaid
  clear hLaid
  have HB := Aside0.mk (Below.refl w.heap.size w)
  have H : ((foundrylaw02_live.f k).bind fun t239 => (if t239 = true then ((ints_Div.f a0 a1).bind fun bt240 => ((ints_Rem.f a0 a1).bind fun bt242 => (if a1 = 0 then (if bt240.2 = 81 then (if bt242.2 = 81 then (if bt240.1 = 0 then (some (bt242.1 == 0)) else (some false)) else (some false)) else (some false)) else (if bt242.2 = 0 then ((foundrylaw02_amount.f bt242.1).bind fun t244 => ((foundrylaw02_amount.f a1).bind fun t245 => (if t244 ≥ t245 then (foundrylaw02_IntsEuclid.j0 k a0 a1 bt240.1 bt240.2 bt242.1 true) else (if bt242.1 = 0 then (foundrylaw02_IntsEuclid.j0 k a0 a1 bt240.1 bt240.2 bt242.1 false) else (if bt242.1 < 0 then (if a0 < 0 then (foundrylaw02_IntsEuclid.j0 k a0 a1 bt240.1 bt240.2 bt242.1 false) else (foundrylaw02_IntsEuclid.j0 k a0 a1 bt240.1 bt240.2 bt242.1 true)) else (if a0 < 0 then (foundrylaw02_IntsEuclid.j0 k a0 a1 bt240.1 bt240.2 bt242.1 true) else (foundrylaw02_IntsEuclid.j0 k a0 a1 bt240.1 bt240.2 bt242.1 false))))))) else (foundrylaw02_IntsEuclid.j0 k a0 a1 bt240.1 bt240.2 bt242.1 true))))) else (some false))) = some r := h
  clear h
  replace H := Option.bind_eq_some_iff.mp H
  obtain ⟨t239, A30, H⟩ := H
  replace H : (if t239 = true then ((ints_Div.f a0 a1).bind fun bt240 => ((ints_Rem.f a0 a1).bind fun bt242 => (if a1 = 0 then (if bt240.2 = 81 then (if bt242.2 = 81 then (if bt240.1 = 0 then (some (bt242.1 == 0)) else (some false)) else (some false)) else (some false)) else (if bt242.2 = 0 then ((foundrylaw02_amount.f bt242.1).bind fun t244 => ((foundrylaw02_amount.f a1).bind fun t245 => (if t244 ≥ t245 then (foundrylaw02_IntsEuclid.j0 k a0 a1 bt240.1 bt240.2 bt242.1 true) else (if bt242.1 = 0 then (foundrylaw02_IntsEuclid.j0 k a0 a1 bt240.1 bt240.2 bt242.1 false) else (if bt242.1 < 0 then (if a0 < 0 then (foundrylaw02_IntsEuclid.j0 k a0 a1 bt240.1 bt240.2 bt242.1 false) else (foundrylaw02_IntsEuclid.j0 k a0 a1 bt240.1 bt240.2 bt242.1 true)) else (if a0 < 0 then (foundrylaw02_IntsEuclid.j0 k a0 a1 bt240.1 bt240.2 bt242.1 true) else (foundrylaw02_IntsEuclid.j0 k a0 a1 bt240.1 bt240.2 bt242.1 false))))))) else (foundrylaw02_IntsEuclid.j0 k a0 a1 bt240.1 bt240.2 bt242.1 true))))) else (some false)) = some r := H
  have A3 := Aside0.mk A30
  clear A30
  by_cases c4 : t239 = true
  · subst c4
    have H1 : ((ints_Div.f a0 a1).bind fun bt240 => ((ints_Rem.f a0 a1).bind fun bt242 => (if a1 = 0 then (if bt240.2 = 81 then (if bt242.2 = 81 then (if bt240.1 = 0 then (some (bt242.1 == 0)) else (some false)) else (some false)) else (some false)) else (if bt242.2 = 0 then ((foundrylaw02_amount.f bt242.1).bind fun t244 => ((foundrylaw02_amount.f a1).bind fun t245 => (if t244 ≥ t245 then (foundrylaw02_IntsEuclid.j0 k a0 a1 bt240.1 bt240.2 bt242.1 true) else (if bt242.1 = 0 then (foundrylaw02_IntsEuclid.j0 k a0 a1 bt240.1 bt240.2 bt242.1 false) else (if bt242.1 < 0 then (if a0 < 0 then (foundrylaw02_IntsEuclid.j0 k a0 a1 bt240.1 bt240.2 bt242.1 false) else (foundrylaw02_IntsEuclid.j0 k a0 a1 bt240.1 bt240.2 bt242.1 true)) else (if a0 < 0 then (foundrylaw02_IntsEuclid.j0 k a0 a1 bt240.1 bt240.2 bt242.1 true) else (foundrylaw02_IntsEuclid.j0 k a0 a1 bt240.1 bt240.2 bt242.1 false))))))) else (foundrylaw02_IntsEuclid.j0 k a0 a1 bt240.1 bt240.2 bt242.1 true))))) = some r := by rw [if_pos rfl] at H; exact H
    clear H
    have H := H1
    clear H1
    replace H := Option.bind_eq_some_iff.mp H
    obtain ⟨⟨t240, t241⟩, A50, H⟩ := H
    replace H : ((ints_Rem.f a0 a1).bind fun bt242 => (if a1 = 0 then (if t241 = 81 then (if bt242.2 = 81 then (if t240 = 0 then (some (bt242.1 == 0)) else (some false)) else (some false)) else (some false)) else (if bt242.2 = 0 then ((foundrylaw02_amount.f bt242.1).bind fun t244 => ((foundrylaw02_amount.f a1).bind fun t245 => (if t244 ≥ t245 then (foundrylaw02_IntsEuclid.j0 k a0 a1 t240 t241 bt242.1 true) else (if bt242.1 = 0 then (foundrylaw02_IntsEuclid.j0 k a0 a1 t240 t241 bt242.1 false) else (if bt242.1 < 0 then (if a0 < 0 then (foundrylaw02_IntsEuclid.j0 k a0 a1 t240 t241 bt242.1 false) else (foundrylaw02_IntsEuclid.j0 k a0 a1 t240 t241 bt242.1 true)) else (if a0 < 0 then (foundrylaw02_IntsEuclid.j0 k a0 a1 t240 t241 bt242.1 true) else (foundrylaw02_IntsEuclid.j0 k a0 a1 t240 t241 bt242.1 false))))))) else (foundrylaw02_IntsEuclid.j0 k a0 a1 t240 t241 bt242.1 true)))) = some r := H
    have A5 := Aside0.mk A50
    clear A50
    replace H := Option.bind_eq_some_iff.mp H
    obtain ⟨⟨t242, t243⟩, A60, H⟩ := H
    replace H : (if a1 = 0 then (if t241 = 81 then (if t243 = 81 then (if t240 = 0 then (some (t242 == 0)) else (some false)) else (some false)) else (some false)) else (if t243 = 0 then ((foundrylaw02_amount.f t242).bind fun t244 => ((foundrylaw02_amount.f a1).bind fun t245 => (if t244 ≥ t245 then (foundrylaw02_IntsEuclid.j0 k a0 a1 t240 t241 t242 true) else (if t242 = 0 then (foundrylaw02_IntsEuclid.j0 k a0 a1 t240 t241 t242 false) else (if t242 < 0 then (if a0 < 0 then (foundrylaw02_IntsEuclid.j0 k a0 a1 t240 t241 t242 false) else (foundrylaw02_IntsEuclid.j0 k a0 a1 t240 t241 t242 true)) else (if a0 < 0 then (foundrylaw02_IntsEuclid.j0 k a0 a1 t240 t241 t242 true) else (foundrylaw02_IntsEuclid.j0 k a0 a1 t240 t241 t242 false))))))) else (foundrylaw02_IntsEuclid.j0 k a0 a1 t240 t241 t242 true))) = some r := H
    have A6 := Aside0.mk A60
    clear A60
    by_cases c7 : a1 = 0
    · rw [if_pos c7] at H
      have c7b0 : (a1 == 0) = true := beq_iff_eq.mpr c7
      have c7b1 : (a1 != 0) = false := bne_eq_false_iff_eq.mpr c7
      clear c7
      by_cases c8 : t241 = 81
      · rw [if_pos c8] at H
        have c8b0 : (t241 == 81) = true := beq_iff_eq.mpr c8
        have c8b1 : (t241 != 81) = false := bne_eq_false_iff_eq.mpr c8
        clear c8
        by_cases c9 : t243 = 81
        · rw [if_pos c9] at H
          have c9b0 : (t243 == 81) = true := beq_iff_eq.mpr c9
          have c9b1 : (t243 != 81) = false := bne_eq_false_iff_eq.mpr c9
          clear c9
          by_cases c10 : t240 = 0
          · rw [if_pos c10] at H
            have c10b0 : (t240 == 0) = true := beq_iff_eq.mpr c10
            have c10b1 : (t240 != 0) = false := bne_eq_false_iff_eq.mpr c10
            clear c10
            obtain rfl := Option.some.inj H
            go_enter Tryd.func7, Tryd.ntmps7
            go_wp2_with (first | ((with_reducible refine gate_callee (f := 18) rfl ?_); refine goesL_ (some 13) rfl rfl Tryd.func18 (by kernel_rfl) rfl #[] rfl (by (try simp only [List.map_toArray, List.map_cons, List.map_nil]); first | done | rfl | (simp only [List.length_drop, List.length_take]; rfl)) ?_; (with_reducible refine (foundrylaw02_live.calls k  true _ ?side1 A3.out).mono ?_); (case side1 => exact LaidOk.below (by repeat (first | (with_reducible first | exact HB.out | apply below_alloc | apply pw_below_drewN | apply below_drew1) | exact HB.out)) HLAID.out); rintro e w11 ⟨rfl, hb⟩; refine ⟨_, rfl, ?_⟩; have n0_ := Aside0.mk (below_step (by repeat (first | (with_reducible first | exact HB.out | apply below_alloc | apply pw_below_drewN | apply below_drew1) | exact HB.out)) hb); clear HB; have HB := n0_; clear n0_; (try clear hb); (try clear hb2); (try clear hk); (try clear hi)) | ((with_reducible refine gate_callee (f := 25) rfl ?_); refine goesL_ (some 18) rfl rfl Tryd.func25 (by kernel_rfl) rfl #[.int .i64 a0, .int .i64 a1] rfl (by (try simp only [List.map_toArray, List.map_cons, List.map_nil]); first | done | rfl | (simp only [List.length_drop, List.length_take]; rfl)) ?_; (with_reducible refine (ints_Div.calls a0 a1 t240 t241 _ A5.out).mono ?_); rintro e w' ⟨rfl, ⟨nd, rfl⟩⟩; refine ⟨_, rfl, ?_⟩) | ((with_reducible refine gate_callee (f := 26) rfl ?_); refine goesL_ (some 24) rfl rfl Tryd.func26 (by kernel_rfl) rfl #[.int .i64 a0, .int .i64 a1] rfl (by (try simp only [List.map_toArray, List.map_cons, List.map_nil]); first | done | rfl | (simp only [List.length_drop, List.length_take]; rfl)) ?_; (with_reducible refine (ints_Rem.calls a0 a1 t242 t243 _ A6.out).mono ?_); rintro e w' ⟨rfl, ⟨nd, rfl⟩⟩; refine ⟨_, rfl, ?_⟩))
            go_ret
            exact ⟨by first | rfl | (simp [errW_none, errW_some] <;> rfl) | (simp [*, errW_none, errW_some] <;> rfl), by repeat (first | (with_reducible first | exact HB.out | apply below_alloc | apply pw_below_drewN | apply below_drew1) | exact HB.out)⟩
          · rw [if_neg c10] at H
            have c10b0 : (t240 == 0) = false := beq_eq_false_iff_ne.mpr c10
            have c10b1 : (t240 != 0) = true := bne_iff_ne.mpr c10
            obtain rfl := Option.some.inj H
            go_enter Tryd.func7, Tryd.ntmps7
            go_wp2_with (first | ((with_reducible refine gate_callee (f := 18) rfl ?_); refine goesL_ (some 13) rfl rfl Tryd.func18 (by kernel_rfl) rfl #[] rfl (by (try simp only [List.map_toArray, List.map_cons, List.map_nil]); first | done | rfl | (simp only [List.length_drop, List.length_take]; rfl)) ?_; (with_reducible refine (foundrylaw02_live.calls k  true _ ?side1 A3.out).mono ?_); (case side1 => exact LaidOk.below (by repeat (first | (with_reducible first | exact HB.out | apply below_alloc | apply pw_below_drewN | apply below_drew1) | exact HB.out)) HLAID.out); rintro e w12 ⟨rfl, hb⟩; refine ⟨_, rfl, ?_⟩; have n0_ := Aside0.mk (below_step (by repeat (first | (with_reducible first | exact HB.out | apply below_alloc | apply pw_below_drewN | apply below_drew1) | exact HB.out)) hb); clear HB; have HB := n0_; clear n0_; (try clear hb); (try clear hb2); (try clear hk); (try clear hi)) | ((with_reducible refine gate_callee (f := 25) rfl ?_); refine goesL_ (some 18) rfl rfl Tryd.func25 (by kernel_rfl) rfl #[.int .i64 a0, .int .i64 a1] rfl (by (try simp only [List.map_toArray, List.map_cons, List.map_nil]); first | done | rfl | (simp only [List.length_drop, List.length_take]; rfl)) ?_; (with_reducible refine (ints_Div.calls a0 a1 t240 t241 _ A5.out).mono ?_); rintro e w' ⟨rfl, ⟨nd, rfl⟩⟩; refine ⟨_, rfl, ?_⟩) | ((with_reducible refine gate_callee (f := 26) rfl ?_); refine goesL_ (some 24) rfl rfl Tryd.func26 (by kernel_rfl) rfl #[.int .i64 a0, .int .i64 a1] rfl (by (try simp only [List.map_toArray, List.map_cons, List.map_nil]); first | done | rfl | (simp only [List.length_drop, List.length_take]; rfl)) ?_; (with_reducible refine (ints_Rem.calls a0 a1 t242 t243 _ A6.out).mono ?_); rintro e w' ⟨rfl, ⟨nd, rfl⟩⟩; refine ⟨_, rfl, ?_⟩))
            go_ret
            exact ⟨by first | rfl | (simp [errW_none, errW_some] <;> rfl) | (simp [*, errW_none, errW_some] <;> rfl), by repeat (first | (with_reducible first | exact HB.out | apply below_alloc | apply pw_below_drewN | apply below_drew1) | exact HB.out)⟩
        · rw [if_neg c9] at H
          have c9b0 : (t243 == 81) = false := beq_eq_false_iff_ne.mpr c9
          have c9b1 : (t243 != 81) = true := bne_iff_ne.mpr c9
          obtain rfl := Option.some.inj H
          go_enter Tryd.func7, Tryd.ntmps7
          go_wp2_with (first | ((with_reducible refine gate_callee (f := 18) rfl ?_); refine goesL_ (some 13) rfl rfl Tryd.func18 (by kernel_rfl) rfl #[] rfl (by (try simp only [List.map_toArray, List.map_cons, List.map_nil]); first | done | rfl | (simp only [List.length_drop, List.length_take]; rfl)) ?_; (with_reducible refine (foundrylaw02_live.calls k  true _ ?side1 A3.out).mono ?_); (case side1 => exact LaidOk.below (by repeat (first | (with_reducible first | exact HB.out | apply below_alloc | apply pw_below_drewN | apply below_drew1) | exact HB.out)) HLAID.out); rintro e w13 ⟨rfl, hb⟩; refine ⟨_, rfl, ?_⟩; have n0_ := Aside0.mk (below_step (by repeat (first | (with_reducible first | exact HB.out | apply below_alloc | apply pw_below_drewN | apply below_drew1) | exact HB.out)) hb); clear HB; have HB := n0_; clear n0_; (try clear hb); (try clear hb2); (try clear hk); (try clear hi)) | ((with_reducible refine gate_callee (f := 25) rfl ?_); refine goesL_ (some 18) rfl rfl Tryd.func25 (by kernel_rfl) rfl #[.int .i64 a0, .int .i64 a1] rfl (by (try simp only [List.map_toArray, List.map_cons, List.map_nil]); first | done | rfl | (simp only [List.length_drop, List.length_take]; rfl)) ?_; (with_reducible refine (ints_Div.calls a0 a1 t240 t241 _ A5.out).mono ?_); rintro e w' ⟨rfl, ⟨nd, rfl⟩⟩; refine ⟨_, rfl, ?_⟩) | ((with_reducible refine gate_callee (f := 26) rfl ?_); refine goesL_ (some 24) rfl rfl Tryd.func26 (by kernel_rfl) rfl #[.int .i64 a0, .int .i64 a1] rfl (by (try simp only [List.map_toArray, List.map_cons, List.map_nil]); first | done | rfl | (simp only [List.length_drop, List.length_take]; rfl)) ?_; (with_reducible refine (ints_Rem.calls a0 a1 t242 t243 _ A6.out).mono ?_); rintro e w' ⟨rfl, ⟨nd, rfl⟩⟩; refine ⟨_, rfl, ?_⟩))
          go_ret
          exact ⟨by first | rfl | (simp [errW_none, errW_some] <;> rfl) | (simp [*, errW_none, errW_some] <;> rfl), by repeat (first | (with_reducible first | exact HB.out | apply below_alloc | apply pw_below_drewN | apply below_drew1) | exact HB.out)⟩
      · rw [if_neg c8] at H
        have c8b0 : (t241 == 81) = false := beq_eq_false_iff_ne.mpr c8
        have c8b1 : (t241 != 81) = true := bne_iff_ne.mpr c8
        obtain rfl := Option.some.inj H
        go_enter Tryd.func7, Tryd.ntmps7
        go_wp2_with (first | ((with_reducible refine gate_callee (f := 18) rfl ?_); refine goesL_ (some 13) rfl rfl Tryd.func18 (by kernel_rfl) rfl #[] rfl (by (try simp only [List.map_toArray, List.map_cons, List.map_nil]); first | done | rfl | (simp only [List.length_drop, List.length_take]; rfl)) ?_; (with_reducible refine (foundrylaw02_live.calls k  true _ ?side1 A3.out).mono ?_); (case side1 => exact LaidOk.below (by repeat (first | (with_reducible first | exact HB.out | apply below_alloc | apply pw_below_drewN | apply below_drew1) | exact HB.out)) HLAID.out); rintro e w14 ⟨rfl, hb⟩; refine ⟨_, rfl, ?_⟩; have n0_ := Aside0.mk (below_step (by repeat (first | (with_reducible first | exact HB.out | apply below_alloc | apply pw_below_drewN | apply below_drew1) | exact HB.out)) hb); clear HB; have HB := n0_; clear n0_; (try clear hb); (try clear hb2); (try clear hk); (try clear hi)) | ((with_reducible refine gate_callee (f := 25) rfl ?_); refine goesL_ (some 18) rfl rfl Tryd.func25 (by kernel_rfl) rfl #[.int .i64 a0, .int .i64 a1] rfl (by (try simp only [List.map_toArray, List.map_cons, List.map_nil]); first | done | rfl | (simp only [List.length_drop, List.length_take]; rfl)) ?_; (with_reducible refine (ints_Div.calls a0 a1 t240 t241 _ A5.out).mono ?_); rintro e w' ⟨rfl, ⟨nd, rfl⟩⟩; refine ⟨_, rfl, ?_⟩) | ((with_reducible refine gate_callee (f := 26) rfl ?_); refine goesL_ (some 24) rfl rfl Tryd.func26 (by kernel_rfl) rfl #[.int .i64 a0, .int .i64 a1] rfl (by (try simp only [List.map_toArray, List.map_cons, List.map_nil]); first | done | rfl | (simp only [List.length_drop, List.length_take]; rfl)) ?_; (with_reducible refine (ints_Rem.calls a0 a1 t242 t243 _ A6.out).mono ?_); rintro e w' ⟨rfl, ⟨nd, rfl⟩⟩; refine ⟨_, rfl, ?_⟩))
        go_ret
        exact ⟨by first | rfl | (simp [errW_none, errW_some] <;> rfl) | (simp [*, errW_none, errW_some] <;> rfl), by repeat (first | (with_reducible first | exact HB.out | apply below_alloc | apply pw_below_drewN | apply below_drew1) | exact HB.out)⟩
    · rw [if_neg c7] at H
      have c7b0 : (a1 == 0) = false := beq_eq_false_iff_ne.mpr c7
      have c7b1 : (a1 != 0) = true := bne_iff_ne.mpr c7
      have HC15 := Aside0.mk H
      clear H
      go_enter Tryd.func7, Tryd.ntmps7
      go_upto_region 7 with (first | ((with_reducible refine gate_callee (f := 18) rfl ?_); refine goesL_ (some 13) rfl rfl Tryd.func18 (by kernel_rfl) rfl #[] rfl (by (try simp only [List.map_toArray, List.map_cons, List.map_nil]); first | done | rfl | (simp only [List.length_drop, List.length_take]; rfl)) ?_; (with_reducible refine (foundrylaw02_live.calls k  true _ ?side1 A3.out).mono ?_); (case side1 => exact LaidOk.below (by repeat (first | (with_reducible first | exact HB.out | apply below_alloc | apply pw_below_drewN | apply below_drew1) | exact HB.out)) HLAID.out); rintro e w16 ⟨rfl, hb⟩; refine ⟨_, rfl, ?_⟩; have n0_ := Aside0.mk (below_step (by repeat (first | (with_reducible first | exact HB.out | apply below_alloc | apply pw_below_drewN | apply below_drew1) | exact HB.out)) hb); clear HB; have HB := n0_; clear n0_; (try clear hb); (try clear hb2); (try clear hk); (try clear hi)) | ((with_reducible refine gate_callee (f := 25) rfl ?_); refine goesL_ (some 18) rfl rfl Tryd.func25 (by kernel_rfl) rfl #[.int .i64 a0, .int .i64 a1] rfl (by (try simp only [List.map_toArray, List.map_cons, List.map_nil]); first | done | rfl | (simp only [List.length_drop, List.length_take]; rfl)) ?_; (with_reducible refine (ints_Div.calls a0 a1 t240 t241 _ A5.out).mono ?_); rintro e w' ⟨rfl, ⟨nd, rfl⟩⟩; refine ⟨_, rfl, ?_⟩) | ((with_reducible refine gate_callee (f := 26) rfl ?_); refine goesL_ (some 24) rfl rfl Tryd.func26 (by kernel_rfl) rfl #[.int .i64 a0, .int .i64 a1] rfl (by (try simp only [List.map_toArray, List.map_cons, List.map_nil]); first | done | rfl | (simp only [List.length_drop, List.length_take]; rfl)) ?_; (with_reducible refine (ints_Rem.calls a0 a1 t242 t243 _ A6.out).mono ?_); rintro e w' ⟨rfl, ⟨nd, rfl⟩⟩; refine ⟨_, rfl, ?_⟩))
      (try simp only [Act.put, List.setIfInBounds_toArray, List.set_cons_zero, List.set_cons_succ])
      go_cut [62] (fun v62 wc => ∃ (kq : Nat) (x62_14 : Bool), v62 = .bool x62_14 ∧ Aside0 (foundrylaw02_IntsEuclid.j0 kq a0 a1 t240 t241 t242 x62_14 = some r) ∧ Aside0 (kq ≤ k) ∧ Aside0 (Below w.heap.size w wc))
      case first =>
        have H := HC15.out
        clear HC15
        by_cases c17 : t243 = 0
        · rw [if_pos c17] at H
          have c17b0 : (t243 == 0) = true := beq_iff_eq.mpr c17
          have c17b1 : (t243 != 0) = false := bne_eq_false_iff_eq.mpr c17
          clear c17
          (first | rw [c17b0] | (simp only [i64_w, i32_w]; rw [c17b0]) | skip)
          replace H := Option.bind_eq_some_iff.mp H
          obtain ⟨t244, A180, H⟩ := H
          replace H : ((foundrylaw02_amount.f a1).bind fun t245 => (if t244 ≥ t245 then (foundrylaw02_IntsEuclid.j0 k a0 a1 t240 t241 t242 true) else (if t242 = 0 then (foundrylaw02_IntsEuclid.j0 k a0 a1 t240 t241 t242 false) else (if t242 < 0 then (if a0 < 0 then (foundrylaw02_IntsEuclid.j0 k a0 a1 t240 t241 t242 false) else (foundrylaw02_IntsEuclid.j0 k a0 a1 t240 t241 t242 true)) else (if a0 < 0 then (foundrylaw02_IntsEuclid.j0 k a0 a1 t240 t241 t242 true) else (foundrylaw02_IntsEuclid.j0 k a0 a1 t240 t241 t242 false)))))) = some r := H
          have A18 := Aside0.mk A180
          clear A180
          replace H := Option.bind_eq_some_iff.mp H
          obtain ⟨t245, A190, H⟩ := H
          replace H : (if t244 ≥ t245 then (foundrylaw02_IntsEuclid.j0 k a0 a1 t240 t241 t242 true) else (if t242 = 0 then (foundrylaw02_IntsEuclid.j0 k a0 a1 t240 t241 t242 false) else (if t242 < 0 then (if a0 < 0 then (foundrylaw02_IntsEuclid.j0 k a0 a1 t240 t241 t242 false) else (foundrylaw02_IntsEuclid.j0 k a0 a1 t240 t241 t242 true)) else (if a0 < 0 then (foundrylaw02_IntsEuclid.j0 k a0 a1 t240 t241 t242 true) else (foundrylaw02_IntsEuclid.j0 k a0 a1 t240 t241 t242 false))))) = some r := H
          have A19 := Aside0.mk A190
          clear A190
          by_cases c20 : t244 ≥ t245
          · rw [if_pos c20] at H
            have c20b0 : decide (t245 ≤ t244) = true := decide_eq_true c20
            clear c20
            have H' := Aside0.mk H
            clear H
            go_wp2_with (first | (go_at_call 20; (with_reducible refine (foundrylaw02_amount.calls t242 t244 _ A18.out).mono ?_); rintro e w' ⟨rfl, ⟨nd, rfl⟩⟩) | (go_at_call 20; (with_reducible refine (foundrylaw02_amount.calls a1 t245 _ A19.out).mono ?_); rintro e w' ⟨rfl, ⟨nd, rfl⟩⟩))
            go_meet
            case rel => exact ⟨_, (true), (by first | rfl | (simp; done) | (simp [*]; done)), H', ⟨by first | omega | exact Nat.le_refl _⟩, ⟨by repeat (first | (with_reducible first | exact HB.out | apply below_alloc | apply pw_below_drewN | apply below_drew1) | exact HB.out)⟩⟩
          · rw [if_neg c20] at H
            have c20b0 : decide (t245 ≤ t244) = false := decide_eq_false c20
            clear c20
            by_cases c21 : t242 = 0
            · rw [if_pos c21] at H
              have c21b0 : (t242 == 0) = true := beq_iff_eq.mpr c21
              have c21b1 : (t242 != 0) = false := bne_eq_false_iff_eq.mpr c21
              clear c21
              have H' := Aside0.mk H
              clear H
              go_wp2_with (first | (go_at_call 20; (with_reducible refine (foundrylaw02_amount.calls t242 t244 _ A18.out).mono ?_); rintro e w' ⟨rfl, ⟨nd, rfl⟩⟩) | (go_at_call 20; (with_reducible refine (foundrylaw02_amount.calls a1 t245 _ A19.out).mono ?_); rintro e w' ⟨rfl, ⟨nd, rfl⟩⟩))
              go_meet
              case rel => exact ⟨_, (false), (by first | rfl | (simp; done) | (simp [*]; done)), H', ⟨by first | omega | exact Nat.le_refl _⟩, ⟨by repeat (first | (with_reducible first | exact HB.out | apply below_alloc | apply pw_below_drewN | apply below_drew1) | exact HB.out)⟩⟩
            · rw [if_neg c21] at H
              have c21b0 : (t242 == 0) = false := beq_eq_false_iff_ne.mpr c21
              have c21b1 : (t242 != 0) = true := bne_iff_ne.mpr c21
              by_cases c22 : t242 < 0
              · rw [if_pos c22] at H
                have c22b0 : decide (t242 < 0) = true := decide_eq_true c22
                clear c22
                by_cases c23 : a0 < 0
                · rw [if_pos c23] at H
                  have c23b0 : decide (a0 < 0) = true := decide_eq_true c23
                  clear c23
                  have H' := Aside0.mk H
                  clear H
                  go_wp2_with (first | (go_at_call 20; (with_reducible refine (foundrylaw02_amount.calls t242 t244 _ A18.out).mono ?_); rintro e w' ⟨rfl, ⟨nd, rfl⟩⟩) | (go_at_call 20; (with_reducible refine (foundrylaw02_amount.calls a1 t245 _ A19.out).mono ?_); rintro e w' ⟨rfl, ⟨nd, rfl⟩⟩))
                  go_meet
                  case rel => exact ⟨_, (false), (by first | rfl | (simp; done) | (simp [*]; done)), H', ⟨by first | omega | exact Nat.le_refl _⟩, ⟨by repeat (first | (with_reducible first | exact HB.out | apply below_alloc | apply pw_below_drewN | apply below_drew1) | exact HB.out)⟩⟩
                · rw [if_neg c23] at H
                  have c23b0 : decide (a0 < 0) = false := decide_eq_false c23
                  clear c23
                  have H' := Aside0.mk H
                  clear H
                  go_wp2_with (first | (go_at_call 20; (with_reducible refine (foundrylaw02_amount.calls t242 t244 _ A18.out).mono ?_); rintro e w' ⟨rfl, ⟨nd, rfl⟩⟩) | (go_at_call 20; (with_reducible refine (foundrylaw02_amount.calls a1 t245 _ A19.out).mono ?_); rintro e w' ⟨rfl, ⟨nd, rfl⟩⟩))
                  go_meet
                  case rel => exact ⟨_, (true), (by first | rfl | (simp; done) | (simp [*]; done)), H', ⟨by first | omega | exact Nat.le_refl _⟩, ⟨by repeat (first | (with_reducible first | exact HB.out | apply below_alloc | apply pw_below_drewN | apply below_drew1) | exact HB.out)⟩⟩
              · rw [if_neg c22] at H
                have c22b0 : decide (t242 < 0) = false := decide_eq_false c22
                clear c22
                by_cases c24 : a0 < 0
                · rw [if_pos c24] at H
                  have c24b0 : decide (a0 < 0) = true := decide_eq_true c24
                  clear c24
                  have H' := Aside0.mk H
                  clear H
                  go_wp2_with (first | (go_at_call 20; (with_reducible refine (foundrylaw02_amount.calls t242 t244 _ A18.out).mono ?_); rintro e w' ⟨rfl, ⟨nd, rfl⟩⟩) | (go_at_call 20; (with_reducible refine (foundrylaw02_amount.calls a1 t245 _ A19.out).mono ?_); rintro e w' ⟨rfl, ⟨nd, rfl⟩⟩))
                  go_meet
                  case rel => exact ⟨_, (true), (by first | rfl | (simp; done) | (simp [*]; done)), H', ⟨by first | omega | exact Nat.le_refl _⟩, ⟨by repeat (first | (with_reducible first | exact HB.out | apply below_alloc | apply pw_below_drewN | apply below_drew1) | exact HB.out)⟩⟩
                · rw [if_neg c24] at H
                  have c24b0 : decide (a0 < 0) = false := decide_eq_false c24
                  clear c24
                  have H' := Aside0.mk H
                  clear H
                  go_wp2_with (first | (go_at_call 20; (with_reducible refine (foundrylaw02_amount.calls t242 t244 _ A18.out).mono ?_); rintro e w' ⟨rfl, ⟨nd, rfl⟩⟩) | (go_at_call 20; (with_reducible refine (foundrylaw02_amount.calls a1 t245 _ A19.out).mono ?_); rintro e w' ⟨rfl, ⟨nd, rfl⟩⟩))
                  go_meet
                  case rel => exact ⟨_, (false), (by first | rfl | (simp; done) | (simp [*]; done)), H', ⟨by first | omega | exact Nat.le_refl _⟩, ⟨by repeat (first | (with_reducible first | exact HB.out | apply below_alloc | apply pw_below_drewN | apply below_drew1) | exact HB.out)⟩⟩
        · rw [if_neg c17] at H
          have c17b0 : (t243 == 0) = false := beq_eq_false_iff_ne.mpr c17
          have c17b1 : (t243 != 0) = true := bne_iff_ne.mpr c17
          (first | rw [c17b0] | (simp only [i64_w, i32_w]; rw [c17b0]) | skip)
          have H' := Aside0.mk H
          clear H
          go_wp2
          go_meet
          case rel => exact ⟨_, (true), (by first | rfl | (simp; done) | (simp [*]; done)), H', ⟨by first | omega | exact Nat.le_refl _⟩, ⟨by repeat (first | (with_reducible first | exact HB.out | apply below_alloc | apply pw_below_drewN | apply below_drew1) | exact HB.out)⟩⟩
      case rest =>
        clear HC15
        try clear c1
        try clear c2
        try clear p2
        try clear c4
        try clear c7
        try clear c7b0
        try clear c7b1
        try clear c8
        try clear c8b0
        try clear c8b1
        try clear c9
        try clear c9b0
        try clear c9b1
        try clear c10
        try clear c10b0
        try clear c10b1
        try clear c17
        try clear c17b0
        try clear c17b1
        try clear c18
        try clear c20
        try clear c20b0
        try clear c21
        try clear c21b0
        try clear c21b1
        try clear c22
        try clear c22b0
        try clear c23
        try clear c23b0
        try clear c24
        try clear c24b0
        obtain ⟨kq, x62_14, rfl, HA, HJ14, HB⟩ := hcut
        cases kq with
        | zero => exact absurd HA.out (by simp [foundrylaw02_IntsEuclid.j0])
        | succ kj14 =>
          have H := HA.out
          clear HA
          simp only [foundrylaw02_IntsEuclid.j0] at H
          by_cases c25 : x62_14 = true
          · subst c25
            have H1 : (some false) = some r := by rw [if_pos rfl] at H; exact H
            clear H
            have H := H1
            clear H1
            obtain rfl := Option.some.inj H
            go_wp2
            go_ret
            exact ⟨by first | rfl | (simp [errW_none, errW_some] <;> rfl) | (simp [*, errW_none, errW_some] <;> rfl), by repeat (first | (with_reducible first | exact HB.out | apply below_alloc | apply pw_below_drewN | apply below_drew1) | exact HB.out)⟩
          · replace c25 := Bool.eq_false_iff.mpr c25
            subst c25
            have H1 : (if t241 = 0 then ((ints_Mul.f t240 a1).bind fun bt246 => ((ints_Add.f bt246.1 t242).bind fun bt248 => (if bt246.2 = 0 then (if bt248.2 = 0 then (some (bt248.1 == a0)) else (some false)) else (some false)))) else (if t241 = 80 then (if a0 = (-9223372036854775808) then (if a1 = (-1) then (some (t242 == 0)) else (some false)) else (some false)) else (some false))) = some r := by rw [if_neg (show ¬ (false = true) by decide)] at H; exact H
            clear H
            have H := H1
            clear H1
            by_cases c26 : t241 = 0
            · rw [if_pos c26] at H
              have c26b0 : (t241 == 0) = true := beq_iff_eq.mpr c26
              have c26b1 : (t241 != 0) = false := bne_eq_false_iff_eq.mpr c26
              clear c26
              replace H := Option.bind_eq_some_iff.mp H
              obtain ⟨⟨t246, t247⟩, A270, H⟩ := H
              replace H : ((ints_Add.f t246 t242).bind fun bt248 => (if t247 = 0 then (if bt248.2 = 0 then (some (bt248.1 == a0)) else (some false)) else (some false))) = some r := H
              have A27 := Aside0.mk A270
              clear A270
              replace H := Option.bind_eq_some_iff.mp H
              obtain ⟨⟨t248, t249⟩, A280, H⟩ := H
              replace H : (if t247 = 0 then (if t249 = 0 then (some (t248 == a0)) else (some false)) else (some false)) = some r := H
              have A28 := Aside0.mk A280
              clear A280
              by_cases c29 : t247 = 0
              · rw [if_pos c29] at H
                have c29b0 : (t247 == 0) = true := beq_iff_eq.mpr c29
                have c29b1 : (t247 != 0) = false := bne_eq_false_iff_eq.mpr c29
                clear c29
                by_cases c30 : t249 = 0
                · rw [if_pos c30] at H
                  have c30b0 : (t249 == 0) = true := beq_iff_eq.mpr c30
                  have c30b1 : (t249 != 0) = false := bne_eq_false_iff_eq.mpr c30
                  clear c30
                  obtain rfl := Option.some.inj H
                  go_wp2_with (first | ((with_reducible refine gate_callee (f := 21) rfl ?_); refine goesL_ (some 82) rfl rfl Tryd.func21 (by kernel_rfl) rfl #[.int .i64 t240, .int .i64 a1] rfl (by (try simp only [List.map_toArray, List.map_cons, List.map_nil]); first | done | rfl | (simp only [List.length_drop, List.length_take]; rfl)) ?_; (with_reducible refine (ints_Mul.calls t240 a1 t246 t247 _ A27.out).mono ?_); rintro e w31 ⟨rfl, hb⟩; refine ⟨_, rfl, ?_⟩; have n0_ := Aside0.mk (below_step (by repeat (first | (with_reducible first | exact HB.out | apply below_alloc | apply pw_below_drewN | apply below_drew1) | exact HB.out)) hb); clear HB; have HB := n0_; clear n0_; (try clear hb); (try clear hb2); (try clear hk); (try clear hi)) | ((with_reducible refine gate_callee (f := 22) rfl ?_); refine goesL_ (some 88) rfl rfl Tryd.func22 (by kernel_rfl) rfl #[.int .i64 t246, .int .i64 t242] rfl (by (try simp only [List.map_toArray, List.map_cons, List.map_nil]); first | done | rfl | (simp only [List.length_drop, List.length_take]; rfl)) ?_; (with_reducible refine (ints_Add.calls t246 t242 t248 t249 _ A28.out).mono ?_); rintro e w' ⟨rfl, ⟨nd, rfl⟩⟩; refine ⟨_, rfl, ?_⟩))
                  go_ret
                  exact ⟨by first | rfl | (simp [errW_none, errW_some] <;> rfl) | (simp [*, errW_none, errW_some] <;> rfl), by repeat (first | (with_reducible first | exact HB.out | apply below_alloc | apply pw_below_drewN | apply below_drew1) | exact HB.out)⟩
                · rw [if_neg c30] at H
                  have c30b0 : (t249 == 0) = false := beq_eq_false_iff_ne.mpr c30
                  have c30b1 : (t249 != 0) = true := bne_iff_ne.mpr c30
                  obtain rfl := Option.some.inj H
                  go_wp2_with (first | ((with_reducible refine gate_callee (f := 21) rfl ?_); refine goesL_ (some 82) rfl rfl Tryd.func21 (by kernel_rfl) rfl #[.int .i64 t240, .int .i64 a1] rfl (by (try simp only [List.map_toArray, List.map_cons, List.map_nil]); first | done | rfl | (simp only [List.length_drop, List.length_take]; rfl)) ?_; (with_reducible refine (ints_Mul.calls t240 a1 t246 t247 _ A27.out).mono ?_); rintro e w32 ⟨rfl, hb⟩; refine ⟨_, rfl, ?_⟩; have n0_ := Aside0.mk (below_step (by repeat (first | (with_reducible first | exact HB.out | apply below_alloc | apply pw_below_drewN | apply below_drew1) | exact HB.out)) hb); clear HB; have HB := n0_; clear n0_; (try clear hb); (try clear hb2); (try clear hk); (try clear hi)) | ((with_reducible refine gate_callee (f := 22) rfl ?_); refine goesL_ (some 88) rfl rfl Tryd.func22 (by kernel_rfl) rfl #[.int .i64 t246, .int .i64 t242] rfl (by (try simp only [List.map_toArray, List.map_cons, List.map_nil]); first | done | rfl | (simp only [List.length_drop, List.length_take]; rfl)) ?_; (with_reducible refine (ints_Add.calls t246 t242 t248 t249 _ A28.out).mono ?_); rintro e w' ⟨rfl, ⟨nd, rfl⟩⟩; refine ⟨_, rfl, ?_⟩))
                  go_ret
                  exact ⟨by first | rfl | (simp [errW_none, errW_some] <;> rfl) | (simp [*, errW_none, errW_some] <;> rfl), by repeat (first | (with_reducible first | exact HB.out | apply below_alloc | apply pw_below_drewN | apply below_drew1) | exact HB.out)⟩
              · rw [if_neg c29] at H
                have c29b0 : (t247 == 0) = false := beq_eq_false_iff_ne.mpr c29
                have c29b1 : (t247 != 0) = true := bne_iff_ne.mpr c29
                obtain rfl := Option.some.inj H
                go_wp2_with (first | ((with_reducible refine gate_callee (f := 21) rfl ?_); refine goesL_ (some 82) rfl rfl Tryd.func21 (by kernel_rfl) rfl #[.int .i64 t240, .int .i64 a1] rfl (by (try simp only [List.map_toArray, List.map_cons, List.map_nil]); first | done | rfl | (simp only [List.length_drop, List.length_take]; rfl)) ?_; (with_reducible refine (ints_Mul.calls t240 a1 t246 t247 _ A27.out).mono ?_); rintro e w33 ⟨rfl, hb⟩; refine ⟨_, rfl, ?_⟩; have n0_ := Aside0.mk (below_step (by repeat (first | (with_reducible first | exact HB.out | apply below_alloc | apply pw_below_drewN | apply below_drew1) | exact HB.out)) hb); clear HB; have HB := n0_; clear n0_; (try clear hb); (try clear hb2); (try clear hk); (try clear hi)) | ((with_reducible refine gate_callee (f := 22) rfl ?_); refine goesL_ (some 88) rfl rfl Tryd.func22 (by kernel_rfl) rfl #[.int .i64 t246, .int .i64 t242] rfl (by (try simp only [List.map_toArray, List.map_cons, List.map_nil]); first | done | rfl | (simp only [List.length_drop, List.length_take]; rfl)) ?_; (with_reducible refine (ints_Add.calls t246 t242 t248 t249 _ A28.out).mono ?_); rintro e w' ⟨rfl, ⟨nd, rfl⟩⟩; refine ⟨_, rfl, ?_⟩))
                go_ret
                exact ⟨by first | rfl | (simp [errW_none, errW_some] <;> rfl) | (simp [*, errW_none, errW_some] <;> rfl), by repeat (first | (with_reducible first | exact HB.out | apply below_alloc | apply pw_below_drewN | apply below_drew1) | exact HB.out)⟩
            · rw [if_neg c26] at H
              have c26b0 : (t241 == 0) = false := beq_eq_false_iff_ne.mpr c26
              have c26b1 : (t241 != 0) = true := bne_iff_ne.mpr c26
              by_cases c34 : t241 = 80
              · rw [if_pos c34] at H
                have c34b0 : (t241 == 80) = true := beq_iff_eq.mpr c34
                have c34b1 : (t241 != 80) = false := bne_eq_false_iff_eq.mpr c34
                clear c34
                by_cases c35 : a0 = (-9223372036854775808)
                · rw [if_pos c35] at H
                  have c35b0 : (a0 == (-9223372036854775808)) = true := beq_iff_eq.mpr c35
                  have c35b1 : (a0 != (-9223372036854775808)) = false := bne_eq_false_iff_eq.mpr c35
                  clear c35
                  by_cases c36 : a1 = (-1)
                  · rw [if_pos c36] at H
                    have c36b0 : (a1 == (-1)) = true := beq_iff_eq.mpr c36
                    have c36b1 : (a1 != (-1)) = false := bne_eq_false_iff_eq.mpr c36
                    clear c36
                    obtain rfl := Option.some.inj H
                    go_wp2
                    go_ret
                    exact ⟨by first | rfl | (simp [errW_none, errW_some] <;> rfl) | (simp [*, errW_none, errW_some] <;> rfl), by repeat (first | (with_reducible first | exact HB.out | apply below_alloc | apply pw_below_drewN | apply below_drew1) | exact HB.out)⟩
                  · rw [if_neg c36] at H
                    have c36b0 : (a1 == (-1)) = false := beq_eq_false_iff_ne.mpr c36
                    have c36b1 : (a1 != (-1)) = true := bne_iff_ne.mpr c36
                    obtain rfl := Option.some.inj H
                    go_wp2
                    go_ret
                    exact ⟨by first | rfl | (simp [errW_none, errW_some] <;> rfl) | (simp [*, errW_none, errW_some] <;> rfl), by repeat (first | (with_reducible first | exact HB.out | apply below_alloc | apply pw_below_drewN | apply below_drew1) | exact HB.out)⟩
                · rw [if_neg c35] at H
                  have c35b0 : (a0 == (-9223372036854775808)) = false := beq_eq_false_iff_ne.mpr c35
                  have c35b1 : (a0 != (-9223372036854775808)) = true := bne_iff_ne.mpr c35
                  obtain rfl := Option.some.inj H
                  go_wp2
                  go_ret
                  exact ⟨by first | rfl | (simp [errW_none, errW_some] <;> rfl) | (simp [*, errW_none, errW_some] <;> rfl), by repeat (first | (with_reducible first | exact HB.out | apply below_alloc | apply pw_below_drewN | apply below_drew1) | exact HB.out)⟩
              · rw [if_neg c34] at H
                have c34b0 : (t241 == 80) = false := beq_eq_false_iff_ne.mpr c34
                have c34b1 : (t241 != 80) = true := bne_iff_ne.mpr c34
                obtain rfl := Option.some.inj H
                go_wp2
                go_ret
                exact ⟨by first | rfl | (simp [errW_none, errW_some] <;> rfl) | (simp [*, errW_none, errW_some] <;> rfl), by repeat (first | (with_reducible first | exact HB.out | apply below_alloc | apply pw_below_drewN | apply below_drew1) | exact HB.out)⟩
  · replace c4 := Bool.eq_false_iff.mpr c4
    subst c4
    have H1 : (some false) = some r := by rw [if_neg (show ¬ (false = true) by decide)] at H; exact H
    clear H
    have H := H1
    clear H1
    obtain rfl := Option.some.inj H
    go_enter Tryd.func7, Tryd.ntmps7
    go_wp2_with (first | ((with_reducible refine gate_callee (f := 18) rfl ?_); refine goesL_ (some 13) rfl rfl Tryd.func18 (by kernel_rfl) rfl #[] rfl (by (try simp only [List.map_toArray, List.map_cons, List.map_nil]); first | done | rfl | (simp only [List.length_drop, List.length_take]; rfl)) ?_; (with_reducible refine (foundrylaw02_live.calls k  false _ ?side1 A3.out).mono ?_); (case side1 => exact LaidOk.below (by repeat (first | (with_reducible first | exact HB.out | apply below_alloc | apply pw_below_drewN | apply below_drew1) | exact HB.out)) HLAID.out); rintro e w37 ⟨rfl, hb⟩; refine ⟨_, rfl, ?_⟩; have n0_ := Aside0.mk (below_step (by repeat (first | (with_reducible first | exact HB.out | apply below_alloc | apply pw_below_drewN | apply below_drew1) | exact HB.out)) hb); clear HB; have HB := n0_; clear n0_; (try clear hb); (try clear hb2); (try clear hk); (try clear hi)))
    go_ret
    exact ⟨by first | rfl | (simp [errW_none, errW_some] <;> rfl) | (simp [*, errW_none, errW_some] <;> rfl), by repeat (first | (with_reducible first | exact HB.out | apply below_alloc | apply pw_below_drewN | apply below_drew1) | exact HB.out)⟩

/-- THE ONE PURE STATEMENT of foundrylaw02_IntsEuclid: yours. -/
def foundrylaw02_IntsEuclid.Pure : Prop := ∀ (a0 : Int) (a1 : Int), (Lit.int .i64 a0).wf = true → (Lit.int .i64 a1).wf = true → ∃ k, foundrylaw02_IntsEuclid.f k a0 a1 = some true
theorem foundrylaw02_IntsEuclid.walk (P : foundrylaw02_IntsEuclid.Pure) (a0 : Int) (a1 : Int) (w : World) (hLaid : LaidOk w) (w0 : (Lit.int .i64 a0).wf = true) (w1 : (Lit.int .i64 a1).wf = true) :
    Calls Tryd.prog 7 #[.int .i64 a0, .int .i64 a1] w fun e w' => e = .returned (.bool true) ∧ Below w.heap.size w w' := by
  obtain ⟨k, h⟩ := P a0 a1 w0 w1
  refine (foundrylaw02_IntsEuclid.calls k a0 a1 true w hLaid h).mono ?_
  rintro e w' ⟨rfl, hd⟩
  exact ⟨rfl, hd⟩

/-! ### ints_Cmp: function 27 -/
def ints_Cmp.f (a0 : Int) (a1 : Int) : Option (Int) := if a0 < a1 then (some (-1)) else (if a0 > a1 then (some 1) else (some 0))
set_option maxHeartbeats 8000000 in
set_option maxRecDepth 100000 in
theorem ints_Cmp.calls (a0 : Int) (a1 : Int) (r : Int) (w : World) (h : ints_Cmp.f a0 a1 = some r) :
    Calls Tryd.prog 27 #[.int .i64 a0, .int .i64 a1] w fun e w' => e = .returned (.int .i64 r) ∧ Drawn0 w w' := by
  have H : (if a0 < a1 then (some (-1)) else (if a0 > a1 then (some 1) else (some 0))) = some r := h
  clear h
  by_cases c3 : a0 < a1
  · rw [if_pos c3] at H
    have c3b0 : decide (a0 < a1) = true := decide_eq_true c3
    clear c3
    obtain rfl := Option.some.inj H
    go_enter Tryd.func27, Tryd.ntmps27
    go_wp2
    go_ret
    exact ⟨by first | rfl | (simp; done) | (simp [*]; done), by repeat (first | exact Drawn0.refl _ | apply Drawn0.step)⟩
  · rw [if_neg c3] at H
    have c3b0 : decide (a0 < a1) = false := decide_eq_false c3
    clear c3
    by_cases c4 : a0 > a1
    · rw [if_pos c4] at H
      have c4b0 : decide (a1 < a0) = true := decide_eq_true c4
      clear c4
      obtain rfl := Option.some.inj H
      go_enter Tryd.func27, Tryd.ntmps27
      go_wp2
      go_ret
      exact ⟨by first | rfl | (simp; done) | (simp [*]; done), by repeat (first | exact Drawn0.refl _ | apply Drawn0.step)⟩
    · rw [if_neg c4] at H
      have c4b0 : decide (a1 < a0) = false := decide_eq_false c4
      clear c4
      obtain rfl := Option.some.inj H
      go_enter Tryd.func27, Tryd.ntmps27
      go_wp2
      go_ret
      exact ⟨by first | rfl | (simp; done) | (simp [*]; done), by repeat (first | exact Drawn0.refl _ | apply Drawn0.step)⟩

end Go.Proofs.YtjgccgjdonjlaaaDoor.QAll
