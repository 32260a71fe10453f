-- WRITTEN BY A PROGRAM OF THE SESSION (wip/myprint.sh): Lean checks it.
import Derived.Test.YtjgccgjdonjlaaaDoorQEx0
import Derived.Test.YtjgccgjdonjlaaaDoorQEx1
namespace Go.Proofs.YtjgccgjdonjlaaaDoor.QEx
open Go.Proofs.YtjgccgjdonjlaaaDoorG
open Go.RowKit Go.Proofs.YtjgccgjdonjlaaaDoorW.PrintWords Go.Proofs.YtjgccgjdonjlaaaDoorW.PrintLast Go.Proofs.YtjgccgjdonjlaaaDoorW.PrintMore
attribute [local go_sem] max2_int min2_int max_two min_two max_three min_three max_four min_four   -- for this text's walks alone
set_option linter.unusedVariables false
set_option linter.unusedSimpArgs false

/-! ### foundrylaw02_IntsExact: function 4 -/
mutual
def foundrylaw02_IntsExact.j0 : Nat → Int → Int → Int → Int → Bool → Option (Bool)
  | 0, _, _, _, _, _ => none
  | k + 1, x0, x1, x5, x6, x7 => (ints_Mul.f x0 x1).bind fun bt129 => (if x5 = 0 then (if x6 < 9223372036854775808 then (foundrylaw02_IntsExact.j1 k x0 x1 x6 x7 bt129.1 bt129.2 true) else (if x7 = true then (foundrylaw02_IntsExact.j1 k x0 x1 x6 x7 bt129.1 bt129.2 (x6 == 9223372036854775808)) else (foundrylaw02_IntsExact.j1 k x0 x1 x6 x7 bt129.1 bt129.2 false))) else (foundrylaw02_IntsExact.j1 k x0 x1 x6 x7 bt129.1 bt129.2 false))
def foundrylaw02_IntsExact.j1 : Nat → Int → Int → Int → Bool → Int → Int → Bool → Option (Bool)
  | 0, _, _, _, _, _, _, _ => none
  | k + 1, x0, x1, x6, x7, x8, x9, x10 => if x10 = true then (if x9 = 0 then ((foundrylaw02_amount.f x8).bind fun t131 => (if t131 = x6 then (if x6 = 0 then (foundrylaw02_IntsExact.j2 k x0 x1 false) else (if x8 < 0 then (if x7 = true then (foundrylaw02_IntsExact.j2 k x0 x1 false) else (foundrylaw02_IntsExact.j2 k x0 x1 true)) else (if x7 = true then (foundrylaw02_IntsExact.j2 k x0 x1 true) else (foundrylaw02_IntsExact.j2 k x0 x1 false)))) else (foundrylaw02_IntsExact.j2 k x0 x1 true))) else (foundrylaw02_IntsExact.j2 k x0 x1 true)) else (if x9 = 0 then (foundrylaw02_IntsExact.j2 k x0 x1 true) else (foundrylaw02_IntsExact.j2 k x0 x1 (x8 != 0)))
def foundrylaw02_IntsExact.j2 : Nat → Int → Int → Bool → Option (Bool)
  | 0, _, _, _ => none
  | k + 1, x0, x1, x82 => if x82 = true then (some false) else ((ints_Add.f x0 x1).bind fun bt132 => (if x0 < 0 then (if x1 < 0 then (if (wrap64 (x0 + x1)) < 0 then (foundrylaw02_IntsExact.j3 k x0 x1 bt132.1 bt132.2 false) else (foundrylaw02_IntsExact.j3 k x0 x1 bt132.1 bt132.2 true)) else (foundrylaw02_IntsExact.j3 k x0 x1 bt132.1 bt132.2 false)) else (if x1 < 0 then (foundrylaw02_IntsExact.j3 k x0 x1 bt132.1 bt132.2 false) else (if (wrap64 (x0 + x1)) < 0 then (foundrylaw02_IntsExact.j3 k x0 x1 bt132.1 bt132.2 true) else (foundrylaw02_IntsExact.j3 k x0 x1 bt132.1 bt132.2 false)))))
def foundrylaw02_IntsExact.j3 : Nat → Int → Int → Int → Int → Bool → Option (Bool)
  | 0, _, _, _, _, _ => none
  | k + 1, x0, x1, x11, x12, x13 => (ints_Sub.f x11 x1).bind fun bt134 => (if x12 = 0 then (if x13 = true then (foundrylaw02_IntsExact.j4 k x0 true) else (if x11 = (wrap64 (x0 + x1)) then (if bt134.1 = x0 then (foundrylaw02_IntsExact.j4 k x0 (bt134.2 != 0)) else (foundrylaw02_IntsExact.j4 k x0 true)) else (foundrylaw02_IntsExact.j4 k x0 true))) else (if x13 = true then (if x11 = 0 then (foundrylaw02_IntsExact.j4 k x0 false) else (foundrylaw02_IntsExact.j4 k x0 true)) else (foundrylaw02_IntsExact.j4 k x0 true)))
def foundrylaw02_IntsExact.j4 : Nat → Int → Bool → Option (Bool)
  | 0, _, _ => none
  | k + 1, x0, x139 => if x139 = true then (some false) else ((ints_Neg.f x0).bind fun bt136 => (if bt136.2 = 0 then (if x0 = (-9223372036854775808) then (some false) else ((foundrylaw02_amount.f bt136.1).bind fun t138 => ((foundrylaw02_amount.f x0).bind fun t139 => (if t138 = t139 then (if bt136.1 < 0 then (if x0 > 0 then (some true) else (some false)) else (if x0 > 0 then (some false) else (some true))) else (some false))))) else (if x0 = (-9223372036854775808) then (some true) else (some false))))
end
def foundrylaw02_IntsExact.f (k : Nat) (a0 : Int) (a1 : Int) : Option (Bool) := (foundrylaw02_live.f k).bind fun t124 => (if t124 = true then ((foundrylaw02_amount.f a0).bind fun t125 => ((foundrylaw02_amount.f a1).bind fun t126 => ((foundrylaw02_wide.f t125 t126).bind fun bt127 => (if a0 < 0 then (if a1 < 0 then (foundrylaw02_IntsExact.j0 k a0 a1 bt127.1 bt127.2 false) else (foundrylaw02_IntsExact.j0 k a0 a1 bt127.1 bt127.2 true)) else (if a1 < 0 then (foundrylaw02_IntsExact.j0 k a0 a1 bt127.1 bt127.2 true) else (foundrylaw02_IntsExact.j0 k a0 a1 bt127.1 bt127.2 false)))))) else (some false))
theorem foundrylaw02_IntsExact.mono_l : ∀ k, (∀ y0 y1 y2 y3 y4, LeO (foundrylaw02_IntsExact.j0 k y0 y1 y2 y3 y4) (foundrylaw02_IntsExact.j0 (k + 1) y0 y1 y2 y3 y4)) ∧ (∀ y0 y1 y2 y3 y4 y5 y6, LeO (foundrylaw02_IntsExact.j1 k y0 y1 y2 y3 y4 y5 y6) (foundrylaw02_IntsExact.j1 (k + 1) y0 y1 y2 y3 y4 y5 y6)) ∧ (∀ y0 y1 y2, LeO (foundrylaw02_IntsExact.j2 k y0 y1 y2) (foundrylaw02_IntsExact.j2 (k + 1) y0 y1 y2)) ∧ (∀ y0 y1 y2 y3 y4, LeO (foundrylaw02_IntsExact.j3 k y0 y1 y2 y3 y4) (foundrylaw02_IntsExact.j3 (k + 1) y0 y1 y2 y3 y4)) ∧ (∀ y0 y1, LeO (foundrylaw02_IntsExact.j4 k y0 y1) (foundrylaw02_IntsExact.j4 (k + 1) y0 y1))
  | 0 => ⟨fun _ _ _ _ _ r h => by simp [foundrylaw02_IntsExact.j0] at h, fun _ _ _ _ _ _ _ r h => by simp [foundrylaw02_IntsExact.j1] at h, fun _ _ _ r h => by simp [foundrylaw02_IntsExact.j2] at h, fun _ _ _ _ _ r h => by simp [foundrylaw02_IntsExact.j3] at h, fun _ _ r h => by simp [foundrylaw02_IntsExact.j4] at h⟩
  | k + 1 => by
    obtain ⟨ih0, ih1, ih2, ih3, ih4⟩ := foundrylaw02_IntsExact.mono_l k
    refine ⟨?_, ?_, ?_, ?_, ?_⟩
    · intro y0 y1 y2 y3 y4
      unfold foundrylaw02_IntsExact.j0
      repeat' first
      | (with_reducible exact ih0 _ _ _ _ _)
      | (with_reducible exact ih1 _ _ _ _ _ _ _)
      | (with_reducible exact ih2 _ _ _)
      | (with_reducible exact ih3 _ _ _ _ _)
      | (with_reducible exact ih4 _ _)
      | (with_reducible exact foundrylaw02_live.mono _)
      | (with_reducible exact LeO.refl _)
      | (with_reducible exact LeO.none _)
      | (with_reducible refine LeO.ite ?_ ?_)
      | (with_reducible refine LeO.bind ?_ (fun _ => ?_))
      | exact ih0 _ _ _ _ _
      | exact ih1 _ _ _ _ _ _ _
      | exact ih2 _ _ _
      | exact ih3 _ _ _ _ _
      | exact ih4 _ _
      | exact foundrylaw02_live.mono _
      | exact LeO.none _
      | refine LeO.ite ?_ ?_
      | refine LeO.bind ?_ (fun _ => ?_)
    · intro y0 y1 y2 y3 y4 y5 y6
      unfold foundrylaw02_IntsExact.j1
      repeat' first
      | (with_reducible exact ih0 _ _ _ _ _)
      | (with_reducible exact ih1 _ _ _ _ _ _ _)
      | (with_reducible exact ih2 _ _ _)
      | (with_reducible exact ih3 _ _ _ _ _)
      | (with_reducible exact ih4 _ _)
      | (with_reducible exact foundrylaw02_live.mono _)
      | (with_reducible exact LeO.refl _)
      | (with_reducible exact LeO.none _)
      | (with_reducible refine LeO.ite ?_ ?_)
      | (with_reducible refine LeO.bind ?_ (fun _ => ?_))
      | exact ih0 _ _ _ _ _
      | exact ih1 _ _ _ _ _ _ _
      | exact ih2 _ _ _
      | exact ih3 _ _ _ _ _
      | exact ih4 _ _
      | exact foundrylaw02_live.mono _
      | exact LeO.none _
      | refine LeO.ite ?_ ?_
      | refine LeO.bind ?_ (fun _ => ?_)
    · intro y0 y1 y2
      unfold foundrylaw02_IntsExact.j2
      repeat' first
      | (with_reducible exact ih0 _ _ _ _ _)
      | (with_reducible exact ih1 _ _ _ _ _ _ _)
      | (with_reducible exact ih2 _ _ _)
      | (with_reducible exact ih3 _ _ _ _ _)
      | (with_reducible exact ih4 _ _)
      | (with_reducible exact foundrylaw02_live.mono _)
      | (with_reducible exact LeO.refl _)
      | (with_reducible exact LeO.none _)
      | (with_reducible refine LeO.ite ?_ ?_)
      | (with_reducible refine LeO.bind ?_ (fun _ => ?_))
      | exact ih0 _ _ _ _ _
      | exact ih1 _ _ _ _ _ _ _
      | exact ih2 _ _ _
      | exact ih3 _ _ _ _ _
      | exact ih4 _ _
      | exact foundrylaw02_live.mono _
      | exact LeO.none _
      | refine LeO.ite ?_ ?_
      | refine LeO.bind ?_ (fun _ => ?_)
    · intro y0 y1 y2 y3 y4
      unfold foundrylaw02_IntsExact.j3
      repeat' first
      | (with_reducible exact ih0 _ _ _ _ _)
      | (with_reducible exact ih1 _ _ _ _ _ _ _)
      | (with_reducible exact ih2 _ _ _)
      | (with_reducible exact ih3 _ _ _ _ _)
      | (with_reducible exact ih4 _ _)
      | (with_reducible exact foundrylaw02_live.mono _)
      | (with_reducible exact LeO.refl _)
      | (with_reducible exact LeO.none _)
      | (with_reducible refine LeO.ite ?_ ?_)
      | (with_reducible refine LeO.bind ?_ (fun _ => ?_))
      | exact ih0 _ _ _ _ _
      | exact ih1 _ _ _ _ _ _ _
      | exact ih2 _ _ _
      | exact ih3 _ _ _ _ _
      | exact ih4 _ _
      | exact foundrylaw02_live.mono _
      | exact LeO.none _
      | refine LeO.ite ?_ ?_
      | refine LeO.bind ?_ (fun _ => ?_)
    · intro y0 y1
      unfold foundrylaw02_IntsExact.j4
      repeat' first
      | (with_reducible exact ih0 _ _ _ _ _)
      | (with_reducible exact ih1 _ _ _ _ _ _ _)
      | (with_reducible exact ih2 _ _ _)
      | (with_reducible exact ih3 _ _ _ _ _)
      | (with_reducible exact ih4 _ _)
      | (with_reducible exact foundrylaw02_live.mono _)
      | (with_reducible exact LeO.refl _)
      | (with_reducible exact LeO.none _)
      | (with_reducible refine LeO.ite ?_ ?_)
      | (with_reducible refine LeO.bind ?_ (fun _ => ?_))
      | exact ih0 _ _ _ _ _
      | exact ih1 _ _ _ _ _ _ _
      | exact ih2 _ _ _
      | exact ih3 _ _ _ _ _
      | exact ih4 _ _
      | exact foundrylaw02_live.mono _
      | exact LeO.none _
      | refine LeO.ite ?_ ?_
      | refine LeO.bind ?_ (fun _ => ?_)
theorem foundrylaw02_IntsExact.mono : ∀ a0 a1 k, LeO (foundrylaw02_IntsExact.f k a0 a1) (foundrylaw02_IntsExact.f (k + 1) a0 a1) := by
  intro a0 a1 k
  obtain ⟨ih0, ih1, ih2, ih3, ih4⟩ := foundrylaw02_IntsExact.mono_l k
  unfold foundrylaw02_IntsExact.f
  repeat' first
      | (with_reducible exact ih0 _ _ _ _ _)
      | (with_reducible exact ih1 _ _ _ _ _ _ _)
      | (with_reducible exact ih2 _ _ _)
      | (with_reducible exact ih3 _ _ _ _ _)
      | (with_reducible exact ih4 _ _)
      | (with_reducible exact foundrylaw02_live.mono _)
      | (with_reducible exact LeO.refl _)
      | (with_reducible exact LeO.none _)
      | (with_reducible refine LeO.ite ?_ ?_)
      | (with_reducible refine LeO.bind ?_ (fun _ => ?_))
      | exact ih0 _ _ _ _ _
      | exact ih1 _ _ _ _ _ _ _
      | exact ih2 _ _ _
      | exact ih3 _ _ _ _ _
      | exact ih4 _ _
      | exact foundrylaw02_live.mono _
      | exact LeO.none _
      | refine LeO.ite ?_ ?_
      | refine LeO.bind ?_ (fun _ => ?_)
set_option maxHeartbeats 8000000 in
set_option maxRecDepth 100000 in
theorem foundrylaw02_IntsExact.calls (k : Nat) (a0 : Int) (a1 : Int) (r : Bool) (w : World) (hLaid : LaidOk w) (h : foundrylaw02_IntsExact.f k a0 a1 = some r) :
    Calls Tryd.prog 4 #[.int .i64 a0, .int .i64 a1] w fun e w' => e = .returned (.bool r) ∧ Below w.heap.size w w' := by
  have HLAID := Aside0.mk hLaid
  clear hLaid
  have HB := Aside0.mk (Below.refl w.heap.size w)
  have H : ((foundrylaw02_live.f k).bind fun t124 => (if t124 = true then ((foundrylaw02_amount.f a0).bind fun t125 => ((foundrylaw02_amount.f a1).bind fun t126 => ((foundrylaw02_wide.f t125 t126).bind fun bt127 => (if a0 < 0 then (if a1 < 0 then (foundrylaw02_IntsExact.j0 k a0 a1 bt127.1 bt127.2 false) else (foundrylaw02_IntsExact.j0 k a0 a1 bt127.1 bt127.2 true)) else (if a1 < 0 then (foundrylaw02_IntsExact.j0 k a0 a1 bt127.1 bt127.2 true) else (foundrylaw02_IntsExact.j0 k a0 a1 bt127.1 bt127.2 false)))))) else (some false))) = some r := h
  clear h
  replace H := Option.bind_eq_some_iff.mp H
  obtain ⟨t124, A30, H⟩ := H
  replace H : (if t124 = true then ((foundrylaw02_amount.f a0).bind fun t125 => ((foundrylaw02_amount.f a1).bind fun t126 => ((foundrylaw02_wide.f t125 t126).bind fun bt127 => (if a0 < 0 then (if a1 < 0 then (foundrylaw02_IntsExact.j0 k a0 a1 bt127.1 bt127.2 false) else (foundrylaw02_IntsExact.j0 k a0 a1 bt127.1 bt127.2 true)) else (if a1 < 0 then (foundrylaw02_IntsExact.j0 k a0 a1 bt127.1 bt127.2 true) else (foundrylaw02_IntsExact.j0 k a0 a1 bt127.1 bt127.2 false)))))) else (some false)) = some r := H
  have A3 := Aside0.mk A30
  clear A30
  by_cases c4 : t124 = true
  · subst c4
    have H1 : ((foundrylaw02_amount.f a0).bind fun t125 => ((foundrylaw02_amount.f a1).bind fun t126 => ((foundrylaw02_wide.f t125 t126).bind fun bt127 => (if a0 < 0 then (if a1 < 0 then (foundrylaw02_IntsExact.j0 k a0 a1 bt127.1 bt127.2 false) else (foundrylaw02_IntsExact.j0 k a0 a1 bt127.1 bt127.2 true)) else (if a1 < 0 then (foundrylaw02_IntsExact.j0 k a0 a1 bt127.1 bt127.2 true) else (foundrylaw02_IntsExact.j0 k a0 a1 bt127.1 bt127.2 false)))))) = some r := by rw [if_pos rfl] at H; exact H
    clear H
    have H := H1
    clear H1
    replace H := Option.bind_eq_some_iff.mp H
    obtain ⟨t125, A50, H⟩ := H
    replace H : ((foundrylaw02_amount.f a1).bind fun t126 => ((foundrylaw02_wide.f t125 t126).bind fun bt127 => (if a0 < 0 then (if a1 < 0 then (foundrylaw02_IntsExact.j0 k a0 a1 bt127.1 bt127.2 false) else (foundrylaw02_IntsExact.j0 k a0 a1 bt127.1 bt127.2 true)) else (if a1 < 0 then (foundrylaw02_IntsExact.j0 k a0 a1 bt127.1 bt127.2 true) else (foundrylaw02_IntsExact.j0 k a0 a1 bt127.1 bt127.2 false))))) = some r := H
    have A5 := Aside0.mk A50
    clear A50
    replace H := Option.bind_eq_some_iff.mp H
    obtain ⟨t126, A60, H⟩ := H
    replace H : ((foundrylaw02_wide.f t125 t126).bind fun bt127 => (if a0 < 0 then (if a1 < 0 then (foundrylaw02_IntsExact.j0 k a0 a1 bt127.1 bt127.2 false) else (foundrylaw02_IntsExact.j0 k a0 a1 bt127.1 bt127.2 true)) else (if a1 < 0 then (foundrylaw02_IntsExact.j0 k a0 a1 bt127.1 bt127.2 true) else (foundrylaw02_IntsExact.j0 k a0 a1 bt127.1 bt127.2 false)))) = some r := H
    have A6 := Aside0.mk A60
    clear A60
    replace H := Option.bind_eq_some_iff.mp H
    obtain ⟨⟨t127, t128⟩, A70, H⟩ := H
    replace H : (if a0 < 0 then (if a1 < 0 then (foundrylaw02_IntsExact.j0 k a0 a1 t127 t128 false) else (foundrylaw02_IntsExact.j0 k a0 a1 t127 t128 true)) else (if a1 < 0 then (foundrylaw02_IntsExact.j0 k a0 a1 t127 t128 true) else (foundrylaw02_IntsExact.j0 k a0 a1 t127 t128 false))) = some r := H
    have A7 := Aside0.mk A70
    clear A70
    have HC8 := Aside0.mk H
    clear H
    go_enter Tryd.func4, Tryd.ntmps4
    go_upto_region 4 with (first | ((with_reducible refine gate_callee (f := 18) rfl ?_); refine goesL_ (some 18) rfl rfl Tryd.func18 (by kernel_rfl) rfl #[] rfl (by (try simp only [List.map_toArray, List.map_cons, List.map_nil]); first | done | rfl | (simp only [List.length_drop, List.length_take]; rfl)) ?_; (with_reducible refine (foundrylaw02_live.calls k  true _ ?side1 A3.out).mono ?_); (case side1 => exact LaidOk.below (by repeat (first | (with_reducible first | exact HB.out | apply below_alloc | apply pw_below_drewN | apply below_drew1) | exact HB.out)) HLAID.out); rintro e w9 ⟨rfl, hb⟩; refine ⟨_, rfl, ?_⟩; have n0_ := Aside0.mk (below_step (by repeat (first | (with_reducible first | exact HB.out | apply below_alloc | apply pw_below_drewN | apply below_drew1) | exact HB.out)) hb); clear HB; have HB := n0_; clear n0_; (try clear hb); (try clear hb2); (try clear hk); (try clear hi)) | ((with_reducible refine gate_callee (f := 20) rfl ?_); refine goesL_ (some 22) rfl rfl Tryd.func20 (by kernel_rfl) rfl #[.int .i64 a0] rfl (by (try simp only [List.map_toArray, List.map_cons, List.map_nil]); first | done | rfl | (simp only [List.length_drop, List.length_take]; rfl)) ?_; (with_reducible refine (foundrylaw02_amount.calls a0 t125 _ A5.out).mono ?_); rintro e w' ⟨rfl, ⟨nd, rfl⟩⟩; refine ⟨_, rfl, ?_⟩) | ((with_reducible refine gate_callee (f := 20) rfl ?_); refine goesL_ (some 24) rfl rfl Tryd.func20 (by kernel_rfl) rfl #[.int .i64 a1] rfl (by (try simp only [List.map_toArray, List.map_cons, List.map_nil]); first | done | rfl | (simp only [List.length_drop, List.length_take]; rfl)) ?_; (with_reducible refine (foundrylaw02_amount.calls a1 t126 _ A6.out).mono ?_); rintro e w' ⟨rfl, ⟨nd, rfl⟩⟩; refine ⟨_, rfl, ?_⟩) | ((with_reducible refine gate_callee (f := 19) rfl ?_); refine goesL_ (some 25) rfl rfl Tryd.func19 (by kernel_rfl) rfl #[.int .u64 t125, .int .u64 t126] rfl (by (try simp only [List.map_toArray, List.map_cons, List.map_nil]); first | done | rfl | (simp only [List.length_drop, List.length_take]; rfl)) ?_; (with_reducible refine (foundrylaw02_wide.calls t125 t126 t127 t128 _ A7.out).mono ?_); rintro e w' ⟨rfl, ⟨nd, rfl⟩⟩; refine ⟨_, rfl, ?_⟩))
    (try simp only [Act.put, List.setIfInBounds_toArray, List.set_cons_zero, List.set_cons_succ])
    go_cut [7] (fun v7 wc => ∃ (kq : Nat) (x7_7 : Bool), v7 = .bool x7_7 ∧ Aside0 (foundrylaw02_IntsExact.j0 kq a0 a1 t127 t128 x7_7 = some r) ∧ Aside0 (kq ≤ k) ∧ Aside0 (Below w.heap.size w wc))
    case first =>
      have H := HC8.out
      clear HC8
      by_cases c10 : a0 < 0
      · rw [if_pos c10] at H
        have c10b0 : decide (a0 < 0) = true := decide_eq_true c10
        clear c10
        (first | rw [c10b0] | (simp only [i64_w, i32_w]; rw [c10b0]) | skip)
        by_cases c11 : a1 < 0
        · rw [if_pos c11] at H
          have c11b0 : decide (a1 < 0) = true := decide_eq_true c11
          clear c11
          as_aux_lemma =>
            have H' := Aside0.mk H
            clear H
            go_wp2
            go_meet
            case rel => exact ⟨_, (false), (by first | rfl | (simp; done) | (simp [*]; done)), H', ⟨by first | omega | exact Nat.le_refl _⟩, ⟨by repeat (first | (with_reducible first | exact HB.out | apply below_alloc | apply pw_below_drewN | apply below_drew1) | exact HB.out)⟩⟩
        · rw [if_neg c11] at H
          have c11b0 : decide (a1 < 0) = false := decide_eq_false c11
          clear c11
          as_aux_lemma =>
            have H' := Aside0.mk H
            clear H
            go_wp2
            go_meet
            case rel => exact ⟨_, (true), (by first | rfl | (simp; done) | (simp [*]; done)), H', ⟨by first | omega | exact Nat.le_refl _⟩, ⟨by repeat (first | (with_reducible first | exact HB.out | apply below_alloc | apply pw_below_drewN | apply below_drew1) | exact HB.out)⟩⟩
      · rw [if_neg c10] at H
        have c10b0 : decide (a0 < 0) = false := decide_eq_false c10
        clear c10
        (first | rw [c10b0] | (simp only [i64_w, i32_w]; rw [c10b0]) | skip)
        by_cases c12 : a1 < 0
        · rw [if_pos c12] at H
          have c12b0 : decide (a1 < 0) = true := decide_eq_true c12
          clear c12
          as_aux_lemma =>
            have H' := Aside0.mk H
            clear H
            go_wp2
            go_meet
            case rel => exact ⟨_, (true), (by first | rfl | (simp; done) | (simp [*]; done)), H', ⟨by first | omega | exact Nat.le_refl _⟩, ⟨by repeat (first | (with_reducible first | exact HB.out | apply below_alloc | apply pw_below_drewN | apply below_drew1) | exact HB.out)⟩⟩
        · rw [if_neg c12] at H
          have c12b0 : decide (a1 < 0) = false := decide_eq_false c12
          clear c12
          as_aux_lemma =>
            have H' := Aside0.mk H
            clear H
            go_wp2
            go_meet
            case rel => exact ⟨_, (false), (by first | rfl | (simp; done) | (simp [*]; done)), H', ⟨by first | omega | exact Nat.le_refl _⟩, ⟨by repeat (first | (with_reducible first | exact HB.out | apply below_alloc | apply pw_below_drewN | apply below_drew1) | exact HB.out)⟩⟩
    case rest =>
      clear HC8
      try clear c1
      try clear c2
      try clear p2
      try clear c4
      try clear c10
      try clear c10b0
      try clear c11
      try clear c11b0
      try clear c12
      try clear c12b0
      obtain ⟨kq, x7_7, rfl, HA, HJ7, HB⟩ := hcut
      cases kq with
      | zero => exact absurd HA.out (by simp [foundrylaw02_IntsExact.j0])
      | succ kj7 =>
        have H := HA.out
        clear HA
        simp only [foundrylaw02_IntsExact.j0] at H
        replace H := Option.bind_eq_some_iff.mp H
        obtain ⟨⟨t129, t130⟩, A130, H⟩ := H
        replace H : (if t127 = 0 then (if t128 < 9223372036854775808 then (foundrylaw02_IntsExact.j1 kj7 a0 a1 t128 x7_7 t129 t130 true) else (if x7_7 = true then (foundrylaw02_IntsExact.j1 kj7 a0 a1 t128 x7_7 t129 t130 (t128 == 9223372036854775808)) else (foundrylaw02_IntsExact.j1 kj7 a0 a1 t128 x7_7 t129 t130 false))) else (foundrylaw02_IntsExact.j1 kj7 a0 a1 t128 x7_7 t129 t130 false)) = some r := H
        have A13 := Aside0.mk A130
        clear A130
        have HC14 := Aside0.mk H
        clear H
        go_upto_region 6 with (first | ((with_reducible refine gate_callee (f := 21) rfl ?_); refine goesL_ (some 36) rfl rfl Tryd.func21 (by kernel_rfl) rfl #[.int .i64 a0, .int .i64 a1] rfl (by (try simp only [List.map_toArray, List.map_cons, List.map_nil]); first | done | rfl | (simp only [List.length_drop, List.length_take]; rfl)) ?_; (with_reducible refine (ints_Mul.calls a0 a1 t129 t130 _ A13.out).mono ?_); rintro e w15 ⟨rfl, hb⟩; refine ⟨_, rfl, ?_⟩; have n0_ := Aside0.mk (below_step (by repeat (first | (with_reducible first | exact HB.out | apply below_alloc | apply pw_below_drewN | apply below_drew1) | exact HB.out)) hb); clear HB; have HB := n0_; clear n0_; (try clear hb); (try clear hb2); (try clear hk); (try clear hi)))
        (try simp only [Act.put, List.setIfInBounds_toArray, List.set_cons_zero, List.set_cons_succ])
        go_cut [10] (fun v10 wc => ∃ (kq : Nat) (x10_13 : Bool), v10 = .bool x10_13 ∧ Aside0 (foundrylaw02_IntsExact.j1 kq a0 a1 t128 x7_7 t129 t130 x10_13 = some r) ∧ Aside0 (kq ≤ kj7) ∧ Aside0 (Below w.heap.size w wc))
        case first =>
          have H := HC14.out
          clear HC14
          by_cases c16 : t127 = 0
          · rw [if_pos c16] at H
            have c16b0 : (t127 == 0) = true := beq_iff_eq.mpr c16
            have c16b1 : (t127 != 0) = false := bne_eq_false_iff_eq.mpr c16
            clear c16
            (first | rw [c16b0] | (simp only [i64_w, i32_w]; rw [c16b0]) | skip)
            by_cases c17 : t128 < 9223372036854775808
            · rw [if_pos c17] at H
              have c17b0 : decide (t128 < 9223372036854775808) = true := decide_eq_true c17
              clear c17
              as_aux_lemma =>
                have H' := Aside0.mk H
                clear H
                go_wp2
                go_meet
                case rel => exact ⟨_, (true), (by first | rfl | (simp; done) | (simp [*]; done)), H', ⟨by have := HJ7.out; first | omega | exact Nat.le_refl _⟩, ⟨by repeat (first | (with_reducible first | exact HB.out | apply below_alloc | apply pw_below_drewN | apply below_drew1) | exact HB.out)⟩⟩
            · rw [if_neg c17] at H
              have c17b0 : decide (t128 < 9223372036854775808) = false := decide_eq_false c17
              clear c17
              by_cases c18 : x7_7 = true
              · subst c18
                have H1 : (foundrylaw02_IntsExact.j1 kj7 a0 a1 t128 true t129 t130 (t128 == 9223372036854775808)) = some r := by rw [if_pos rfl] at H; exact H
                clear H
                have H := H1
                clear H1
                as_aux_lemma =>
                  have H' := Aside0.mk H
                  clear H
                  go_wp2
                  go_meet
                  case rel => exact ⟨_, ((t128 == 9223372036854775808)), (by first | rfl | (simp; done) | (simp [*]; done)), H', ⟨by have := HJ7.out; first | omega | exact Nat.le_refl _⟩, ⟨by repeat (first | (with_reducible first | exact HB.out | apply below_alloc | apply pw_below_drewN | apply below_drew1) | exact HB.out)⟩⟩
              · replace c18 := Bool.eq_false_iff.mpr c18
                subst c18
                have H1 : (foundrylaw02_IntsExact.j1 kj7 a0 a1 t128 false t129 t130 false) = some r := by rw [if_neg (show ¬ (false = true) by decide)] at H; exact H
                clear H
                have H := H1
                clear H1
                as_aux_lemma =>
                  have H' := Aside0.mk H
                  clear H
                  go_wp2
                  go_meet
                  case rel => exact ⟨_, (false), (by first | rfl | (simp; done) | (simp [*]; done)), H', ⟨by have := HJ7.out; first | omega | exact Nat.le_refl _⟩, ⟨by repeat (first | (with_reducible first | exact HB.out | apply below_alloc | apply pw_below_drewN | apply below_drew1) | exact HB.out)⟩⟩
          · rw [if_neg c16] at H
            have c16b0 : (t127 == 0) = false := beq_eq_false_iff_ne.mpr c16
            have c16b1 : (t127 != 0) = true := bne_iff_ne.mpr c16
            (first | rw [c16b0] | (simp only [i64_w, i32_w]; rw [c16b0]) | skip)
            as_aux_lemma =>
              have H' := Aside0.mk H
              clear H
              go_wp2
              go_meet
              case rel => exact ⟨_, (false), (by first | rfl | (simp; done) | (simp [*]; done)), H', ⟨by have := HJ7.out; first | omega | exact Nat.le_refl _⟩, ⟨by repeat (first | (with_reducible first | exact HB.out | apply below_alloc | apply pw_below_drewN | apply below_drew1) | exact HB.out)⟩⟩
        case rest =>
          clear HC14
          try clear c1
          try clear c2
          try clear p2
          try clear c4
          try clear c10
          try clear c10b0
          try clear c11
          try clear c11b0
          try clear c12
          try clear c12b0
          try clear c16
          try clear c16b0
          try clear c16b1
          try clear c17
          try clear c17b0
          try clear c18
          try clear p2
          obtain ⟨kq, x10_13, rfl, HA, HJ13, HB⟩ := hcut
          cases kq with
          | zero => exact absurd HA.out (by simp [foundrylaw02_IntsExact.j1])
          | succ kj13 =>
            have H := HA.out
            clear HA
            simp only [foundrylaw02_IntsExact.j1] at H
            have HC19 := Aside0.mk H
            clear H
            go_upto_region 7 with (fail)
            go_cut [82] (fun v82 wc => ∃ (kq : Nat) (x82_18 : Bool), v82 = .bool x82_18 ∧ Aside0 (foundrylaw02_IntsExact.j2 kq a0 a1 x82_18 = some r) ∧ Aside0 (kq ≤ kj13) ∧ Aside0 (Below w.heap.size w wc))
            case first =>
              have H := HC19.out
              clear HC19
              by_cases c20 : x10_13 = true
              · subst c20
                have H1 : (if t130 = 0 then ((foundrylaw02_amount.f t129).bind fun t131 => (if t131 = t128 then (if t128 = 0 then (foundrylaw02_IntsExact.j2 kj13 a0 a1 false) else (if t129 < 0 then (if x7_7 = true then (foundrylaw02_IntsExact.j2 kj13 a0 a1 false) else (foundrylaw02_IntsExact.j2 kj13 a0 a1 true)) else (if x7_7 = true then (foundrylaw02_IntsExact.j2 kj13 a0 a1 true) else (foundrylaw02_IntsExact.j2 kj13 a0 a1 false)))) else (foundrylaw02_IntsExact.j2 kj13 a0 a1 true))) else (foundrylaw02_IntsExact.j2 kj13 a0 a1 true)) = some r := by rw [if_pos rfl] at H; exact H
                clear H
                have H := H1
                clear H1
                by_cases c21 : t130 = 0
                · rw [if_pos c21] at H
                  have c21b0 : (t130 == 0) = true := beq_iff_eq.mpr c21
                  have c21b1 : (t130 != 0) = false := bne_eq_false_iff_eq.mpr c21
                  clear c21
                  (first | rw [c21b0] | (simp only [i64_w, i32_w]; rw [c21b0]) | skip)
                  replace H := Option.bind_eq_some_iff.mp H
                  obtain ⟨t131, A220, H⟩ := H
                  replace H : (if t131 = t128 then (if t128 = 0 then (foundrylaw02_IntsExact.j2 kj13 a0 a1 false) else (if t129 < 0 then (if x7_7 = true then (foundrylaw02_IntsExact.j2 kj13 a0 a1 false) else (foundrylaw02_IntsExact.j2 kj13 a0 a1 true)) else (if x7_7 = true then (foundrylaw02_IntsExact.j2 kj13 a0 a1 true) else (foundrylaw02_IntsExact.j2 kj13 a0 a1 false)))) else (foundrylaw02_IntsExact.j2 kj13 a0 a1 true)) = some r := H
                  have A22 := Aside0.mk A220
                  clear A220
                  by_cases c23 : t131 = t128
                  · rw [if_pos c23] at H
                    have c23b0 : (t131 == t128) = true := beq_iff_eq.mpr c23
                    have c23b1 : (t131 != t128) = false := bne_eq_false_iff_eq.mpr c23
                    clear c23
                    by_cases c24 : t128 = 0
                    · rw [if_pos c24] at H
                      have c24b0 : (t128 == 0) = true := beq_iff_eq.mpr c24
                      have c24b1 : (t128 != 0) = false := bne_eq_false_iff_eq.mpr c24
                      clear c24
                      as_aux_lemma =>
                        have H' := Aside0.mk H
                        clear H
                        go_wp2_with (first | (go_at_call 20; (with_reducible refine (foundrylaw02_amount.calls t129 t131 _ A22.out).mono ?_); rintro e w' ⟨rfl, ⟨nd, rfl⟩⟩))
                        go_meet
                        case rel => exact ⟨_, (false), (by first | rfl | (simp; done) | (simp [*]; done)), H', ⟨by have := HJ7.out; have := HJ13.out; first | omega | exact Nat.le_refl _⟩, ⟨by repeat (first | (with_reducible first | exact HB.out | apply below_alloc | apply pw_below_drewN | apply below_drew1) | exact HB.out)⟩⟩
                    · rw [if_neg c24] at H
                      have c24b0 : (t128 == 0) = false := beq_eq_false_iff_ne.mpr c24
                      have c24b1 : (t128 != 0) = true := bne_iff_ne.mpr c24
                      by_cases c25 : t129 < 0
                      · rw [if_pos c25] at H
                        have c25b0 : decide (t129 < 0) = true := decide_eq_true c25
                        clear c25
                        by_cases c26 : x7_7 = true
                        · subst c26
                          have H1 : (foundrylaw02_IntsExact.j2 kj13 a0 a1 false) = some r := by rw [if_pos rfl] at H; exact H
                          clear H
                          have H := H1
                          clear H1
                          as_aux_lemma =>
                            have H' := Aside0.mk H
                            clear H
                            go_wp2_with (first | (go_at_call 20; (with_reducible refine (foundrylaw02_amount.calls t129 t131 _ A22.out).mono ?_); rintro e w' ⟨rfl, ⟨nd, rfl⟩⟩))
                            go_meet
                            case rel => exact ⟨_, (false), (by first | rfl | (simp; done) | (simp [*]; done)), H', ⟨by have := HJ7.out; have := HJ13.out; first | omega | exact Nat.le_refl _⟩, ⟨by repeat (first | (with_reducible first | exact HB.out | apply below_alloc | apply pw_below_drewN | apply below_drew1) | exact HB.out)⟩⟩
                        · replace c26 := Bool.eq_false_iff.mpr c26
                          subst c26
                          have H1 : (foundrylaw02_IntsExact.j2 kj13 a0 a1 true) = some r := by rw [if_neg (show ¬ (false = true) by decide)] at H; exact H
                          clear H
                          have H := H1
                          clear H1
                          as_aux_lemma =>
                            have H' := Aside0.mk H
                            clear H
                            go_wp2_with (first | (go_at_call 20; (with_reducible refine (foundrylaw02_amount.calls t129 t131 _ A22.out).mono ?_); rintro e w' ⟨rfl, ⟨nd, rfl⟩⟩))
                            go_meet
                            case rel => exact ⟨_, (true), (by first | rfl | (simp; done) | (simp [*]; done)), H', ⟨by have := HJ7.out; have := HJ13.out; first | omega | exact Nat.le_refl _⟩, ⟨by repeat (first | (with_reducible first | exact HB.out | apply below_alloc | apply pw_below_drewN | apply below_drew1) | exact HB.out)⟩⟩
                      · rw [if_neg c25] at H
                        have c25b0 : decide (t129 < 0) = false := decide_eq_false c25
                        clear c25
                        by_cases c27 : x7_7 = true
                        · subst c27
                          have H1 : (foundrylaw02_IntsExact.j2 kj13 a0 a1 true) = some r := by rw [if_pos rfl] at H; exact H
                          clear H
                          have H := H1
                          clear H1
                          as_aux_lemma =>
                            have H' := Aside0.mk H
                            clear H
                            go_wp2_with (first | (go_at_call 20; (with_reducible refine (foundrylaw02_amount.calls t129 t131 _ A22.out).mono ?_); rintro e w' ⟨rfl, ⟨nd, rfl⟩⟩))
                            go_meet
                            case rel => exact ⟨_, (true), (by first | rfl | (simp; done) | (simp [*]; done)), H', ⟨by have := HJ7.out; have := HJ13.out; first | omega | exact Nat.le_refl _⟩, ⟨by repeat (first | (with_reducible first | exact HB.out | apply below_alloc | apply pw_below_drewN | apply below_drew1) | exact HB.out)⟩⟩
                        · replace c27 := Bool.eq_false_iff.mpr c27
                          subst c27
                          have H1 : (foundrylaw02_IntsExact.j2 kj13 a0 a1 false) = some r := by rw [if_neg (show ¬ (false = true) by decide)] at H; exact H
                          clear H
                          have H := H1
                          clear H1
                          as_aux_lemma =>
                            have H' := Aside0.mk H
                            clear H
                            go_wp2_with (first | (go_at_call 20; (with_reducible refine (foundrylaw02_amount.calls t129 t131 _ A22.out).mono ?_); rintro e w' ⟨rfl, ⟨nd, rfl⟩⟩))
                            go_meet
                            case rel => exact ⟨_, (false), (by first | rfl | (simp; done) | (simp [*]; done)), H', ⟨by have := HJ7.out; have := HJ13.out; first | omega | exact Nat.le_refl _⟩, ⟨by repeat (first | (with_reducible first | exact HB.out | apply below_alloc | apply pw_below_drewN | apply below_drew1) | exact HB.out)⟩⟩
                  · rw [if_neg c23] at H
                    have c23b0 : (t131 == t128) = false := beq_eq_false_iff_ne.mpr c23
                    have c23b1 : (t131 != t128) = true := bne_iff_ne.mpr c23
                    as_aux_lemma =>
                      have H' := Aside0.mk H
                      clear H
                      go_wp2_with (first | (go_at_call 20; (with_reducible refine (foundrylaw02_amount.calls t129 t131 _ A22.out).mono ?_); rintro e w' ⟨rfl, ⟨nd, rfl⟩⟩))
                      go_meet
                      case rel => exact ⟨_, (true), (by first | rfl | (simp; done) | (simp [*]; done)), H', ⟨by have := HJ7.out; have := HJ13.out; first | omega | exact Nat.le_refl _⟩, ⟨by repeat (first | (with_reducible first | exact HB.out | apply below_alloc | apply pw_below_drewN | apply below_drew1) | exact HB.out)⟩⟩
                · rw [if_neg c21] at H
                  have c21b0 : (t130 == 0) = false := beq_eq_false_iff_ne.mpr c21
                  have c21b1 : (t130 != 0) = true := bne_iff_ne.mpr c21
                  (first | rw [c21b0] | (simp only [i64_w, i32_w]; rw [c21b0]) | skip)
                  as_aux_lemma =>
                    have H' := Aside0.mk H
                    clear H
                    go_wp2
                    go_meet
                    case rel => exact ⟨_, (true), (by first | rfl | (simp; done) | (simp [*]; done)), H', ⟨by have := HJ7.out; have := HJ13.out; first | omega | exact Nat.le_refl _⟩, ⟨by repeat (first | (with_reducible first | exact HB.out | apply below_alloc | apply pw_below_drewN | apply below_drew1) | exact HB.out)⟩⟩
              · replace c20 := Bool.eq_false_iff.mpr c20
                subst c20
                have H1 : (if t130 = 0 then (foundrylaw02_IntsExact.j2 kj13 a0 a1 true) else (foundrylaw02_IntsExact.j2 kj13 a0 a1 (t129 != 0))) = some r := by rw [if_neg (show ¬ (false = true) by decide)] at H; exact H
                clear H
                have H := H1
                clear H1
                by_cases c28 : t130 = 0
                · rw [if_pos c28] at H
                  have c28b0 : (t130 == 0) = true := beq_iff_eq.mpr c28
                  have c28b1 : (t130 != 0) = false := bne_eq_false_iff_eq.mpr c28
                  clear c28
                  as_aux_lemma =>
                    have H' := Aside0.mk H
                    clear H
                    go_wp2
                    go_meet
                    case rel => exact ⟨_, (true), (by first | rfl | (simp; done) | (simp [*]; done)), H', ⟨by have := HJ7.out; have := HJ13.out; first | omega | exact Nat.le_refl _⟩, ⟨by repeat (first | (with_reducible first | exact HB.out | apply below_alloc | apply pw_below_drewN | apply below_drew1) | exact HB.out)⟩⟩
                · rw [if_neg c28] at H
                  have c28b0 : (t130 == 0) = false := beq_eq_false_iff_ne.mpr c28
                  have c28b1 : (t130 != 0) = true := bne_iff_ne.mpr c28
                  as_aux_lemma =>
                    have H' := Aside0.mk H
                    clear H
                    go_wp2
                    go_meet
                    case rel => exact ⟨_, ((t129 != 0)), (by first | rfl | (simp; done) | (simp [*]; done)), H', ⟨by have := HJ7.out; have := HJ13.out; first | omega | exact Nat.le_refl _⟩, ⟨by repeat (first | (with_reducible first | exact HB.out | apply below_alloc | apply pw_below_drewN | apply below_drew1) | exact HB.out)⟩⟩
            case rest =>
              clear HC19
              try clear c1
              try clear c2
              try clear p2
              try clear c4
              try clear c10
              try clear c10b0
              try clear c11
              try clear c11b0
              try clear c12
              try clear c12b0
              try clear c16
              try clear c16b0
              try clear c16b1
              try clear c17
              try clear c17b0
              try clear c18
              try clear c19
              try clear c20
              try clear c21
              try clear c21b0
              try clear c21b1
              try clear c23
              try clear c23b0
              try clear c23b1
              try clear c24
              try clear c24b0
              try clear c24b1
              try clear c25
              try clear c25b0
              try clear c26
              try clear c27
              try clear c28
              try clear c28b0
              try clear c28b1
              try clear p2
              obtain ⟨kq, x82_18, rfl, HA, HJ18, HB⟩ := hcut
              cases kq with
              | zero => exact absurd HA.out (by simp [foundrylaw02_IntsExact.j2])
              | succ kj18 =>
                have H := HA.out
                clear HA
                simp only [foundrylaw02_IntsExact.j2] at H
                by_cases c29 : x82_18 = true
                · subst c29
                  have H1 : (some false) = some r := by rw [if_pos rfl] at H; exact H
                  clear H
                  have H := H1
                  clear H1
                  as_aux_lemma =>
                    obtain rfl := Option.some.inj H
                    go_wp2
                    go_ret
                    exact ⟨by first | rfl | (simp [errW_none, errW_some] <;> rfl) | (simp [*, errW_none, errW_some] <;> rfl), by repeat (first | (with_reducible first | exact HB.out | apply below_alloc | apply pw_below_drewN | apply below_drew1) | exact HB.out)⟩
                · replace c29 := Bool.eq_false_iff.mpr c29
                  subst c29
                  have H1 : ((ints_Add.f a0 a1).bind fun bt132 => (if a0 < 0 then (if a1 < 0 then (if (wrap64 (a0 + a1)) < 0 then (foundrylaw02_IntsExact.j3 kj18 a0 a1 bt132.1 bt132.2 false) else (foundrylaw02_IntsExact.j3 kj18 a0 a1 bt132.1 bt132.2 true)) else (foundrylaw02_IntsExact.j3 kj18 a0 a1 bt132.1 bt132.2 false)) else (if a1 < 0 then (foundrylaw02_IntsExact.j3 kj18 a0 a1 bt132.1 bt132.2 false) else (if (wrap64 (a0 + a1)) < 0 then (foundrylaw02_IntsExact.j3 kj18 a0 a1 bt132.1 bt132.2 true) else (foundrylaw02_IntsExact.j3 kj18 a0 a1 bt132.1 bt132.2 false))))) = some r := by rw [if_neg (show ¬ (false = true) by decide)] at H; exact H
                  clear H
                  have H := H1
                  clear H1
                  replace H := Option.bind_eq_some_iff.mp H
                  obtain ⟨⟨t132, t133⟩, A300, H⟩ := H
                  replace H : (if a0 < 0 then (if a1 < 0 then (if (wrap64 (a0 + a1)) < 0 then (foundrylaw02_IntsExact.j3 kj18 a0 a1 t132 t133 false) else (foundrylaw02_IntsExact.j3 kj18 a0 a1 t132 t133 true)) else (foundrylaw02_IntsExact.j3 kj18 a0 a1 t132 t133 false)) else (if a1 < 0 then (foundrylaw02_IntsExact.j3 kj18 a0 a1 t132 t133 false) else (if (wrap64 (a0 + a1)) < 0 then (foundrylaw02_IntsExact.j3 kj18 a0 a1 t132 t133 true) else (foundrylaw02_IntsExact.j3 kj18 a0 a1 t132 t133 false)))) = some r := H
                  have A30 := Aside0.mk A300
                  clear A300
                  have HC31 := Aside0.mk H
                  clear H
                  go_upto_region 10 with (first | ((with_reducible refine gate_callee (f := 22) rfl ?_); refine goesL_ (some 86) rfl rfl Tryd.func22 (by kernel_rfl) rfl #[.int .i64 a0, .int .i64 a1] rfl (by (try simp only [List.map_toArray, List.map_cons, List.map_nil]); first | done | rfl | (simp only [List.length_drop, List.length_take]; rfl)) ?_; (with_reducible refine (ints_Add.calls a0 a1 t132 t133 _ A30.out).mono ?_); rintro e w' ⟨rfl, ⟨nd, rfl⟩⟩; refine ⟨_, rfl, ?_⟩))
                  (try simp only [Act.put, List.setIfInBounds_toArray, List.set_cons_zero, List.set_cons_succ])
                  go_cut [13] (fun v13 wc => ∃ (kq : Nat) (x13_30 : Bool), v13 = .bool x13_30 ∧ Aside0 (foundrylaw02_IntsExact.j3 kq a0 a1 t132 t133 x13_30 = some r) ∧ Aside0 (kq ≤ kj18) ∧ Aside0 (Below w.heap.size w wc))
                  case first =>
                    have H := HC31.out
                    clear HC31
                    by_cases c32 : a0 < 0
                    · rw [if_pos c32] at H
                      have c32b0 : decide (a0 < 0) = true := decide_eq_true c32
                      clear c32
                      (first | rw [c32b0] | (simp only [i64_w, i32_w]; rw [c32b0]) | skip)
                      by_cases c33 : a1 < 0
                      · rw [if_pos c33] at H
                        have c33b0 : decide (a1 < 0) = true := decide_eq_true c33
                        clear c33
                        by_cases c34 : (wrap64 (a0 + a1)) < 0
                        · rw [if_pos c34] at H
                          have c34b0 : decide ((wrap64 (a0 + a1)) < 0) = true := decide_eq_true c34
                          clear c34
                          as_aux_lemma =>
                            have H' := Aside0.mk H
                            clear H
                            go_wp2
                            go_meet
                            case rel => exact ⟨_, (false), (by first | rfl | (simp; done) | (simp [*]; done)), H', ⟨by have := HJ7.out; have := HJ13.out; have := HJ18.out; first | omega | exact Nat.le_refl _⟩, ⟨by repeat (first | (with_reducible first | exact HB.out | apply below_alloc | apply pw_below_drewN | apply below_drew1) | exact HB.out)⟩⟩
                        · rw [if_neg c34] at H
                          have c34b0 : decide ((wrap64 (a0 + a1)) < 0) = false := decide_eq_false c34
                          clear c34
                          as_aux_lemma =>
                            have H' := Aside0.mk H
                            clear H
                            go_wp2
                            go_meet
                            case rel => exact ⟨_, (true), (by first | rfl | (simp; done) | (simp [*]; done)), H', ⟨by have := HJ7.out; have := HJ13.out; have := HJ18.out; first | omega | exact Nat.le_refl _⟩, ⟨by repeat (first | (with_reducible first | exact HB.out | apply below_alloc | apply pw_below_drewN | apply below_drew1) | exact HB.out)⟩⟩
                      · rw [if_neg c33] at H
                        have c33b0 : decide (a1 < 0) = false := decide_eq_false c33
                        clear c33
                        as_aux_lemma =>
                          have H' := Aside0.mk H
                          clear H
                          go_wp2
                          go_meet
                          case rel => exact ⟨_, (false), (by first | rfl | (simp; done) | (simp [*]; done)), H', ⟨by have := HJ7.out; have := HJ13.out; have := HJ18.out; first | omega | exact Nat.le_refl _⟩, ⟨by repeat (first | (with_reducible first | exact HB.out | apply below_alloc | apply pw_below_drewN | apply below_drew1) | exact HB.out)⟩⟩
                    · rw [if_neg c32] at H
                      have c32b0 : decide (a0 < 0) = false := decide_eq_false c32
                      clear c32
                      (first | rw [c32b0] | (simp only [i64_w, i32_w]; rw [c32b0]) | skip)
                      by_cases c35 : a1 < 0
                      · rw [if_pos c35] at H
                        have c35b0 : decide (a1 < 0) = true := decide_eq_true c35
                        clear c35
                        as_aux_lemma =>
                          have H' := Aside0.mk H
                          clear H
                          go_wp2
                          go_meet
                          case rel => exact ⟨_, (false), (by first | rfl | (simp; done) | (simp [*]; done)), H', ⟨by have := HJ7.out; have := HJ13.out; have := HJ18.out; first | omega | exact Nat.le_refl _⟩, ⟨by repeat (first | (with_reducible first | exact HB.out | apply below_alloc | apply pw_below_drewN | apply below_drew1) | exact HB.out)⟩⟩
                      · rw [if_neg c35] at H
                        have c35b0 : decide (a1 < 0) = false := decide_eq_false c35
                        clear c35
                        by_cases c36 : (wrap64 (a0 + a1)) < 0
                        · rw [if_pos c36] at H
                          have c36b0 : decide ((wrap64 (a0 + a1)) < 0) = true := decide_eq_true c36
                          clear c36
                          as_aux_lemma =>
                            have H' := Aside0.mk H
                            clear H
                            go_wp2
                            go_meet
                            case rel => exact ⟨_, (true), (by first | rfl | (simp; done) | (simp [*]; done)), H', ⟨by have := HJ7.out; have := HJ13.out; have := HJ18.out; first | omega | exact Nat.le_refl _⟩, ⟨by repeat (first | (with_reducible first | exact HB.out | apply below_alloc | apply pw_below_drewN | apply below_drew1) | exact HB.out)⟩⟩
                        · rw [if_neg c36] at H
                          have c36b0 : decide ((wrap64 (a0 + a1)) < 0) = false := decide_eq_false c36
                          clear c36
                          as_aux_lemma =>
                            have H' := Aside0.mk H
                            clear H
                            go_wp2
                            go_meet
                            case rel => exact ⟨_, (false), (by first | rfl | (simp; done) | (simp [*]; done)), H', ⟨by have := HJ7.out; have := HJ13.out; have := HJ18.out; first | omega | exact Nat.le_refl _⟩, ⟨by repeat (first | (with_reducible first | exact HB.out | apply below_alloc | apply pw_below_drewN | apply below_drew1) | exact HB.out)⟩⟩
                  case rest =>
                    clear HC31
                    try clear c1
                    try clear c2
                    try clear p2
                    try clear c3
                    try clear c4
                    try clear p6
                    try clear c10
                    try clear c10b0
                    try clear c11
                    try clear c11b0
                    try clear c12
                    try clear c12b0
                    try clear c16
                    try clear c16b0
                    try clear c16b1
                    try clear c17
                    try clear c17b0
                    try clear c18
                    try clear c19
                    try clear c20
                    try clear c21
                    try clear c21b0
                    try clear c21b1
                    try clear c22
                    try clear c23
                    try clear c23b0
                    try clear c23b1
                    try clear c24
                    try clear c24b0
                    try clear c24b1
                    try clear c25
                    try clear c25b0
                    try clear c26
                    try clear c27
                    try clear c28
                    try clear c28b0
                    try clear c28b1
                    try clear c29
                    try clear c32
                    try clear c32b0
                    try clear c33
                    try clear c33b0
                    try clear c34
                    try clear c34b0
                    try clear c35
                    try clear c35b0
                    try clear c36
                    try clear c36b0
                    try clear p2
                    obtain ⟨kq, x13_30, rfl, HA, HJ30, HB⟩ := hcut
                    cases kq with
                    | zero => exact absurd HA.out (by simp [foundrylaw02_IntsExact.j3])
                    | succ kj30 =>
                      have H := HA.out
                      clear HA
                      simp only [foundrylaw02_IntsExact.j3] at H
                      replace H := Option.bind_eq_some_iff.mp H
                      obtain ⟨⟨t134, t135⟩, A370, H⟩ := H
                      replace H : (if t133 = 0 then (if x13_30 = true then (foundrylaw02_IntsExact.j4 kj30 a0 true) else (if t132 = (wrap64 (a0 + a1)) then (if t134 = a0 then (foundrylaw02_IntsExact.j4 kj30 a0 (t135 != 0)) else (foundrylaw02_IntsExact.j4 kj30 a0 true)) else (foundrylaw02_IntsExact.j4 kj30 a0 true))) else (if x13_30 = true then (if t132 = 0 then (foundrylaw02_IntsExact.j4 kj30 a0 false) else (foundrylaw02_IntsExact.j4 kj30 a0 true)) else (foundrylaw02_IntsExact.j4 kj30 a0 true))) = some r := H
                      have A37 := Aside0.mk A370
                      clear A370
                      have HC38 := Aside0.mk H
                      clear H
                      go_upto_region 12 with (first | ((with_reducible refine gate_callee (f := 23) rfl ?_); refine goesL_ (some 106) rfl rfl Tryd.func23 (by kernel_rfl) rfl #[.int .i64 t132, .int .i64 a1] rfl (by (try simp only [List.map_toArray, List.map_cons, List.map_nil]); first | done | rfl | (simp only [List.length_drop, List.length_take]; rfl)) ?_; (with_reducible refine (ints_Sub.calls t132 a1 t134 t135 _ A37.out).mono ?_); rintro e w' ⟨rfl, ⟨nd, rfl⟩⟩; refine ⟨_, rfl, ?_⟩))
                      (try simp only [Act.put, List.setIfInBounds_toArray, List.set_cons_zero, List.set_cons_succ])
                      go_cut [139] (fun v139 wc => ∃ (kq : Nat) (x139_37 : Bool), v139 = .bool x139_37 ∧ Aside0 (foundrylaw02_IntsExact.j4 kq a0 x139_37 = some r) ∧ Aside0 (kq ≤ kj30) ∧ Aside0 (Below w.heap.size w wc))
                      case first =>
                        have H := HC38.out
                        clear HC38
                        by_cases c39 : t133 = 0
                        · rw [if_pos c39] at H
                          have c39b0 : (t133 == 0) = true := beq_iff_eq.mpr c39
                          have c39b1 : (t133 != 0) = false := bne_eq_false_iff_eq.mpr c39
                          clear c39
                          (first | rw [c39b0] | (simp only [i64_w, i32_w]; rw [c39b0]) | skip)
                          by_cases c40 : x13_30 = true
                          · subst c40
                            have H1 : (foundrylaw02_IntsExact.j4 kj30 a0 true) = some r := by rw [if_pos rfl] at H; exact H
                            clear H
                            have H := H1
                            clear H1
                            as_aux_lemma =>
                              have H' := Aside0.mk H
                              clear H
                              go_wp2
                              go_meet
                              case rel => exact ⟨_, (true), (by first | rfl | (simp; done) | (simp [*]; done)), H', ⟨by have := HJ7.out; have := HJ13.out; have := HJ18.out; have := HJ30.out; first | omega | exact Nat.le_refl _⟩, ⟨by repeat (first | (with_reducible first | exact HB.out | apply below_alloc | apply pw_below_drewN | apply below_drew1) | exact HB.out)⟩⟩
                          · replace c40 := Bool.eq_false_iff.mpr c40
                            subst c40
                            have H1 : (if t132 = (wrap64 (a0 + a1)) then (if t134 = a0 then (foundrylaw02_IntsExact.j4 kj30 a0 (t135 != 0)) else (foundrylaw02_IntsExact.j4 kj30 a0 true)) else (foundrylaw02_IntsExact.j4 kj30 a0 true)) = some r := by rw [if_neg (show ¬ (false = true) by decide)] at H; exact H
                            clear H
                            have H := H1
                            clear H1
                            by_cases c41 : t132 = (wrap64 (a0 + a1))
                            · rw [if_pos c41] at H
                              have c41b0 : (t132 == (wrap64 (a0 + a1))) = true := beq_iff_eq.mpr c41
                              have c41b1 : (t132 != (wrap64 (a0 + a1))) = false := bne_eq_false_iff_eq.mpr c41
                              clear c41
                              by_cases c42 : t134 = a0
                              · rw [if_pos c42] at H
                                have c42b0 : (t134 == a0) = true := beq_iff_eq.mpr c42
                                have c42b1 : (t134 != a0) = false := bne_eq_false_iff_eq.mpr c42
                                clear c42
                                as_aux_lemma =>
                                  have H' := Aside0.mk H
                                  clear H
                                  go_wp2
                                  go_meet
                                  case rel => exact ⟨_, ((t135 != 0)), (by first | rfl | (simp; done) | (simp [*]; done)), H', ⟨by have := HJ7.out; have := HJ13.out; have := HJ18.out; have := HJ30.out; first | omega | exact Nat.le_refl _⟩, ⟨by repeat (first | (with_reducible first | exact HB.out | apply below_alloc | apply pw_below_drewN | apply below_drew1) | exact HB.out)⟩⟩
                              · rw [if_neg c42] at H
                                have c42b0 : (t134 == a0) = false := beq_eq_false_iff_ne.mpr c42
                                have c42b1 : (t134 != a0) = true := bne_iff_ne.mpr c42
                                as_aux_lemma =>
                                  have H' := Aside0.mk H
                                  clear H
                                  go_wp2
                                  go_meet
                                  case rel => exact ⟨_, (true), (by first | rfl | (simp; done) | (simp [*]; done)), H', ⟨by have := HJ7.out; have := HJ13.out; have := HJ18.out; have := HJ30.out; first | omega | exact Nat.le_refl _⟩, ⟨by repeat (first | (with_reducible first | exact HB.out | apply below_alloc | apply pw_below_drewN | apply below_drew1) | exact HB.out)⟩⟩
                            · rw [if_neg c41] at H
                              have c41b0 : (t132 == (wrap64 (a0 + a1))) = false := beq_eq_false_iff_ne.mpr c41
                              have c41b1 : (t132 != (wrap64 (a0 + a1))) = true := bne_iff_ne.mpr c41
                              as_aux_lemma =>
                                have H' := Aside0.mk H
                                clear H
                                go_wp2
                                go_meet
                                case rel => exact ⟨_, (true), (by first | rfl | (simp; done) | (simp [*]; done)), H', ⟨by have := HJ7.out; have := HJ13.out; have := HJ18.out; have := HJ30.out; first | omega | exact Nat.le_refl _⟩, ⟨by repeat (first | (with_reducible first | exact HB.out | apply below_alloc | apply pw_below_drewN | apply below_drew1) | exact HB.out)⟩⟩
                        · rw [if_neg c39] at H
                          have c39b0 : (t133 == 0) = false := beq_eq_false_iff_ne.mpr c39
                          have c39b1 : (t133 != 0) = true := bne_iff_ne.mpr c39
                          (first | rw [c39b0] | (simp only [i64_w, i32_w]; rw [c39b0]) | skip)
                          by_cases c43 : x13_30 = true
                          · subst c43
                            have H1 : (if t132 = 0 then (foundrylaw02_IntsExact.j4 kj30 a0 false) else (foundrylaw02_IntsExact.j4 kj30 a0 true)) = some r := by rw [if_pos rfl] at H; exact H
                            clear H
                            have H := H1
                            clear H1
                            by_cases c44 : t132 = 0
                            · rw [if_pos c44] at H
                              have c44b0 : (t132 == 0) = true := beq_iff_eq.mpr c44
                              have c44b1 : (t132 != 0) = false := bne_eq_false_iff_eq.mpr c44
                              clear c44
                              as_aux_lemma =>
                                have H' := Aside0.mk H
                                clear H
                                go_wp2
                                go_meet
                                case rel => exact ⟨_, (false), (by first | rfl | (simp; done) | (simp [*]; done)), H', ⟨by have := HJ7.out; have := HJ13.out; have := HJ18.out; have := HJ30.out; first | omega | exact Nat.le_refl _⟩, ⟨by repeat (first | (with_reducible first | exact HB.out | apply below_alloc | apply pw_below_drewN | apply below_drew1) | exact HB.out)⟩⟩
                            · rw [if_neg c44] at H
                              have c44b0 : (t132 == 0) = false := beq_eq_false_iff_ne.mpr c44
                              have c44b1 : (t132 != 0) = true := bne_iff_ne.mpr c44
                              as_aux_lemma =>
                                have H' := Aside0.mk H
                                clear H
                                go_wp2
                                go_meet
                                case rel => exact ⟨_, (true), (by first | rfl | (simp; done) | (simp [*]; done)), H', ⟨by have := HJ7.out; have := HJ13.out; have := HJ18.out; have := HJ30.out; first | omega | exact Nat.le_refl _⟩, ⟨by repeat (first | (with_reducible first | exact HB.out | apply below_alloc | apply pw_below_drewN | apply below_drew1) | exact HB.out)⟩⟩
                          · replace c43 := Bool.eq_false_iff.mpr c43
                            subst c43
                            have H1 : (foundrylaw02_IntsExact.j4 kj30 a0 true) = some r := by rw [if_neg (show ¬ (false = true) by decide)] at H; exact H
                            clear H
                            have H := H1
                            clear H1
                            as_aux_lemma =>
                              have H' := Aside0.mk H
                              clear H
                              go_wp2
                              go_meet
                              case rel => exact ⟨_, (true), (by first | rfl | (simp; done) | (simp [*]; done)), H', ⟨by have := HJ7.out; have := HJ13.out; have := HJ18.out; have := HJ30.out; first | omega | exact Nat.le_refl _⟩, ⟨by repeat (first | (with_reducible first | exact HB.out | apply below_alloc | apply pw_below_drewN | apply below_drew1) | exact HB.out)⟩⟩
                      case rest =>
                        clear HC38
                        try clear c1
                        try clear c2
                        try clear p2
                        try clear c3
                        try clear c4
                        try clear p6
                        try clear c10
                        try clear c10b0
                        try clear c11
                        try clear c11b0
                        try clear c12
                        try clear c12b0
                        try clear c16
                        try clear c16b0
                        try clear c16b1
                        try clear c17
                        try clear c17b0
                        try clear c18
                        try clear c19
                        try clear c20
                        try clear c21
                        try clear c21b0
                        try clear c21b1
                        try clear c22
                        try clear c23
                        try clear c23b0
                        try clear c23b1
                        try clear c24
                        try clear c24b0
                        try clear c24b1
                        try clear c25
                        try clear c25b0
                        try clear c26
                        try clear c27
                        try clear c28
                        try clear c28b0
                        try clear c28b1
                        try clear c29
                        try clear c32
                        try clear c32b0
                        try clear c33
                        try clear c33b0
                        try clear c34
                        try clear c34b0
                        try clear c35
                        try clear c35b0
                        try clear c36
                        try clear c36b0
                        try clear c39
                        try clear c39b0
                        try clear c39b1
                        try clear c40
                        try clear c41
                        try clear c41b0
                        try clear c41b1
                        try clear c42
                        try clear c42b0
                        try clear c42b1
                        try clear c43
                        try clear c44
                        try clear c44b0
                        try clear c44b1
                        try clear p2
                        try clear p6
                        obtain ⟨kq, x139_37, rfl, HA, HJ37, HB⟩ := hcut
                        cases kq with
                        | zero => exact absurd HA.out (by simp [foundrylaw02_IntsExact.j4])
                        | succ kj37 =>
                          have H := HA.out
                          clear HA
                          simp only [foundrylaw02_IntsExact.j4] at H
                          by_cases c45 : x139_37 = true
                          · subst c45
                            have H1 : (some false) = some r := by rw [if_pos rfl] at H; exact H
                            clear H
                            have H := H1
                            clear H1
                            as_aux_lemma =>
                              obtain rfl := Option.some.inj H
                              go_wp2
                              go_ret
                              exact ⟨by first | rfl | (simp [errW_none, errW_some] <;> rfl) | (simp [*, errW_none, errW_some] <;> rfl), by repeat (first | (with_reducible first | exact HB.out | apply below_alloc | apply pw_below_drewN | apply below_drew1) | exact HB.out)⟩
                          · replace c45 := Bool.eq_false_iff.mpr c45
                            subst c45
                            have H1 : ((ints_Neg.f a0).bind fun bt136 => (if bt136.2 = 0 then (if a0 = (-9223372036854775808) then (some false) else ((foundrylaw02_amount.f bt136.1).bind fun t138 => ((foundrylaw02_amount.f a0).bind fun t139 => (if t138 = t139 then (if bt136.1 < 0 then (if a0 > 0 then (some true) else (some false)) else (if a0 > 0 then (some false) else (some true))) else (some false))))) else (if a0 = (-9223372036854775808) then (some true) else (some false)))) = some r := by rw [if_neg (show ¬ (false = true) by decide)] at H; exact H
                            clear H
                            have H := H1
                            clear H1
                            replace H := Option.bind_eq_some_iff.mp H
                            obtain ⟨⟨t136, t137⟩, A460, H⟩ := H
                            replace H : (if t137 = 0 then (if a0 = (-9223372036854775808) then (some false) else ((foundrylaw02_amount.f t136).bind fun t138 => ((foundrylaw02_amount.f a0).bind fun t139 => (if t138 = t139 then (if t136 < 0 then (if a0 > 0 then (some true) else (some false)) else (if a0 > 0 then (some false) else (some true))) else (some false))))) else (if a0 = (-9223372036854775808) then (some true) else (some false))) = some r := H
                            have A46 := Aside0.mk A460
                            clear A460
                            by_cases c47 : t137 = 0
                            · rw [if_pos c47] at H
                              have c47b0 : (t137 == 0) = true := beq_iff_eq.mpr c47
                              have c47b1 : (t137 != 0) = false := bne_eq_false_iff_eq.mpr c47
                              clear c47
                              by_cases c48 : a0 = (-9223372036854775808)
                              · rw [if_pos c48] at H
                                have c48b0 : (a0 == (-9223372036854775808)) = true := beq_iff_eq.mpr c48
                                have c48b1 : (a0 != (-9223372036854775808)) = false := bne_eq_false_iff_eq.mpr c48
                                clear c48
                                as_aux_lemma =>
                                  obtain rfl := Option.some.inj H
                                  go_wp2_with (first | ((with_reducible refine gate_callee (f := 24) rfl ?_); refine goesL_ (some 142) rfl rfl Tryd.func24 (by kernel_rfl) rfl #[.int .i64 a0] rfl (by (try simp only [List.map_toArray, List.map_cons, List.map_nil]); first | done | rfl | (simp only [List.length_drop, List.length_take]; rfl)) ?_; (with_reducible refine (ints_Neg.calls a0 t136 t137 _ A46.out).mono ?_); rintro e w' ⟨rfl, ⟨nd, rfl⟩⟩; refine ⟨_, rfl, ?_⟩))
                                  go_ret
                                  exact ⟨by first | rfl | (simp [errW_none, errW_some] <;> rfl) | (simp [*, errW_none, errW_some] <;> rfl), by repeat (first | (with_reducible first | exact HB.out | apply below_alloc | apply pw_below_drewN | apply below_drew1) | exact HB.out)⟩
                              · rw [if_neg c48] at H
                                have c48b0 : (a0 == (-9223372036854775808)) = false := beq_eq_false_iff_ne.mpr c48
                                have c48b1 : (a0 != (-9223372036854775808)) = true := bne_iff_ne.mpr c48
                                replace H := Option.bind_eq_some_iff.mp H
                                obtain ⟨t138, A490, H⟩ := H
                                replace H : ((foundrylaw02_amount.f a0).bind fun t139 => (if t138 = t139 then (if t136 < 0 then (if a0 > 0 then (some true) else (some false)) else (if a0 > 0 then (some false) else (some true))) else (some false))) = some r := H
                                have A49 := Aside0.mk A490
                                clear A490
                                replace H := Option.bind_eq_some_iff.mp H
                                obtain ⟨t139, A500, H⟩ := H
                                replace H : (if t138 = t139 then (if t136 < 0 then (if a0 > 0 then (some true) else (some false)) else (if a0 > 0 then (some false) else (some true))) else (some false)) = some r := H
                                have A50 := Aside0.mk A500
                                clear A500
                                by_cases c51 : t138 = t139
                                · rw [if_pos c51] at H
                                  have c51b0 : (t138 == t139) = true := beq_iff_eq.mpr c51
                                  have c51b1 : (t138 != t139) = false := bne_eq_false_iff_eq.mpr c51
                                  clear c51
                                  by_cases c52 : t136 < 0
                                  · rw [if_pos c52] at H
                                    have c52b0 : decide (t136 < 0) = true := decide_eq_true c52
                                    clear c52
                                    by_cases c53 : a0 > 0
                                    · rw [if_pos c53] at H
                                      have c53b0 : decide (0 < a0) = true := decide_eq_true c53
                                      clear c53
                                      as_aux_lemma =>
                                        obtain rfl := Option.some.inj H
                                        go_wp2_with (first | ((with_reducible refine gate_callee (f := 24) rfl ?_); refine goesL_ (some 142) rfl rfl Tryd.func24 (by kernel_rfl) rfl #[.int .i64 a0] rfl (by (try simp only [List.map_toArray, List.map_cons, List.map_nil]); first | done | rfl | (simp only [List.length_drop, List.length_take]; rfl)) ?_; (with_reducible refine (ints_Neg.calls a0 t136 t137 _ A46.out).mono ?_); rintro e w' ⟨rfl, ⟨nd, rfl⟩⟩; refine ⟨_, rfl, ?_⟩) | (go_at_call 20; (with_reducible refine (foundrylaw02_amount.calls t136 t138 _ A49.out).mono ?_); rintro e w' ⟨rfl, ⟨nd, rfl⟩⟩) | (go_at_call 20; (with_reducible refine (foundrylaw02_amount.calls a0 t139 _ A50.out).mono ?_); rintro e w' ⟨rfl, ⟨nd, rfl⟩⟩))
                                        go_ret
                                        exact ⟨by first | rfl | (simp [errW_none, errW_some] <;> rfl) | (simp [*, errW_none, errW_some] <;> rfl), by repeat (first | (with_reducible first | exact HB.out | apply below_alloc | apply pw_below_drewN | apply below_drew1) | exact HB.out)⟩
                                    · rw [if_neg c53] at H
                                      have c53b0 : decide (0 < a0) = false := decide_eq_false c53
                                      clear c53
                                      as_aux_lemma =>
                                        obtain rfl := Option.some.inj H
                                        go_wp2_with (first | ((with_reducible refine gate_callee (f := 24) rfl ?_); refine goesL_ (some 142) rfl rfl Tryd.func24 (by kernel_rfl) rfl #[.int .i64 a0] rfl (by (try simp only [List.map_toArray, List.map_cons, List.map_nil]); first | done | rfl | (simp only [List.length_drop, List.length_take]; rfl)) ?_; (with_reducible refine (ints_Neg.calls a0 t136 t137 _ A46.out).mono ?_); rintro e w' ⟨rfl, ⟨nd, rfl⟩⟩; refine ⟨_, rfl, ?_⟩) | (go_at_call 20; (with_reducible refine (foundrylaw02_amount.calls t136 t138 _ A49.out).mono ?_); rintro e w' ⟨rfl, ⟨nd, rfl⟩⟩) | (go_at_call 20; (with_reducible refine (foundrylaw02_amount.calls a0 t139 _ A50.out).mono ?_); rintro e w' ⟨rfl, ⟨nd, rfl⟩⟩))
                                        go_ret
                                        exact ⟨by first | rfl | (simp [errW_none, errW_some] <;> rfl) | (simp [*, errW_none, errW_some] <;> rfl), by repeat (first | (with_reducible first | exact HB.out | apply below_alloc | apply pw_below_drewN | apply below_drew1) | exact HB.out)⟩
                                  · rw [if_neg c52] at H
                                    have c52b0 : decide (t136 < 0) = false := decide_eq_false c52
                                    clear c52
                                    by_cases c54 : a0 > 0
                                    · rw [if_pos c54] at H
                                      have c54b0 : decide (0 < a0) = true := decide_eq_true c54
                                      clear c54
                                      as_aux_lemma =>
                                        obtain rfl := Option.some.inj H
                                        go_wp2_with (first | ((with_reducible refine gate_callee (f := 24) rfl ?_); refine goesL_ (some 142) rfl rfl Tryd.func24 (by kernel_rfl) rfl #[.int .i64 a0] rfl (by (try simp only [List.map_toArray, List.map_cons, List.map_nil]); first | done | rfl | (simp only [List.length_drop, List.length_take]; rfl)) ?_; (with_reducible refine (ints_Neg.calls a0 t136 t137 _ A46.out).mono ?_); rintro e w' ⟨rfl, ⟨nd, rfl⟩⟩; refine ⟨_, rfl, ?_⟩) | (go_at_call 20; (with_reducible refine (foundrylaw02_amount.calls t136 t138 _ A49.out).mono ?_); rintro e w' ⟨rfl, ⟨nd, rfl⟩⟩) | (go_at_call 20; (with_reducible refine (foundrylaw02_amount.calls a0 t139 _ A50.out).mono ?_); rintro e w' ⟨rfl, ⟨nd, rfl⟩⟩))
                                        go_ret
                                        exact ⟨by first | rfl | (simp [errW_none, errW_some] <;> rfl) | (simp [*, errW_none, errW_some] <;> rfl), by repeat (first | (with_reducible first | exact HB.out | apply below_alloc | apply pw_below_drewN | apply below_drew1) | exact HB.out)⟩
                                    · rw [if_neg c54] at H
                                      have c54b0 : decide (0 < a0) = false := decide_eq_false c54
                                      clear c54
                                      as_aux_lemma =>
                                        obtain rfl := Option.some.inj H
                                        go_wp2_with (first | ((with_reducible refine gate_callee (f := 24) rfl ?_); refine goesL_ (some 142) rfl rfl Tryd.func24 (by kernel_rfl) rfl #[.int .i64 a0] rfl (by (try simp only [List.map_toArray, List.map_cons, List.map_nil]); first | done | rfl | (simp only [List.length_drop, List.length_take]; rfl)) ?_; (with_reducible refine (ints_Neg.calls a0 t136 t137 _ A46.out).mono ?_); rintro e w' ⟨rfl, ⟨nd, rfl⟩⟩; refine ⟨_, rfl, ?_⟩) | (go_at_call 20; (with_reducible refine (foundrylaw02_amount.calls t136 t138 _ A49.out).mono ?_); rintro e w' ⟨rfl, ⟨nd, rfl⟩⟩) | (go_at_call 20; (with_reducible refine (foundrylaw02_amount.calls a0 t139 _ A50.out).mono ?_); rintro e w' ⟨rfl, ⟨nd, rfl⟩⟩))
                                        go_ret
                                        exact ⟨by first | rfl | (simp [errW_none, errW_some] <;> rfl) | (simp [*, errW_none, errW_some] <;> rfl), by repeat (first | (with_reducible first | exact HB.out | apply below_alloc | apply pw_below_drewN | apply below_drew1) | exact HB.out)⟩
                                · rw [if_neg c51] at H
                                  have c51b0 : (t138 == t139) = false := beq_eq_false_iff_ne.mpr c51
                                  have c51b1 : (t138 != t139) = true := bne_iff_ne.mpr c51
                                  as_aux_lemma =>
                                    obtain rfl := Option.some.inj H
                                    go_wp2_with (first | ((with_reducible refine gate_callee (f := 24) rfl ?_); refine goesL_ (some 142) rfl rfl Tryd.func24 (by kernel_rfl) rfl #[.int .i64 a0] rfl (by (try simp only [List.map_toArray, List.map_cons, List.map_nil]); first | done | rfl | (simp only [List.length_drop, List.length_take]; rfl)) ?_; (with_reducible refine (ints_Neg.calls a0 t136 t137 _ A46.out).mono ?_); rintro e w' ⟨rfl, ⟨nd, rfl⟩⟩; refine ⟨_, rfl, ?_⟩) | (go_at_call 20; (with_reducible refine (foundrylaw02_amount.calls t136 t138 _ A49.out).mono ?_); rintro e w' ⟨rfl, ⟨nd, rfl⟩⟩) | (go_at_call 20; (with_reducible refine (foundrylaw02_amount.calls a0 t139 _ A50.out).mono ?_); rintro e w' ⟨rfl, ⟨nd, rfl⟩⟩))
                                    go_ret
                                    exact ⟨by first | rfl | (simp [errW_none, errW_some] <;> rfl) | (simp [*, errW_none, errW_some] <;> rfl), by repeat (first | (with_reducible first | exact HB.out | apply below_alloc | apply pw_below_drewN | apply below_drew1) | exact HB.out)⟩
                            · rw [if_neg c47] at H
                              have c47b0 : (t137 == 0) = false := beq_eq_false_iff_ne.mpr c47
                              have c47b1 : (t137 != 0) = true := bne_iff_ne.mpr c47
                              by_cases c55 : a0 = (-9223372036854775808)
                              · rw [if_pos c55] at H
                                have c55b0 : (a0 == (-9223372036854775808)) = true := beq_iff_eq.mpr c55
                                have c55b1 : (a0 != (-9223372036854775808)) = false := bne_eq_false_iff_eq.mpr c55
                                clear c55
                                as_aux_lemma =>
                                  obtain rfl := Option.some.inj H
                                  go_wp2_with (first | ((with_reducible refine gate_callee (f := 24) rfl ?_); refine goesL_ (some 142) rfl rfl Tryd.func24 (by kernel_rfl) rfl #[.int .i64 a0] rfl (by (try simp only [List.map_toArray, List.map_cons, List.map_nil]); first | done | rfl | (simp only [List.length_drop, List.length_take]; rfl)) ?_; (with_reducible refine (ints_Neg.calls a0 t136 t137 _ A46.out).mono ?_); rintro e w' ⟨rfl, ⟨nd, rfl⟩⟩; refine ⟨_, rfl, ?_⟩))
                                  go_ret
                                  exact ⟨by first | rfl | (simp [errW_none, errW_some] <;> rfl) | (simp [*, errW_none, errW_some] <;> rfl), by repeat (first | (with_reducible first | exact HB.out | apply below_alloc | apply pw_below_drewN | apply below_drew1) | exact HB.out)⟩
                              · rw [if_neg c55] at H
                                have c55b0 : (a0 == (-9223372036854775808)) = false := beq_eq_false_iff_ne.mpr c55
                                have c55b1 : (a0 != (-9223372036854775808)) = true := bne_iff_ne.mpr c55
                                as_aux_lemma =>
                                  obtain rfl := Option.some.inj H
                                  go_wp2_with (first | ((with_reducible refine gate_callee (f := 24) rfl ?_); refine goesL_ (some 142) rfl rfl Tryd.func24 (by kernel_rfl) rfl #[.int .i64 a0] rfl (by (try simp only [List.map_toArray, List.map_cons, List.map_nil]); first | done | rfl | (simp only [List.length_drop, List.length_take]; rfl)) ?_; (with_reducible refine (ints_Neg.calls a0 t136 t137 _ A46.out).mono ?_); rintro e w' ⟨rfl, ⟨nd, rfl⟩⟩; refine ⟨_, rfl, ?_⟩))
                                  go_ret
                                  exact ⟨by first | rfl | (simp [errW_none, errW_some] <;> rfl) | (simp [*, errW_none, errW_some] <;> rfl), by repeat (first | (with_reducible first | exact HB.out | apply below_alloc | apply pw_below_drewN | apply below_drew1) | exact HB.out)⟩
  · replace c4 := Bool.eq_false_iff.mpr c4
    subst c4
    have H1 : (some false) = some r := by rw [if_neg (show ¬ (false = true) by decide)] at H; exact H
    clear H
    have H := H1
    clear H1
    as_aux_lemma =>
      obtain rfl := Option.some.inj H
      go_enter Tryd.func4, Tryd.ntmps4
      go_wp2_with (first | ((with_reducible refine gate_callee (f := 18) rfl ?_); refine goesL_ (some 18) rfl rfl Tryd.func18 (by kernel_rfl) rfl #[] rfl (by (try simp only [List.map_toArray, List.map_cons, List.map_nil]); first | done | rfl | (simp only [List.length_drop, List.length_take]; rfl)) ?_; (with_reducible refine (foundrylaw02_live.calls k  false _ ?side1 A3.out).mono ?_); (case side1 => exact LaidOk.below (by repeat (first | (with_reducible first | exact HB.out | apply below_alloc | apply pw_below_drewN | apply below_drew1) | exact HB.out)) HLAID.out); rintro e w56 ⟨rfl, hb⟩; refine ⟨_, rfl, ?_⟩; have n0_ := Aside0.mk (below_step (by repeat (first | (with_reducible first | exact HB.out | apply below_alloc | apply pw_below_drewN | apply below_drew1) | exact HB.out)) hb); clear HB; have HB := n0_; clear n0_; (try clear hb); (try clear hb2); (try clear hk); (try clear hi)))
      go_ret
      exact ⟨by first | rfl | (simp [errW_none, errW_some] <;> rfl) | (simp [*, errW_none, errW_some] <;> rfl), by repeat (first | (with_reducible first | exact HB.out | apply below_alloc | apply pw_below_drewN | apply below_drew1) | exact HB.out)⟩

/-- THE ONE PURE STATEMENT of foundrylaw02_IntsExact: yours. -/
def foundrylaw02_IntsExact.Pure : Prop := ∀ (a0 : Int) (a1 : Int), (Lit.int .i64 a0).wf = true → (Lit.int .i64 a1).wf = true → ∃ k, foundrylaw02_IntsExact.f k a0 a1 = some true
theorem foundrylaw02_IntsExact.walk (P : foundrylaw02_IntsExact.Pure) (a0 : Int) (a1 : Int) (w : World) (hLaid : LaidOk w) (w0 : (Lit.int .i64 a0).wf = true) (w1 : (Lit.int .i64 a1).wf = true) :
    Calls Tryd.prog 4 #[.int .i64 a0, .int .i64 a1] w fun e w' => e = .returned (.bool true) ∧ Below w.heap.size w w' := by
  obtain ⟨k, h⟩ := P a0 a1 w0 w1
  refine (foundrylaw02_IntsExact.calls k a0 a1 true w hLaid h).mono ?_
  rintro e w' ⟨rfl, hd⟩
  exact ⟨rfl, hd⟩

end Go.Proofs.YtjgccgjdonjlaaaDoor.QEx
