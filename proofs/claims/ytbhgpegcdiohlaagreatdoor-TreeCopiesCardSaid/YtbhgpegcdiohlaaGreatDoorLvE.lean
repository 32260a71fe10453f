import Derived.Test.YtbhgpegcdiohlaaGreatDoorLvD
namespace Go.Proofs.YtbhgpegcdiohlaaGreatDoor.Tr
open Go Go.RowKit Go.Proofs
set_option linter.unusedVariables false
set_option maxRecDepth 100000
set_option maxHeartbeats 1000000
def ExprNo (n : Int) (x : Ex) : Prop := ∀ (w : World) (v : Value), x.Is w v → Calls Tryz.prog 42 #[v] w (Fails n w)
theorem expr_big : ExprNo 1 (litE 9223372036854775808) := by
  intro w v hv
  unfold litE Ex.Is at hv
  obtain ⟨A, l, c, rfl, h1⟩ := hv
  obtain rfl : l = 0 := h1.1
  clear h1
  have HD : Hd (decide ((9223372036854775808 : Int) < 9223372036854775808) = false) := ⟨by decide⟩
  go_enter Tryz.func42, Tryz.ntmps42
  go_wp2_with (first
    | (go_at_call 36; (with_reducible refine ((ask_ok _ _).mono ?_)); (rintro e w1 ⟨rfl, rfl⟩))
    | (go_at_call 36; (with_reducible refine ((ask_no 1 (by decide) _).mono ?_)); (rintro e w1 ⟨rfl, rfl⟩))
    | (go_at_call 91; (with_reducible refine ((fields1 _).mono ?_)); (rintro e w1 ⟨rfl, rfl⟩))
    | (go_at_call 92; (with_reducible refine ((literal1 _ _).mono ?_)); (rw [HD.out]; rintro e w1 ⟨rfl, hb1⟩; have HB1 := Hd.mk hb1; have hc1 := bcell hb1; have hs1 := bsize1 rfl hb1; clear hb1)))
  exact ⟨rfl, rfl, step (up (up0 _) _) HB1.out⟩
theorem right1_no (x : Ex) (r : Int) (cs : Array Value) (b : Nat) (w : World) (hx : x.Is w (.agg cs)) (hc : ∀ i v, cs[i]? = some v → w.cell? ⟨b, i, none⟩ = some v) (hd : deepE x 1 0 ≤ 32) (he : ExprNo r x) :
    Calls Tryz.prog 40 #[.pointer (some ⟨b, 0, none⟩)] w (Fails r w) := by
  obtain ⟨v0, v1, v2, v3, v4, v5, v6, v7, v8, rfl, _⟩ := Ex.boxed hx 31
  have a0 := hc 0 _ rfl
  have a1 := hc 1 _ rfl
  have a2 := hc 2 _ rfl
  have a3 := hc 3 _ rfl
  have a4 := hc 4 _ rfl
  have a5 := hc 5 _ rfl
  have a6 := hc 6 _ rfl
  clear hc
  have lt1 : b < w.heap.size := World.block_lt_of_cell? w _ a0
  have X := Hd.mk hx
  have E := Hd.mk he
  generalize hq : deepE x 1 0 = q at hd
  have Q := Hd.mk hq
  have h32 : decide (q ≤ 32) = true := decide_eq_true hd
  clear hx he hq
  go_enter Tryz.func40, Tryz.ntmps40
  go_wp2_with (first
    | (go_at_call 36; (with_reducible refine ((ask_ok _ _).mono ?_)); (rintro e w1 ⟨rfl, rfl⟩))
    | (go_at_call 41; (refine (((deepIs x) 1 0 _ _ X.out).mono ?_)); (rw [Q.out]; rintro e w1 ⟨rfl, hb1⟩; have HB1 := Hd.mk hb1; have hc1 := bcell hb1; clear hb1))
    | (go_at_call 42; (refine ((E.out _ _ (Ex.Is_below HB1.out X.out)).mono ?_)); (rintro e w2 ⟨rfl, hb2⟩; have HB2 := Hd.mk hb2; clear hb2)))
  exact ⟨rfl, rfl, step HB1.out HB2.out⟩
theorem rightExpr_no (x : Ex) (r : Int) (v : Value) (w : World) (hx : x.Is w v) (hd : deepE x 1 0 ≤ 32) (he : ExprNo r x) : Calls Tryz.prog 15 #[v] w (SaysI r w) := by
  have hmf : ∀ (fn : Fn) (first cap : Array Value) (w : World), (Instr.makeFunc fn first cap).run Tryz.prog w = .ok (.func fn first cap) w := fun _ _ _ _ => rfl
  obtain ⟨cs, rfl⟩ : ∃ cs, v = .agg cs := by
    cases x; unfold Ex.Is at hx; obtain ⟨A, l, c, e, _⟩ := hx; exact ⟨_, e⟩
  obtain ⟨v0, v1, v2, v3, v4, v5, v6, v7, v8, rfl, hc⟩ := Ex.boxed hx 31
  have C := Hd.mk hc
  have X := Hd.mk hx
  have E := Hd.mk he
  have D := Hd.mk hd
  clear hc hx he hd
  go_enter Tryz.func15, Tryz.ntmps15
  go_wp2_with (go_at_call 32; (refine (caught_no _ r _ (fun w1 hb => right1_no x r _ _ w1 (Ex.Is_below (step (up (up0 _) _) hb) X.out) (fun i v hv => keep hb (C.out i v hv)) D.out E.out)).mono ?_); (rintro e w2 ⟨rfl, hb2⟩; have HB2 := Hd.mk hb2; clear hb2))
  go_ret
  exact ⟨rfl, step (up (up0 _) _) HB2.out⟩
def TextIs (x : Ex) (at_ : Int) (s : ByteArray) : Prop := ∀ (w : World) (v : Value), x.Is w v → Calls Tryz.prog 53 #[v, .int .i64 at_] w (SaysS s w)
theorem text_ok (x : Ex) (s : ByteArray) (v : Value) (w : World) (hx : x.Is w v) (hd : deepE x 1 0 ≤ 32) (he : ExprOk x) (ht : TextIs x 1 s) :
    Calls Tryz.prog 20 #[v] w fun e w' => e = .returned (.tuple #[.string s, .int .i64 0]) ∧ Below w.heap.size w w' := by
  obtain ⟨cs, rfl⟩ : ∃ cs, v = .agg cs := by
    cases x; unfold Ex.Is at hx; obtain ⟨A, l, c, e, _⟩ := hx; exact ⟨_, e⟩
  obtain ⟨v0, v1, v2, v3, v4, v5, v6, v7, v8, rfl, hc⟩ := Ex.boxed hx 31
  have X := Hd.mk hx
  have E := Hd.mk he
  have D := Hd.mk hd
  have T := Hd.mk ht
  clear hc hx he hd ht
  go_enter Tryz.func20, Tryz.ntmps20
  go_wp2_with (first
    | (go_at_call 15; (refine (rightExpr_ok x _ _ (Ex.Is_below (up (up0 _) _) X.out) D.out E.out).mono ?_); (rintro e w2 ⟨rfl, hb2⟩; have HB2 := Hd.mk hb2; have hc2 := bcell hb2; have hs2 := bsize1 rfl hb2; clear hb2))
    | (go_at_call 53; (refine (T.out _ _ (Ex.Is_below (step (up (up0 _) _) HB2.out) X.out)).mono ?_); (rintro e w3 ⟨rfl, hb3⟩; have HB3 := Hd.mk hb3; clear hb3)))
  go_ret2
  exact ⟨rfl, step (step (up (up0 _) _) HB2.out) HB3.out⟩
theorem text_no (x : Ex) (r : Int) (hr : r ≠ 0) (v : Value) (w : World) (hx : x.Is w v) (hd : deepE x 1 0 ≤ 32) (he : ExprNo r x) :
    Calls Tryz.prog 20 #[v] w fun e w' => e = .returned (.tuple #[.string ⟨#[]⟩, .int .i64 r]) ∧ Below w.heap.size w w' := by
  obtain ⟨cs, rfl⟩ : ∃ cs, v = .agg cs := by
    cases x; unfold Ex.Is at hx; obtain ⟨A, l, c, e, _⟩ := hx; exact ⟨_, e⟩
  obtain ⟨v0, v1, v2, v3, v4, v5, v6, v7, v8, rfl, hc⟩ := Ex.boxed hx 31
  have X := Hd.mk hx
  have E := Hd.mk he
  have D := Hd.mk hd
  have r1 : (r != 0) = true := bne_iff_ne.mpr hr
  have r2 : (r == 0) = false := beq_eq_false_iff_ne.mpr hr
  clear hc hx he hd hr
  go_enter Tryz.func20, Tryz.ntmps20
  go_wp2_with (first
    | (go_at_call 15; (refine (rightExpr_no x r _ _ (Ex.Is_below (up (up0 _) _) X.out) D.out E.out).mono ?_); (rintro e w2 ⟨rfl, hb2⟩; have HB2 := Hd.mk hb2; clear hb2)))
  go_ret2
  exact ⟨rfl, step (up (up0 _) _) HB2.out⟩
end Go.Proofs.YtbhgpegcdiohlaaGreatDoor.Tr
