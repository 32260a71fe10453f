import Derived.Test.YtbhgpegcdiohlaaGreatDoorTxC
import Derived.Test.YtbhgpegcdiohlaaGreatDoorRtI
import Derived.Test.YtbhgpegcdiohlaaGreatDoorShelf
namespace Go.Proofs.YtbhgpegcdiohlaaGreatDoor.Tr
open Go Go.RowKit Go.Proofs
set_option linter.unusedVariables false
set_option maxRecDepth 100000
set_option maxHeartbeats 1000000
theorem Ex.byKids {P : Ex → Prop} (h : ∀ k op m n t b ks, (∀ x ∈ ks.toList, P x) → P (.mk k op m n t b ks)) : ∀ x, P x := fun x =>
  Ex.rec (motive_1 := P) (motive_2 := fun ks => ∀ x ∈ ks.toList, P x) (fun k op m n t b ks hk => h k op m n t b ks hk) (fun x hx => by simp [Exs.toList] at hx)
    (fun e l he hl x hx => by
      simp only [Exs.toList, List.mem_cons] at hx
      rcases hx with rfl | hx
      · exact he
      · exact hl x hx) x
theorem bareIs (vt : Int → Int → ByteArray) (Lw : World → Prop) (hLw : Stays Lw) (hvt : ∀ t b, (vt t b).size ≤ 64) (hval : ValsL vt Lw) : ∀ x, BareIs vt Lw x :=
  Ex.byKids (bare_walk vt Lw hLw hvt hval)
/-- the text and the error that Text answers with -/
def SaysT (s : ByteArray) (r : Int) (w : World) (e : Ending) (w' : World) : Prop := e = .returned (.tuple #[.string s, .int .i64 r]) ∧ Below w.heap.size w w'
theorem textL_ok (Lw : World → Prop) (hLw : Stays Lw) (x : Ex) (s : ByteArray) (v : Value) (w : World) (hw : Lw w) (hx : x.Is w v) (hwf : x.Wf) (h0 : errX x = 0) (ht : TextL Lw x 1 s) : Calls Tryz.prog 20 #[v] w (SaysT s 0 w) := by
  obtain ⟨cs, rfl⟩ : ∃ cs, v = .agg cs := by
    cases x; unfold Ex.Is at hx; obtain ⟨A, l, c, e, _⟩ := hx; exact ⟨_, e⟩
  obtain ⟨v0, v1, v2, v3, v4, v5, v6, v7, v8, rfl, hc⟩ := Ex.boxed hx 31
  have X := Hd.mk hx
  have T := Hd.mk ht
  have LW := Hd.mk hw
  have R : Hd (∀ (w : World) (v : Value), x.Is w v → Calls Tryz.prog 15 #[v] w (SaysI 0 w)) := ⟨fun w v hx => (rightExpr_any x hwf v w hx).mono fun e w' g => saysI_of h0 g⟩
  have ST := Hd.mk hLw
  clear hc hx ht hw hwf h0 hLw
  go_enter Tryz.func20, Tryz.ntmps20
  go_wp2_with (first
    | (go_at_call 15; (refine (R.out _ _ (Ex.Is_below (up (up0 _) _) X.out)).mono ?_); (rintro e w2 ⟨rfl, hb2⟩; have HB2 := Hd.mk hb2; have hc2 := bcell hb2; have hs2 := bsize1 rfl hb2; clear hb2))
    | (go_at_call 53; (refine (T.out _ _ (ST.out _ _ (step (up (up0 _) _) HB2.out) LW.out) (Ex.Is_below (step (up (up0 _) _) HB2.out) X.out)).mono ?_); (rintro e w3 ⟨rfl, hb3⟩; have HB3 := Hd.mk hb3; clear hb3)))
  go_ret2
  exact ⟨rfl, step (step (up (up0 _) _) HB2.out) HB3.out⟩
theorem textL_no (x : Ex) (r : Int) (hr : r ≠ 0) (v : Value) (w : World) (hx : x.Is w v) (hwf : x.Wf) (h0 : errX x = r) : Calls Tryz.prog 20 #[v] w (SaysT ⟨#[]⟩ r w) := by
  obtain ⟨cs, rfl⟩ : ∃ cs, v = .agg cs := by
    cases x; unfold Ex.Is at hx; obtain ⟨A, l, c, e, _⟩ := hx; exact ⟨_, e⟩
  obtain ⟨v0, v1, v2, v3, v4, v5, v6, v7, v8, rfl, hc⟩ := Ex.boxed hx 31
  have X := Hd.mk hx
  have R : Hd (∀ (w : World) (v : Value), x.Is w v → Calls Tryz.prog 15 #[v] w (SaysI r w)) := ⟨fun w v hx => (rightExpr_any x hwf v w hx).mono fun e w' g => saysI_of h0 g⟩
  have r1 : (r != 0) = true := bne_iff_ne.mpr hr
  have r2 : (r == 0) = false := beq_eq_false_iff_ne.mpr hr
  clear hc hx hwf h0 hr
  go_enter Tryz.func20, Tryz.ntmps20
  go_wp2_with (first
    | (go_at_call 15; (refine (R.out _ _ (Ex.Is_below (up (up0 _) _) X.out)).mono ?_); (rintro e w2 ⟨rfl, hb2⟩; have HB2 := Hd.mk hb2; clear hb2)))
  go_ret2
  exact ⟨rfl, step (up (up0 _) _) HB2.out⟩
/-- tree.Text: the text of an expression that is right, else what is wrong with it -/
theorem text_any (vt : Int → Int → ByteArray) (Lw : World → Prop) (hLw : Stays Lw) (hvt : ∀ t b, (vt t b).size ≤ 64) (hval : ValsL vt Lw) (x : Ex) (v : Value) (w : World) (hw : Lw w) (hx : x.Is w v) (hwf : x.Wf) (hc : costE x ≤ 70368744177664) : Calls Tryz.prog 20 #[v] w (SaysT (if errX x = 0 then bareE vt x else ⟨#[]⟩) (errX x) w) := by
  by_cases h0 : errX x = 0
  · rw [if_pos h0, h0]
    have he : errE x = 0 := by unfold errX at h0; exact (seqI_zero h0).2
    have ht := bareIs vt Lw hLw hvt hval x hwf he hc 1 (by decide)
    have hl : ¬ lvl x.k x.op < 1 := by have := (lvl_le x.k x.op).1; omega
    have e : parE (lvl x.k x.op < 1) (bareE vt x) = bareE vt x := by unfold parE; rw [if_neg hl]
    rw [e] at ht
    exact textL_ok Lw hLw x _ v w hw hx hwf h0 ht
  · rw [if_neg h0]
    exact textL_no x _ h0 v w hx hwf rfl
end Go.Proofs.YtbhgpegcdiohlaaGreatDoor.Tr

namespace Go.Proofs.YtbhgpegcdiohlaaGreatDoor.Tr
open Go Go.RowKit Go.Proofs
set_option linter.unusedVariables false
set_option maxRecDepth 100000
set_option maxHeartbeats 1000000
theorem below_grown (w : World) (k : Nat) (os : Array Obj) : Below w.heap.size w (Go.Sort.grow (w.drewN k) os) :=
  (below_drewN (Below.refl _ _) k).trans ⟨rfl, rfl, rfl, by simp [Go.Sort.grow], fun i hi => by simp [Go.Sort.grow, Array.getElem?_append, hi]⟩
theorem decimal_any (n : Int) (h0 : -9223372036854775808 ≤ n) (h1 : n ≤ 9223372036854775807) (w : World) (htab : Lib.TabIs Tryz.prog w "internal/strconv.uint64pow10" .u64 Lib.pow10Tab) : Calls Tryz.prog 148 #[.int .i64 n] w (SaysS ⟨(Lib.itoa n).toArray⟩ w) := by
  have C := Hd.mk (Tryz.strconv_FormatInt_10 n h0 h1 w htab)
  clear htab h0 h1
  go_enter Tryz.func148, Tryz.ntmps148
  go_wp2_with (go_at_call 173; (refine C.out.mono ?_); (rintro e w' ⟨rfl, k, os, rfl⟩))
  go_ret
  exact ⟨rfl, below_grown w k os⟩
/-- a literal's text -/
def litT (ft : Int → ByteArray) (t b : Int) : ByteArray := if t = 1 then ⟨(Lib.itoa b).toArray⟩ else if t = 2 then ft b else if b = 1 then ⟨#[116, 114, 117, 101]⟩ else ⟨#[102, 97, 108, 115, 101]⟩
theorem valT1 (b : Int) (h0 : 0 ≤ b) (h1 : b < 9223372036854775808) (w : World) (htab : Lib.TabIs Tryz.prog w "internal/strconv.uint64pow10" .u64 Lib.pow10Tab) (Lw : World → Prop) (hLw : Stays Lw) (hw : Lw w) (hpow : ∀ w, Lw w → Lib.TabIs Tryz.prog w "internal/strconv.uint64pow10" .u64 Lib.pow10Tab) : Calls Tryz.prog 108 #[.agg #[.int .i64 1, .int .u64 b]] w (SaysS ⟨(Lib.itoa b).toArray⟩ w) := by
  have C : Hd (∀ w, Lw w → Calls Tryz.prog 148 #[.int .i64 b] w (SaysS ⟨(Lib.itoa b).toArray⟩ w)) := ⟨fun w g => decimal_any b (by omega) (by omega) w (hpow w g)⟩
  have W := Hd.mk hw
  have ST := Hd.mk hLw
  have E : IntKind.i64.wrap b = b := by rw [IntKind.wrap_i64]; omega
  clear htab hw hLw hpow
  go_enter Tryz.func108, Tryz.ntmps108
  go_wp2_with (go_at_call 148; (try rw [E]); (refine (C.out _ (ST.out _ _ (up (up0 _) _) W.out)).mono ?_); (rintro e w' ⟨rfl, hb⟩; have HB := Hd.mk hb; clear hb))
  go_ret
  exact ⟨rfl, step (up (up0 _) _) HB.out⟩
theorem valT2 (b : Int) (s : ByteArray) (w : World) (Lw : World → Prop) (hLw : Stays Lw) (hw : Lw w) (hf : ∀ w, Lw w → Calls Tryz.prog 149 #[.int .u64 b] w (SaysS s w)) : Calls Tryz.prog 108 #[.agg #[.int .i64 2, .int .u64 b]] w (SaysS s w) := by
  have C := Hd.mk hf
  have W := Hd.mk hw
  have ST := Hd.mk hLw
  clear hf hw hLw
  go_enter Tryz.func108, Tryz.ntmps108
  go_wp2_with (go_at_call 149; (refine (C.out _ (ST.out _ _ (up (up0 _) _) W.out)).mono ?_); (rintro e w' ⟨rfl, hb⟩; have HB := Hd.mk hb; clear hb))
  go_ret
  exact ⟨rfl, step (up (up0 _) _) HB.out⟩
theorem valT3 (w : World) : Calls Tryz.prog 108 #[.agg #[.int .i64 3, .int .u64 1]] w (SaysS ⟨#[116, 114, 117, 101]⟩ w) := by
  go_enter Tryz.func108, Tryz.ntmps108
  go_wp2
  go_ret
  exact ⟨rfl, up (up0 _) _⟩
theorem valT4 (w : World) : Calls Tryz.prog 108 #[.agg #[.int .i64 3, .int .u64 0]] w (SaysS ⟨#[102, 97, 108, 115, 101]⟩ w) := by
  go_enter Tryz.func108, Tryz.ntmps108
  go_wp2
  go_ret
  exact ⟨rfl, up (up0 _) _⟩
theorem vals_any (Lw : World → Prop) (hLw : Stays Lw) (ft : Int → ByteArray) (hpow : ∀ w, Lw w → Lib.TabIs Tryz.prog w "internal/strconv.uint64pow10" .u64 Lib.pow10Tab) (hft : ∀ b : Int, 0 ≤ b → (b ≤ 9218868437227405312 ∨ b = 9221120237041090561) → ∀ w, Lw w → Calls Tryz.prog 149 #[.int .u64 b] w (SaysS (ft b) w)) : ValsL (litT ft) Lw := by
  intro t b h0 h1 hl w hw
  unfold litB at hl
  split at hl
  · rename_i ht
    subst ht
    have e : litT ft 1 b = ⟨(Lib.itoa b).toArray⟩ := by unfold litT; rw [if_pos rfl]
    rw [e]
    exact valT1 b h0 (of_decide_eq_true hl) w (hpow w hw) Lw hLw hw hpow
  · split at hl
    · rename_i _ ht
      subst ht
      have e : litT ft 2 b = ft b := by unfold litT; rw [if_neg (by decide), if_pos rfl]
      rw [e]
      simp only [Bool.or_eq_true, decide_eq_true_eq] at hl
      exact valT2 b _ w Lw hLw hw (hft b h0 hl)
    · split at hl
      · rename_i _ _ ht
        subst ht
        have hb : b < 2 := of_decide_eq_true hl
        have hb : b = 0 ∨ b = 1 := by omega
        rcases hb with rfl | rfl
        · exact valT4 w
        · exact valT3 w
      · cases hl
end Go.Proofs.YtbhgpegcdiohlaaGreatDoor.Tr
