import Derived.Test.YtbhgpegcdiohlaaGreatDoorTrF
namespace Go.Proofs.YtbhgpegcdiohlaaGreatDoor.Tr
open Go Go.RowKit Go.Proofs
set_option linter.unusedVariables false

/-- what a call that only makes memory leaves of what was there -/
theorem bcell {W w1 : World} (hb : Below W.heap.size W w1) : ∀ b o, b < W.heap.size → w1.cell? ⟨b, o, none⟩ = W.cell? ⟨b, o, none⟩ := fun b o h => hb.cell (p := ⟨b, o, none⟩) h
theorem bsize2 {w a b w1 : World} {o1 o2 : Obj} (ha : a = w.alloc o1) (hb' : b = a.alloc o2) (hb : Below b.heap.size b w1) : w.heap.size < w1.heap.size ∧ w.heap.size + 1 < w1.heap.size := by
  have := hb.size
  subst ha hb'
  simp at this
  omega
theorem bsize3 {w w1 w2 : World} (h : w.heap.size < w1.heap.size ∧ w.heap.size + 1 < w1.heap.size) (hb : Below w1.heap.size w1 w2) : w.heap.size < w2.heap.size ∧ w.heap.size + 1 < w2.heap.size := by
  have := hb.size
  omega

theorem eqB_t {α : Type} {x y : α} (h : eqB x y = true) : x = y := by simpa [eqB] using h
theorem eqB_to {α β γ : Type} {f : α → β} {x y : α} {a b : γ} (hi : f x = f y → x = y) (h1 : x = y → a = b) (h2 : a = b → x = y) : eqB (f x) (f y) = eqB a b := by
  unfold eqB
  congr 1
  exact propext ⟨fun h => h1 (hi h), fun h => by rw [h2 h]⟩

set_option maxHeartbeats 4000000 in
set_option maxRecDepth 100000 in
theorem sameSt_walk (k : Int) (n : ByteArray) (e : Exs) (bd el : Sts) (hB : ∀ x ∈ bd.toList, SameSt x) (hE : ∀ x ∈ el.toList, SameSt x) : SameSt (.mk k n e bd el) := by
  intro y w v u hv hu
  cases y with
  | mk k' n' e' bd' el' =>
  unfold St.Is at hv hu
  obtain ⟨A, l, c, A1, l1, c1, A2, l2, c2, rfl, h1, h2, h3⟩ := hv
  obtain ⟨B, m, d, B1, m1, d1, B2, m2, d2, rfl, i1, i2, i3⟩ := hu
  have H1 := Hd.mk h1
  have H2 := Hd.mk h2
  have H3 := Hd.mk h3
  have I1 := Hd.mk i1
  have I2 := Hd.mk i2
  have I3 := Hd.mk i3
  have KB := Hd.mk hB
  have KE := Hd.mk hE
  clear h1 h2 h3 i1 i2 i3 hB hE
  go_enter Tryz.func114, Tryz.ntmps114
  go_wp2_with (first
    | (go_at_call 59; ((with_reducible refine ((eqf59_any e.toList e'.toList (sameExs e) _ A B l m c d (Sl_up (up (up (up0 _) _) _) H1.out) (Sl_up (up (up (up0 _) _) _) I1.out)).mono ?_))); (rintro e w1 ⟨rfl, hb1⟩; have HB1 := Hd.mk hb1; have hc1 := bcell hb1; obtain ⟨hs1, hz1⟩ := bsize2 rfl rfl hb1; have HS1 := Hd.mk (And.intro hs1 hz1); clear hb1))
    | (go_at_call 113; ((with_reducible refine ((eqf113_any bd.toList bd'.toList KB.out _ A1 B1 l1 m1 c1 d1 (SlS_up (step (up (up (up0 _) _) _) HB1.out) H2.out) (SlS_up (step (up (up (up0 _) _) _) HB1.out) I2.out)).mono ?_))); (rintro e w2 ⟨rfl, hb2⟩; have HB2 := Hd.mk hb2; have hc2 := bcell hb2; obtain ⟨hs2, hz2⟩ := bsize3 HS1.out hb2; clear hb2))
    | (go_at_call 113; ((with_reducible refine ((eqf113_any el.toList el'.toList KE.out _ A2 B2 l2 m2 c2 d2 (SlS_up (step (step (up (up (up0 _) _) _) HB1.out) HB2.out) H3.out) (SlS_up (step (step (up (up (up0 _) _) _) HB1.out) HB2.out) I3.out)).mono ?_))); (rintro e w3 ⟨rfl, hb3⟩; have HB3 := Hd.mk hb3; clear hb3)))
  all_goals go_ret
  · refine says_of ?_ ⟨rfl, step (step (step (up (up (up0 _) _) _) HB1.out) HB2.out) HB3.out⟩
    have e1 : n = n' := bytes_eq (by assumption)
    have e2 : e = e' := Exs.toList_inj (eqB_t (by assumption))
    have e3 : bd = bd' := Sts.toList_inj (eqB_t (by assumption))
    subst e1 e2 e3
    exact eqB_to Sts.toList_inj (fun h => by simp_all) (fun h => by injection h)
  all_goals
    refine says_of (eqB_ne fun h => ?_).symm ⟨rfl, ?_⟩
    · injection h with h1 h2 h3 h4 h5
      subst h1 h2 h3 h4 h5
      simp_all [eqB_self]
    · first
      | exact step (step (up (up (up0 _) _) _) HB1.out) HB2.out
      | exact step (up (up (up0 _) _) _) HB1.out
      | exact up (up (up0 _) _) _
mutual
theorem sameSt : ∀ x : St, SameSt x
  | .mk k n e bd el => sameSt_walk k n e bd el (sameSts bd) (sameSts el)
theorem sameSts : ∀ (ks : Sts), ∀ x ∈ ks.toList, SameSt x
  | .nil => fun x hx => by simp [Sts.toList] at hx
  | .cons e l => fun x hx => by
    simp only [Sts.toList, List.mem_cons] at hx
    rcases hx with h | hx
    · rw [h]; exact sameSt e
    · exact sameSts l x hx
end

set_option maxHeartbeats 4000000 in
set_option maxRecDepth 100000 in
theorem sameDe : ∀ x : De, SameDe x := by
  rintro ⟨k, x, n, t, ps, e, bd⟩ ⟨k', x', n', t', ps', e', bd'⟩ w v u hv hu
  unfold De.Is at hv hu
  obtain ⟨A, l, c, A1, l1, c1, A2, l2, c2, rfl, h1, h2, h3⟩ := hv
  obtain ⟨B, m, d, B1, m1, d1, B2, m2, d2, rfl, i1, i2, i3⟩ := hu
  dsimp only at h1 h2 h3 i1 i2 i3 ⊢
  have H1 := Hd.mk h1
  have H2 := Hd.mk h2
  have H3 := Hd.mk h3
  have I1 := Hd.mk i1
  have I2 := Hd.mk i2
  have I3 := Hd.mk i3
  clear h1 h2 h3 i1 i2 i3
  go_enter Tryz.func57, Tryz.ntmps57
  go_wp2_with (first
    | (go_at_call 112; ((with_reducible refine ((eqf112_any ps ps' _ A B l m c d (Slp_up (up (up (up0 _) _) _) H1.out) (Slp_up (up (up (up0 _) _) _) I1.out)).mono ?_))); (rintro e w1 ⟨rfl, hb1⟩; have HB1 := Hd.mk hb1; have hc1 := bcell hb1; obtain ⟨hs1, hz1⟩ := bsize2 rfl rfl hb1; have HS1 := Hd.mk (And.intro hs1 hz1); clear hb1))
    | (go_at_call 59; ((with_reducible refine ((eqf59_any e.toList e'.toList (sameExs e) _ A1 B1 l1 m1 c1 d1 (Sl_up (step (up (up (up0 _) _) _) HB1.out) H2.out) (Sl_up (step (up (up (up0 _) _) _) HB1.out) I2.out)).mono ?_))); (rintro e w2 ⟨rfl, hb2⟩; have HB2 := Hd.mk hb2; have hc2 := bcell hb2; obtain ⟨hs2, hz2⟩ := bsize3 HS1.out hb2; clear hb2))
    | (go_at_call 113; ((with_reducible refine ((eqf113_any bd.toList bd'.toList (sameSts bd) _ A2 B2 l2 m2 c2 d2 (SlS_up (step (step (up (up (up0 _) _) _) HB1.out) HB2.out) H3.out) (SlS_up (step (step (up (up (up0 _) _) _) HB1.out) HB2.out) I3.out)).mono ?_))); (rintro e w3 ⟨rfl, hb3⟩; have HB3 := Hd.mk hb3; clear hb3)))
  all_goals go_ret
  · refine says_of ?_ ⟨rfl, step (step (step (up (up (up0 _) _) _) HB1.out) HB2.out) HB3.out⟩
    have e1 : n = n' := bytes_eq (by assumption)
    have e2 : ps = ps' := eqB_t (by assumption)
    have e3 : e = e' := Exs.toList_inj (eqB_t (by assumption))
    subst e1 e2 e3
    exact eqB_to Sts.toList_inj (fun h => by simp_all) (fun h => by injection h)
  all_goals
    refine says_of (eqB_ne fun h => ?_).symm ⟨rfl, ?_⟩
    · injection h with h1 h2 h3 h4 h5 h6 h7
      subst h1 h2 h3 h4 h5 h6 h7
      simp_all [eqB_self]
    · first
      | exact step (step (up (up (up0 _) _) _) HB1.out) HB2.out
      | exact step (up (up (up0 _) _) _) HB1.out
      | exact up (up (up0 _) _) _

set_option maxHeartbeats 4000000 in
set_option maxRecDepth 100000 in
theorem same_any (x y : Mo) (w : World) (v u : Value) (hv : x.Is w v) (hu : y.Is w u) : Calls Tryz.prog 23 #[v, u] w (Says (eqB x y) w) := by
  obtain ⟨n, im, ds⟩ := x
  obtain ⟨n', im', ds'⟩ := y
  unfold Mo.Is at hv hu
  obtain ⟨A, l, c, A1, l1, c1, rfl, h1, h2⟩ := hv
  obtain ⟨B, m, d, B1, m1, d1, rfl, i1, i2⟩ := hu
  dsimp only at h1 h2 i1 i2 ⊢
  have H1 := Hd.mk h1
  have H2 := Hd.mk h2
  have I1 := Hd.mk i1
  have I2 := Hd.mk i2
  clear h1 h2 i1 i2
  go_enter Tryz.func23, Tryz.ntmps23
  go_wp2_with (first
    | (go_at_call 55; ((with_reducible refine ((eqf55_any im im' _ A B l m c d (Slt_up (up (up (up0 _) _) _) H1.out) (Slt_up (up (up (up0 _) _) _) I1.out)).mono ?_))); (rintro e w1 ⟨rfl, hb1⟩; have HB1 := Hd.mk hb1; have hc1 := bcell hb1; obtain ⟨hs1, hz1⟩ := bsize2 rfl rfl hb1; have HS1 := Hd.mk (And.intro hs1 hz1); clear hb1))
    | (go_at_call 56; ((with_reducible refine ((eqf56_any ds ds' (fun x _ => sameDe x) _ A1 B1 l1 m1 c1 d1 (SlD_up (step (up (up (up0 _) _) _) HB1.out) H2.out) (SlD_up (step (up (up (up0 _) _) _) HB1.out) I2.out)).mono ?_))); (rintro e w2 ⟨rfl, hb2⟩; have HB2 := Hd.mk hb2; clear hb2)))
  all_goals go_ret
  · refine says_of ?_ ⟨rfl, step (step (up (up (up0 _) _) _) HB1.out) HB2.out⟩
    have e1 : n = n' := bytes_eq (by assumption)
    have e2 : im = im' := eqB_t (by assumption)
    subst e1 e2
    exact eqB_to (f := fun x => x) id (fun h => by rw [h]) (fun h => by injection h)
  all_goals
    refine says_of (eqB_ne fun h => ?_).symm ⟨rfl, ?_⟩
    · injection h with h1 h2 h3
      subst h1 h2 h3
      simp_all [eqB_self]
    · first
      | exact step (up (up (up0 _) _) _) HB1.out
      | exact up (up (up0 _) _) _
end Go.Proofs.YtbhgpegcdiohlaaGreatDoor.Tr
