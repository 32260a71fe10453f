import Derived.Test.YtbhgpegcdiohlaaGreatDoorRtG
namespace Go.Proofs.YtbhgpegcdiohlaaGreatDoor.Tr
open Go Go.RowKit Go.Proofs
set_option linter.unusedVariables false
set_option maxRecDepth 100000
set_option maxHeartbeats 40000000
def DeclIs (x : De) : Prop := ∀ (w : World) (v : Value), x.Is w v → Calls Tryz.prog 37 #[v] w (Ends (errD x) w)
theorem valued_b (c : Int) (b : Bool) (h : valuedB c = b) (w : World) : Calls Tryz.prog 80 #[.int .i64 c] w fun e w' => e = .returned (.bool b) ∧ w = w' := h ▸ valued_any c w
/-- the declaration is too deep -/
theorem decl_deep (x : De) (hd : ¬ deepDe x ≤ 32) : DeclIs x := by
  intro w v hx
  have E := Hd.mk (show errD x = 13 by unfold errD; rw [if_neg hd, seqI_n (by decide)])
  have D := Hd.mk (deepDecl_any x)
  have X := Hd.mk hx
  obtain ⟨A1, l1, c1, A2, l2, c2, A3, l3, c3, rfl, s1, s2, s3⟩ := hx
  clear s1 s2 s3
  obtain ⟨k, ex, n, t, ps, e, bd⟩ := x
  dsimp only at *
  generalize deepDe ⟨k, ex, n, t, ps, e, bd⟩ = q at *
  have q1 : decide (q ≤ 32) = false := decide_eq_false hd
  clear hd
  go_enter Tryz.func37, Tryz.ntmps37
  go_wp2_with (first
    | (go_at_call 73; (with_reducible refine ((D.out _ _ (De.Is_below (up (up0 _) _) X.out)).mono ?_)); (rintro e w3 ⟨rfl, hb3⟩; have HB3 := Hd.mk hb3; have hc3 := bcell hb3; clear hb3))
    | (go_at_call 36; (with_reducible refine ((ask_no 13 (by decide) _).mono ?_)); (rintro e w1 ⟨rfl, rfl⟩)))
  exact ⟨rfl, ends_no E.out.symm (by decide) ⟨rfl, step (up (up0 _) _) HB3.out⟩⟩
theorem decl1_v (ex : Bool) (n : ByteArray) (t : Int) (ps : List Pa) (e : Exs) (bd : Sts) (hv : valuedB t = false) (hd : deepDe ⟨1, ex, n, t, ps, e, bd⟩ ≤ 32) (E : Hd (errD ⟨1, ex, n, t, ps, e, bd⟩ = 1)) : DeclIs ⟨1, ex, n, t, ps, e, bd⟩ := by
  intro w v hx
  have D := Hd.mk (deepDecl_any ⟨1, ex, n, t, ps, e, bd⟩)
  have X := Hd.mk hx
  obtain ⟨A1, l1, c1, A2, l2, c2, A3, l3, c3, rfl, s1, s2, s3⟩ := hx
  dsimp only at s1 s2 s3
  have HL1 := Hd.mk s1.1
  have HL2 := Hd.mk s2.1
  have HL3 := Hd.mk s3.1
  have hn1 := s1.2.1
  have hn2 := s2.2.1
  have S1 := Hd.mk s1
  have S2 := Hd.mk s2
  have S3 := Hd.mk s3
  clear s1 s2 s3
  generalize deepDe ⟨1, ex, n, t, ps, e, bd⟩ = q at *
  have q1 : decide (q ≤ 32) = true := decide_eq_true hd
  clear hd
  have V := Hd.mk hv
  clear hv
  go_enter Tryz.func37, Tryz.ntmps37
  go_wp2_with (first
    | (go_at_call 73; (with_reducible refine ((D.out _ _ (De.Is_below (up (up0 _) _) X.out)).mono ?_)); (rintro e w3 ⟨rfl, hb3⟩; have HB3 := Hd.mk hb3; have hc3 := bcell hb3; have hs3 := bsize1 rfl hb3; clear hb3))
    | (go_at_call 36; (with_reducible refine ((ask_ok _ _).mono ?_)); (rintro e w1 ⟨rfl, rfl⟩))
    | (go_at_call 36; (with_reducible refine ((ask_no 1 (by decide) _).mono ?_)); (rintro e w1 ⟨rfl, rfl⟩))
    | (go_at_call 80; (with_reducible refine ((valued_b t _ V.out _).mono ?_)); (rintro e w1 ⟨rfl, rfl⟩)))
  exact ⟨rfl, ends_no E.out.symm (by decide) ⟨rfl, step (up (up0 _) _) HB3.out⟩⟩
theorem decl1_e (ex : Bool) (n : ByteArray) (t : Int) (ps : List Pa) (e : Exs) (bd : Sts) (hv : valuedB t = true) (he : e.toList.length ≠ 1) (hd : deepDe ⟨1, ex, n, t, ps, e, bd⟩ ≤ 32) (E : Hd (errD ⟨1, ex, n, t, ps, e, bd⟩ = 1)) : DeclIs ⟨1, ex, n, t, ps, e, bd⟩ := by
  intro w v hx
  have D := Hd.mk (deepDecl_any ⟨1, ex, n, t, ps, e, bd⟩)
  have X := Hd.mk hx
  obtain ⟨A1, l1, c1, A2, l2, c2, A3, l3, c3, rfl, s1, s2, s3⟩ := hx
  dsimp only at s1 s2 s3
  have HL1 := Hd.mk s1.1
  have HL2 := Hd.mk s2.1
  have HL3 := Hd.mk s3.1
  have hn1 := s1.2.1
  have hn2 := s2.2.1
  have S1 := Hd.mk s1
  have S2 := Hd.mk s2
  have S3 := Hd.mk s3
  clear s1 s2 s3
  generalize deepDe ⟨1, ex, n, t, ps, e, bd⟩ = q at *
  have q1 : decide (q ≤ 32) = true := decide_eq_true hd
  clear hd
  have V := Hd.mk hv
  clear hv
  have x2 : ((l2 : Int) == 1) = false := beq_eq_false_iff_ne.mpr (by have := HL2.out; omega)
  clear he
  go_enter Tryz.func37, Tryz.ntmps37
  go_wp2_with (first
    | (go_at_call 73; (with_reducible refine ((D.out _ _ (De.Is_below (up (up0 _) _) X.out)).mono ?_)); (rintro e w3 ⟨rfl, hb3⟩; have HB3 := Hd.mk hb3; have hc3 := bcell hb3; have hs3 := bsize1 rfl hb3; clear hb3))
    | (go_at_call 36; (with_reducible refine ((ask_ok _ _).mono ?_)); (rintro e w1 ⟨rfl, rfl⟩))
    | (go_at_call 36; (with_reducible refine ((ask_no 1 (by decide) _).mono ?_)); (rintro e w1 ⟨rfl, rfl⟩))
    | (go_at_call 80; (with_reducible refine ((valued_b t _ V.out _).mono ?_)); (rintro e w1 ⟨rfl, rfl⟩)))
  exact ⟨rfl, ends_no E.out.symm (by decide) ⟨rfl, step (up (up0 _) _) HB3.out⟩⟩
theorem decl1_p (ex : Bool) (n : ByteArray) (t : Int) (ps : List Pa) (e : Exs) (bd : Sts) (hv : valuedB t = true) (he : e.toList.length = 1) (hp : ps.length ≠ 0) (hd : deepDe ⟨1, ex, n, t, ps, e, bd⟩ ≤ 32) (E : Hd (errD ⟨1, ex, n, t, ps, e, bd⟩ = 1)) : DeclIs ⟨1, ex, n, t, ps, e, bd⟩ := by
  intro w v hx
  have D := Hd.mk (deepDecl_any ⟨1, ex, n, t, ps, e, bd⟩)
  have X := Hd.mk hx
  obtain ⟨A1, l1, c1, A2, l2, c2, A3, l3, c3, rfl, s1, s2, s3⟩ := hx
  dsimp only at s1 s2 s3
  have HL1 := Hd.mk s1.1
  have HL2 := Hd.mk s2.1
  have HL3 := Hd.mk s3.1
  have hn1 := s1.2.1
  have hn2 := s2.2.1
  have S1 := Hd.mk s1
  have S2 := Hd.mk s2
  have S3 := Hd.mk s3
  clear s1 s2 s3
  generalize deepDe ⟨1, ex, n, t, ps, e, bd⟩ = q at *
  have q1 : decide (q ≤ 32) = true := decide_eq_true hd
  clear hd
  have V := Hd.mk hv
  clear hv
  obtain rfl : l2 = 1 := HL2.out.trans he
  have x1 : ((l1 : Int) == 0) = false := beq_eq_false_iff_ne.mpr (by have := HL1.out; omega)
  clear he
  clear hp
  go_enter Tryz.func37, Tryz.ntmps37
  go_wp2_with (first
    | (go_at_call 73; (with_reducible refine ((D.out _ _ (De.Is_below (up (up0 _) _) X.out)).mono ?_)); (rintro e w3 ⟨rfl, hb3⟩; have HB3 := Hd.mk hb3; have hc3 := bcell hb3; have hs3 := bsize1 rfl hb3; clear hb3))
    | (go_at_call 36; (with_reducible refine ((ask_ok _ _).mono ?_)); (rintro e w1 ⟨rfl, rfl⟩))
    | (go_at_call 36; (with_reducible refine ((ask_no 1 (by decide) _).mono ?_)); (rintro e w1 ⟨rfl, rfl⟩))
    | (go_at_call 80; (with_reducible refine ((valued_b t _ V.out _).mono ?_)); (rintro e w1 ⟨rfl, rfl⟩)))
  exact ⟨rfl, ends_no E.out.symm (by decide) ⟨rfl, step (up (up0 _) _) HB3.out⟩⟩
theorem decl1_b (ex : Bool) (n : ByteArray) (t : Int) (ps : List Pa) (e : Exs) (bd : Sts) (hv : valuedB t = true) (he : e.toList.length = 1) (hp : ps.length = 0) (hb : bd.toList.length ≠ 0) (hd : deepDe ⟨1, ex, n, t, ps, e, bd⟩ ≤ 32) (E : Hd (errD ⟨1, ex, n, t, ps, e, bd⟩ = 1)) : DeclIs ⟨1, ex, n, t, ps, e, bd⟩ := by
  intro w v hx
  have D := Hd.mk (deepDecl_any ⟨1, ex, n, t, ps, e, bd⟩)
  have X := Hd.mk hx
  obtain ⟨A1, l1, c1, A2, l2, c2, A3, l3, c3, rfl, s1, s2, s3⟩ := hx
  dsimp only at s1 s2 s3
  have HL1 := Hd.mk s1.1
  have HL2 := Hd.mk s2.1
  have HL3 := Hd.mk s3.1
  have hn1 := s1.2.1
  have hn2 := s2.2.1
  have S1 := Hd.mk s1
  have S2 := Hd.mk s2
  have S3 := Hd.mk s3
  clear s1 s2 s3
  generalize deepDe ⟨1, ex, n, t, ps, e, bd⟩ = q at *
  have q1 : decide (q ≤ 32) = true := decide_eq_true hd
  clear hd
  have V := Hd.mk hv
  clear hv
  obtain rfl : l2 = 1 := HL2.out.trans he
  obtain rfl : l1 = 0 := HL1.out.trans hp
  have x3 : ((l3 : Int) == 0) = false := beq_eq_false_iff_ne.mpr (by have := HL3.out; omega)
  clear he
  clear hp
  clear hb
  go_enter Tryz.func37, Tryz.ntmps37
  go_wp2_with (first
    | (go_at_call 73; (with_reducible refine ((D.out _ _ (De.Is_below (up (up0 _) _) X.out)).mono ?_)); (rintro e w3 ⟨rfl, hb3⟩; have HB3 := Hd.mk hb3; have hc3 := bcell hb3; have hs3 := bsize1 rfl hb3; clear hb3))
    | (go_at_call 36; (with_reducible refine ((ask_ok _ _).mono ?_)); (rintro e w1 ⟨rfl, rfl⟩))
    | (go_at_call 36; (with_reducible refine ((ask_no 1 (by decide) _).mono ?_)); (rintro e w1 ⟨rfl, rfl⟩))
    | (go_at_call 80; (with_reducible refine ((valued_b t _ V.out _).mono ?_)); (rintro e w1 ⟨rfl, rfl⟩)))
  exact ⟨rfl, ends_no E.out.symm (by decide) ⟨rfl, step (up (up0 _) _) HB3.out⟩⟩
theorem decl2_v (ex : Bool) (n : ByteArray) (t : Int) (ps : List Pa) (e : Exs) (bd : Sts) (hv : valuedB t = false) (hd : deepDe ⟨2, ex, n, t, ps, e, bd⟩ ≤ 32) (E : Hd (errD ⟨2, ex, n, t, ps, e, bd⟩ = 1)) : DeclIs ⟨2, ex, n, t, ps, e, bd⟩ := by
  intro w v hx
  have D := Hd.mk (deepDecl_any ⟨2, ex, n, t, ps, e, bd⟩)
  have X := Hd.mk hx
  obtain ⟨A1, l1, c1, A2, l2, c2, A3, l3, c3, rfl, s1, s2, s3⟩ := hx
  dsimp only at s1 s2 s3
  have HL1 := Hd.mk s1.1
  have HL2 := Hd.mk s2.1
  have HL3 := Hd.mk s3.1
  have hn1 := s1.2.1
  have hn2 := s2.2.1
  have S1 := Hd.mk s1
  have S2 := Hd.mk s2
  have S3 := Hd.mk s3
  clear s1 s2 s3
  generalize deepDe ⟨2, ex, n, t, ps, e, bd⟩ = q at *
  have q1 : decide (q ≤ 32) = true := decide_eq_true hd
  clear hd
  have V := Hd.mk hv
  clear hv
  go_enter Tryz.func37, Tryz.ntmps37
  go_wp2_with (first
    | (go_at_call 73; (with_reducible refine ((D.out _ _ (De.Is_below (up (up0 _) _) X.out)).mono ?_)); (rintro e w3 ⟨rfl, hb3⟩; have HB3 := Hd.mk hb3; have hc3 := bcell hb3; have hs3 := bsize1 rfl hb3; clear hb3))
    | (go_at_call 36; (with_reducible refine ((ask_ok _ _).mono ?_)); (rintro e w1 ⟨rfl, rfl⟩))
    | (go_at_call 36; (with_reducible refine ((ask_no 1 (by decide) _).mono ?_)); (rintro e w1 ⟨rfl, rfl⟩))
    | (go_at_call 80; (with_reducible refine ((valued_b t _ V.out _).mono ?_)); (rintro e w1 ⟨rfl, rfl⟩)))
  exact ⟨rfl, ends_no E.out.symm (by decide) ⟨rfl, step (up (up0 _) _) HB3.out⟩⟩
theorem decl2_e (ex : Bool) (n : ByteArray) (t : Int) (ps : List Pa) (e : Exs) (bd : Sts) (hv : valuedB t = true) (he : e.toList.length ≠ 1) (hd : deepDe ⟨2, ex, n, t, ps, e, bd⟩ ≤ 32) (E : Hd (errD ⟨2, ex, n, t, ps, e, bd⟩ = 1)) : DeclIs ⟨2, ex, n, t, ps, e, bd⟩ := by
  intro w v hx
  have D := Hd.mk (deepDecl_any ⟨2, ex, n, t, ps, e, bd⟩)
  have X := Hd.mk hx
  obtain ⟨A1, l1, c1, A2, l2, c2, A3, l3, c3, rfl, s1, s2, s3⟩ := hx
  dsimp only at s1 s2 s3
  have HL1 := Hd.mk s1.1
  have HL2 := Hd.mk s2.1
  have HL3 := Hd.mk s3.1
  have hn1 := s1.2.1
  have hn2 := s2.2.1
  have S1 := Hd.mk s1
  have S2 := Hd.mk s2
  have S3 := Hd.mk s3
  clear s1 s2 s3
  generalize deepDe ⟨2, ex, n, t, ps, e, bd⟩ = q at *
  have q1 : decide (q ≤ 32) = true := decide_eq_true hd
  clear hd
  have V := Hd.mk hv
  clear hv
  have x2 : ((l2 : Int) == 1) = false := beq_eq_false_iff_ne.mpr (by have := HL2.out; omega)
  clear he
  go_enter Tryz.func37, Tryz.ntmps37
  go_wp2_with (first
    | (go_at_call 73; (with_reducible refine ((D.out _ _ (De.Is_below (up (up0 _) _) X.out)).mono ?_)); (rintro e w3 ⟨rfl, hb3⟩; have HB3 := Hd.mk hb3; have hc3 := bcell hb3; have hs3 := bsize1 rfl hb3; clear hb3))
    | (go_at_call 36; (with_reducible refine ((ask_ok _ _).mono ?_)); (rintro e w1 ⟨rfl, rfl⟩))
    | (go_at_call 36; (with_reducible refine ((ask_no 1 (by decide) _).mono ?_)); (rintro e w1 ⟨rfl, rfl⟩))
    | (go_at_call 80; (with_reducible refine ((valued_b t _ V.out _).mono ?_)); (rintro e w1 ⟨rfl, rfl⟩)))
  exact ⟨rfl, ends_no E.out.symm (by decide) ⟨rfl, step (up (up0 _) _) HB3.out⟩⟩
theorem decl2_p (ex : Bool) (n : ByteArray) (t : Int) (ps : List Pa) (e : Exs) (bd : Sts) (hv : valuedB t = true) (he : e.toList.length = 1) (hp : ps.length ≠ 0) (hd : deepDe ⟨2, ex, n, t, ps, e, bd⟩ ≤ 32) (E : Hd (errD ⟨2, ex, n, t, ps, e, bd⟩ = 1)) : DeclIs ⟨2, ex, n, t, ps, e, bd⟩ := by
  intro w v hx
  have D := Hd.mk (deepDecl_any ⟨2, ex, n, t, ps, e, bd⟩)
  have X := Hd.mk hx
  obtain ⟨A1, l1, c1, A2, l2, c2, A3, l3, c3, rfl, s1, s2, s3⟩ := hx
  dsimp only at s1 s2 s3
  have HL1 := Hd.mk s1.1
  have HL2 := Hd.mk s2.1
  have HL3 := Hd.mk s3.1
  have hn1 := s1.2.1
  have hn2 := s2.2.1
  have S1 := Hd.mk s1
  have S2 := Hd.mk s2
  have S3 := Hd.mk s3
  clear s1 s2 s3
  generalize deepDe ⟨2, ex, n, t, ps, e, bd⟩ = q at *
  have q1 : decide (q ≤ 32) = true := decide_eq_true hd
  clear hd
  have V := Hd.mk hv
  clear hv
  obtain rfl : l2 = 1 := HL2.out.trans he
  have x1 : ((l1 : Int) == 0) = false := beq_eq_false_iff_ne.mpr (by have := HL1.out; omega)
  clear he
  clear hp
  go_enter Tryz.func37, Tryz.ntmps37
  go_wp2_with (first
    | (go_at_call 73; (with_reducible refine ((D.out _ _ (De.Is_below (up (up0 _) _) X.out)).mono ?_)); (rintro e w3 ⟨rfl, hb3⟩; have HB3 := Hd.mk hb3; have hc3 := bcell hb3; have hs3 := bsize1 rfl hb3; clear hb3))
    | (go_at_call 36; (with_reducible refine ((ask_ok _ _).mono ?_)); (rintro e w1 ⟨rfl, rfl⟩))
    | (go_at_call 36; (with_reducible refine ((ask_no 1 (by decide) _).mono ?_)); (rintro e w1 ⟨rfl, rfl⟩))
    | (go_at_call 80; (with_reducible refine ((valued_b t _ V.out _).mono ?_)); (rintro e w1 ⟨rfl, rfl⟩)))
  exact ⟨rfl, ends_no E.out.symm (by decide) ⟨rfl, step (up (up0 _) _) HB3.out⟩⟩
theorem decl2_b (ex : Bool) (n : ByteArray) (t : Int) (ps : List Pa) (e : Exs) (bd : Sts) (hv : valuedB t = true) (he : e.toList.length = 1) (hp : ps.length = 0) (hb : bd.toList.length ≠ 0) (hd : deepDe ⟨2, ex, n, t, ps, e, bd⟩ ≤ 32) (E : Hd (errD ⟨2, ex, n, t, ps, e, bd⟩ = 1)) : DeclIs ⟨2, ex, n, t, ps, e, bd⟩ := by
  intro w v hx
  have D := Hd.mk (deepDecl_any ⟨2, ex, n, t, ps, e, bd⟩)
  have X := Hd.mk hx
  obtain ⟨A1, l1, c1, A2, l2, c2, A3, l3, c3, rfl, s1, s2, s3⟩ := hx
  dsimp only at s1 s2 s3
  have HL1 := Hd.mk s1.1
  have HL2 := Hd.mk s2.1
  have HL3 := Hd.mk s3.1
  have hn1 := s1.2.1
  have hn2 := s2.2.1
  have S1 := Hd.mk s1
  have S2 := Hd.mk s2
  have S3 := Hd.mk s3
  clear s1 s2 s3
  generalize deepDe ⟨2, ex, n, t, ps, e, bd⟩ = q at *
  have q1 : decide (q ≤ 32) = true := decide_eq_true hd
  clear hd
  have V := Hd.mk hv
  clear hv
  obtain rfl : l2 = 1 := HL2.out.trans he
  obtain rfl : l1 = 0 := HL1.out.trans hp
  have x3 : ((l3 : Int) == 0) = false := beq_eq_false_iff_ne.mpr (by have := HL3.out; omega)
  clear he
  clear hp
  clear hb
  go_enter Tryz.func37, Tryz.ntmps37
  go_wp2_with (first
    | (go_at_call 73; (with_reducible refine ((D.out _ _ (De.Is_below (up (up0 _) _) X.out)).mono ?_)); (rintro e w3 ⟨rfl, hb3⟩; have HB3 := Hd.mk hb3; have hc3 := bcell hb3; have hs3 := bsize1 rfl hb3; clear hb3))
    | (go_at_call 36; (with_reducible refine ((ask_ok _ _).mono ?_)); (rintro e w1 ⟨rfl, rfl⟩))
    | (go_at_call 36; (with_reducible refine ((ask_no 1 (by decide) _).mono ?_)); (rintro e w1 ⟨rfl, rfl⟩))
    | (go_at_call 80; (with_reducible refine ((valued_b t _ V.out _).mono ?_)); (rintro e w1 ⟨rfl, rfl⟩)))
  exact ⟨rfl, ends_no E.out.symm (by decide) ⟨rfl, step (up (up0 _) _) HB3.out⟩⟩
theorem decl2_x (ex : Bool) (n : ByteArray) (t : Int) (ps : List Pa) (e : Exs) (bd : Sts) (hx0 : ex = true) (hv : valuedB t = true) (he : e.toList.length = 1) (hp : ps.length = 0) (hb : bd.toList.length = 0) (hd : deepDe ⟨2, ex, n, t, ps, e, bd⟩ ≤ 32) (E : Hd (errD ⟨2, ex, n, t, ps, e, bd⟩ = 1)) : DeclIs ⟨2, ex, n, t, ps, e, bd⟩ := by
  intro w v hx
  have D := Hd.mk (deepDecl_any ⟨2, ex, n, t, ps, e, bd⟩)
  have X := Hd.mk hx
  obtain ⟨A1, l1, c1, A2, l2, c2, A3, l3, c3, rfl, s1, s2, s3⟩ := hx
  dsimp only at s1 s2 s3
  have HL1 := Hd.mk s1.1
  have HL2 := Hd.mk s2.1
  have HL3 := Hd.mk s3.1
  have hn1 := s1.2.1
  have hn2 := s2.2.1
  have S1 := Hd.mk s1
  have S2 := Hd.mk s2
  have S3 := Hd.mk s3
  clear s1 s2 s3
  generalize deepDe ⟨2, ex, n, t, ps, e, bd⟩ = q at *
  have q1 : decide (q ≤ 32) = true := decide_eq_true hd
  clear hd
  have V := Hd.mk hv
  clear hv
  subst hx0
  obtain rfl : l2 = 1 := HL2.out.trans he
  obtain rfl : l1 = 0 := HL1.out.trans hp
  obtain rfl : l3 = 0 := HL3.out.trans hb
  clear he
  clear hp
  clear hb
  go_enter Tryz.func37, Tryz.ntmps37
  go_wp2_with (first
    | (go_at_call 73; (with_reducible refine ((D.out _ _ (De.Is_below (up (up0 _) _) X.out)).mono ?_)); (rintro e w3 ⟨rfl, hb3⟩; have HB3 := Hd.mk hb3; have hc3 := bcell hb3; have hs3 := bsize1 rfl hb3; clear hb3))
    | (go_at_call 36; (with_reducible refine ((ask_ok _ _).mono ?_)); (rintro e w1 ⟨rfl, rfl⟩))
    | (go_at_call 36; (with_reducible refine ((ask_no 1 (by decide) _).mono ?_)); (rintro e w1 ⟨rfl, rfl⟩))
    | (go_at_call 80; (with_reducible refine ((valued_b t _ V.out _).mono ?_)); (rintro e w1 ⟨rfl, rfl⟩)))
  exact ⟨rfl, ends_no E.out.symm (by decide) ⟨rfl, step (up (up0 _) _) HB3.out⟩⟩
theorem decl3_v (ex : Bool) (n : ByteArray) (t : Int) (ps : List Pa) (e : Exs) (bd : Sts) (ht : t ≠ 0) (hv : valuedB t = false) (hd : deepDe ⟨3, ex, n, t, ps, e, bd⟩ ≤ 32) (E : Hd (errD ⟨3, ex, n, t, ps, e, bd⟩ = 1)) : DeclIs ⟨3, ex, n, t, ps, e, bd⟩ := by
  intro w v hx
  have D := Hd.mk (deepDecl_any ⟨3, ex, n, t, ps, e, bd⟩)
  have X := Hd.mk hx
  obtain ⟨A1, l1, c1, A2, l2, c2, A3, l3, c3, rfl, s1, s2, s3⟩ := hx
  dsimp only at s1 s2 s3
  have HL1 := Hd.mk s1.1
  have HL2 := Hd.mk s2.1
  have HL3 := Hd.mk s3.1
  have hn1 := s1.2.1
  have hn2 := s2.2.1
  have S1 := Hd.mk s1
  have S2 := Hd.mk s2
  have S3 := Hd.mk s3
  clear s1 s2 s3
  generalize deepDe ⟨3, ex, n, t, ps, e, bd⟩ = q at *
  have q1 : decide (q ≤ 32) = true := decide_eq_true hd
  clear hd
  have V := Hd.mk hv
  clear hv
  have t0 : (t == 0) = false := beq_eq_false_iff_ne.mpr ht
  clear ht
  go_enter Tryz.func37, Tryz.ntmps37
  go_wp2_with (first
    | (go_at_call 73; (with_reducible refine ((D.out _ _ (De.Is_below (up (up0 _) _) X.out)).mono ?_)); (rintro e w3 ⟨rfl, hb3⟩; have HB3 := Hd.mk hb3; have hc3 := bcell hb3; have hs3 := bsize1 rfl hb3; clear hb3))
    | (go_at_call 36; (with_reducible refine ((ask_ok _ _).mono ?_)); (rintro e w1 ⟨rfl, rfl⟩))
    | (go_at_call 36; (with_reducible refine ((ask_no 1 (by decide) _).mono ?_)); (rintro e w1 ⟨rfl, rfl⟩))
    | (go_at_call 80; (with_reducible refine ((valued_b t _ V.out _).mono ?_)); (rintro e w1 ⟨rfl, rfl⟩)))
  exact ⟨rfl, ends_no E.out.symm (by decide) ⟨rfl, step (up (up0 _) _) HB3.out⟩⟩
theorem decl3_e (ex : Bool) (n : ByteArray) (t : Int) (ps : List Pa) (e : Exs) (bd : Sts) (ht : t ≠ 0) (hv : valuedB t = true) (he : e.toList.length ≠ 0) (hd : deepDe ⟨3, ex, n, t, ps, e, bd⟩ ≤ 32) (E : Hd (errD ⟨3, ex, n, t, ps, e, bd⟩ = 1)) : DeclIs ⟨3, ex, n, t, ps, e, bd⟩ := by
  intro w v hx
  have D := Hd.mk (deepDecl_any ⟨3, ex, n, t, ps, e, bd⟩)
  have X := Hd.mk hx
  obtain ⟨A1, l1, c1, A2, l2, c2, A3, l3, c3, rfl, s1, s2, s3⟩ := hx
  dsimp only at s1 s2 s3
  have HL1 := Hd.mk s1.1
  have HL2 := Hd.mk s2.1
  have HL3 := Hd.mk s3.1
  have hn1 := s1.2.1
  have hn2 := s2.2.1
  have S1 := Hd.mk s1
  have S2 := Hd.mk s2
  have S3 := Hd.mk s3
  clear s1 s2 s3
  generalize deepDe ⟨3, ex, n, t, ps, e, bd⟩ = q at *
  have q1 : decide (q ≤ 32) = true := decide_eq_true hd
  clear hd
  have V := Hd.mk hv
  clear hv
  have t0 : (t == 0) = false := beq_eq_false_iff_ne.mpr ht
  clear ht
  have x2 : ((l2 : Int) == 0) = false := beq_eq_false_iff_ne.mpr (by have := HL2.out; omega)
  clear he
  go_enter Tryz.func37, Tryz.ntmps37
  go_wp2_with (first
    | (go_at_call 73; (with_reducible refine ((D.out _ _ (De.Is_below (up (up0 _) _) X.out)).mono ?_)); (rintro e w3 ⟨rfl, hb3⟩; have HB3 := Hd.mk hb3; have hc3 := bcell hb3; have hs3 := bsize1 rfl hb3; clear hb3))
    | (go_at_call 36; (with_reducible refine ((ask_ok _ _).mono ?_)); (rintro e w1 ⟨rfl, rfl⟩))
    | (go_at_call 36; (with_reducible refine ((ask_no 1 (by decide) _).mono ?_)); (rintro e w1 ⟨rfl, rfl⟩))
    | (go_at_call 80; (with_reducible refine ((valued_b t _ V.out _).mono ?_)); (rintro e w1 ⟨rfl, rfl⟩)))
  exact ⟨rfl, ends_no E.out.symm (by decide) ⟨rfl, step (up (up0 _) _) HB3.out⟩⟩
theorem decl3_0 (ex : Bool) (n : ByteArray) (t : Int) (ps : List Pa) (e : Exs) (bd : Sts) (ht : t = 0) (he : e.toList.length ≠ 0) (hd : deepDe ⟨3, ex, n, t, ps, e, bd⟩ ≤ 32) (E : Hd (errD ⟨3, ex, n, t, ps, e, bd⟩ = 1)) : DeclIs ⟨3, ex, n, t, ps, e, bd⟩ := by
  intro w v hx
  have D := Hd.mk (deepDecl_any ⟨3, ex, n, t, ps, e, bd⟩)
  have X := Hd.mk hx
  obtain ⟨A1, l1, c1, A2, l2, c2, A3, l3, c3, rfl, s1, s2, s3⟩ := hx
  dsimp only at s1 s2 s3
  have HL1 := Hd.mk s1.1
  have HL2 := Hd.mk s2.1
  have HL3 := Hd.mk s3.1
  have hn1 := s1.2.1
  have hn2 := s2.2.1
  have S1 := Hd.mk s1
  have S2 := Hd.mk s2
  have S3 := Hd.mk s3
  clear s1 s2 s3
  generalize deepDe ⟨3, ex, n, t, ps, e, bd⟩ = q at *
  have q1 : decide (q ≤ 32) = true := decide_eq_true hd
  clear hd
  subst ht
  have x2 : ((l2 : Int) == 0) = false := beq_eq_false_iff_ne.mpr (by have := HL2.out; omega)
  clear he
  go_enter Tryz.func37, Tryz.ntmps37
  go_wp2_with (first
    | (go_at_call 73; (with_reducible refine ((D.out _ _ (De.Is_below (up (up0 _) _) X.out)).mono ?_)); (rintro e w3 ⟨rfl, hb3⟩; have HB3 := Hd.mk hb3; have hc3 := bcell hb3; have hs3 := bsize1 rfl hb3; clear hb3))
    | (go_at_call 36; (with_reducible refine ((ask_ok _ _).mono ?_)); (rintro e w1 ⟨rfl, rfl⟩))
    | (go_at_call 36; (with_reducible refine ((ask_no 1 (by decide) _).mono ?_)); (rintro e w1 ⟨rfl, rfl⟩)))
  exact ⟨rfl, ends_no E.out.symm (by decide) ⟨rfl, step (up (up0 _) _) HB3.out⟩⟩
theorem decl0 (k : Int) (ex : Bool) (n : ByteArray) (t : Int) (ps : List Pa) (e : Exs) (bd : Sts) (h1 : k ≠ 1) (h2 : k ≠ 2) (h3 : k ≠ 3) (hd : deepDe ⟨k, ex, n, t, ps, e, bd⟩ ≤ 32) (E : Hd (errD ⟨k, ex, n, t, ps, e, bd⟩ = 1)) : DeclIs ⟨k, ex, n, t, ps, e, bd⟩ := by
  intro w v hx
  have D := Hd.mk (deepDecl_any ⟨k, ex, n, t, ps, e, bd⟩)
  have X := Hd.mk hx
  obtain ⟨A1, l1, c1, A2, l2, c2, A3, l3, c3, rfl, s1, s2, s3⟩ := hx
  dsimp only at s1 s2 s3
  have HL1 := Hd.mk s1.1
  have HL2 := Hd.mk s2.1
  have HL3 := Hd.mk s3.1
  have hn1 := s1.2.1
  have hn2 := s2.2.1
  have S1 := Hd.mk s1
  have S2 := Hd.mk s2
  have S3 := Hd.mk s3
  clear s1 s2 s3
  generalize deepDe ⟨k, ex, n, t, ps, e, bd⟩ = q at *
  have q1 : decide (q ≤ 32) = true := decide_eq_true hd
  clear hd
  have f1 : (k == 1) = false := beq_eq_false_iff_ne.mpr h1
  have f2 : (k == 2) = false := beq_eq_false_iff_ne.mpr h2
  have f3 : (k == 3) = false := beq_eq_false_iff_ne.mpr h3
  clear h1 h2 h3
  go_enter Tryz.func37, Tryz.ntmps37
  go_wp2_with (first
    | (go_at_call 73; (with_reducible refine ((D.out _ _ (De.Is_below (up (up0 _) _) X.out)).mono ?_)); (rintro e w3 ⟨rfl, hb3⟩; have HB3 := Hd.mk hb3; have hc3 := bcell hb3; have hs3 := bsize1 rfl hb3; clear hb3))
    | (go_at_call 36; (with_reducible refine ((ask_ok _ _).mono ?_)); (rintro e w1 ⟨rfl, rfl⟩))
    | (go_at_call 34; (with_reducible refine ((must_b 1 (by decide) _).mono ?_)); (rintro e w1 ⟨rfl, rfl⟩)))
  exact ⟨rfl, ends_no E.out.symm (by decide) ⟨rfl, step (up (up0 _) _) HB3.out⟩⟩
theorem decl1_ok (ex : Bool) (n : ByteArray) (t : Int) (ps : List Pa) (e : Exs) (bd : Sts) (hw : De.Wf ⟨1, ex, n, t, ps, e, bd⟩) (hv : valuedB t = true) (he : e.toList.length = 1) (hp : ps.length = 0) (hb : bd.toList.length = 0) (hd : deepDe ⟨1, ex, n, t, ps, e, bd⟩ ≤ 32) (E : Hd (errD ⟨1, ex, n, t, ps, e, bd⟩ = seqI (nameErr n) (seqI (if ps.length ≤ 8 then 0 else 3) (seqI (errP ps) (seqI (errL e) (errSs bd)))))) : DeclIs ⟨1, ex, n, t, ps, e, bd⟩ := by
  intro w v hx
  have D := Hd.mk (deepDecl_any ⟨1, ex, n, t, ps, e, bd⟩)
  have X := Hd.mk hx
  obtain ⟨A1, l1, c1, A2, l2, c2, A3, l3, c3, rfl, s1, s2, s3⟩ := hx
  dsimp only at s1 s2 s3
  have HL1 := Hd.mk s1.1
  have HL2 := Hd.mk s2.1
  have HL3 := Hd.mk s3.1
  have hn1 := s1.2.1
  have hn2 := s2.2.1
  have S1 := Hd.mk s1
  have S2 := Hd.mk s2
  have S3 := Hd.mk s3
  clear s1 s2 s3
  generalize deepDe ⟨1, ex, n, t, ps, e, bd⟩ = q at *
  have q1 : decide (q ≤ 32) = true := decide_eq_true hd
  clear hd
  have V := Hd.mk hv
  clear hv
  obtain rfl : l2 = 1 := HL2.out.trans he
  obtain rfl : l1 = 0 := HL1.out.trans hp
  obtain rfl : l3 = 0 := HL3.out.trans hb
  clear he
  clear hp
  clear hb
  have NZ := Hd.mk hw.1
  have PZ := Hd.mk hw.2.1
  have EI := Hd.mk (exprIss e hw.2.2.1)
  have K3 := Hd.mk (fun w (h : Sl 5 (fun x => x.In w) bd.toList A3 0) => stmtsIs bd hw.2.2.2 w A3 0 c3 h)
  clear hw
  by_cases hq : nameErr n = 0
  rotate_left
  · have Q := Hd.mk (show nameErr n = _ from (E.out.trans (seqI_n hq)).symm)
    generalize hqq : nameErr n = q2 at *
    have HN := Hd.mk hqq
    have HQ := Hd.mk hq
    clear hqq hq
    go_enter Tryz.func37, Tryz.ntmps37
    go_wp2_with (first
      | (go_at_call 73; (with_reducible refine ((D.out _ _ (De.Is_below (up (up0 _) _) X.out)).mono ?_)); (rintro e w3 ⟨rfl, hb3⟩; have HB3 := Hd.mk hb3; have hc3 := bcell hb3; have hs3 := bsize1 rfl hb3; clear hb3))
      | (go_at_call 36; (with_reducible refine ((ask_ok _ _).mono ?_)); (rintro e w1 ⟨rfl, rfl⟩))
      | (go_at_call 80; (with_reducible refine ((valued_b t _ V.out _).mono ?_)); (rintro e w1 ⟨rfl, rfl⟩))
      | (go_at_call 35; (with_reducible refine ((nameRight n NZ.out _).mono ?_)); (rw [HN.out]; rintro e w4 ⟨rfl, hb4⟩; have HB4 := Hd.mk hb4; have hc4 := bcell hb4; have hs4 := Nat.lt_of_lt_of_le hs3 hb4.size; clear hb4))
      | (go_at_call 34; (with_reducible refine ((must_b q2 HQ.out _).mono ?_)); (rintro e w1 ⟨rfl, rfl⟩)))
    exact ⟨rfl, ends_no Q.out HQ.out ⟨rfl, step (step (up (up0 _) _) HB3.out) HB4.out⟩⟩
  have HN := Hd.mk hq
  by_cases h8 : ps.length ≤ 8
  rotate_left
  · exact absurd (show ps.length ≤ 8 by have := HL1.out; omega) h8
  have E2 := Hd.mk (show _ = seqI (errP ps) (seqI (errL e) (errSs bd)) from E.out.trans (by rw [seqI_0 hq, if_pos h8, seqI_0 rfl]))
  have g8 : decide ((0 : Int) ≤ 8) = true := decide_eq_true (by have := HL1.out; omega)
  clear h8 hq E
  go_enter Tryz.func37, Tryz.ntmps37
  go_wp2_with (first
      | (go_at_call 73; (with_reducible refine ((D.out _ _ (De.Is_below (up (up0 _) _) X.out)).mono ?_)); (rintro e w3 ⟨rfl, hb3⟩; have HB3 := Hd.mk hb3; have hc3 := bcell hb3; have hs3 := bsize1 rfl hb3; clear hb3))
      | (go_at_call 36; (with_reducible refine ((ask_ok _ _).mono ?_)); (rintro e w1 ⟨rfl, rfl⟩))
      | (go_at_call 80; (with_reducible refine ((valued_b t _ V.out _).mono ?_)); (rintro e w1 ⟨rfl, rfl⟩))
      | (go_at_call 35; (with_reducible refine ((nameRight n NZ.out _).mono ?_)); (rw [HN.out]; rintro e w4 ⟨rfl, hb4⟩; have HB4 := Hd.mk hb4; have hc4 := bcell hb4; have hs4 := Nat.lt_of_lt_of_le hs3 hb4.size; clear hb4))
      | (go_at_call 34; (with_reducible refine ((must_ok _).mono ?_)); (rintro e w1 ⟨rfl, rfl⟩)))
  have HBX := Hd.mk (step HB3.out HB4.out)
  clear hc3 hs3 hc4 hs4 HB3 HB4
  go_loopw [77] (fun i w' => ∃ (j2 : Nat) (r2 : List Pa), j2 ≤ 0 ∧ i = .int .i64 j2 ∧ r2 = ps.drop j2 ∧ errP r2 = errP ps ∧ Below (w.alloc (.cells #[.int .i64 1, .bool ex, .string n, .int .i64 t, .slice A1 0 c1, .slice A2 1 c2, .slice A3 0 c3] 47 (0, 0))).heap.size (w.alloc (.cells #[.int .i64 1, .bool ex, .string n, .int .i64 t, .slice A1 0 c1, .slice A2 1 c2, .slice A3 0 c3] 47 (0, 0))) w') (fun i _ => 0 - (intOf i).toNat)
  case atStart => exact ⟨0, ps, by omega, rfl, rfl, rfl, HBX.out⟩
  case round =>
    obtain ⟨j2, r2, hj2, rfl, hr, hd, hb⟩ := hrel
    have HR' := Hd.mk hr
    have HD' := Hd.mk hd
    have HB' := Hd.mk hb
    have hcb := bcell hb
    have hsz : w.heap.size < wr.heap.size := by have := hb.size; simp at this; omega
    clear hr hd hb HBX
    by_cases hlt2 : j2 < 0
    · exact absurd hlt2 (by omega)
    · have hnil : r2 = [] := by have := HR'.out; rw [List.drop_of_length_le (by rw [← HL1.out]; omega)] at this; exact this
      subst hnil
      clear hj2
      have E3 := Hd.mk (show errD ⟨1, ex, n, t, ps, e, bd⟩ = seqI (errL e) (errSs bd) by rw [E2.out, ← HD'.out, errP, seqI_0 rfl])
      clear HD' HR'
      go_wp2_with fail
      obtain ⟨wp, rfl⟩ : ∃ wp : World, wp = wr := ⟨_, rfl⟩
      go_loopw [93] (fun i w' => ∃ (j3 : Nat) (r3 : Exs), j3 ≤ 1 ∧ i = .int .i64 j3 ∧ r3.toList = e.toList.drop j3 ∧ errL r3 = errL e ∧ Below wp.heap.size wp w') (fun i _ => 1 - (intOf i).toNat)
      case atStart => exact ⟨0, e, by omega, rfl, rfl, rfl, Below.refl _ _⟩
      case round =>
        obtain ⟨j3, r3, hj3, rfl, hr, hd, hb⟩ := hrel
        have HR3 := Hd.mk hr
        have HD3 := Hd.mk hd
        have HB3 := Hd.mk hb
        have hcb3 := bcell hb
        have hsz3 : w.heap.size < wr.heap.size := by have := hb.size; omega
        clear hr hd hb
        by_cases hlt3 : j3 < 1
        · cases r3 with
          | nil => exfalso; have := congrArg List.length HR3.out; simp [Exs.toList] at this; have := HL2.out; omega
          | cons e1 r3 =>
          obtain ⟨m1, hr2⟩ := at_drop HR3.out
          have HR4 := Hd.mk hr2
          obtain ⟨B', o', rfl, g1⟩ := S2.out.at (by omega)
          have i1 := Ex.In_below (step (step (up (up0 _) _) HB'.out) HB3.out) e1 (g1 j3 e1 m1)
          have hx := EI.out e1 (List.mem_of_getElem? m1)
          obtain ⟨v0, v1, v2, v3, v4, v5, v6, v7, v8, a0, a1, a2, a3, a4, a5, a6, ax⟩ := Ex.In_Is i1
          have AX := Hd.mk ax
          have lt2 : B' < wr.heap.size := World.block_lt_of_cell? wr _ a0
          clear ax i1 g1 m1 hr2 hcb3
          by_cases he : errE e1 = 0
          · have EE := Hd.mk (hx.ok he)
            clear hx
            go_wp2_with (go_at_call 42; (refine ((EE.out _ _ (Ex.Is_below (up (up0 _) _) AX.out)).mono ?_)); (rintro e w5 ⟨rfl, hb5⟩; have HB5 := Hd.mk hb5; clear hb5))
            go_roundw
            case rel => exact ⟨j3 + 1, r3, by omega, by go_num, HR4.out, by rw [← HD3.out, errL, seqI_0 he], HB3.out.trans ((step (up (up0 _) _) HB5.out).mono HB3.out.size)⟩
            case measure => simp [intOf]; omega
          · have EE := Hd.mk (hx.no rfl he)
            have Q := Hd.mk (show errE e1 = errD ⟨1, ex, n, t, ps, e, bd⟩ by rw [E3.out, ← HD3.out, errL, seqI_n he, seqI_n he])
            clear hx
            go_wp2_with (go_at_call 42; (refine ((EE.out _ _ (Ex.Is_below (up (up0 _) _) AX.out)).mono ?_)); (rintro e w5 ⟨rfl, hb5⟩; have HB5 := Hd.mk hb5; clear hb5))
            exact ⟨rfl, ends_no Q.out he ⟨rfl, step (step (step (up (up0 _) _) HB'.out) HB3.out) (step (up (up0 _) _) HB5.out)⟩⟩
        · have hnil : r3 = .nil := Exs.toList_inj (b := .nil) (by have := HR3.out; rw [List.drop_of_length_le (by rw [← HL2.out]; omega)] at this; exact this)
          subst hnil
          have HBB := Hd.mk (step (step (up (up0 _) _) HB'.out) HB3.out)
          have T3 := Hd.mk (SlS_up HBB.out S3.out)
          have E4 := Hd.mk (show errSs bd = errD ⟨1, ex, n, t, ps, e, bd⟩ by rw [E3.out, ← HD3.out, errL, seqI_0 rfl])
          by_cases hb0 : errSs bd = 0
          · have K5 := Hd.mk (fun w h => (K3.out w h).mono fun _ _ g => g.1 hb0)
            go_wp2_with (go_at_call 81; (with_reducible refine ((K5.out _ T3.out).mono ?_)); (rintro e w5 ⟨rfl, hb5⟩; have HB5 := Hd.mk hb5; clear hb5))
            go_end0
            exact ends_ok (E4.out.symm.trans hb0) ⟨rfl, step HBB.out HB5.out⟩
          · have K5 := Hd.mk (fun w h => (K3.out w h).mono fun _ _ g => g.2 hb0)
            go_wp2_with (go_at_call 81; (with_reducible refine ((K5.out _ T3.out).mono ?_)); (rintro e w5 ⟨rfl, hb5⟩; have HB5 := Hd.mk hb5; clear hb5))
            exact ⟨rfl, ends_no E4.out hb0 ⟨rfl, step HBB.out HB5.out⟩⟩
theorem decl2_ok (ex : Bool) (n : ByteArray) (t : Int) (ps : List Pa) (e : Exs) (bd : Sts) (hw : De.Wf ⟨2, ex, n, t, ps, e, bd⟩) (hx0 : ex = false) (hv : valuedB t = true) (he : e.toList.length = 1) (hp : ps.length = 0) (hb : bd.toList.length = 0) (hd : deepDe ⟨2, ex, n, t, ps, e, bd⟩ ≤ 32) (E : Hd (errD ⟨2, ex, n, t, ps, e, bd⟩ = seqI (nameErr n) (seqI (if ps.length ≤ 8 then 0 else 3) (seqI (errP ps) (seqI (errL e) (errSs bd)))))) : DeclIs ⟨2, ex, n, t, ps, e, bd⟩ := by
  intro w v hx
  have D := Hd.mk (deepDecl_any ⟨2, ex, n, t, ps, e, bd⟩)
  have X := Hd.mk hx
  obtain ⟨A1, l1, c1, A2, l2, c2, A3, l3, c3, rfl, s1, s2, s3⟩ := hx
  dsimp only at s1 s2 s3
  have HL1 := Hd.mk s1.1
  have HL2 := Hd.mk s2.1
  have HL3 := Hd.mk s3.1
  have hn1 := s1.2.1
  have hn2 := s2.2.1
  have S1 := Hd.mk s1
  have S2 := Hd.mk s2
  have S3 := Hd.mk s3
  clear s1 s2 s3
  generalize deepDe ⟨2, ex, n, t, ps, e, bd⟩ = q at *
  have q1 : decide (q ≤ 32) = true := decide_eq_true hd
  clear hd
  subst hx0
  have V := Hd.mk hv
  clear hv
  obtain rfl : l2 = 1 := HL2.out.trans he
  obtain rfl : l1 = 0 := HL1.out.trans hp
  obtain rfl : l3 = 0 := HL3.out.trans hb
  clear he
  clear hp
  clear hb
  have NZ := Hd.mk hw.1
  have PZ := Hd.mk hw.2.1
  have EI := Hd.mk (exprIss e hw.2.2.1)
  have K3 := Hd.mk (fun w (h : Sl 5 (fun x => x.In w) bd.toList A3 0) => stmtsIs bd hw.2.2.2 w A3 0 c3 h)
  clear hw
  by_cases hq : nameErr n = 0
  rotate_left
  · have Q := Hd.mk (show nameErr n = _ from (E.out.trans (seqI_n hq)).symm)
    generalize hqq : nameErr n = q2 at *
    have HN := Hd.mk hqq
    have HQ := Hd.mk hq
    clear hqq hq
    go_enter Tryz.func37, Tryz.ntmps37
    go_wp2_with (first
      | (go_at_call 73; (with_reducible refine ((D.out _ _ (De.Is_below (up (up0 _) _) X.out)).mono ?_)); (rintro e w3 ⟨rfl, hb3⟩; have HB3 := Hd.mk hb3; have hc3 := bcell hb3; have hs3 := bsize1 rfl hb3; clear hb3))
      | (go_at_call 36; (with_reducible refine ((ask_ok _ _).mono ?_)); (rintro e w1 ⟨rfl, rfl⟩))
      | (go_at_call 80; (with_reducible refine ((valued_b t _ V.out _).mono ?_)); (rintro e w1 ⟨rfl, rfl⟩))
      | (go_at_call 35; (with_reducible refine ((nameRight n NZ.out _).mono ?_)); (rw [HN.out]; rintro e w4 ⟨rfl, hb4⟩; have HB4 := Hd.mk hb4; have hc4 := bcell hb4; have hs4 := Nat.lt_of_lt_of_le hs3 hb4.size; clear hb4))
      | (go_at_call 34; (with_reducible refine ((must_b q2 HQ.out _).mono ?_)); (rintro e w1 ⟨rfl, rfl⟩)))
    exact ⟨rfl, ends_no Q.out HQ.out ⟨rfl, step (step (up (up0 _) _) HB3.out) HB4.out⟩⟩
  have HN := Hd.mk hq
  by_cases h8 : ps.length ≤ 8
  rotate_left
  · exact absurd (show ps.length ≤ 8 by have := HL1.out; omega) h8
  have E2 := Hd.mk (show _ = seqI (errP ps) (seqI (errL e) (errSs bd)) from E.out.trans (by rw [seqI_0 hq, if_pos h8, seqI_0 rfl]))
  have g8 : decide ((0 : Int) ≤ 8) = true := decide_eq_true (by have := HL1.out; omega)
  clear h8 hq E
  go_enter Tryz.func37, Tryz.ntmps37
  go_wp2_with (first
      | (go_at_call 73; (with_reducible refine ((D.out _ _ (De.Is_below (up (up0 _) _) X.out)).mono ?_)); (rintro e w3 ⟨rfl, hb3⟩; have HB3 := Hd.mk hb3; have hc3 := bcell hb3; have hs3 := bsize1 rfl hb3; clear hb3))
      | (go_at_call 36; (with_reducible refine ((ask_ok _ _).mono ?_)); (rintro e w1 ⟨rfl, rfl⟩))
      | (go_at_call 80; (with_reducible refine ((valued_b t _ V.out _).mono ?_)); (rintro e w1 ⟨rfl, rfl⟩))
      | (go_at_call 35; (with_reducible refine ((nameRight n NZ.out _).mono ?_)); (rw [HN.out]; rintro e w4 ⟨rfl, hb4⟩; have HB4 := Hd.mk hb4; have hc4 := bcell hb4; have hs4 := Nat.lt_of_lt_of_le hs3 hb4.size; clear hb4))
      | (go_at_call 34; (with_reducible refine ((must_ok _).mono ?_)); (rintro e w1 ⟨rfl, rfl⟩)))
  have HBX := Hd.mk (step HB3.out HB4.out)
  clear hc3 hs3 hc4 hs4 HB3 HB4
  go_loopw [77] (fun i w' => ∃ (j2 : Nat) (r2 : List Pa), j2 ≤ 0 ∧ i = .int .i64 j2 ∧ r2 = ps.drop j2 ∧ errP r2 = errP ps ∧ Below (w.alloc (.cells #[.int .i64 2, .bool false, .string n, .int .i64 t, .slice A1 0 c1, .slice A2 1 c2, .slice A3 0 c3] 47 (0, 0))).heap.size (w.alloc (.cells #[.int .i64 2, .bool false, .string n, .int .i64 t, .slice A1 0 c1, .slice A2 1 c2, .slice A3 0 c3] 47 (0, 0))) w') (fun i _ => 0 - (intOf i).toNat)
  case atStart => exact ⟨0, ps, by omega, rfl, rfl, rfl, HBX.out⟩
  case round =>
    obtain ⟨j2, r2, hj2, rfl, hr, hd, hb⟩ := hrel
    have HR' := Hd.mk hr
    have HD' := Hd.mk hd
    have HB' := Hd.mk hb
    have hcb := bcell hb
    have hsz : w.heap.size < wr.heap.size := by have := hb.size; simp at this; omega
    clear hr hd hb HBX
    by_cases hlt2 : j2 < 0
    · exact absurd hlt2 (by omega)
    · have hnil : r2 = [] := by have := HR'.out; rw [List.drop_of_length_le (by rw [← HL1.out]; omega)] at this; exact this
      subst hnil
      clear hj2
      have E3 := Hd.mk (show errD ⟨2, false, n, t, ps, e, bd⟩ = seqI (errL e) (errSs bd) by rw [E2.out, ← HD'.out, errP, seqI_0 rfl])
      clear HD' HR'
      go_wp2_with fail
      obtain ⟨wp, rfl⟩ : ∃ wp : World, wp = wr := ⟨_, rfl⟩
      go_loopw [93] (fun i w' => ∃ (j3 : Nat) (r3 : Exs), j3 ≤ 1 ∧ i = .int .i64 j3 ∧ r3.toList = e.toList.drop j3 ∧ errL r3 = errL e ∧ Below wp.heap.size wp w') (fun i _ => 1 - (intOf i).toNat)
      case atStart => exact ⟨0, e, by omega, rfl, rfl, rfl, Below.refl _ _⟩
      case round =>
        obtain ⟨j3, r3, hj3, rfl, hr, hd, hb⟩ := hrel
        have HR3 := Hd.mk hr
        have HD3 := Hd.mk hd
        have HB3 := Hd.mk hb
        have hcb3 := bcell hb
        have hsz3 : w.heap.size < wr.heap.size := by have := hb.size; omega
        clear hr hd hb
        by_cases hlt3 : j3 < 1
        · cases r3 with
          | nil => exfalso; have := congrArg List.length HR3.out; simp [Exs.toList] at this; have := HL2.out; omega
          | cons e1 r3 =>
          obtain ⟨m1, hr2⟩ := at_drop HR3.out
          have HR4 := Hd.mk hr2
          obtain ⟨B', o', rfl, g1⟩ := S2.out.at (by omega)
          have i1 := Ex.In_below (step (step (up (up0 _) _) HB'.out) HB3.out) e1 (g1 j3 e1 m1)
          have hx := EI.out e1 (List.mem_of_getElem? m1)
          obtain ⟨v0, v1, v2, v3, v4, v5, v6, v7, v8, a0, a1, a2, a3, a4, a5, a6, ax⟩ := Ex.In_Is i1
          have AX := Hd.mk ax
          have lt2 : B' < wr.heap.size := World.block_lt_of_cell? wr _ a0
          clear ax i1 g1 m1 hr2 hcb3
          by_cases he : errE e1 = 0
          · have EE := Hd.mk (hx.ok he)
            clear hx
            go_wp2_with (go_at_call 42; (refine ((EE.out _ _ (Ex.Is_below (up (up0 _) _) AX.out)).mono ?_)); (rintro e w5 ⟨rfl, hb5⟩; have HB5 := Hd.mk hb5; clear hb5))
            go_roundw
            case rel => exact ⟨j3 + 1, r3, by omega, by go_num, HR4.out, by rw [← HD3.out, errL, seqI_0 he], HB3.out.trans ((step (up (up0 _) _) HB5.out).mono HB3.out.size)⟩
            case measure => simp [intOf]; omega
          · have EE := Hd.mk (hx.no rfl he)
            have Q := Hd.mk (show errE e1 = errD ⟨2, false, n, t, ps, e, bd⟩ by rw [E3.out, ← HD3.out, errL, seqI_n he, seqI_n he])
            clear hx
            go_wp2_with (go_at_call 42; (refine ((EE.out _ _ (Ex.Is_below (up (up0 _) _) AX.out)).mono ?_)); (rintro e w5 ⟨rfl, hb5⟩; have HB5 := Hd.mk hb5; clear hb5))
            exact ⟨rfl, ends_no Q.out he ⟨rfl, step (step (step (up (up0 _) _) HB'.out) HB3.out) (step (up (up0 _) _) HB5.out)⟩⟩
        · have hnil : r3 = .nil := Exs.toList_inj (b := .nil) (by have := HR3.out; rw [List.drop_of_length_le (by rw [← HL2.out]; omega)] at this; exact this)
          subst hnil
          have HBB := Hd.mk (step (step (up (up0 _) _) HB'.out) HB3.out)
          have T3 := Hd.mk (SlS_up HBB.out S3.out)
          have E4 := Hd.mk (show errSs bd = errD ⟨2, false, n, t, ps, e, bd⟩ by rw [E3.out, ← HD3.out, errL, seqI_0 rfl])
          by_cases hb0 : errSs bd = 0
          · have K5 := Hd.mk (fun w h => (K3.out w h).mono fun _ _ g => g.1 hb0)
            go_wp2_with (go_at_call 81; (with_reducible refine ((K5.out _ T3.out).mono ?_)); (rintro e w5 ⟨rfl, hb5⟩; have HB5 := Hd.mk hb5; clear hb5))
            go_end0
            exact ends_ok (E4.out.symm.trans hb0) ⟨rfl, step HBB.out HB5.out⟩
          · have K5 := Hd.mk (fun w h => (K3.out w h).mono fun _ _ g => g.2 hb0)
            go_wp2_with (go_at_call 81; (with_reducible refine ((K5.out _ T3.out).mono ?_)); (rintro e w5 ⟨rfl, hb5⟩; have HB5 := Hd.mk hb5; clear hb5))
            exact ⟨rfl, ends_no E4.out hb0 ⟨rfl, step HBB.out HB5.out⟩⟩
theorem decl3_ok0 (ex : Bool) (n : ByteArray) (t : Int) (ps : List Pa) (e : Exs) (bd : Sts) (hw : De.Wf ⟨3, ex, n, t, ps, e, bd⟩) (ht : t = 0) (he : e.toList.length = 0) (hd : deepDe ⟨3, ex, n, t, ps, e, bd⟩ ≤ 32) (E : Hd (errD ⟨3, ex, n, t, ps, e, bd⟩ = seqI (nameErr n) (seqI (if ps.length ≤ 8 then 0 else 3) (seqI (errP ps) (seqI (errL e) (errSs bd)))))) : DeclIs ⟨3, ex, n, t, ps, e, bd⟩ := by
  intro w v hx
  have D := Hd.mk (deepDecl_any ⟨3, ex, n, t, ps, e, bd⟩)
  have X := Hd.mk hx
  obtain ⟨A1, l1, c1, A2, l2, c2, A3, l3, c3, rfl, s1, s2, s3⟩ := hx
  dsimp only at s1 s2 s3
  have HL1 := Hd.mk s1.1
  have HL2 := Hd.mk s2.1
  have HL3 := Hd.mk s3.1
  have hn1 := s1.2.1
  have hn2 := s2.2.1
  have S1 := Hd.mk s1
  have S2 := Hd.mk s2
  have S3 := Hd.mk s3
  clear s1 s2 s3
  generalize deepDe ⟨3, ex, n, t, ps, e, bd⟩ = q at *
  have q1 : decide (q ≤ 32) = true := decide_eq_true hd
  clear hd
  subst ht
  obtain rfl : l2 = 0 := HL2.out.trans he
  clear he
  have NZ := Hd.mk hw.1
  have PZ := Hd.mk hw.2.1
  have EI := Hd.mk (exprIss e hw.2.2.1)
  have K3 := Hd.mk (fun w (h : Sl 5 (fun x => x.In w) bd.toList A3 l3) => stmtsIs bd hw.2.2.2 w A3 l3 c3 h)
  clear hw
  by_cases hq : nameErr n = 0
  rotate_left
  · have Q := Hd.mk (show nameErr n = _ from (E.out.trans (seqI_n hq)).symm)
    generalize hqq : nameErr n = q2 at *
    have HN := Hd.mk hqq
    have HQ := Hd.mk hq
    clear hqq hq
    go_enter Tryz.func37, Tryz.ntmps37
    go_wp2_with (first
      | (go_at_call 73; (with_reducible refine ((D.out _ _ (De.Is_below (up (up0 _) _) X.out)).mono ?_)); (rintro e w3 ⟨rfl, hb3⟩; have HB3 := Hd.mk hb3; have hc3 := bcell hb3; have hs3 := bsize1 rfl hb3; clear hb3))
      | (go_at_call 36; (with_reducible refine ((ask_ok _ _).mono ?_)); (rintro e w1 ⟨rfl, rfl⟩))
      | (go_at_call 35; (with_reducible refine ((nameRight n NZ.out _).mono ?_)); (rw [HN.out]; rintro e w4 ⟨rfl, hb4⟩; have HB4 := Hd.mk hb4; have hc4 := bcell hb4; have hs4 := Nat.lt_of_lt_of_le hs3 hb4.size; clear hb4))
      | (go_at_call 34; (with_reducible refine ((must_b q2 HQ.out _).mono ?_)); (rintro e w1 ⟨rfl, rfl⟩)))
    exact ⟨rfl, ends_no Q.out HQ.out ⟨rfl, step (step (up (up0 _) _) HB3.out) HB4.out⟩⟩
  have HN := Hd.mk hq
  by_cases h8 : ps.length ≤ 8
  rotate_left
  · have Q := Hd.mk (show (3 : Int) = _ from (E.out.trans (by rw [seqI_0 hq, if_neg h8, seqI_n (by decide)])).symm)
    have g8 : decide ((l1 : Int) ≤ 8) = false := decide_eq_false (by have := HL1.out; omega)
    clear h8 hq
    go_enter Tryz.func37, Tryz.ntmps37
    go_wp2_with (first
      | (go_at_call 73; (with_reducible refine ((D.out _ _ (De.Is_below (up (up0 _) _) X.out)).mono ?_)); (rintro e w3 ⟨rfl, hb3⟩; have HB3 := Hd.mk hb3; have hc3 := bcell hb3; have hs3 := bsize1 rfl hb3; clear hb3))
      | (go_at_call 36; (with_reducible refine ((ask_ok _ _).mono ?_)); (rintro e w1 ⟨rfl, rfl⟩))
      | (go_at_call 35; (with_reducible refine ((nameRight n NZ.out _).mono ?_)); (rw [HN.out]; rintro e w4 ⟨rfl, hb4⟩; have HB4 := Hd.mk hb4; have hc4 := bcell hb4; have hs4 := Nat.lt_of_lt_of_le hs3 hb4.size; clear hb4))
      | (go_at_call 36; (with_reducible refine ((ask_no 3 (by decide) _).mono ?_)); (rintro e w1 ⟨rfl, rfl⟩))
      | (go_at_call 34; (with_reducible refine ((must_ok _).mono ?_)); (rintro e w1 ⟨rfl, rfl⟩)))
    exact ⟨rfl, ends_no Q.out (by decide) ⟨rfl, step (step (up (up0 _) _) HB3.out) HB4.out⟩⟩
  have E2 := Hd.mk (show _ = seqI (errP ps) (seqI (errL e) (errSs bd)) from E.out.trans (by rw [seqI_0 hq, if_pos h8, seqI_0 rfl]))
  have g8 : decide ((l1 : Int) ≤ 8) = true := decide_eq_true (by have := HL1.out; omega)
  clear h8 hq E
  go_enter Tryz.func37, Tryz.ntmps37
  go_wp2_with (first
      | (go_at_call 73; (with_reducible refine ((D.out _ _ (De.Is_below (up (up0 _) _) X.out)).mono ?_)); (rintro e w3 ⟨rfl, hb3⟩; have HB3 := Hd.mk hb3; have hc3 := bcell hb3; have hs3 := bsize1 rfl hb3; clear hb3))
      | (go_at_call 36; (with_reducible refine ((ask_ok _ _).mono ?_)); (rintro e w1 ⟨rfl, rfl⟩))
      | (go_at_call 35; (with_reducible refine ((nameRight n NZ.out _).mono ?_)); (rw [HN.out]; rintro e w4 ⟨rfl, hb4⟩; have HB4 := Hd.mk hb4; have hc4 := bcell hb4; have hs4 := Nat.lt_of_lt_of_le hs3 hb4.size; clear hb4))
      | (go_at_call 34; (with_reducible refine ((must_ok _).mono ?_)); (rintro e w1 ⟨rfl, rfl⟩)))
  have HBX := Hd.mk (step HB3.out HB4.out)
  clear hc3 hs3 hc4 hs4 HB3 HB4
  go_loopw [77] (fun i w' => ∃ (j2 : Nat) (r2 : List Pa), j2 ≤ l1 ∧ i = .int .i64 j2 ∧ r2 = ps.drop j2 ∧ errP r2 = errP ps ∧ Below (w.alloc (.cells #[.int .i64 3, .bool ex, .string n, .int .i64 0, .slice A1 l1 c1, .slice A2 0 c2, .slice A3 l3 c3] 47 (0, 0))).heap.size (w.alloc (.cells #[.int .i64 3, .bool ex, .string n, .int .i64 0, .slice A1 l1 c1, .slice A2 0 c2, .slice A3 l3 c3] 47 (0, 0))) w') (fun i _ => l1 - (intOf i).toNat)
  case atStart => exact ⟨0, ps, by omega, rfl, rfl, rfl, HBX.out⟩
  case round =>
    obtain ⟨j2, r2, hj2, rfl, hr, hd, hb⟩ := hrel
    have HR' := Hd.mk hr
    have HD' := Hd.mk hd
    have HB' := Hd.mk hb
    have hcb := bcell hb
    have hsz : w.heap.size < wr.heap.size := by have := hb.size; simp at this; omega
    clear hr hd hb HBX
    by_cases hlt2 : j2 < l1
    · cases r2 with
      | nil => exfalso; have := congrArg List.length HR'.out; simp at this; have := HL1.out; omega
      | cons p r2 =>
      obtain ⟨m1, hr2⟩ := at_drop HR'.out
      have HR2' := Hd.mk hr2
      obtain ⟨B', o', rfl, g1⟩ := S1.out.at (by omega)
      have i1 := Pa.In_below (step (up (up0 _) _) HB'.out) p (g1 j2 p m1)
      have hz := PZ.out p (List.mem_of_getElem? m1)
      obtain ⟨a0, a1⟩ := i1
      have PZ1 := Hd.mk hz
      have lt2 : B' < wr.heap.size := World.block_lt_of_cell? wr _ a0
      obtain ⟨pn, pt⟩ := p
      dsimp only at *
      clear g1 m1 hr2 hz
      by_cases hq : nameErr pn = 0
      rotate_left
      · have Q := Hd.mk (show nameErr pn = errD ⟨3, ex, n, 0, ps, e, bd⟩ from by rw [E2.out, ← HD'.out, errP, seqI_n hq, seqI_n hq])
        generalize hqq : nameErr pn = q2 at *
        have HN2 := Hd.mk hqq
        have HQ := Hd.mk hq
        clear hqq hq
        go_wp2_with (first
          | (go_at_call 35; (with_reducible refine ((nameRight pn PZ1.out _).mono ?_)); (rw [HN2.out]; rintro e w5 ⟨rfl, hb5⟩; have HB5 := Hd.mk hb5; have hc5 := bcell hb5; have hs5 := bsize1 rfl hb5; clear hb5))
          | (go_at_call 34; (with_reducible refine ((must_b q2 HQ.out _).mono ?_)); (rintro e w1 ⟨rfl, rfl⟩)))
        exact ⟨rfl, ends_no Q.out HQ.out ⟨rfl, step (step (up (up0 _) _) HB'.out) (step (up (up0 _) _) HB5.out)⟩⟩
      have HN2 := Hd.mk hq
      by_cases hv2 : valuedB pt = true
      · have V2 := Hd.mk hv2
        have HDn := Hd.mk (show errP r2 = errP ps by rw [← HD'.out, errP, seqI_0 hq]; dsimp only; rw [if_pos hv2, seqI_0 rfl])
        clear hq hv2
        go_wp2_with (first
          | (go_at_call 35; (with_reducible refine ((nameRight pn PZ1.out _).mono ?_)); (rw [HN2.out]; rintro e w5 ⟨rfl, hb5⟩; have HB5 := Hd.mk hb5; have hc5 := bcell hb5; have hs5 := bsize1 rfl hb5; clear hb5))
          | (go_at_call 34; (with_reducible refine ((must_ok _).mono ?_)); (rintro e w1 ⟨rfl, rfl⟩))
          | (go_at_call 36; (with_reducible refine ((ask_ok _ _).mono ?_)); (rintro e w1 ⟨rfl, rfl⟩))
          | (go_at_call 80; (with_reducible refine ((valued_b pt _ V2.out _).mono ?_)); (rintro e w1 ⟨rfl, rfl⟩)))
        go_roundw
        case rel => exact ⟨j2 + 1, r2, by omega, by go_num, HR2'.out, HDn.out, HB'.out.trans ((step (up (up0 _) _) HB5.out).mono HB'.out.size)⟩
        case measure => simp [intOf]; omega
      · have hv3 : valuedB pt = false := by simpa using hv2
        have V2 := Hd.mk hv3
        have Q := Hd.mk (show (1 : Int) = errD ⟨3, ex, n, 0, ps, e, bd⟩ from by rw [E2.out, ← HD'.out, errP, seqI_0 hq]; dsimp only; rw [if_neg hv2, seqI_n (show (1 : Int) ≠ 0 by decide), seqI_n (show (1 : Int) ≠ 0 by decide)])
        clear hq hv2 hv3
        go_wp2_with (first
          | (go_at_call 35; (with_reducible refine ((nameRight pn PZ1.out _).mono ?_)); (rw [HN2.out]; rintro e w5 ⟨rfl, hb5⟩; have HB5 := Hd.mk hb5; have hc5 := bcell hb5; have hs5 := bsize1 rfl hb5; clear hb5))
          | (go_at_call 34; (with_reducible refine ((must_ok _).mono ?_)); (rintro e w1 ⟨rfl, rfl⟩))
          | (go_at_call 36; (with_reducible refine ((ask_no 1 (by decide) _).mono ?_)); (rintro e w1 ⟨rfl, rfl⟩))
          | (go_at_call 80; (with_reducible refine ((valued_b pt _ V2.out _).mono ?_)); (rintro e w1 ⟨rfl, rfl⟩)))
        exact ⟨rfl, ends_no Q.out (by decide) ⟨rfl, step (step (up (up0 _) _) HB'.out) (step (up (up0 _) _) HB5.out)⟩⟩
    · have hnil : r2 = [] := by have := HR'.out; rw [List.drop_of_length_le (by rw [← HL1.out]; omega)] at this; exact this
      subst hnil
      clear hj2
      have E3 := Hd.mk (show errD ⟨3, ex, n, 0, ps, e, bd⟩ = seqI (errL e) (errSs bd) by rw [E2.out, ← HD'.out, errP, seqI_0 rfl])
      clear HD' HR'
      go_wp2_with fail
      obtain ⟨wp, rfl⟩ : ∃ wp : World, wp = wr := ⟨_, rfl⟩
      go_loopw [93] (fun i w' => ∃ (j3 : Nat) (r3 : Exs), j3 ≤ 0 ∧ i = .int .i64 j3 ∧ r3.toList = e.toList.drop j3 ∧ errL r3 = errL e ∧ Below wp.heap.size wp w') (fun i _ => 0 - (intOf i).toNat)
      case atStart => exact ⟨0, e, by omega, rfl, rfl, rfl, Below.refl _ _⟩
      case round =>
        obtain ⟨j3, r3, hj3, rfl, hr, hd, hb⟩ := hrel
        have HR3 := Hd.mk hr
        have HD3 := Hd.mk hd
        have HB3 := Hd.mk hb
        have hcb3 := bcell hb
        have hsz3 : w.heap.size < wr.heap.size := by have := hb.size; omega
        clear hr hd hb
        by_cases hlt3 : j3 < 0
        · exact absurd hlt3 (by omega)
        · have hnil : r3 = .nil := Exs.toList_inj (b := .nil) (by have := HR3.out; rw [List.drop_of_length_le (by rw [← HL2.out]; omega)] at this; exact this)
          subst hnil
          have HBB := Hd.mk (step (step (up (up0 _) _) HB'.out) HB3.out)
          have T3 := Hd.mk (SlS_up HBB.out S3.out)
          have E4 := Hd.mk (show errSs bd = errD ⟨3, ex, n, 0, ps, e, bd⟩ by rw [E3.out, ← HD3.out, errL, seqI_0 rfl])
          by_cases hb0 : errSs bd = 0
          · have K5 := Hd.mk (fun w h => (K3.out w h).mono fun _ _ g => g.1 hb0)
            go_wp2_with (go_at_call 81; (with_reducible refine ((K5.out _ T3.out).mono ?_)); (rintro e w5 ⟨rfl, hb5⟩; have HB5 := Hd.mk hb5; clear hb5))
            go_end0
            exact ends_ok (E4.out.symm.trans hb0) ⟨rfl, step HBB.out HB5.out⟩
          · have K5 := Hd.mk (fun w h => (K3.out w h).mono fun _ _ g => g.2 hb0)
            go_wp2_with (go_at_call 81; (with_reducible refine ((K5.out _ T3.out).mono ?_)); (rintro e w5 ⟨rfl, hb5⟩; have HB5 := Hd.mk hb5; clear hb5))
            exact ⟨rfl, ends_no E4.out hb0 ⟨rfl, step HBB.out HB5.out⟩⟩
theorem decl3_okv (ex : Bool) (n : ByteArray) (t : Int) (ps : List Pa) (e : Exs) (bd : Sts) (hw : De.Wf ⟨3, ex, n, t, ps, e, bd⟩) (ht : t ≠ 0) (hv : valuedB t = true) (he : e.toList.length = 0) (hd : deepDe ⟨3, ex, n, t, ps, e, bd⟩ ≤ 32) (E : Hd (errD ⟨3, ex, n, t, ps, e, bd⟩ = seqI (nameErr n) (seqI (if ps.length ≤ 8 then 0 else 3) (seqI (errP ps) (seqI (errL e) (errSs bd)))))) : DeclIs ⟨3, ex, n, t, ps, e, bd⟩ := by
  intro w v hx
  have D := Hd.mk (deepDecl_any ⟨3, ex, n, t, ps, e, bd⟩)
  have X := Hd.mk hx
  obtain ⟨A1, l1, c1, A2, l2, c2, A3, l3, c3, rfl, s1, s2, s3⟩ := hx
  dsimp only at s1 s2 s3
  have HL1 := Hd.mk s1.1
  have HL2 := Hd.mk s2.1
  have HL3 := Hd.mk s3.1
  have hn1 := s1.2.1
  have hn2 := s2.2.1
  have S1 := Hd.mk s1
  have S2 := Hd.mk s2
  have S3 := Hd.mk s3
  clear s1 s2 s3
  generalize deepDe ⟨3, ex, n, t, ps, e, bd⟩ = q at *
  have q1 : decide (q ≤ 32) = true := decide_eq_true hd
  clear hd
  have V := Hd.mk hv
  clear hv
  have t0 : (t == 0) = false := beq_eq_false_iff_ne.mpr ht
  clear ht
  obtain rfl : l2 = 0 := HL2.out.trans he
  clear he
  have NZ := Hd.mk hw.1
  have PZ := Hd.mk hw.2.1
  have EI := Hd.mk (exprIss e hw.2.2.1)
  have K3 := Hd.mk (fun w (h : Sl 5 (fun x => x.In w) bd.toList A3 l3) => stmtsIs bd hw.2.2.2 w A3 l3 c3 h)
  clear hw
  by_cases hq : nameErr n = 0
  rotate_left
  · have Q := Hd.mk (show nameErr n = _ from (E.out.trans (seqI_n hq)).symm)
    generalize hqq : nameErr n = q2 at *
    have HN := Hd.mk hqq
    have HQ := Hd.mk hq
    clear hqq hq
    go_enter Tryz.func37, Tryz.ntmps37
    go_wp2_with (first
      | (go_at_call 73; (with_reducible refine ((D.out _ _ (De.Is_below (up (up0 _) _) X.out)).mono ?_)); (rintro e w3 ⟨rfl, hb3⟩; have HB3 := Hd.mk hb3; have hc3 := bcell hb3; have hs3 := bsize1 rfl hb3; clear hb3))
      | (go_at_call 36; (with_reducible refine ((ask_ok _ _).mono ?_)); (rintro e w1 ⟨rfl, rfl⟩))
      | (go_at_call 80; (with_reducible refine ((valued_b t _ V.out _).mono ?_)); (rintro e w1 ⟨rfl, rfl⟩))
      | (go_at_call 35; (with_reducible refine ((nameRight n NZ.out _).mono ?_)); (rw [HN.out]; rintro e w4 ⟨rfl, hb4⟩; have HB4 := Hd.mk hb4; have hc4 := bcell hb4; have hs4 := Nat.lt_of_lt_of_le hs3 hb4.size; clear hb4))
      | (go_at_call 34; (with_reducible refine ((must_b q2 HQ.out _).mono ?_)); (rintro e w1 ⟨rfl, rfl⟩)))
    exact ⟨rfl, ends_no Q.out HQ.out ⟨rfl, step (step (up (up0 _) _) HB3.out) HB4.out⟩⟩
  have HN := Hd.mk hq
  by_cases h8 : ps.length ≤ 8
  rotate_left
  · have Q := Hd.mk (show (3 : Int) = _ from (E.out.trans (by rw [seqI_0 hq, if_neg h8, seqI_n (by decide)])).symm)
    have g8 : decide ((l1 : Int) ≤ 8) = false := decide_eq_false (by have := HL1.out; omega)
    clear h8 hq
    go_enter Tryz.func37, Tryz.ntmps37
    go_wp2_with (first
      | (go_at_call 73; (with_reducible refine ((D.out _ _ (De.Is_below (up (up0 _) _) X.out)).mono ?_)); (rintro e w3 ⟨rfl, hb3⟩; have HB3 := Hd.mk hb3; have hc3 := bcell hb3; have hs3 := bsize1 rfl hb3; clear hb3))
      | (go_at_call 36; (with_reducible refine ((ask_ok _ _).mono ?_)); (rintro e w1 ⟨rfl, rfl⟩))
      | (go_at_call 80; (with_reducible refine ((valued_b t _ V.out _).mono ?_)); (rintro e w1 ⟨rfl, rfl⟩))
      | (go_at_call 35; (with_reducible refine ((nameRight n NZ.out _).mono ?_)); (rw [HN.out]; rintro e w4 ⟨rfl, hb4⟩; have HB4 := Hd.mk hb4; have hc4 := bcell hb4; have hs4 := Nat.lt_of_lt_of_le hs3 hb4.size; clear hb4))
      | (go_at_call 36; (with_reducible refine ((ask_no 3 (by decide) _).mono ?_)); (rintro e w1 ⟨rfl, rfl⟩))
      | (go_at_call 34; (with_reducible refine ((must_ok _).mono ?_)); (rintro e w1 ⟨rfl, rfl⟩)))
    exact ⟨rfl, ends_no Q.out (by decide) ⟨rfl, step (step (up (up0 _) _) HB3.out) HB4.out⟩⟩
  have E2 := Hd.mk (show _ = seqI (errP ps) (seqI (errL e) (errSs bd)) from E.out.trans (by rw [seqI_0 hq, if_pos h8, seqI_0 rfl]))
  have g8 : decide ((l1 : Int) ≤ 8) = true := decide_eq_true (by have := HL1.out; omega)
  clear h8 hq E
  go_enter Tryz.func37, Tryz.ntmps37
  go_wp2_with (first
      | (go_at_call 73; (with_reducible refine ((D.out _ _ (De.Is_below (up (up0 _) _) X.out)).mono ?_)); (rintro e w3 ⟨rfl, hb3⟩; have HB3 := Hd.mk hb3; have hc3 := bcell hb3; have hs3 := bsize1 rfl hb3; clear hb3))
      | (go_at_call 36; (with_reducible refine ((ask_ok _ _).mono ?_)); (rintro e w1 ⟨rfl, rfl⟩))
      | (go_at_call 80; (with_reducible refine ((valued_b t _ V.out _).mono ?_)); (rintro e w1 ⟨rfl, rfl⟩))
      | (go_at_call 35; (with_reducible refine ((nameRight n NZ.out _).mono ?_)); (rw [HN.out]; rintro e w4 ⟨rfl, hb4⟩; have HB4 := Hd.mk hb4; have hc4 := bcell hb4; have hs4 := Nat.lt_of_lt_of_le hs3 hb4.size; clear hb4))
      | (go_at_call 34; (with_reducible refine ((must_ok _).mono ?_)); (rintro e w1 ⟨rfl, rfl⟩)))
  have HBX := Hd.mk (step HB3.out HB4.out)
  clear hc3 hs3 hc4 hs4 HB3 HB4
  go_loopw [77] (fun i w' => ∃ (j2 : Nat) (r2 : List Pa), j2 ≤ l1 ∧ i = .int .i64 j2 ∧ r2 = ps.drop j2 ∧ errP r2 = errP ps ∧ Below (w.alloc (.cells #[.int .i64 3, .bool ex, .string n, .int .i64 t, .slice A1 l1 c1, .slice A2 0 c2, .slice A3 l3 c3] 47 (0, 0))).heap.size (w.alloc (.cells #[.int .i64 3, .bool ex, .string n, .int .i64 t, .slice A1 l1 c1, .slice A2 0 c2, .slice A3 l3 c3] 47 (0, 0))) w') (fun i _ => l1 - (intOf i).toNat)
  case atStart => exact ⟨0, ps, by omega, rfl, rfl, rfl, HBX.out⟩
  case round =>
    obtain ⟨j2, r2, hj2, rfl, hr, hd, hb⟩ := hrel
    have HR' := Hd.mk hr
    have HD' := Hd.mk hd
    have HB' := Hd.mk hb
    have hcb := bcell hb
    have hsz : w.heap.size < wr.heap.size := by have := hb.size; simp at this; omega
    clear hr hd hb HBX
    by_cases hlt2 : j2 < l1
    · cases r2 with
      | nil => exfalso; have := congrArg List.length HR'.out; simp at this; have := HL1.out; omega
      | cons p r2 =>
      obtain ⟨m1, hr2⟩ := at_drop HR'.out
      have HR2' := Hd.mk hr2
      obtain ⟨B', o', rfl, g1⟩ := S1.out.at (by omega)
      have i1 := Pa.In_below (step (up (up0 _) _) HB'.out) p (g1 j2 p m1)
      have hz := PZ.out p (List.mem_of_getElem? m1)
      obtain ⟨a0, a1⟩ := i1
      have PZ1 := Hd.mk hz
      have lt2 : B' < wr.heap.size := World.block_lt_of_cell? wr _ a0
      obtain ⟨pn, pt⟩ := p
      dsimp only at *
      clear g1 m1 hr2 hz
      by_cases hq : nameErr pn = 0
      rotate_left
      · have Q := Hd.mk (show nameErr pn = errD ⟨3, ex, n, t, ps, e, bd⟩ from by rw [E2.out, ← HD'.out, errP, seqI_n hq, seqI_n hq])
        generalize hqq : nameErr pn = q2 at *
        have HN2 := Hd.mk hqq
        have HQ := Hd.mk hq
        clear hqq hq
        go_wp2_with (first
          | (go_at_call 35; (with_reducible refine ((nameRight pn PZ1.out _).mono ?_)); (rw [HN2.out]; rintro e w5 ⟨rfl, hb5⟩; have HB5 := Hd.mk hb5; have hc5 := bcell hb5; have hs5 := bsize1 rfl hb5; clear hb5))
          | (go_at_call 34; (with_reducible refine ((must_b q2 HQ.out _).mono ?_)); (rintro e w1 ⟨rfl, rfl⟩)))
        exact ⟨rfl, ends_no Q.out HQ.out ⟨rfl, step (step (up (up0 _) _) HB'.out) (step (up (up0 _) _) HB5.out)⟩⟩
      have HN2 := Hd.mk hq
      by_cases hv2 : valuedB pt = true
      · have V2 := Hd.mk hv2
        have HDn := Hd.mk (show errP r2 = errP ps by rw [← HD'.out, errP, seqI_0 hq]; dsimp only; rw [if_pos hv2, seqI_0 rfl])
        clear hq hv2
        go_wp2_with (first
          | (go_at_call 35; (with_reducible refine ((nameRight pn PZ1.out _).mono ?_)); (rw [HN2.out]; rintro e w5 ⟨rfl, hb5⟩; have HB5 := Hd.mk hb5; have hc5 := bcell hb5; have hs5 := bsize1 rfl hb5; clear hb5))
          | (go_at_call 34; (with_reducible refine ((must_ok _).mono ?_)); (rintro e w1 ⟨rfl, rfl⟩))
          | (go_at_call 36; (with_reducible refine ((ask_ok _ _).mono ?_)); (rintro e w1 ⟨rfl, rfl⟩))
          | (go_at_call 80; (with_reducible refine ((valued_b pt _ V2.out _).mono ?_)); (rintro e w1 ⟨rfl, rfl⟩)))
        go_roundw
        case rel => exact ⟨j2 + 1, r2, by omega, by go_num, HR2'.out, HDn.out, HB'.out.trans ((step (up (up0 _) _) HB5.out).mono HB'.out.size)⟩
        case measure => simp [intOf]; omega
      · have hv3 : valuedB pt = false := by simpa using hv2
        have V2 := Hd.mk hv3
        have Q := Hd.mk (show (1 : Int) = errD ⟨3, ex, n, t, ps, e, bd⟩ from by rw [E2.out, ← HD'.out, errP, seqI_0 hq]; dsimp only; rw [if_neg hv2, seqI_n (show (1 : Int) ≠ 0 by decide), seqI_n (show (1 : Int) ≠ 0 by decide)])
        clear hq hv2 hv3
        go_wp2_with (first
          | (go_at_call 35; (with_reducible refine ((nameRight pn PZ1.out _).mono ?_)); (rw [HN2.out]; rintro e w5 ⟨rfl, hb5⟩; have HB5 := Hd.mk hb5; have hc5 := bcell hb5; have hs5 := bsize1 rfl hb5; clear hb5))
          | (go_at_call 34; (with_reducible refine ((must_ok _).mono ?_)); (rintro e w1 ⟨rfl, rfl⟩))
          | (go_at_call 36; (with_reducible refine ((ask_no 1 (by decide) _).mono ?_)); (rintro e w1 ⟨rfl, rfl⟩))
          | (go_at_call 80; (with_reducible refine ((valued_b pt _ V2.out _).mono ?_)); (rintro e w1 ⟨rfl, rfl⟩)))
        exact ⟨rfl, ends_no Q.out (by decide) ⟨rfl, step (step (up (up0 _) _) HB'.out) (step (up (up0 _) _) HB5.out)⟩⟩
    · have hnil : r2 = [] := by have := HR'.out; rw [List.drop_of_length_le (by rw [← HL1.out]; omega)] at this; exact this
      subst hnil
      clear hj2
      have E3 := Hd.mk (show errD ⟨3, ex, n, t, ps, e, bd⟩ = seqI (errL e) (errSs bd) by rw [E2.out, ← HD'.out, errP, seqI_0 rfl])
      clear HD' HR'
      go_wp2_with fail
      obtain ⟨wp, rfl⟩ : ∃ wp : World, wp = wr := ⟨_, rfl⟩
      go_loopw [93] (fun i w' => ∃ (j3 : Nat) (r3 : Exs), j3 ≤ 0 ∧ i = .int .i64 j3 ∧ r3.toList = e.toList.drop j3 ∧ errL r3 = errL e ∧ Below wp.heap.size wp w') (fun i _ => 0 - (intOf i).toNat)
      case atStart => exact ⟨0, e, by omega, rfl, rfl, rfl, Below.refl _ _⟩
      case round =>
        obtain ⟨j3, r3, hj3, rfl, hr, hd, hb⟩ := hrel
        have HR3 := Hd.mk hr
        have HD3 := Hd.mk hd
        have HB3 := Hd.mk hb
        have hcb3 := bcell hb
        have hsz3 : w.heap.size < wr.heap.size := by have := hb.size; omega
        clear hr hd hb
        by_cases hlt3 : j3 < 0
        · exact absurd hlt3 (by omega)
        · have hnil : r3 = .nil := Exs.toList_inj (b := .nil) (by have := HR3.out; rw [List.drop_of_length_le (by rw [← HL2.out]; omega)] at this; exact this)
          subst hnil
          have HBB := Hd.mk (step (step (up (up0 _) _) HB'.out) HB3.out)
          have T3 := Hd.mk (SlS_up HBB.out S3.out)
          have E4 := Hd.mk (show errSs bd = errD ⟨3, ex, n, t, ps, e, bd⟩ by rw [E3.out, ← HD3.out, errL, seqI_0 rfl])
          by_cases hb0 : errSs bd = 0
          · have K5 := Hd.mk (fun w h => (K3.out w h).mono fun _ _ g => g.1 hb0)
            go_wp2_with (go_at_call 81; (with_reducible refine ((K5.out _ T3.out).mono ?_)); (rintro e w5 ⟨rfl, hb5⟩; have HB5 := Hd.mk hb5; clear hb5))
            go_end0
            exact ends_ok (E4.out.symm.trans hb0) ⟨rfl, step HBB.out HB5.out⟩
          · have K5 := Hd.mk (fun w h => (K3.out w h).mono fun _ _ g => g.2 hb0)
            go_wp2_with (go_at_call 81; (with_reducible refine ((K5.out _ T3.out).mono ?_)); (rintro e w5 ⟨rfl, hb5⟩; have HB5 := Hd.mk hb5; clear hb5))
            exact ⟨rfl, ends_no E4.out hb0 ⟨rfl, step HBB.out HB5.out⟩⟩
theorem errD_base {x : De} (hd : deepDe x ≤ 32) (h : declaredB x = true) : errD x = seqI (nameErr x.n) (seqI (if x.ps.length ≤ 8 then 0 else 3) (seqI (errP x.ps) (seqI (errL x.e) (errSs x.bd)))) := by
  unfold errD
  rw [if_pos hd, seqI_0 rfl, if_pos h, seqI_0 rfl]
theorem errD_no {x : De} (hd : deepDe x ≤ 32) (h : declaredB x = false) : Hd (errD x = 1) := ⟨by
  unfold errD
  rw [if_pos hd, seqI_0 rfl, if_neg (by simp [h]), seqI_n (by decide)]⟩
theorem declIs (x : De) (hw : x.Wf) : DeclIs x := by
  by_cases hd : deepDe x ≤ 32
  rotate_left
  · exact decl_deep x hd
  obtain ⟨k, ex, n, t, ps, e, bd⟩ := x
  by_cases k1 : k = 1
  · subst k1
    by_cases hv : valuedB t = true
    rotate_left
    · exact decl1_v ex n t ps e bd (by simpa using hv) hd (errD_no hd (by simp [declaredB, hv]))
    by_cases he : e.toList.length = 1
    rotate_left
    · exact decl1_e ex n t ps e bd hv he hd (errD_no hd (by simp [declaredB, he]))
    by_cases hp : ps.length = 0
    rotate_left
    · exact decl1_p ex n t ps e bd hv he hp hd (errD_no hd (by unfold declaredB; dsimp only; rw [if_pos rfl, decide_eq_false hp]; simp))
    by_cases hb : bd.toList.length = 0
    rotate_left
    · exact decl1_b ex n t ps e bd hv he hp hb hd (errD_no hd (by unfold declaredB; dsimp only; rw [if_pos rfl, decide_eq_false hb]; simp))
    exact decl1_ok ex n t ps e bd hw hv he hp hb hd ⟨errD_base hd (by unfold declaredB; dsimp only; rw [if_pos rfl, hv, decide_eq_true he, decide_eq_true hp, decide_eq_true hb]; rfl)⟩
  by_cases k2 : k = 2
  · subst k2
    have key : declaredB ⟨2, ex, n, t, ps, e, bd⟩ = (valuedB t && decide (e.toList.length = 1) && decide (ps.length = 0) && decide (bd.toList.length = 0) && !ex) := by unfold declaredB; dsimp only; rw [if_neg (by decide), if_pos rfl]
    by_cases hv : valuedB t = true
    rotate_left
    · exact decl2_v ex n t ps e bd (by simpa using hv) hd (errD_no hd (by rw [key]; simp [hv]))
    by_cases he : e.toList.length = 1
    rotate_left
    · exact decl2_e ex n t ps e bd hv he hd (errD_no hd (by rw [key, decide_eq_false he]; simp))
    by_cases hp : ps.length = 0
    rotate_left
    · exact decl2_p ex n t ps e bd hv he hp hd (errD_no hd (by rw [key, decide_eq_false hp]; simp))
    by_cases hb : bd.toList.length = 0
    rotate_left
    · exact decl2_b ex n t ps e bd hv he hp hb hd (errD_no hd (by rw [key, decide_eq_false hb]; simp))
    cases ex with
    | true => exact decl2_x true n t ps e bd rfl hv he hp hb hd (errD_no hd (by rw [key]; simp))
    | false => exact decl2_ok false n t ps e bd hw rfl hv he hp hb hd ⟨errD_base hd (by rw [key, hv, decide_eq_true he, decide_eq_true hp, decide_eq_true hb]; rfl)⟩
  by_cases k3 : k = 3
  · subst k3
    have key : declaredB ⟨3, ex, n, t, ps, e, bd⟩ = ((decide (t = 0) || valuedB t) && decide (e.toList.length = 0)) := by unfold declaredB; dsimp only; rw [if_neg (by decide), if_neg (by decide), if_pos rfl]
    by_cases ht : t = 0
    · by_cases he : e.toList.length = 0
      · exact decl3_ok0 ex n t ps e bd hw ht he hd ⟨errD_base hd (by rw [key, decide_eq_true ht, decide_eq_true he]; rfl)⟩
      · exact decl3_0 ex n t ps e bd ht he hd (errD_no hd (by rw [key, decide_eq_false he]; simp))
    · by_cases hv : valuedB t = true
      · by_cases he : e.toList.length = 0
        · exact decl3_okv ex n t ps e bd hw ht hv he hd ⟨errD_base hd (by rw [key, hv, decide_eq_true he]; simp)⟩
        · exact decl3_e ex n t ps e bd ht hv he hd (errD_no hd (by rw [key, decide_eq_false he]; simp))
      · exact decl3_v ex n t ps e bd ht (by simpa using hv) hd (errD_no hd (by rw [key, decide_eq_false ht]; simp [hv]))
  · exact decl0 k ex n t ps e bd k1 k2 k3 hd (errD_no hd (by unfold declaredB; dsimp only; rw [if_neg k1, if_neg k2, if_neg k3]))
end Go.Proofs.YtbhgpegcdiohlaaGreatDoor.Tr
