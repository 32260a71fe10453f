import Derived.Test.YtbhgpegcdiohlaaGreatDoorRrB
import Derived.Test.YtbhgpegcdiohlaaGreatDoorRtF
namespace Go.Proofs.YtbhgpegcdiohlaaGreatDoor.Tr
open Go Go.RowKit Go.Proofs
set_option linter.unusedVariables false
set_option maxRecDepth 100000
set_option maxHeartbeats 4000000
def RDeepIs (x : Ex) : Prop := ∀ (at_ d : Int) (w : World) (v : Value), x.Is w v → Calls Tryz.prog 43 #[v, .int .i64 d, .int .i64 at_] w (SaysI (deepE x at_ d) w)
theorem rdeep_walk (k op : Int) (m n : ByteArray) (t b : Int) (ks : Exs) (hK : ∀ x ∈ ks.toList, RDeepIs x) : RDeepIs (.mk k op m n t b ks) := by
  intro at_ d w v hv
  unfold Ex.Is at hv
  obtain ⟨A, l, c, rfl, h1⟩ := hv
  have hn := h1.2.1
  have hlen := Hd.mk h1.1
  have H1 := Hd.mk h1
  have HK := Hd.mk hK
  clear h1 hK
  have hR : deepE (.mk k op m n t b ks) at_ d = deepL k op ks 0 (if lvl k op < at_ then wrap64 (d + 1) else d) (if lvl k op < at_ then wrap64 (d + 1) else d) := by rw [deepE]
  rw [hR]
  clear hR
  generalize hx : lvl k op = x
  have HX := Hd.mk hx
  clear hx
  by_cases hat : x < at_
  all_goals
    first | (rw [if_pos hat]; generalize hw0 : wrap64 (d + 1) = d'; have HW := Hd.mk hw0; clear hw0) | (rw [if_neg hat]; generalize d = d')
    go_enter Tryz.func43, Tryz.ntmps43
    go_wp2_with (first
      | (go_at_call 93; (with_reducible refine ((rlevel_any k op _ _ _ _ _ _).mono ?_)); (rw [HX.out]; rintro e w1 ⟨rfl, hb1⟩; have HB1 := Hd.mk hb1; have hc1 := bcell hb1; have hs1 := bsize1 rfl hb1; clear hb1)))
    try simp only [HW.out]
    go_loopw [7, 8] (fun v i w' => ∃ (j : Nat) (mo : Int) (r : Exs), j ≤ l ∧ v = .int .i64 mo ∧ i = .int .i64 j ∧ r.toList = ks.toList.drop j ∧ deepL k op r (j : Int) d' mo = deepL k op ks 0 d' d' ∧ Below (w.alloc (.cells #[.int .i64 k, .int .i64 op, .string m, .string n, .int .i64 t, .int .u64 b, .slice A l c] 31 (0, 0))).heap.size (w.alloc (.cells #[.int .i64 k, .int .i64 op, .string m, .string n, .int .i64 t, .int .u64 b, .slice A l c] 31 (0, 0))) w') (fun _ i _ => l - (intOf i).toNat)
    case atStart => exact ⟨0, _, ks, by omega, rfl, rfl, rfl, rfl, HB1.out⟩
    case round =>
      obtain ⟨j, mo, r, hj, rfl, rfl, hr, hd, hb⟩ := hrel
      have HR := Hd.mk hr
      have HD := Hd.mk hd
      have HB := Hd.mk hb
      have hcr := bcell hb
      have hsr : w.heap.size < wr.heap.size := by have := hb.size; simp at this; omega
      clear hr hd hb hc1 hs1
      by_cases hlt : j < l
      · cases r with
        | nil => exfalso; have := congrArg List.length HR.out; simp [Exs.toList] at this; have := hlen.out; omega
        | cons e1 r =>
        obtain ⟨m1, hr2⟩ := at_drop HR.out
        have HR2 := Hd.mk hr2
        have M1 := Hd.mk m1
        obtain ⟨B, o, rfl, g1⟩ := H1.out.at (by omega)
        have i0 := g1 j e1 m1
        have IN := Hd.mk i0
        obtain ⟨v0, v1, v2, v3, v4, v5, v6, v7, v8, a0, a1, a2, a3, a4, a5, a6, ax⟩ := Ex.In_Is i0
        have AX := Hd.mk ax
        have lt1 : B < w.heap.size := World.block_lt_of_cell? w _ a0
        have lt2 : B < wr.heap.size := by omega
        clear m1 hr2 g1 i0 ax
        generalize hst : (std k op (j : Int)) = st
        have HS := Hd.mk hst
        clear hst
        obtain ⟨s1, s2⟩ := st
        go_wp2_with (first
          | (go_at_call 94; (with_reducible refine ((kid_any k op m n t b _ l c (j : Int) (by omega) _).mono ?_)); (rw [HS.out]; rintro e w2 ⟨rfl, hb2⟩; have HB2 := Hd.mk hb2; have hc2 := bcell hb2; have hs2 := Nat.lt_of_lt_of_le lt2 hb2.size; have hs3 := Nat.lt_of_lt_of_le hsr hb2.size; clear hb2))
          | (go_at_call 43; (refine (((HK.out e1 (List.mem_of_getElem? M1.out)) s1 (wrap64 (d' + s2)) _ _ (Ex.Is_below (step (step (up (up0 _) _) HB.out) HB2.out) AX.out)).mono ?_)); (rintro e w3 ⟨rfl, hb3⟩; have HB3 := Hd.mk hb3; clear hb3)))
        all_goals
          go_roundw
          case rel =>
            refine ⟨j + 1, _, r, by omega, rfl, by go_num, HR2.out, ?_, HB.out.trans ((step HB2.out HB3.out).mono HB.out.size)⟩
            have hd := HD.out
            rw [deepL, HS.out] at hd
            dsimp only at hd
            rw [← hd, show ((j + 1 : Nat) : Int) = (j : Int) + 1 by omega]
            congr 1 <;> unfold maxI <;> first | rw [if_pos (by assumption)] | rw [if_neg (by omega)]
          case measure => simp [intOf]; omega
      · have hnil : r = .nil := Exs.toList_inj (b := .nil) (by have := HR.out; rw [List.drop_of_length_le (by rw [← hlen.out]; omega)] at this; exact this)
        subst hnil
        go_wp2_with fail
        go_ret
        have hd := HD.out
        rw [deepL] at hd
        exact saysI_of hd ⟨rfl, step (up (up0 _) _) HB.out⟩
theorem Ex.ind {P : Ex → Prop} (h : ∀ k op m n t b ks, (∀ x ∈ ks.toList, P x) → P (.mk k op m n t b ks)) : ∀ x, P x := fun x =>
  Ex.rec (motive_1 := P) (motive_2 := fun ks => ∀ x ∈ ks.toList, P x) (fun k op m n t b ks hk => h k op m n t b ks hk) (fun x hx => by simp [Exs.toList] at hx)
    (fun e l he hl x hx => by
      simp only [Exs.toList, List.mem_cons] at hx
      rcases hx with rfl | hx
      · exact he
      · exact hl x hx) x
theorem rdeepIs : ∀ x, RDeepIs x := Ex.ind rdeep_walk
end Go.Proofs.YtbhgpegcdiohlaaGreatDoor.Tr

namespace Go.Proofs.YtbhgpegcdiohlaaGreatDoor.Tr
open Go Go.RowKit Go.Proofs
set_option linter.unusedVariables false
set_option maxRecDepth 100000
set_option maxHeartbeats 8000000
theorem dways (k : Int) (a b : Nat) : (k = 3 ∧ 0 < b) ∨ (k = 3 ∧ ¬ 0 < b) ∨ (k = 4 ∧ 0 < b) ∨ (k = 4 ∧ ¬ 0 < b) ∨ k = 8 ∨ (((k == 3) = false ∧ (k == 4) = false ∧ (k == 8) = false) ∧ 0 < a ∧ 0 < b) ∨ (((k == 3) = false ∧ (k == 4) = false ∧ (k == 8) = false) ∧ 0 < a ∧ ¬ 0 < b) ∨ (((k == 3) = false ∧ (k == 4) = false ∧ (k == 8) = false) ∧ ¬ 0 < a ∧ 0 < b) ∨ (((k == 3) = false ∧ (k == 4) = false ∧ (k == 8) = false) ∧ ¬ 0 < a ∧ ¬ 0 < b) := by
  simp only [beq_eq_false_iff_ne]
  omega
def RDeepSts (ks : Sts) : Prop := ∀ (d : Int) (w : World) (A : Option Addr) (l c : Nat), Sl 5 (fun x => x.In w) ks.toList A l → Calls Tryz.prog 124 #[.slice A l c, .int .i64 d] w (SaysI (deepSs d ks d) w)
theorem rdeepSts_walk (ks : Sts) (hK : ∀ x ∈ ks.toList, RDeepSts x.bd ∧ RDeepSts x.el) : RDeepSts ks := by
  intro d w A l c hs
  have hn := hs.2.1
  have HLEN := Hd.mk hs.1
  have G := Hd.mk hs
  have HK := Hd.mk hK
  clear hs hK
  go_enter Tryz.func124, Tryz.ntmps124
  go_wp2_with fail
  go_loopw [5, 6] (fun mo i w' => ∃ (j : Nat) (m : Int) (r : Sts), j ≤ l ∧ mo = .int .i64 m ∧ i = .int .i64 j ∧ r.toList = ks.toList.drop j ∧ deepSs d r m = deepSs d ks d ∧ Below w.heap.size w w') (fun _ i _ => l - (intOf i).toNat)
  case atStart => exact ⟨0, d, ks, by omega, rfl, rfl, rfl, rfl, Below.refl _ _⟩
  case round =>
    obtain ⟨j, m, r, hj, rfl, rfl, hr, hd, hb⟩ := hrel
    have HR := Hd.mk hr
    have HD := Hd.mk hd
    have HB := Hd.mk hb
    clear hr hd hb
    by_cases hlt : j < l
    · cases r with
      | nil => exfalso; have := congrArg List.length HR.out; simp [Sts.toList] at this; have := HLEN.out; omega
      | cons s r =>
      obtain ⟨m1, hr2⟩ := at_drop HR.out
      have HR2 := Hd.mk hr2
      obtain ⟨B, o, rfl, g1⟩ := G.out.at (by omega)
      have i1 := St.In_below HB.out s (g1 j s m1)
      have hk1 := HK.out s (List.mem_of_getElem? m1)
      cases s with
      | mk k n e bd el =>
      have K1 := Hd.mk hk1.1
      have K2 := Hd.mk hk1.2
      obtain ⟨A1, l1, c1, A2, l2, c2, A3, l3, c3, a0, a1, a2, a3, a4, s1, s2, s3⟩ := St.In_mk i1
      have S1 := Hd.mk s1
      have S2 := Hd.mk s2
      have S3 := Hd.mk s3
      have lt1 : B < wr.heap.size := World.block_lt_of_cell? wr _ a0
      have K3 := Hd.mk (fun w (h : Sl 5 (fun x => x.In w) bd.toList A2 l2) => (show Calls Tryz.prog 124 #[.slice A2 l2 c2, .int .i64 (wrap64 (d + 1))] w (SaysI (deepSs (wrap64 (d + 1)) bd (wrap64 (d + 1))) w) from K1.out (wrap64 (d + 1)) w A2 l2 c2 h))
      have K4 := Hd.mk (fun w (h : Sl 5 (fun x => x.In w) el.toList A3 l3) => (show Calls Tryz.prog 124 #[.slice A3 l3 c3, .int .i64 (wrap64 (d + 1))] w (SaysI (deepSs (wrap64 (d + 1)) el (wrap64 (d + 1))) w) from K2.out (wrap64 (d + 1)) w A3 l3 c3 h))
      clear g1 i1 hk1 s1 s2 s3 m1 hr2
      obtain ⟨wo, rfl⟩ : ∃ wo : World, wo = wr := ⟨_, rfl⟩
      have HE : Hd (deepSs d r (deepS d (.mk k n e bd el) m) = deepSs d ks d) := ⟨by rw [← HD.out, deepSs]⟩
      have hl2 := Hd.mk S2.out.1
      have hl3 := Hd.mk S3.out.1
      go_wp2_with fail
      go_loopw [5, 8] (fun mo i w' => ∃ (j2 : Nat) (m2 : Int) (r2 : Exs), j2 ≤ l1 ∧ mo = .int .i64 m2 ∧ i = .int .i64 j2 ∧ r2.toList = e.toList.drop j2 ∧ deepEs d r2 m2 = deepEs d e m ∧ Below (wo.alloc (.cells #[.int .i64 k, .string n, .slice A1 l1 c1, .slice A2 l2 c2, .slice A3 l3 c3] 98 (0, 0))).heap.size (wo.alloc (.cells #[.int .i64 k, .string n, .slice A1 l1 c1, .slice A2 l2 c2, .slice A3 l3 c3] 98 (0, 0))) w') (fun _ i _ => l1 - (intOf i).toNat)
      case atStart => exact ⟨0, m, e, by omega, rfl, rfl, rfl, rfl, Below.refl _ _⟩
      case round =>
        obtain ⟨j2, m2, r2, hj2, rfl, rfl, hr, hd, hb⟩ := hrel
        have HR' := Hd.mk hr
        have HD' := Hd.mk hd
        have HB' := Hd.mk hb
        have hcb := bcell hb
        have hsz : wo.heap.size < wr.heap.size := by have := hb.size; simp at this; omega
        clear hr hd hb
        have hn1 := S1.out.2.1
        by_cases hlt2 : j2 < l1
        · cases r2 with
          | nil => exfalso; have := congrArg List.length HR'.out; simp [Exs.toList] at this; have := S1.out.1; omega
          | cons e1 r2 =>
          obtain ⟨m1, hr2⟩ := at_drop HR'.out
          have HR2' := Hd.mk hr2
          obtain ⟨B', o', rfl, g1⟩ := S1.out.at (by omega)
          have i1 := Ex.In_below (step (up (up0 _) _) HB'.out) e1 (g1 j2 e1 m1)
          obtain ⟨v0, v1, v2, v3, v4, v5, v6, v7, v8, a0, a1, a2, a3, a4, a5, a6, ax⟩ := Ex.In_Is i1
          have AX := Hd.mk ax
          have lt2 : B' < wr.heap.size := World.block_lt_of_cell? wr _ a0
          clear ax i1 g1 m1 hr2
          go_wp2_with (go_at_call 43; (refine ((rdeepIs e1 1 d _ _ AX.out).mono ?_); (rintro e w3 ⟨rfl, hb3⟩; have HB3 := Hd.mk hb3; clear hb3)))
          all_goals
            go_roundw
            case rel =>
              refine ⟨j2 + 1, _, r2, by omega, rfl, by go_num, HR2'.out, ?_, HB'.out.trans (HB3.out.mono HB'.out.size)⟩
              have hd := HD'.out
              rw [deepEs] at hd
              rw [← hd]
              congr 1
              try (unfold maxI; first | rw [if_pos (by assumption)] | rw [if_neg (by omega)])
            case measure => simp [intOf]; omega
        · have hj3 : j2 = l1 := by omega
          subst hj3
          have hnil : r2 = .nil := Exs.toList_inj (b := .nil) (by have := HR'.out; rw [List.drop_of_length_le (by rw [← S1.out.1]; omega)] at this; exact this)
          subst hnil
          have hm2 : m2 = deepEs d e m := by rw [← HD'.out, deepEs]
          have hbig := step (up (up0 wo) _) HB'.out
          have T2 := Hd.mk (SlS_up hbig S2.out)
          have T3 := Hd.mk (SlS_up hbig S3.out)
          rcases dways k l2 l3 with ⟨rfl, q3⟩ | ⟨rfl, q3⟩ | ⟨rfl, q3⟩ | ⟨rfl, q3⟩ | rfl | ⟨⟨f3, f4, f8⟩, q2, q3⟩ | ⟨⟨f3, f4, f8⟩, q2, q3⟩ | ⟨⟨f3, f4, f8⟩, q2, q3⟩ | ⟨⟨f3, f4, f8⟩, q2, q3⟩
          all_goals
            go_wp2_with (first
              | (go_at_call 124; (with_reducible refine ((K3.out _ T2.out).mono ?_)); (rintro e w5 ⟨rfl, hb5⟩; have HB5 := Hd.mk hb5; have hc5 := bcell hb5; have x5 := Nat.lt_of_lt_of_le hsz hb5.size; clear hb5))
              | (go_at_call 124; (with_reducible refine ((K4.out _ (SlS_up HB5.out T3.out)).mono ?_)); (rintro e w6 ⟨rfl, hb6⟩; have HB6 := Hd.mk hb6; clear hb6))
              | (go_at_call 124; (with_reducible refine ((K4.out _ T3.out).mono ?_)); (rintro e w6 ⟨rfl, hb6⟩; have HB6 := Hd.mk hb6; clear hb6)))
            all_goals
              go_roundw
              case rel =>
                refine ⟨j + 1, _, r, by omega, rfl, by go_num, HR2.out, ?_, ?_⟩
                · rw [← HE.out, deepS, ← hl2.out, ← hl3.out]
                  congr 1
                  have q9 := hm2
                  clear HB hm2
                  simp only [bodyB, otherB]
                  simp [maxI, *]
                  try (repeat' split) <;> omega
                · first
                  | exact step (step (step HB.out hbig) HB5.out) HB6.out
                  | exact step (step HB.out hbig) HB6.out
                  | exact step (step HB.out hbig) HB5.out
                  | exact step HB.out hbig
              case measure => simp [intOf]; omega
    · have hj2 : j = l := by omega
      subst hj2
      have hnil : r = .nil := Sts.toList_inj (b := .nil) (by have := HR.out; rw [List.drop_of_length_le (by rw [← HLEN.out]; omega)] at this; exact this)
      subst hnil
      go_wp2_with fail
      go_ret
      exact saysI_of (by rw [← HD.out, deepSs]) ⟨rfl, HB.out⟩
theorem rdeepSts_all : ∀ ks, RDeepSts ks := Sts.ind rdeepSts_walk
end Go.Proofs.YtbhgpegcdiohlaaGreatDoor.Tr

namespace Go.Proofs.YtbhgpegcdiohlaaGreatDoor.Tr
open Go Go.RowKit Go.Proofs
set_option linter.unusedVariables false
set_option maxRecDepth 100000
set_option maxHeartbeats 8000000
theorem rdeepDecl_any (x : De) (w : World) (v : Value) (hx : x.Is w v) : Calls Tryz.prog 85 #[v] w (SaysI (deepDe x) w) := by
  obtain ⟨A1, l1, c1, A2, l2, c2, A3, l3, c3, rfl, s1, s2, s3⟩ := hx
  have HLEN := Hd.mk s2.1
  have hl3 := Hd.mk s3.1
  have hn2 := s2.2.1
  have hn3 := s3.2.1
  have S2 := Hd.mk s2
  have S3 := Hd.mk s3
  clear s1 s2 s3
  obtain ⟨k, ex, n, t, ps, e, bd⟩ := x
  dsimp only at *
  have K3 := Hd.mk (fun w (h : Sl 5 (fun x => x.In w) bd.toList A3 l3) => rdeepSts_all bd 1 w A3 l3 c3 h)
  generalize hq : decide (k = 3 ∨ 0 < l3) = q
  have Q := Hd.mk hq
  have DE : Hd (deepDe ⟨k, ex, n, t, ps, e, bd⟩ = if q = true then maxI (deepEs 0 e 0) (deepSs 1 bd 1) else deepEs 0 e 0) := ⟨by
    unfold deepDe
    rw [← hq, hl3.out]
    simp only [decide_eq_true_eq]⟩
  clear hq
  go_enter Tryz.func85, Tryz.ntmps85
  go_wp2_with fail
  go_loopw [3, 4] (fun mo i w' => ∃ (j : Nat) (m : Int) (r : Exs), j ≤ l2 ∧ mo = .int .i64 m ∧ i = .int .i64 j ∧ r.toList = e.toList.drop j ∧ deepEs 0 r m = deepEs 0 e 0 ∧ Below (w.alloc (.cells #[.int .i64 k, .bool ex, .string n, .int .i64 t, .slice A1 l1 c1, .slice A2 l2 c2, .slice A3 l3 c3] 47 (0, 0))).heap.size (w.alloc (.cells #[.int .i64 k, .bool ex, .string n, .int .i64 t, .slice A1 l1 c1, .slice A2 l2 c2, .slice A3 l3 c3] 47 (0, 0))) w') (fun _ i _ => l2 - (intOf i).toNat)
  case atStart => exact ⟨0, 0, e, by omega, rfl, rfl, rfl, rfl, Below.refl _ _⟩
  case round =>
    obtain ⟨j2, m2, r2, hj2, rfl, rfl, hr, hd, hb⟩ := hrel
    have HR' := Hd.mk hr
    have HD' := Hd.mk hd
    have HB' := Hd.mk hb
    have hcb := bcell hb
    have hsz : w.heap.size < wr.heap.size := by have := hb.size; simp at this; omega
    clear hr hd hb
    by_cases hlt2 : j2 < l2
    · cases r2 with
      | nil => exfalso; have := congrArg List.length HR'.out; simp [Exs.toList] at this; have := HLEN.out; omega
      | cons e1 r2 =>
      obtain ⟨m1, hr2⟩ := at_drop HR'.out
      have HR2' := Hd.mk hr2
      obtain ⟨B', o', rfl, g1⟩ := S2.out.at (by omega)
      have i1 := Ex.In_below (step (up (up0 _) _) HB'.out) e1 (g1 j2 e1 m1)
      obtain ⟨v0, v1, v2, v3, v4, v5, v6, v7, v8, a0, a1, a2, a3, a4, a5, a6, ax⟩ := Ex.In_Is i1
      have AX := Hd.mk ax
      have lt2 : B' < wr.heap.size := World.block_lt_of_cell? wr _ a0
      clear ax i1 g1 m1 hr2
      go_wp2_with (go_at_call 43; (refine ((rdeepIs e1 1 0 _ _ AX.out).mono ?_); (rintro e w3 ⟨rfl, hb3⟩; have HB3 := Hd.mk hb3; clear hb3)))
      all_goals
        go_roundw
        case rel =>
          refine ⟨j2 + 1, _, r2, by omega, rfl, by go_num, HR2'.out, ?_, HB'.out.trans (HB3.out.mono HB'.out.size)⟩
          have hd := HD'.out
          rw [deepEs] at hd
          rw [← hd]
          congr 1
          try (unfold maxI; first | rw [if_pos (by assumption)] | rw [if_neg (by omega)])
        case measure => simp [intOf]; omega
    · have hj3 : j2 = l2 := by omega
      subst hj3
      have hnil : r2 = .nil := Exs.toList_inj (b := .nil) (by have := HR'.out; rw [List.drop_of_length_le (by rw [← HLEN.out]; omega)] at this; exact this)
      subst hnil
      have hm2 : m2 = deepEs 0 e 0 := by rw [← HD'.out, deepEs]
      generalize hde : deepEs 0 e 0 = de at *
      have hbig := step (up (up0 w) _) HB'.out
      have T3 := Hd.mk (SlS_up hbig S3.out)
      subst hm2
      by_cases k3 : k = 3
      · subst k3
        have q1 : q = true := by rw [← Q.out]; simp
        have E := Hd.mk (DE.out.trans (by rw [if_pos q1]))
        go_wp2_with (go_at_call 124; (with_reducible refine ((K3.out _ T3.out).mono ?_)); (rintro e w6 ⟨rfl, hb6⟩; have HB6 := Hd.mk hb6; clear hb6))
        all_goals
          go_ret
          refine saysI_of ?_ ⟨rfl, step hbig HB6.out⟩
          rw [E.out]
          unfold maxI
          first | rw [if_pos (by assumption)] | rw [if_neg (by omega)]
      · have f3 : (k == 3) = false := beq_eq_false_iff_ne.mpr k3
        by_cases hp : 0 < l3
        · have q1 : q = true := by rw [← Q.out]; simp [hp]
          have E := Hd.mk (DE.out.trans (by rw [if_pos q1]))
          go_wp2_with (go_at_call 124; (with_reducible refine ((K3.out _ T3.out).mono ?_)); (rintro e w6 ⟨rfl, hb6⟩; have HB6 := Hd.mk hb6; clear hb6))
          all_goals
            go_ret
            refine saysI_of ?_ ⟨rfl, step hbig HB6.out⟩
            rw [E.out]
            unfold maxI
            first | rw [if_pos (by assumption)] | rw [if_neg (by omega)]
        · have q1 : q = false := by rw [← Q.out]; simp [hp, k3]
          have E := Hd.mk (DE.out.trans (by rw [if_neg (by simp [q1])]))
          go_wp2_with fail
          all_goals
            go_ret
            exact saysI_of E.out.symm ⟨rfl, hbig⟩
theorem zero_any (t b : Int) (w : World) : Calls Tryz.prog 129 #[.agg #[.int .i64 t, .int .u64 b]] w (Says (decide (t = 0) && decide (b = 0)) w) := by
  go_enter Tryz.func129, Tryz.ntmps129
  go_wp2_with fail
  all_goals
    go_ret
    refine says_b ?_ (up (up0 _) _)
    rw [Bool.eq_iff_iff]
    simp
    try omega
end Go.Proofs.YtbhgpegcdiohlaaGreatDoor.Tr
