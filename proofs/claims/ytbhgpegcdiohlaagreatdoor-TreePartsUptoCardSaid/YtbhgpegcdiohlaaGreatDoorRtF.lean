import Derived.Test.YtbhgpegcdiohlaaGreatDoorRtC
import Derived.WalkSmall
import Derived.BigQuiet
import Derived.Deep.QuietTactic
namespace Go.Proofs.YtbhgpegcdiohlaaGreatDoor.Tr
open Go Go.RowKit Go.Proofs
set_option linter.unusedVariables false
set_option maxRecDepth 100000
set_option maxHeartbeats 4000000
def St.bd : St → Sts
  | .mk _ _ _ bd _ => bd
def St.el : St → Sts
  | .mk _ _ _ _ el => el
theorem Sts.ind {P : Sts → Prop} (h : ∀ ks : Sts, (∀ x ∈ ks.toList, P x.bd ∧ P x.el) → P ks) : ∀ ks, P ks := by
  have all : ∀ ks : Sts, ∀ x ∈ ks.toList, P x.bd ∧ P x.el := by
    intro ks
    exact Sts.rec (motive_1 := fun s => P s.bd ∧ P s.el) (motive_2 := fun ks => ∀ x ∈ ks.toList, P x.bd ∧ P x.el)
      (fun k n e bd el hb he => ⟨h bd hb, h el he⟩) (fun x hx => by simp [Sts.toList] at hx)
      (fun s l hs hl x hx => by
        simp only [Sts.toList, List.mem_cons] at hx
        rcases hx with rfl | hx
        · exact hs
        · exact hl x hx) ks
  exact fun ks => h ks (all ks)
/-- two truths -/
def Says2 (a b : Bool) (w : World) (e : Ending) (w' : World) : Prop := e = .returned (.tuple #[.bool a, .bool b]) ∧ Below w.heap.size w w'
theorem says2_b {a b a' b' : Bool} (h : a = a') (g : b = b') {w w' : World} (hb : Below w.heap.size w w') : Says2 a' b' w (.returned (.tuple #[.bool a, .bool b])) w' := ⟨by rw [h, g], hb⟩
theorem blocks_any (k : Int) (n : ByteArray) (v : Value) (A1 A2 : Option Addr) (lb c1 le c2 : Nat) (w : World) : Calls Tryz.prog 153 #[.agg #[.int .i64 k, .string n, v, .slice A1 lb c1, .slice A2 le c2]] w (Says2 (bodyB k lb) (otherB k le) w) := by
  by_cases k3 : k = 3
  · subst k3
    go_enter Tryz.func153, Tryz.ntmps153
    go_wp2_with fail
    go_quiet (fail)
    go_wp2_with fail
    go_ret2
    exact says2_b (by simp [bodyB]) (by rw [Bool.eq_iff_iff]; simp [otherB]; try omega) (below_drewN (up (up0 _) _) _)
  by_cases k4 : k = 4
  · subst k4
    go_enter Tryz.func153, Tryz.ntmps153
    go_wp2_with fail
    go_quiet (fail)
    go_wp2_with fail
    go_ret2
    exact says2_b (by simp [bodyB]) (by rw [Bool.eq_iff_iff]; simp [otherB]; try omega) (below_drewN (up (up0 _) _) _)
  by_cases k8 : k = 8
  · subst k8
    go_enter Tryz.func153, Tryz.ntmps153
    go_wp2_with fail
    go_ret2
    exact says2_b (by simp [bodyB]) (by simp [otherB]) (up (up0 _) _)
  · have f3 : (k == 3) = false := beq_eq_false_iff_ne.mpr k3
    have f4 : (k == 4) = false := beq_eq_false_iff_ne.mpr k4
    have f8 : (k == 8) = false := beq_eq_false_iff_ne.mpr k8
    go_enter Tryz.func153, Tryz.ntmps153
    go_wp2_with fail
    go_quiet (fail)
    go_wp2_with fail
    go_ret2
    exact says2_b (by rw [Bool.eq_iff_iff]; simp [bodyB, f3, f4, f8]; try omega) (by rw [Bool.eq_iff_iff]; simp [otherB, f8]; try omega) (below_drewN (up (up0 _) _) _)
def DeepSts (ks : Sts) : Prop := ∀ (d : Int) (w : World) (A : Option Addr) (l c : Nat), Sl 5 (fun x => x.In w) ks.toList A l → Calls Tryz.prog 119 #[.slice A l c, .int .i64 d] w (SaysI (deepSs d ks d) w)
theorem St.In_mk {w : World} {k : Int} {n : ByteArray} {e : Exs} {bd el : Sts} {B o : Nat} (h : (St.mk k n e bd el).In w B o) : ∃ A l c A' l' c' A'' l'' c'', w.cell? ⟨B, o, none⟩ = some (.int .i64 k) ∧ w.cell? ⟨B, o + 1, none⟩ = some (.string n) ∧ w.cell? ⟨B, o + 2, none⟩ = some (.slice A l c) ∧ w.cell? ⟨B, o + 3, none⟩ = some (.slice A' l' c') ∧ w.cell? ⟨B, o + 4, none⟩ = some (.slice A'' l'' c'') ∧ Sl 7 (fun x => x.In w) e.toList A l ∧ Sl 5 (fun x => x.In w) bd.toList A' l' ∧ Sl 5 (fun x => x.In w) el.toList A'' l'' := by
  obtain ⟨k', n', A, l, c, A', l', c', A'', l'', c'', h0, h1, h2, h3, h4, hx⟩ := St.In_Is h
  unfold St.Is at hx
  obtain ⟨_, _, _, _, _, _, _, _, _, he, s1, s2, s3⟩ := hx
  injection he with he
  simp only [Array.mk.injEq, List.cons.injEq, Value.int.injEq, Value.string.injEq, Value.slice.injEq, true_and, and_true] at he
  obtain ⟨rfl, rfl, ⟨rfl, rfl, rfl⟩, ⟨rfl, rfl, rfl⟩, rfl, rfl, rfl⟩ := he
  exact ⟨_, _, _, _, _, _, _, _, _, h0, h1, h2, h3, h4, s1, s2, s3⟩
theorem at_drop {α : Type} {l r : List α} {j : Nat} {x : α} (h : x :: r = l.drop j) : l[j]? = some x ∧ r = l.drop (j + 1) := by
  constructor
  · have := congrArg List.head? h
    rw [List.head?_drop] at this
    exact this.symm
  · have := congrArg List.tail h
    rw [List.tail_drop] at this
    exact this
attribute [local go_sem] max2_int max_two
theorem deepSts_walk (ks : Sts) (hK : ∀ x ∈ ks.toList, DeepSts x.bd ∧ DeepSts x.el) : DeepSts ks := by
  intro d w A l c hs
  have hn := hs.2.1
  have HLEN := Hd.mk hs.1
  have G := Hd.mk hs
  have HK := Hd.mk hK
  clear hs hK
  go_enter Tryz.func119, Tryz.ntmps119
  go_wp2_with fail
  go_loopw [5, 15] (fun mo i w' => ∃ (j : Nat) (m : Int) (r : Sts), j ≤ l ∧ mo = .int .i64 m ∧ i = .int .i64 j ∧ r.toList = ks.toList.drop j ∧ deepSs d r m = deepSs d ks d ∧ Below w.heap.size w w') (fun _ i _ => l - (intOf i).toNat)
  case atStart => exact ⟨0, d, ks, by omega, rfl, rfl, rfl, rfl, Below.refl _ _⟩
  case round =>
    obtain ⟨j, m, r, hj, rfl, rfl, hr, hd, hb⟩ := hrel
    have HR := Hd.mk hr
    have HD := Hd.mk hd
    have HB := Hd.mk hb
    clear hr hd hb
    by_cases hlt : j < l
    · cases r with
      | nil => exfalso; have := congrArg List.length HR.out; simp [Sts.toList] at this; have := HLEN.out; omega
      | cons s r =>
      obtain ⟨m1, hr2⟩ := at_drop HR.out
      have HR2 := Hd.mk hr2
      obtain ⟨B, o, rfl, g1⟩ := G.out.at (by omega)
      have i1 := St.In_below HB.out s (g1 j s m1)
      have hk1 := HK.out s (List.mem_of_getElem? m1)
      cases s with
      | mk k n e bd el =>
      have K1 := Hd.mk hk1.1
      have K2 := Hd.mk hk1.2
      obtain ⟨A1, l1, c1, A2, l2, c2, A3, l3, c3, a0, a1, a2, a3, a4, s1, s2, s3⟩ := St.In_mk i1
      have S1 := Hd.mk s1
      have S2 := Hd.mk s2
      have S3 := Hd.mk s3
      have lt1 : B < wr.heap.size := World.block_lt_of_cell? wr _ a0
      have K3 := Hd.mk (fun w (h : Sl 5 (fun x => x.In w) bd.toList A2 l2) => K1.out (wrap64 (d + 1)) w A2 l2 c2 h)
      have K4 := Hd.mk (fun w (h : Sl 5 (fun x => x.In w) el.toList A3 l3) => K2.out (wrap64 (d + 1)) w A3 l3 c3 h)
      clear g1 i1 hk1 s1 s2 s3 m1 hr2
      obtain ⟨wo, rfl⟩ : ∃ wo : World, wo = wr := ⟨_, rfl⟩
      have HE : Hd (deepSs d r (deepS d (.mk k n e bd el) m) = deepSs d ks d) := ⟨by rw [← HD.out, deepSs]⟩
      generalize hb1 : bodyB k l2 = b1
      generalize hb2 : otherB k l3 = b2
      have hl2 := Hd.mk S2.out.1
      have hl3 := Hd.mk S3.out.1
      have B1 := Hd.mk hb1
      have B2 := Hd.mk hb2
      clear hb1 hb2
      go_wp2_with fail
      go_loopw [5, 22] (fun mo i w' => ∃ (j2 : Nat) (m2 : Int) (r2 : Exs), j2 ≤ l1 ∧ mo = .int .i64 m2 ∧ i = .int .i64 j2 ∧ r2.toList = e.toList.drop j2 ∧ deepEs d r2 m2 = deepEs d e m ∧ Below (wo.alloc (.cells #[.int .i64 k, .string n, .slice A1 l1 c1, .slice A2 l2 c2, .slice A3 l3 c3] 98 (0, 0))).heap.size (wo.alloc (.cells #[.int .i64 k, .string n, .slice A1 l1 c1, .slice A2 l2 c2, .slice A3 l3 c3] 98 (0, 0))) w') (fun _ i _ => l1 - (intOf i).toNat)
      case atStart => exact ⟨0, m, e, by omega, rfl, rfl, rfl, rfl, Below.refl _ _⟩
      case round =>
        obtain ⟨j2, m2, r2, hj2, rfl, rfl, hr, hd, hb⟩ := hrel
        have HR' := Hd.mk hr
        have HD' := Hd.mk hd
        have HB' := Hd.mk hb
        have hcb := bcell hb
        have hsz : wo.heap.size < wr.heap.size := by have := hb.size; simp at this; omega
        clear hr hd hb
        have hn1 := S1.out.2.1
        by_cases hlt2 : j2 < l1
        · cases r2 with
          | nil => exfalso; have := congrArg List.length HR'.out; simp [Exs.toList] at this; have := S1.out.1; omega
          | cons e1 r2 =>
          obtain ⟨m1, hr2⟩ := at_drop HR'.out
          have HR2' := Hd.mk hr2
          obtain ⟨B', o', rfl, g1⟩ := S1.out.at (by omega)
          have i1 := Ex.In_below (step (up (up0 _) _) HB'.out) e1 (g1 j2 e1 m1)
          obtain ⟨v0, v1, v2, v3, v4, v5, v6, v7, v8, a0, a1, a2, a3, a4, a5, a6, ax⟩ := Ex.In_Is i1
          have AX := Hd.mk ax
          have lt2 : B' < wr.heap.size := World.block_lt_of_cell? wr _ a0
          clear ax i1 g1 m1 hr2
          go_wp2_with (go_at_call 41; (refine ((deepIs e1 1 d _ _ (Ex.Is_below (up (up0 _) _) AX.out)).mono ?_); (rintro e w3 ⟨rfl, hb3⟩; have HB3 := Hd.mk hb3; clear hb3)))
          all_goals
            go_roundw
            case rel =>
              refine ⟨j2 + 1, _, r2, by omega, rfl, by go_num, HR2'.out, ?_, HB'.out.trans ((step (up (up0 _) _) HB3.out).mono HB'.out.size)⟩
              have hd := HD'.out
              rw [deepEs] at hd
              rw [← hd]
              congr 1
              try (unfold maxI; first | rw [if_pos (by assumption)] | rw [if_neg (by omega)])
            case measure => simp [intOf]; omega
        · have hj3 : j2 = l1 := by omega
          subst hj3
          have hnil : r2 = .nil := Exs.toList_inj (b := .nil) (by have := HR'.out; rw [List.drop_of_length_le (by rw [← S1.out.1]; omega)] at this; exact this)
          subst hnil
          have hm2 : m2 = deepEs d e m := by rw [← HD'.out, deepEs]
          have hbig := step (up (up0 wo) _) HB'.out
          have T2 := Hd.mk (SlS_up hbig S2.out)
          have T3 := Hd.mk (SlS_up hbig S3.out)
          cases b1 <;> cases b2
          all_goals
            go_wp2_with (first
              | (go_at_call 153; (with_reducible refine ((blocks_any k n _ A2 A3 l2 c2 l3 c3 _).mono ?_)); (rw [B1.out, B2.out]; rintro e w4 ⟨rfl, hb4⟩; have HB4 := Hd.mk hb4; have hc4 := bcell hb4; have x4 := Nat.lt_of_lt_of_le hsz hb4.size; clear hb4))
              | (go_at_call 119; (with_reducible refine ((K3.out _ (SlS_up HB4.out T2.out)).mono ?_)); (rintro e w5 ⟨rfl, hb5⟩; have HB5 := Hd.mk hb5; have hc5 := bcell hb5; clear hb5))
              | (go_at_call 119; (with_reducible refine ((K4.out _ (SlS_up (step HB4.out HB5.out) T3.out)).mono ?_)); (rintro e w6 ⟨rfl, hb6⟩; have HB6 := Hd.mk hb6; clear hb6))
              | (go_at_call 119; (with_reducible refine ((K4.out _ (SlS_up HB4.out T3.out)).mono ?_)); (rintro e w6 ⟨rfl, hb6⟩; have HB6 := Hd.mk hb6; clear hb6)))
            go_roundw
            case rel =>
              refine ⟨j + 1, _, r, by omega, rfl, by go_num, HR2.out, ?_, ?_⟩
              · rw [← HE.out, deepS, ← hl2.out, ← hl3.out, B1.out, B2.out]
                congr 1
              · first
                | exact step (step (step (step HB.out hbig) HB4.out) HB5.out) HB6.out
                | exact step (step (step HB.out hbig) HB4.out) HB6.out
                | exact step (step (step HB.out hbig) HB4.out) HB5.out
                | exact step (step HB.out hbig) HB4.out
            case measure => simp [intOf]; omega
    · have hj2 : j = l := by omega
      subst hj2
      have hnil : r = .nil := Sts.toList_inj (b := .nil) (by have := HR.out; rw [List.drop_of_length_le (by rw [← HLEN.out]; omega)] at this; exact this)
      subst hnil
      go_wp2_with fail
      go_ret
      exact saysI_of (by rw [← HD.out, deepSs]) ⟨rfl, HB.out⟩
theorem deepSts_all : ∀ ks, DeepSts ks := Sts.ind deepSts_walk
theorem deepDecl_any (x : De) (w : World) (v : Value) (hx : x.Is w v) : Calls Tryz.prog 73 #[v] w (SaysI (deepDe x) w) := by
  obtain ⟨A1, l1, c1, A2, l2, c2, A3, l3, c3, rfl, s1, s2, s3⟩ := hx
  have HLEN := Hd.mk s2.1
  have hl3 := Hd.mk s3.1
  have hn2 := s2.2.1
  have hn3 := s3.2.1
  have S2 := Hd.mk s2
  have S3 := Hd.mk s3
  clear s1 s2 s3
  obtain ⟨k, ex, n, t, ps, e, bd⟩ := x
  dsimp only at *
  have K3 := Hd.mk (fun w (h : Sl 5 (fun x => x.In w) bd.toList A3 l3) => deepSts_all bd 1 w A3 l3 c3 h)
  generalize hq : decide (k = 3 ∨ 0 < l3) = q
  have Q := Hd.mk hq
  have DE : Hd (deepDe ⟨k, ex, n, t, ps, e, bd⟩ = if q = true then maxI (deepEs 0 e 0) (deepSs 1 bd 1) else deepEs 0 e 0) := ⟨by
    unfold deepDe
    rw [← hq, hl3.out]
    simp only [decide_eq_true_eq]⟩
  clear hq
  go_enter Tryz.func73, Tryz.ntmps73
  go_wp2_with fail
  go_loopw [3, 9] (fun mo i w' => ∃ (j : Nat) (m : Int) (r : Exs), j ≤ l2 ∧ mo = .int .i64 m ∧ i = .int .i64 j ∧ r.toList = e.toList.drop j ∧ deepEs 0 r m = deepEs 0 e 0 ∧ Below (w.alloc (.cells #[.int .i64 k, .bool ex, .string n, .int .i64 t, .slice A1 l1 c1, .slice A2 l2 c2, .slice A3 l3 c3] 47 (0, 0))).heap.size (w.alloc (.cells #[.int .i64 k, .bool ex, .string n, .int .i64 t, .slice A1 l1 c1, .slice A2 l2 c2, .slice A3 l3 c3] 47 (0, 0))) w') (fun _ i _ => l2 - (intOf i).toNat)
  case atStart => exact ⟨0, 0, e, by omega, rfl, rfl, rfl, rfl, Below.refl _ _⟩
  case round =>
    obtain ⟨j2, m2, r2, hj2, rfl, rfl, hr, hd, hb⟩ := hrel
    have HR' := Hd.mk hr
    have HD' := Hd.mk hd
    have HB' := Hd.mk hb
    have hcb := bcell hb
    have hsz : w.heap.size < wr.heap.size := by have := hb.size; simp at this; omega
    clear hr hd hb
    by_cases hlt2 : j2 < l2
    · cases r2 with
      | nil => exfalso; have := congrArg List.length HR'.out; simp [Exs.toList] at this; have := HLEN.out; omega
      | cons e1 r2 =>
      obtain ⟨m1, hr2⟩ := at_drop HR'.out
      have HR2' := Hd.mk hr2
      obtain ⟨B', o', rfl, g1⟩ := S2.out.at (by omega)
      have i1 := Ex.In_below (step (up (up0 _) _) HB'.out) e1 (g1 j2 e1 m1)
      obtain ⟨v0, v1, v2, v3, v4, v5, v6, v7, v8, a0, a1, a2, a3, a4, a5, a6, ax⟩ := Ex.In_Is i1
      have AX := Hd.mk ax
      have lt2 : B' < wr.heap.size := World.block_lt_of_cell? wr _ a0
      clear ax i1 g1 m1 hr2
      go_wp2_with (go_at_call 41; (refine ((deepIs e1 1 0 _ _ (Ex.Is_below (up (up0 _) _) AX.out)).mono ?_); (rintro e w3 ⟨rfl, hb3⟩; have HB3 := Hd.mk hb3; clear hb3)))
      all_goals
        go_roundw
        case rel =>
          refine ⟨j2 + 1, _, r2, by omega, rfl, by go_num, HR2'.out, ?_, HB'.out.trans ((step (up (up0 _) _) HB3.out).mono HB'.out.size)⟩
          have hd := HD'.out
          rw [deepEs] at hd
          rw [← hd]
          congr 1
        case measure => simp [intOf]; omega
    · have hj3 : j2 = l2 := by omega
      subst hj3
      have hnil : r2 = .nil := Exs.toList_inj (b := .nil) (by have := HR'.out; rw [List.drop_of_length_le (by rw [← HLEN.out]; omega)] at this; exact this)
      subst hnil
      have hm2 : m2 = deepEs 0 e 0 := by rw [← HD'.out, deepEs]
      generalize hde : deepEs 0 e 0 = de at *
      have hbig := step (up (up0 w) _) HB'.out
      have T3 := Hd.mk (SlS_up hbig S3.out)
      subst hm2
      by_cases k3 : k = 3
      · subst k3
        have q1 : q = true := by rw [← Q.out]; simp
        have E := Hd.mk (DE.out.trans (by rw [if_pos q1]))
        go_wp2_with (go_at_call 119; (with_reducible refine ((K3.out _ T3.out).mono ?_)); (rintro e w6 ⟨rfl, hb6⟩; have HB6 := Hd.mk hb6; clear hb6))
        all_goals
          go_ret
          refine saysI_of ?_ ⟨rfl, step hbig HB6.out⟩
          rw [E.out]
          unfold maxI
          first | rw [if_pos (by assumption)] | rw [if_neg (by omega)]
      · have f3 : (k == 3) = false := beq_eq_false_iff_ne.mpr k3
        by_cases hp : 0 < l3
        · have q1 : q = true := by rw [← Q.out]; simp [hp]
          have E := Hd.mk (DE.out.trans (by rw [if_pos q1]))
          go_wp2_with (go_at_call 119; (with_reducible refine ((K3.out _ T3.out).mono ?_)); (rintro e w6 ⟨rfl, hb6⟩; have HB6 := Hd.mk hb6; clear hb6))
          all_goals
            go_ret
            refine saysI_of ?_ ⟨rfl, step hbig HB6.out⟩
            rw [E.out]
            unfold maxI
            first | rw [if_pos (by assumption)] | rw [if_neg (by omega)]
        · have q1 : q = false := by rw [← Q.out]; simp [hp, k3]
          have E := Hd.mk (DE.out.trans (by rw [if_neg (by simp [q1])]))
          go_wp2_with fail
          all_goals
            go_ret
            exact saysI_of E.out.symm ⟨rfl, hbig⟩
end Go.Proofs.YtbhgpegcdiohlaaGreatDoor.Tr
