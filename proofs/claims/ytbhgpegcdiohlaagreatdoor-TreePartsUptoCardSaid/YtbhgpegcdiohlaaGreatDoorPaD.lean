import Derived.Test.YtbhgpegcdiohlaaGreatDoorTxE
import Derived.Test.YtbhgpegcdiohlaaGreatDoorLvU
import Derived.Deep.RegionHeld3
namespace Go.Proofs.YtbhgpegcdiohlaaGreatDoor.Tr
open Go Go.RowKit Go.Proofs
set_option linter.unusedVariables false
set_option maxRecDepth 100000
set_option maxHeartbeats 4000000
mutual
/-- how many nodes -/
def cntE : Ex → Nat
  | .mk _ _ _ _ _ _ ks => 1 + cntL ks
def cntL : Exs → Nat
  | .nil => 0
  | .cons e l => cntE e + cntL l
end
mutual
def cntS : St → Nat
  | .mk _ _ e bd el => cntL e + (cntSs bd + cntSs el)
def cntSs : Sts → Nat
  | .nil => 0
  | .cons s l => 1 + cntS s + cntSs l
end
def sumN {α : Type} (f : α → Nat) : List α → Nat
  | [] => 0
  | a :: l => f a + sumN f l
theorem sumN_take {α : Type} (f : α → Nat) {l : List α} {k : Nat} {x : α} (h : l[k]? = some x) : sumN f (l.take (k + 1)) = sumN f (l.take k) + f x := by
  rw [take_next h]
  generalize l.take k = r
  induction r with
  | nil => simp [sumN]
  | cons a r ih => rw [List.cons_append, sumN, ih, sumN]; omega
theorem sumN_le {α : Type} (f : α → Nat) : ∀ (l : List α) (k : Nat), sumN f (l.take k) ≤ sumN f l
  | [], k => by simp [sumN]
  | a :: l, 0 => by simp [sumN]
  | a :: l, k + 1 => by
    rw [List.take_succ_cons, sumN, sumN]
    have := sumN_le f l k
    omega
theorem cntL_sum : ∀ ks : Exs, cntL ks = sumN cntE ks.toList
  | .nil => rfl
  | .cons e l => by rw [cntL, Exs.toList, sumN, cntL_sum l]
theorem cntSs_sum : ∀ ks : Sts, cntSs ks = sumN (fun s => 1 + cntS s) ks.toList
  | .nil => rfl
  | .cons e l => by rw [cntSs, Sts.toList, sumN, cntSs_sum l]
def CntIs (x : Ex) : Prop := ∀ (w : World) (v : Value), x.Is w v → cntE x ≤ 1152921504606846976 → Calls Tryz.prog 72 #[v] w (SaysI (cntE x) w)
theorem cnt_walk (k op : Int) (m n : ByteArray) (t b : Int) (ks : Exs) (hK : ∀ x ∈ ks.toList, CntIs x) : CntIs (.mk k op m n t b ks) := by
  intro w v hv hN
  unfold Ex.Is at hv
  obtain ⟨A, l, c, rfl, g⟩ := hv
  rw [cntE, cntL_sum] at hN ⊢
  have HLEN := Hd.mk g.1
  have hl63 := g.2.1
  have G := Hd.mk g
  have HK := Hd.mk hK
  have HN := Hd.mk hN
  clear g hK hN
  go_enter Tryz.func72, Tryz.ntmps72
  go_wp2
  go_loopw [3, 9] (fun v i w' => ∃ (j : Nat), j ≤ l ∧ v = .int .i64 (1 + (sumN cntE (ks.toList.take j) : Int)) ∧ i = .int .i64 j ∧ Below w.heap.size w w') (fun _ i _ => l - (intOf i).toNat)
  case atStart => exact ⟨0, by omega, rfl, rfl, up (up0 _) _⟩
  case round =>
    obtain ⟨j, hj, rfl, rfl, hb⟩ := hrel
    have HB := Hd.mk hb
    clear hb
    by_cases hlt : j < l
    · obtain ⟨x, hx⟩ : ∃ x, ks.toList[j]? = some x := ⟨_, List.getElem?_eq_getElem (by rw [← HLEN.out]; exact hlt)⟩
      obtain ⟨B, o, rfl, g1⟩ := G.out.at (by omega)
      have i1 := Ex.In_below HB.out x (g1 j x hx)
      obtain ⟨v0, v1, v2, v3, v4, v5, v6, v7, v8, a0, a1, a2, a3, a4, a5, a6, ax⟩ := Ex.In_Is i1
      have hT := sumN_take cntE hx
      have hle := sumN_le cntE ks.toList (j + 1)
      have X := Hd.mk (fun w' (hb : Below wr.heap.size wr w') => HK.out x (List.mem_of_getElem? hx) w' _ (Ex.Is_below hb ax) (by have := HN.out; omega))
      have lt1 : B < wr.heap.size := World.block_lt_of_cell? wr _ a0
      obtain ⟨s, hs⟩ : ∃ s : Int, s = 1 + (sumN cntE (ks.toList.take j) : Int) := ⟨_, rfl⟩
      obtain ⟨cx, hcx⟩ : ∃ cx : Int, cx = (cntE x : Int) := ⟨_, rfl⟩
      rw [← hs]
      have hw : wrap64 (s + cx) = s + cx := by have := HN.out; unfold wrap64; omega
      have E : Hd (s + cx = 1 + (sumN cntE (ks.toList.take (j + 1)) : Int)) := ⟨by omega⟩
      rw [← hcx] at X
      have EW := Hd.mk hw
      clear g1 i1 ax hx hs hcx hT hle
      go_wp2_with (go_at_call 72; (with_reducible refine ((X.out _ (up (up0 _) _)).mono ?_)); (rintro e w3 ⟨rfl, hb3⟩; have HB3 := Hd.mk hb3; clear hb3))
      exact ⟨⟨j + 1, by omega, by rw [EW.out, E.out], by go_num, step (up HB.out _) HB3.out⟩, by simp [intOf]; omega⟩
    · obtain rfl : j = l := by omega
      have ht : ks.toList.take j = ks.toList := List.take_of_length_le (by rw [← HLEN.out]; omega)
      go_wp2
      go_ret
      have e : 1 + (sumN cntE (ks.toList.take j) : Int) = ((1 + sumN cntE ks.toList : Nat) : Int) := by rw [ht]; omega
      exact ⟨by rw [← e]; rfl, HB.out⟩
theorem cnt_any : ∀ x, CntIs x := Ex.byKids cnt_walk
def CntSs (ks : Sts) : Prop := ∀ (w : World) (A : Option Addr) (l c : Nat), Sl 5 (fun x => x.In w) ks.toList A l → cntSs ks ≤ 1152921504606846976 → Calls Tryz.prog 71 #[.slice A l c] w (SaysI (cntSs ks) w)
end Go.Proofs.YtbhgpegcdiohlaaGreatDoor.Tr

namespace Go.Proofs.YtbhgpegcdiohlaaGreatDoor.Tr
open Go Go.RowKit Go.Proofs
set_option linter.unusedVariables false
set_option maxRecDepth 100000
set_option maxHeartbeats 8000000
theorem S5d {N : Nat} {w0 w w' : World} (hb : Below w.heap.size w w') (hN : w0.heap.size = N) {a0 a1 a2 a3 a4 : Addr} {v0 v1 v2 v3 v4 : Value} (h : Below N w0 w ∧ w.cell? a0 = some v0 ∧ w.cell? a1 = some v1 ∧ w.cell? a2 = some v2 ∧ w.cell? a3 = some v3 ∧ w.cell? a4 = some v4) : Below N w0 w' ∧ w'.cell? a0 = some v0 ∧ w'.cell? a1 = some v1 ∧ w'.cell? a2 = some v2 ∧ w'.cell? a3 = some v3 ∧ w'.cell? a4 = some v4 := by
  subst hN
  obtain ⟨h, c0, c1, c2, c3, c4⟩ := h
  exact ⟨step h hb, keep hb c0, keep hb c1, keep hb c2, keep hb c3, keep hb c4⟩
theorem wr2 {x : Int} (h0 : 0 ≤ x) (h1 : x ≤ 4611686018427387904) : wrap64 x = x ∧ IntKind.i64.wrap x = x := ⟨by unfold wrap64; omega, by rw [IntKind.wrap_i64]; omega⟩
theorem cntSs_walk (ks : Sts) (hK : ∀ x ∈ ks.toList, CntSs x.bd ∧ CntSs x.el) : CntSs ks := by
  intro w A l c hs hN
  rw [cntSs_sum] at hN ⊢
  have hn := hs.2.1
  have HLEN := Hd.mk hs.1
  have G := Hd.mk hs
  have HK := Hd.mk hK
  have hlN : l ≤ 1152921504606846976 := by
    rw [hs.1]
    refine Nat.le_trans ?_ hN
    generalize ks.toList = r
    induction r with
    | nil => simp
    | cons a r ih => rw [sumN, List.length_cons]; omega
  have HN := Hd.mk hN
  clear hs hK hN
  obtain ⟨F, hF⟩ : ∃ F : St → Nat, F = fun s => cntS s := ⟨_, rfl⟩
  go_enter Tryz.func71, Tryz.ntmps71
  go_wp2_with fail
  go_loopw [3, 12] (fun mo i w' => ∃ (j : Nat) (s : Int), j ≤ l ∧ mo = .int .i64 s ∧ i = .int .i64 j ∧ s = l + (sumN cntS (ks.toList.take j) : Int) ∧ Below w.heap.size w w') (fun _ i _ => l - (intOf i).toNat)
  case atStart => exact ⟨0, l, by omega, rfl, rfl, by simp [sumN], Below.refl _ _⟩
  case round =>
    obtain ⟨j, s, hj, rfl, rfl, hs, hb⟩ := hrel
    have HS := Hd.mk hs
    have HB := Hd.mk hb
    clear hs hb
    by_cases hlt : j < l
    · obtain ⟨x, hx⟩ : ∃ x, ks.toList[j]? = some x := ⟨_, List.getElem?_eq_getElem (by rw [← HLEN.out]; exact hlt)⟩
      obtain ⟨B, o, rfl, g1⟩ := G.out.at (by omega)
      have i1 := St.In_below HB.out x (g1 j x hx)
      have hk1 := HK.out x (List.mem_of_getElem? hx)
      have hT := sumN_take cntS hx
      have hle : l + sumN cntS (ks.toList.take (j + 1)) ≤ 1152921504606846976 := by
        have h1 := sumN_le cntS ks.toList (j + 1)
        have h2 : sumN (fun s => 1 + cntS s) ks.toList = ks.toList.length + sumN cntS ks.toList := by
          generalize ks.toList = r
          induction r with
          | nil => rfl
          | cons a r ih => rw [sumN, sumN, List.length_cons, ih]; omega
        have h3 := HN.out
        have h4 := HLEN.out
        omega
      cases x with
      | mk k n e bd el =>
      obtain ⟨A1, l1, c1, A2, l2, c2, A3, l3, c3, a0, a1, a2, a3, a4, s1, s2, s3⟩ := St.In_mk i1
      have S1 := Hd.mk s1
      have S2 := Hd.mk s2
      have S3 := Hd.mk s3
      have lt1 : B < wr.heap.size := World.block_lt_of_cell? wr _ a0
      rw [cntS, cntL_sum] at hT
      obtain ⟨u1, hu1⟩ : ∃ u : Int, u = (cntSs bd : Int) := ⟨_, rfl⟩
      obtain ⟨u2, hu2⟩ : ∃ u : Int, u = (cntSs el : Int) := ⟨_, rfl⟩
      have K3 := Hd.mk (fun w (h : Sl 5 (fun x => x.In w) bd.toList A2 l2) => hu1 ▸ hk1.1 w A2 l2 c2 h (by show cntSs bd ≤ _; omega))
      have K4 := Hd.mk (fun w (h : Sl 5 (fun x => x.In w) el.toList A3 l3) => hu2 ▸ hk1.2 w A3 l3 c3 h (by show cntSs el ≤ _; omega))
      have HT : Hd (s + sumN cntE e.toList + (u1 + u2) = l + (sumN cntS (ks.toList.take (j + 1)) : Int) ∧ 0 ≤ s ∧ 0 ≤ u1 ∧ 0 ≤ u2 ∧ s + sumN cntE e.toList + (u1 + u2) ≤ 1152921504606846976) := ⟨by have := HS.out; omega⟩
      clear g1 i1 hk1 s1 s2 s3 hx hT hle hu1 hu2
      obtain ⟨wo, rfl⟩ : ∃ wo : World, wo = wr := ⟨_, rfl⟩
      go_wp2_with fail
      go_loopw [3, 19] (fun mo i w' => ∃ (j2 : Nat) (s2 : Int), j2 ≤ l1 ∧ mo = .int .i64 s2 ∧ i = .int .i64 j2 ∧ s2 = s + (sumN cntE (e.toList.take j2) : Int) ∧ Below (wo.alloc (.cells #[.int .i64 k, .string n, .slice A1 l1 c1, .slice A2 l2 c2, .slice A3 l3 c3] 98 (0, 0))).heap.size (wo.alloc (.cells #[.int .i64 k, .string n, .slice A1 l1 c1, .slice A2 l2 c2, .slice A3 l3 c3] 98 (0, 0))) w') (fun _ i _ => l1 - (intOf i).toNat)
      case atStart => exact ⟨0, s, by omega, rfl, rfl, by simp [sumN], Below.refl _ _⟩
      case round =>
        obtain ⟨j2, s2, hj2, rfl, rfl, hs2, hb⟩ := hrel
        have HS2 := Hd.mk hs2
        have HB' := Hd.mk hb
        have hcb := bcell hb
        have hsz : wo.heap.size < wr.heap.size := by have := hb.size; simp at this; omega
        clear hs2 hb
        have hn1 := S1.out.2.1
        by_cases hlt2 : j2 < l1
        · obtain ⟨x, hx⟩ : ∃ x, e.toList[j2]? = some x := ⟨_, List.getElem?_eq_getElem (by rw [← S1.out.1]; exact hlt2)⟩
          obtain ⟨B', o', rfl, g1⟩ := S1.out.at (by omega)
          have i1 := Ex.In_below (step (up (up0 _) _) HB'.out) x (g1 j2 x hx)
          obtain ⟨v0, v1, v2, v3, v4, v5, v6, v7, v8, a0, a1, a2, a3, a4, a5, a6, ax⟩ := Ex.In_Is i1
          have hT := sumN_take cntE hx
          have hle := sumN_le cntE e.toList (j2 + 1)
          obtain ⟨cx, hcx⟩ : ∃ cx : Int, cx = (cntE x : Int) := ⟨_, rfl⟩
          have X := Hd.mk (fun w' (hb : Below wr.heap.size wr w') => hcx ▸ cnt_any x w' _ (Ex.Is_below hb ax) (by have := HT.out; omega))
          have lt2 : B' < wr.heap.size := World.block_lt_of_cell? wr _ a0
          have hw : wrap64 (s2 + cx) = s2 + cx := (wr2 (by have := HT.out; have := HS2.out; omega) (by have := HT.out; have := HS2.out; omega)).1
          have E : Hd (s2 + cx = s + (sumN cntE (e.toList.take (j2 + 1)) : Int)) := ⟨by have := HS2.out; omega⟩
          have EW := Hd.mk hw
          clear ax i1 g1 hx hT hle hcx
          go_wp2_with (go_at_call 72; (with_reducible refine ((X.out _ (up (up0 _) _)).mono ?_)); (rintro e w3 ⟨rfl, hb3⟩; have HB3 := Hd.mk hb3; clear hb3))
          go_roundw
          case rel => exact ⟨j2 + 1, s2 + cx, by omega, by first | rfl | rw [EW.out], by go_num, E.out, HB'.out.trans ((step (up (up0 _) _) HB3.out).mono HB'.out.size)⟩
          case measure => simp [intOf]; omega
        · obtain rfl : j2 = l1 := by omega
          have ht : e.toList.take j2 = e.toList := List.take_of_length_le (by rw [← S1.out.1]; omega)
          have hbig := step (up (up0 wo) _) HB'.out
          have T2 := Hd.mk (SlS_up hbig S2.out)
          have T3 := Hd.mk (SlS_up hbig S3.out)
          have HS3 : Hd (s2 = s + (sumN cntE e.toList : Int)) := ⟨by rw [← ht]; exact HS2.out⟩
          obtain ⟨q1, q2⟩ := wr2 (x := u1 + u2) (by have := HT.out; omega) (by have := HT.out; omega)
          obtain ⟨q3, q4⟩ := wr2 (x := s2 + (u1 + u2)) (by have := HT.out; have := HS3.out; omega) (by have := HT.out; have := HS3.out; omega)
          have S0 : (fun w' => Below wr.heap.size wr w' ∧ w'.cell? ⟨wo.heap.size, 0, none⟩ = some (.int .i64 k) ∧ w'.cell? ⟨wo.heap.size, 1, none⟩ = some (.string n) ∧ w'.cell? ⟨wo.heap.size, 2, none⟩ = some (.slice A1 j2 c1) ∧ w'.cell? ⟨wo.heap.size, 3, none⟩ = some (.slice A2 l2 c2) ∧ w'.cell? ⟨wo.heap.size, 4, none⟩ = some (.slice A3 l3 c3)) wr := ⟨Below.refl _ _, keep HB'.out (new_cell wo _ _ 0), keep HB'.out (new_cell wo _ _ 1), keep HB'.out (new_cell wo _ _ 2), keep HB'.out (new_cell wo _ _ 3), keep HB'.out (new_cell wo _ _ 4)⟩
          have H0 := Hd.mk S0
          clear S0 ht a0 a1 a2 a3 a4 hcb
          go_wp2_with fail
          go_region_held3 (fun w' => Below wr.heap.size wr w' ∧ w'.cell? ⟨wo.heap.size, 0, none⟩ = some (.int .i64 k) ∧ w'.cell? ⟨wo.heap.size, 1, none⟩ = some (.string n) ∧ w'.cell? ⟨wo.heap.size, 2, none⟩ = some (.slice A1 j2 c1) ∧ w'.cell? ⟨wo.heap.size, 3, none⟩ = some (.slice A2 l2 c2) ∧ w'.cell? ⟨wo.heap.size, 4, none⟩ = some (.slice A3 l3 c3)) (first | exact ⟨H0.out.1.drew, H0.out.2⟩ | exact S5d (by assumption) rfl (by assumption))
            (first
              | (go_at_call 71; (with_reducible refine ((K3.out _ (SlS_up (And.left (by assumption)) T2.out)).mono ?_)); (rintro e w5 ⟨rfl, hb5⟩))
              | (go_at_call 71; (with_reducible refine ((K4.out _ (SlS_up (And.left (by assumption)) T3.out)).mono ?_)); (rintro e w5 ⟨rfl, hb5⟩)))
          all_goals
            go_wp2_with fail
            go_roundw
            case rel => exact ⟨j + 1, s2 + (u1 + u2), by omega, by first | rfl | rw [q3], by go_num, by rw [← HT.out.1, HS3.out], step HB.out (step hbig (And.left (by assumption)))⟩
            case measure => simp [intOf]; omega
    · obtain rfl : j = l := by omega
      have ht : ks.toList.take j = ks.toList := List.take_of_length_le (by rw [← HLEN.out]; omega)
      have e : s = ((sumN (fun s => 1 + cntS s) ks.toList : Nat) : Int) := by
        rw [HS.out, ht]
        have h2 : sumN (fun s => 1 + cntS s) ks.toList = ks.toList.length + sumN cntS ks.toList := by
          generalize ks.toList = r
          induction r with
          | nil => rfl
          | cons a r ih => rw [sumN, sumN, List.length_cons, ih]; omega
        rw [h2, ← HLEN.out]
        omega
      go_wp2_with fail
      go_ret
      exact ⟨by rw [← e]; rfl, HB.out⟩
theorem cntSs_any : ∀ ks, CntSs ks := Sts.ind cntSs_walk
end Go.Proofs.YtbhgpegcdiohlaaGreatDoor.Tr

namespace Go.Proofs.YtbhgpegcdiohlaaGreatDoor.Tr
open Go Go.RowKit Go.Proofs
set_option linter.unusedVariables false
set_option maxRecDepth 100000
set_option maxHeartbeats 8000000
def cntD (d : De) : Nat := 1 + d.ps.length + cntSs d.bd + cntL d.e
theorem S7e {N : Nat} {w0 w w' : World} (hb : Below w.heap.size w w') (hN : w0.heap.size = N) {a0 a1 a2 a3 a4 a5 a6 : Addr} {v0 v1 v2 v3 v4 v5 v6 : Value} (h : Below N w0 w ∧ w.cell? a0 = some v0 ∧ w.cell? a1 = some v1 ∧ w.cell? a2 = some v2 ∧ w.cell? a3 = some v3 ∧ w.cell? a4 = some v4 ∧ w.cell? a5 = some v5 ∧ w.cell? a6 = some v6) : Below N w0 w' ∧ w'.cell? a0 = some v0 ∧ w'.cell? a1 = some v1 ∧ w'.cell? a2 = some v2 ∧ w'.cell? a3 = some v3 ∧ w'.cell? a4 = some v4 ∧ w'.cell? a5 = some v5 ∧ w'.cell? a6 = some v6 := by
  subst hN
  obtain ⟨h, c0, c1, c2, c3, c4, c5, c6⟩ := h
  exact ⟨step h hb, keep hb c0, keep hb c1, keep hb c2, keep hb c3, keep hb c4, keep hb c5, keep hb c6⟩
theorem nodes_any (m : Mo) (w : World) (v : Value) (hv : m.Is w v) (hN : sumN cntD m.ds ≤ 1152921504606846976) : Calls Tryz.prog 29 #[v] w (SaysI (sumN cntD m.ds) w) := by
  obtain ⟨A0, l0, c0, A, l, c, rfl, s0, hs⟩ := hv
  have hn := hs.2.1
  have HLEN := Hd.mk hs.1
  have G := Hd.mk hs
  have HN := Hd.mk hN
  clear hs hN s0
  go_enter Tryz.func29, Tryz.ntmps29
  go_wp2_with fail
  go_loopw [3, 11] (fun mo i w' => ∃ (j : Nat) (s : Int), j ≤ l ∧ mo = .int .i64 s ∧ i = .int .i64 j ∧ s = (sumN cntD (m.ds.take j) : Int) ∧ Below w.heap.size w w') (fun _ i _ => l - (intOf i).toNat)
  case atStart => exact ⟨0, 0, by omega, rfl, rfl, by simp [sumN], up (up0 _) _⟩
  case round =>
    obtain ⟨j, s, hj, rfl, rfl, hs, hb⟩ := hrel
    have HS := Hd.mk hs
    have HB := Hd.mk hb
    clear hs hb
    by_cases hlt : j < l
    · obtain ⟨x, hx⟩ : ∃ x, m.ds[j]? = some x := ⟨_, List.getElem?_eq_getElem (by rw [← HLEN.out]; exact hlt)⟩
      obtain ⟨B, o, rfl, g1⟩ := G.out.at (by omega)
      have i1 := De.In_below HB.out x (g1 j x hx)
      have hT := sumN_take cntD hx
      have hle := sumN_le cntD m.ds (j + 1)
      obtain ⟨k, ex, n, t, ps, e, bd⟩ := x
      obtain ⟨a0, a1, a2, a3, ⟨A1, l1, c1, a4, s1⟩, ⟨A2, l2, c2, a5, s2⟩, ⟨A3, l3, c3, a6, s3⟩⟩ := i1
      dsimp only at a0 a1 a2 a3 s1 s2 s3
      have S2 := Hd.mk s2
      have S3 := Hd.mk s3
      have lt1 : B < wr.heap.size := World.block_lt_of_cell? wr _ a0
      unfold cntD at hT
      dsimp only at hT
      rw [cntL_sum, ← s1.1] at hT
      obtain ⟨u1, hu1⟩ : ∃ u : Int, u = (cntSs bd : Int) := ⟨_, rfl⟩
      have K3 := Hd.mk (fun w (h : Sl 5 (fun x => x.In w) bd.toList A3 l3) => hu1 ▸ cntSs_any bd w A3 l3 c3 h (by have := HN.out; unfold cntD at *; omega))
      have HT : Hd (s + (1 + (l1 : Int) + u1) + sumN cntE e.toList = (sumN cntD (m.ds.take (j + 1)) : Int) ∧ 0 ≤ s ∧ 0 ≤ u1 ∧ s + (1 + (l1 : Int) + u1) + sumN cntE e.toList ≤ 1152921504606846976) := ⟨by have := HS.out; have := HN.out; unfold cntD at *; omega⟩
      clear g1 s1 s2 s3 hx hT hle hu1
      obtain ⟨wo, rfl⟩ : ∃ wo : World, wo = wr := ⟨_, rfl⟩
      obtain ⟨q1, q2⟩ := wr2 (x := 1 + (l1 : Int)) (by omega) (by have := HT.out; omega)
      obtain ⟨q3, q4⟩ := wr2 (x := 1 + (l1 : Int) + u1) (by have := HT.out; omega) (by have := HT.out; omega)
      obtain ⟨q5, q6⟩ := wr2 (x := s + (1 + (l1 : Int) + u1)) (by have := HT.out; omega) (by have := HT.out; omega)
      go_wp2_with fail
      have S0 : (fun w' => Below (wo.alloc (.cells #[.int .i64 k, .bool ex, .string n, .int .i64 t, .slice A1 l1 c1, .slice A2 l2 c2, .slice A3 l3 c3] 47 (0, 0))).heap.size (wo.alloc (.cells #[.int .i64 k, .bool ex, .string n, .int .i64 t, .slice A1 l1 c1, .slice A2 l2 c2, .slice A3 l3 c3] 47 (0, 0))) w' ∧ w'.cell? ⟨wo.heap.size, 0, none⟩ = some (.int .i64 k) ∧ w'.cell? ⟨wo.heap.size, 1, none⟩ = some (.bool ex) ∧ w'.cell? ⟨wo.heap.size, 2, none⟩ = some (.string n) ∧ w'.cell? ⟨wo.heap.size, 3, none⟩ = some (.int .i64 t) ∧ w'.cell? ⟨wo.heap.size, 4, none⟩ = some (.slice A1 l1 c1) ∧ w'.cell? ⟨wo.heap.size, 5, none⟩ = some (.slice A2 l2 c2) ∧ w'.cell? ⟨wo.heap.size, 6, none⟩ = some (.slice A3 l3 c3)) (wo.alloc (.cells #[.int .i64 k, .bool ex, .string n, .int .i64 t, .slice A1 l1 c1, .slice A2 l2 c2, .slice A3 l3 c3] 47 (0, 0))) := ⟨Below.refl _ _, new_cell wo _ _ 0, new_cell wo _ _ 1, new_cell wo _ _ 2, new_cell wo _ _ 3, new_cell wo _ _ 4, new_cell wo _ _ 5, new_cell wo _ _ 6⟩
      have H0 := Hd.mk S0
      have T3 := Hd.mk (SlS_up (up (up0 wo) (.cells #[.int .i64 k, .bool ex, .string n, .int .i64 t, .slice A1 l1 c1, .slice A2 l2 c2, .slice A3 l3 c3] 47 (0, 0))) S3.out)
      clear S0 a0 a1 a2 a3 a4 a5 a6
      go_region_held3 (fun w' => Below (wo.alloc (.cells #[.int .i64 k, .bool ex, .string n, .int .i64 t, .slice A1 l1 c1, .slice A2 l2 c2, .slice A3 l3 c3] 47 (0, 0))).heap.size (wo.alloc (.cells #[.int .i64 k, .bool ex, .string n, .int .i64 t, .slice A1 l1 c1, .slice A2 l2 c2, .slice A3 l3 c3] 47 (0, 0))) w' ∧ w'.cell? ⟨wo.heap.size, 0, none⟩ = some (.int .i64 k) ∧ w'.cell? ⟨wo.heap.size, 1, none⟩ = some (.bool ex) ∧ w'.cell? ⟨wo.heap.size, 2, none⟩ = some (.string n) ∧ w'.cell? ⟨wo.heap.size, 3, none⟩ = some (.int .i64 t) ∧ w'.cell? ⟨wo.heap.size, 4, none⟩ = some (.slice A1 l1 c1) ∧ w'.cell? ⟨wo.heap.size, 5, none⟩ = some (.slice A2 l2 c2) ∧ w'.cell? ⟨wo.heap.size, 6, none⟩ = some (.slice A3 l3 c3)) (first | exact ⟨H0.out.1.drew, H0.out.2⟩ | exact S7e (by assumption) rfl (by assumption))
        (first
          | (go_at_call 71; (with_reducible refine ((K3.out _ (SlS_up (And.left (by assumption)) T3.out)).mono ?_)); (rintro e w5 ⟨rfl, hb5⟩)))
      all_goals
        obtain ⟨hB, k0, k1, k2, k3, k4, k5, k6⟩ := (show Below _ _ _ ∧ _ from by assumption)
        have HW5 := Hd.mk (step (up (up0 wo) _) hB)
        have T2 := Hd.mk (Sl_up HW5.out S2.out)
        have hn2 := S2.out.2.1
        clear hB
        go_wp2_with fail
        go_loopw [3, 28] (fun mo i w' => ∃ (j2 : Nat) (s2 : Int), j2 ≤ l2 ∧ mo = .int .i64 s2 ∧ i = .int .i64 j2 ∧ s2 = s + (1 + (l1 : Int) + u1) + (sumN cntE (e.toList.take j2) : Int) ∧ Below w5.heap.size w5 w') (fun _ i _ => l2 - (intOf i).toNat)
        case atStart => exact ⟨0, _, by omega, rfl, rfl, by simp [sumN], Below.refl _ _⟩
        case round =>
          obtain ⟨j2, s2, hj2, rfl, rfl, hs2, hb⟩ := hrel
          have HS2 := Hd.mk hs2
          have HB' := Hd.mk hb
          clear hs2 hb
          by_cases hlt2 : j2 < l2
          · obtain ⟨x, hx⟩ : ∃ x, e.toList[j2]? = some x := ⟨_, List.getElem?_eq_getElem (by rw [← S2.out.1]; exact hlt2)⟩
            obtain ⟨B', o', rfl, g1⟩ := T2.out.at (by omega)
            have i1 := Ex.In_below HB'.out x (g1 j2 x hx)
            obtain ⟨v0, v1, v2, v3, v4, v5, v6, v7, v8, a0, a1, a2, a3, a4, a5, a6, ax⟩ := Ex.In_Is i1
            have hT := sumN_take cntE hx
            have hle := sumN_le cntE e.toList (j2 + 1)
            obtain ⟨cx, hcx⟩ : ∃ cx : Int, cx = (cntE x : Int) := ⟨_, rfl⟩
            have X := Hd.mk (fun w' (hb : Below wr.heap.size wr w') => hcx ▸ cnt_any x w' _ (Ex.Is_below hb ax) (by have := HT.out; omega))
            have lt2 : B' < wr.heap.size := World.block_lt_of_cell? wr _ a0
            have hw : wrap64 (s2 + cx) = s2 + cx := (wr2 (by have := HT.out; have := HS2.out; omega) (by have := HT.out; have := HS2.out; omega)).1
            have E : Hd (s2 + cx = s + (1 + (l1 : Int) + u1) + (sumN cntE (e.toList.take (j2 + 1)) : Int)) := ⟨by have := HS2.out; omega⟩
            have EW := Hd.mk hw
            clear ax i1 g1 hx hT hle hcx
            go_wp2_with (go_at_call 72; (with_reducible refine ((X.out _ (up (up0 _) _)).mono ?_)); (rintro e w3 ⟨rfl, hb3⟩; have HB3 := Hd.mk hb3; clear hb3))
            go_roundw
            case rel => exact ⟨j2 + 1, s2 + cx, by omega, by first | rfl | rw [EW.out], by go_num, E.out, HB'.out.trans ((step (up (up0 _) _) HB3.out).mono HB'.out.size)⟩
            case measure => simp [intOf]; omega
          · obtain rfl : j2 = l2 := by omega
            have ht : e.toList.take j2 = e.toList := List.take_of_length_le (by rw [← S2.out.1]; omega)
            have hs3 := HS2.out
            rw [ht] at hs3
            go_wp2_with fail
            go_roundw
            case rel => exact ⟨j + 1, s2, by omega, rfl, by go_num, by rw [hs3]; exact HT.out.1, step HB.out (step HW5.out HB'.out)⟩
            case measure => simp [intOf]; omega
    · obtain rfl : j = l := by omega
      have ht : m.ds.take j = m.ds := List.take_of_length_le (by rw [← HLEN.out]; omega)
      go_wp2_with fail
      go_ret
      exact ⟨by rw [← show s = (sumN cntD m.ds : Int) by rw [HS.out, ht]]; rfl, HB.out⟩
end Go.Proofs.YtbhgpegcdiohlaaGreatDoor.Tr

namespace Go.Proofs.YtbhgpegcdiohlaaGreatDoor.Tr
open Go Go.RowKit Go.Proofs
set_option linter.unusedVariables false
set_option maxRecDepth 100000
set_option maxHeartbeats 8000000
attribute [local go_sem] max2_int max_two
def depDs : List De → Int → Int
  | [], m => m
  | d :: r, m => depDs r (maxI m (deepDe d))
theorem depDs_snoc : ∀ (l : List De) (d : De) (m : Int), depDs (l ++ [d]) m = maxI (depDs l m) (deepDe d)
  | [], d, m => rfl
  | a :: l, d, m => by rw [List.cons_append, depDs, depDs, depDs_snoc l d]
theorem depth_any (m : Mo) (w : World) (v : Value) (hv : m.Is w v) : Calls Tryz.prog 30 #[v] w (SaysI (depDs m.ds 0) w) := by
  obtain ⟨A0, l0, c0, A, l, c, rfl, s0, hs⟩ := hv
  have hn := hs.2.1
  have HLEN := Hd.mk hs.1
  have G := Hd.mk hs
  clear hs s0
  go_enter Tryz.func30, Tryz.ntmps30
  go_wp2_with fail
  go_loopw [3, 9] (fun mo i w' => ∃ (j : Nat) (s : Int), j ≤ l ∧ mo = .int .i64 s ∧ i = .int .i64 j ∧ s = depDs (m.ds.take j) 0 ∧ Below w.heap.size w w') (fun _ i _ => l - (intOf i).toNat)
  case atStart => exact ⟨0, 0, by omega, rfl, rfl, rfl, up (up0 _) _⟩
  case round =>
    obtain ⟨j, s, hj, rfl, rfl, hs, hb⟩ := hrel
    have HS := Hd.mk hs
    have HB := Hd.mk hb
    clear hs hb
    by_cases hlt : j < l
    · obtain ⟨x, hx⟩ : ∃ x, m.ds[j]? = some x := ⟨_, List.getElem?_eq_getElem (by rw [← HLEN.out]; exact hlt)⟩
      obtain ⟨B, o, rfl, g1⟩ := G.out.at (by omega)
      have i1 := De.In_below HB.out x (g1 j x hx)
      obtain ⟨v0, v1, v2, v3, v4, v5, v6, v7, v8, v9, v10, v11, v12, a0, a1, a2, a3, a4, a5, a6, ax⟩ := De.In_Is i1
      obtain ⟨dd, hdd⟩ : ∃ dd, dd = deepDe x := ⟨_, rfl⟩
      have X := Hd.mk (fun w' (hb : Below wr.heap.size wr w') => hdd ▸ deepDecl_any x w' _ (De.Is_below hb ax))
      have lt1 : B < wr.heap.size := World.block_lt_of_cell? wr _ a0
      have E : Hd (maxI s dd = depDs (m.ds.take (j + 1)) 0) := ⟨by rw [take_next hx, depDs_snoc, HS.out, hdd]⟩
      clear g1 i1 ax hx hdd
      go_wp2_with (go_at_call 73; (with_reducible refine ((X.out _ (up (up0 _) _)).mono ?_)); (rintro e w3 ⟨rfl, hb3⟩; have HB3 := Hd.mk hb3; clear hb3))
      all_goals
        go_roundw
        case rel =>
          refine ⟨j + 1, _, by omega, rfl, by go_num, ?_, step (up HB.out _) HB3.out⟩
          rw [← E.out]
          rfl
        case measure => simp [intOf]; omega
    · obtain rfl : j = l := by omega
      have ht : m.ds.take j = m.ds := List.take_of_length_le (by rw [← HLEN.out]; omega)
      go_wp2_with fail
      go_ret
      exact ⟨by rw [← show s = depDs m.ds 0 by rw [HS.out, ht]]; rfl, HB.out⟩
end Go.Proofs.YtbhgpegcdiohlaaGreatDoor.Tr
