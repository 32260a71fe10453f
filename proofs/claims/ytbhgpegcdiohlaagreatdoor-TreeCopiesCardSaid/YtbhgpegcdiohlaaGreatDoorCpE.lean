import Derived.Test.YtbhgpegcdiohlaaGreatDoorCpD
namespace Go.Proofs.YtbhgpegcdiohlaaGreatDoor.Tr
open Go Go.RowKit Go.Proofs
set_option linter.unusedVariables false
set_option maxRecDepth 100000
set_option maxHeartbeats 4000000
theorem slO_split {sz : Nat} {P : Nat → Nat → Prop} {A : Option Addr} {l : Nat} (h : SlO sz P A l) : ∃ B o, (0 < l → A = some ⟨B, o, none⟩) ∧ ∀ i, i < l → P B (o + i * sz) := by
  rcases Nat.eq_zero_or_pos l with hz | hp
  · exact ⟨0, 0, fun h => by omega, fun i hi => by omega⟩
  · obtain ⟨B, o, h1, h2⟩ := h hp
    exact ⟨B, o, fun _ => h1, h2⟩
theorem isSome5 {w : World} {g o : Nat} {u0 u1 u2 u3 u4 : Value} (e0 : w.cell? ⟨g, o, none⟩ = some u0) (e1 : w.cell? ⟨g, o + 1, none⟩ = some u1) (e2 : w.cell? ⟨g, o + 2, none⟩ = some u2) (e3 : w.cell? ⟨g, o + 3, none⟩ = some u3) (e4 : w.cell? ⟨g, o + 4, none⟩ = some u4) : ∀ r, r < 5 → (w.cell? ⟨g, o + r, none⟩).isSome = true
  | 0, _ => by rw [Nat.add_zero, e0]; rfl
  | 1, _ => by rw [e1]; rfl
  | 2, _ => by rw [e2]; rfl
  | 3, _ => by rw [e3]; rfl
  | 4, _ => by rw [e4]; rfl
  | r + 5, h => by omega
/-- what a copy of such a list is -/
def SPost (l : List St) (w : World) (e : Ending) (w' : World) : Prop := ∃ (A' : Option Addr) (n c' : Nat), e = .returned (.slice A' n c') ∧ Below w.heap.size w w' ∧ Sl 5 (fun x => x.In w') l A' n ∧ SlO 5 (OwS w.heap.size w'.heap.size w') A' n
def CSPost (x : St) (w : World) (r : Ending) (w' : World) : Prop := ∃ k n e bd el A3 l3 c3 A4 l4 c4 A5 l5 c5, x = .mk k n e bd el ∧ r = .returned (.agg #[.int .i64 k, .string n, .slice A3 l3 c3, .slice A4 l4 c4, .slice A5 l5 c5]) ∧ Below w.heap.size w w' ∧ Sl 7 (fun x => x.In w') e.toList A3 l3 ∧ SlO 7 (OwE w.heap.size w'.heap.size w') A3 l3 ∧ Sl 5 (fun x => x.In w') bd.toList A4 l4 ∧ SlO 5 (OwS w.heap.size w'.heap.size w') A4 l4 ∧ Sl 5 (fun x => x.In w') el.toList A5 l5 ∧ SlO 5 (OwS w.heap.size w'.heap.size w') A5 l5
def CopyS (x : St) : Prop := ∀ (w : World) (v : Value), x.Is w v → x.Rm → Calls Tryz.prog 68 #[v] w (CSPost x w)
theorem St.cell_oneC {w : World} {x : St} {B p : Nat} (h : x.In w B p) (r : Nat) (hr : r < 5) : ∃ u, w.cell? ⟨B, p + r, none⟩ = some u ∧ u.oneCell' = true := by
  obtain ⟨v0, v1, v2, v3, v4, v5, v6, v7, v8, v9, v10, a0, a1, a2, a3, a4, ax⟩ := St.In_Is h
  match r, hr with
  | 0, _ => exact ⟨_, a0, rfl⟩
  | 1, _ => exact ⟨_, a1, rfl⟩
  | 2, _ => exact ⟨_, a2, rfl⟩
  | 3, _ => exact ⟨_, a3, rfl⟩
  | 4, _ => exact ⟨_, a4, rfl⟩
/-- an element that is copied already -/
def DnS (g hi : Nat) (w : World) (o : Nat) (x : St) : Prop := ∃ k n e bd el A3 l3 c3 A4 l4 c4 A5 l5 c5, x = .mk k n e bd el ∧ w.rangeAt g o [.int .i64 k, .string n, .slice A3 l3 c3, .slice A4 l4 c4, .slice A5 l5 c5] ∧ Sl 7 (fun x => x.In w) e.toList A3 l3 ∧ SlO 7 (OwE (g + 1) hi w) A3 l3 ∧ Sl 5 (fun x => x.In w) bd.toList A4 l4 ∧ SlO 5 (OwS (g + 1) hi w) A4 l4 ∧ Sl 5 (fun x => x.In w) el.toList A5 l5 ∧ SlO 5 (OwS (g + 1) hi w) A5 l5
theorem DnS.keep {g hi hi' : Nat} {w w' : World} (hk : Kp (g + 1) hi w w') (hh : hi ≤ hi') {o : Nat} (hc : ∀ r, r < 5 → w'.cell? ⟨g, o + r, none⟩ = w.cell? ⟨g, o + r, none⟩) {x : St} (h : DnS g hi w o x) : DnS g hi' w' o x := by
  obtain ⟨k, n, e, bd, el, A3, l3, c3, A4, l4, c4, A5, l5, c5, rfl, hr, s3, o3, s4, o4, s5, o5⟩ := h
  refine ⟨k, n, e, bd, el, A3, l3, c3, A4, l4, c4, A5, l5, c5, rfl, fun j v hv => ?_, SlE_keep hk s3 o3, o3.mono fun _ _ h => h.keep (Nat.le_refl _) hh hk, SlS_keep hk s4 o4, o4.mono fun _ _ h => h.keep (Nat.le_refl _) hh hk, SlS_keep hk s5 o5, o5.mono fun _ _ h => h.keep (Nat.le_refl _) hh hk⟩
  rw [hc j (by simpa using (List.getElem?_eq_some_iff.1 hv).1)]
  exact hr j v hv
theorem DnS.in {g hi : Nat} {w : World} {o : Nat} {x : St} (h : DnS g hi w o x) : x.In w g o := by
  obtain ⟨k, n, e, bd, el, A3, l3, c3, A4, l4, c4, A5, l5, c5, rfl, hr, s3, o3, s4, o4, s5, o5⟩ := h
  refine St.put (cs := #[.int .i64 k, .string n, .slice A3 l3 c3, .slice A4 l4 c4, .slice A5 l5 c5]) ?_ fun i v hv => hr i v (by simpa using hv)
  exact ⟨A3, l3, c3, A4, l4, c4, A5, l5, c5, rfl, s3, s4, s5⟩
theorem DnS.ow {g lo hi : Nat} {w : World} {o : Nat} {x : St} (h : DnS g hi w o x) (h1 : lo ≤ g) (h2 : g < hi) (h3 : ∀ r, w.frozen? ⟨g, r, none⟩ = false) : OwS lo hi w g o := by
  obtain ⟨k, n, e, bd, el, A3, l3, c3, A4, l4, c4, A5, l5, c5, rfl, hr, s3, o3, s4, o4, s5, o5⟩ := h
  have o3' : SlO 7 (OwE lo hi w) A3 l3 := o3.mono fun _ _ h => h.keep (by omega) (Nat.le_refl _) (fun _ _ _ => rfl)
  obtain ⟨B4, q4, g4, h4⟩ := slO_split (o4.mono fun _ _ h => h.keep (lo' := lo) (by omega) (Nat.le_refl _) (fun _ _ _ => rfl))
  obtain ⟨B5, q5, g5, h5⟩ := slO_split (o5.mono fun _ _ h => h.keep (lo' := lo) (by omega) (Nat.le_refl _) (fun _ _ _ => rfl))
  exact .mk g o k n A3 l3 c3 A4 l4 c4 B4 q4 A5 l5 c5 B5 q5 h1 h2 h3 (hr 0 _ rfl) (hr 1 _ rfl) (hr 2 _ rfl) s3.2.1 o3' (hr 3 _ rfl) s4.2.1 g4 h4 (hr 4 _ rfl) s5.2.1 g5 h5
theorem each67 (ks : List St) (hK : ∀ x ∈ ks, CopyS x) (w : World) (A : Option Addr) (l c : Nat) (hs : Sl 5 (fun x => x.In w) ks A l) (hR : l * 96 ≤ 140737488351232) (hRm : ∀ x ∈ ks, x.Rm) : Calls Tryz.prog 67 #[.slice A l c, .func (.func 68) #[] #[]] w (SPost ks w) := by
  obtain ⟨news, n1, n2, n3, n4⟩ := cells_gen (by decide) (fun x B o h => St.cell_oneC h) hs
  have HLEN := Hd.mk hs.1
  have hl63 := hs.2.1
  have G := Hd.mk hs
  have HK := Hd.mk hK
  have HRM := Hd.mk hRm
  have X := Hd.mk (clone118 w A l c news n1 n2 n3 hR)
  have N1 := Hd.mk n1
  have N3 := Hd.mk n3
  have N4 := Hd.mk n4
  clear hs hK hRm n1 n2 n3 n4
  go_enter Tryz.func67, Tryz.ntmps67
  go_wp2_with (go_at_call 118; (with_reducible refine (X.out.mono ?_)); (rintro e w1 ⟨A1, c1, rfl, hb1, hg1⟩; have HB1 := Hd.mk hb1; have HG := Hd.mk hg1; clear hb1 hg1))
  go_loopw [12] (fun i w' => ∃ j : Nat, j ≤ l ∧ i = .int .i64 j ∧ Below w.heap.size w w' ∧ w1.heap.size ≤ w'.heap.size ∧ (0 < l → ∃ g, A1 = some ⟨g, 0, none⟩ ∧ w.heap.size ≤ g ∧ g < w'.heap.size ∧ (∀ r, w'.frozen? ⟨g, r, none⟩ = false) ∧
      (∀ q, j * 5 ≤ q → q < l * 5 → w'.cell? ⟨g, q, none⟩ = news[q]?) ∧ ∀ (i : Nat) (x : St), i < j → ks[i]? = some x → DnS g w'.heap.size w' (i * 5) x)) (fun i _ => l - (intOf i).toNat)
  case atStart => exact ⟨0, by omega, rfl, HB1.out, Nat.le_refl _, fun hp => by
    obtain ⟨g, a1, a2, a3, a4, a5⟩ := HG.out hp
    exact ⟨g, a1, a2, a3, a5, fun q _ hq => a4 q hq, fun i x hi => by omega⟩⟩
  case round =>
    obtain ⟨j, hj, rfl, hb, hsz, hg⟩ := hrel
    have HB := Hd.mk hb
    have HSZ := Hd.mk hsz
    have HG2 := Hd.mk hg
    clear hb hsz hg
    by_cases hlt : j < l
    · obtain ⟨x, hx⟩ : ∃ x, ks[j]? = some x := ⟨_, List.getElem?_eq_getElem (by rw [← HLEN.out]; exact hlt)⟩
      obtain ⟨B, o, hA, g1⟩ := G.out.at (by omega)
      obtain ⟨g, rfl, b2, b3, b4, b5, b6⟩ := HG2.out (by omega)
      have i1 := g1 j x hx
      obtain ⟨v0, v1, v2, v3, v4, v5, v6, v7, v8, v9, v10, a0, a1, a2, a3, a4, ax⟩ := St.In_Is i1
      have cp : ∀ (r : Nat) (u : Value), r < 5 → w.cell? ⟨B, o + j * 5 + r, none⟩ = some u → wr.cell? ⟨g, j * 5 + r, none⟩ = some u := fun r u hr hu => by
        rw [b5 (j * 5 + r) (by omega) (by omega), N4.out B o hA (j * 5 + r) (by omega), ← Nat.add_assoc]
        exact hu
      have d0 := cp 0 _ (by decide) a0
      have d1 := cp 1 _ (by decide) a1
      have d2 := cp 2 _ (by decide) a2
      have d3 := cp 3 _ (by decide) a3
      have d4 := cp 4 _ (by decide) a4
      rw [Nat.add_zero] at d0
      have X := Hd.mk (fun w' (hb : Below w.heap.size w w') => HK.out x (List.mem_of_getElem? hx) w' _ (St.Is_below hb ax) (HRM.out x (List.mem_of_getElem? hx)))
      have B2 := Hd.mk b2
      have B4 := Hd.mk b4
      have B5 := Hd.mk b5
      have B6 := Hd.mk b6
      have HX := Hd.mk hx
      clear i1 ax cp a0 a1 a2 a3 a4 b2 b4 b5 b6 hx g1 HG2 hA
      obtain ⟨wo, rfl⟩ : ∃ wo : World, wo = wr := ⟨_, rfl⟩
      go_wp2_with ((go_at_call 68; (with_reducible refine ((X.out _ (up HB.out _)).mono ?_)); (rintro e w3 ⟨k, n, e, bd, el, A3, l3, c3, A4, l4, c4, A5, l5, c5, rfl, rfl, hb3, hs3, ho3, hs4, ho4, hs5, ho5⟩; have HB3 := Hd.mk hb3; have HS3 := Hd.mk hs3; have HO3 := Hd.mk ho3; have HS4 := Hd.mk hs4; have HO4 := Hd.mk ho4; have HS5 := Hd.mk hs5; have HO5 := Hd.mk ho5; clear hb3 hs3 ho3 hs4 ho4 hs5 ho5; have hup := step (up (up0 wo) _) HB3.out; have f3 : ∀ r, w3.frozen? ⟨g, r, none⟩ = false := fun r => (hup.frozen (p := ⟨g, r, none⟩) b3).trans (B4.out r); have e0 := keep hup d0; have e1 := keep hup d1; have e2 := keep hup d2; have e3 := keep hup d3; have e4 := keep hup d4; have HUP := Hd.mk hup; clear hup)))
      obtain ⟨W, hW⟩ : ∃ W : World, W = (((((w3.setCell ⟨g, j * 5, none⟩ (.int .i64 k)).setCell ⟨g, j * 5 + 1, none⟩ (.string n)).setCell ⟨g, j * 5 + 2, none⟩ (.slice A3 l3 c3)).setCell ⟨g, j * 5 + 3, none⟩ (.slice A4 l4 c4)).setCell ⟨g, j * 5 + 4, none⟩ (.slice A5 l5 c5)) := ⟨_, rfl⟩
      rw [← hW]
      have hWs : W = w3.setCells g (j * 5) [.int .i64 k, .string n, .slice A3 l3 c3, .slice A4 l4 c4, .slice A5 l5 c5] := hW
      clear hW
      obtain ⟨hsz, hbl, hin, hout, hfr⟩ := stored_row (vs := [.int .i64 k, .string n, .slice A3 l3 c3, .slice A4 l4 c4, .slice A5 l5 c5]) hWs (isSome5 e0 e1 e2 e3 e4)
      have hkp : Kp (g + 1) w3.heap.size w3 W := fun q h1 _ => hbl q (by omega)
      go_roundw
      case rel =>
        refine ⟨j + 1, by omega, by go_num, ?_, by rw [hsz]; exact Nat.le_trans HSZ.out HUP.out.size, fun _ => ⟨g, rfl, B2.out, by rw [hsz]; exact Nat.lt_of_lt_of_le b3 HUP.out.size, fun r => by rw [hfr]; exact f3 r, fun q hq1 hq2 => ?_, fun i y hi hy => ?_⟩⟩
        · exact below_setRow (step HB.out HUP.out) hsz hbl B2.out hWs
        · rw [hout q (by simp; omega)]
          exact ((HUP.out.cell (p := ⟨g, q, none⟩) b3).trans (B5.out q (by omega) hq2))
        · rcases Nat.lt_or_ge i j with h | h
          · refine (B6.out i y h hy).keep (w' := W) (fun q h1 h2 => by rw [hbl q (by omega)]; exact HUP.out.block q h2) (by rw [hsz]; exact HUP.out.size) fun r hr => ?_
            rw [hout _ (by simp; omega)]
            exact HUP.out.cell (p := ⟨g, i * 5 + r, none⟩) b3
          · obtain rfl : i = j := by omega
            have hyx := hy.symm.trans HX.out
            injection hyx with hyx
            subst hyx
            rw [hsz]
            have ho3 : SlO 7 (OwE (g + 1) w3.heap.size w3) A3 l3 := HO3.out.mono fun _ _ h => h.keep (by simp; omega) (Nat.le_refl _) (fun _ _ _ => rfl)
            have ho4 : SlO 5 (OwS (g + 1) w3.heap.size w3) A4 l4 := HO4.out.mono fun _ _ h => h.keep (by simp; omega) (Nat.le_refl _) (fun _ _ _ => rfl)
            have ho5 : SlO 5 (OwS (g + 1) w3.heap.size w3) A5 l5 := HO5.out.mono fun _ _ h => h.keep (by simp; omega) (Nat.le_refl _) (fun _ _ _ => rfl)
            exact ⟨k, n, e, bd, el, A3, l3, c3, A4, l4, c4, A5, l5, c5, rfl, hin, SlE_keep hkp HS3.out ho3, ho3.mono fun _ _ h => h.keep (Nat.le_refl _) (Nat.le_refl _) hkp, SlS_keep hkp HS4.out ho4, ho4.mono fun _ _ h => h.keep (Nat.le_refl _) (Nat.le_refl _) hkp, SlS_keep hkp HS5.out ho5, ho5.mono fun _ _ h => h.keep (Nat.le_refl _) (Nat.le_refl _) hkp⟩
      case measure => simp [intOf]; omega
    · obtain rfl : j = l := by omega
      go_wp2_with fail
      go_ret
      refine ⟨A1, j, c1, rfl, HB.out, ⟨HLEN.out, hl63, fun hp => ?_⟩, fun hp => ?_⟩
      · obtain ⟨g, e1, b2, b3, b4, b5, b6⟩ := HG2.out hp
        exact ⟨g, 0, e1, fun i x hx => by rw [Nat.zero_add]; exact (b6 i x (by rw [HLEN.out]; exact (List.getElem?_eq_some_iff.1 hx).1) hx).in⟩
      · obtain ⟨g, e1, b2, b3, b4, b5, b6⟩ := HG2.out hp
        refine ⟨g, 0, e1, fun i hi => ?_⟩
        obtain ⟨x, hx⟩ : ∃ x, ks[i]? = some x := ⟨_, List.getElem?_eq_getElem (by rw [← HLEN.out]; exact hi)⟩
        rw [Nat.zero_add]
        exact (b6 i x hi hx).ow b2 b3 b4
/-- what a copy of such a list is -/
def DPost (l : List De) (w : World) (e : Ending) (w' : World) : Prop := ∃ (A' : Option Addr) (n c' : Nat), e = .returned (.slice A' n c') ∧ Below w.heap.size w w' ∧ Sl 7 (fun x => x.In w') l A' n ∧ SlO 7 (OwD w.heap.size w'.heap.size w') A' n
def CDPost (x : De) (w : World) (r : Ending) (w' : World) : Prop := ∃ k y n t ps e bd A3 l3 c3 A4 l4 c4 A5 l5 c5, x = ⟨k, y, n, t, ps, e, bd⟩ ∧ r = .returned (.agg #[.int .i64 k, .bool y, .string n, .int .i64 t, .slice A3 l3 c3, .slice A4 l4 c4, .slice A5 l5 c5]) ∧ Below w.heap.size w w' ∧ Sl 2 (fun x => x.In w') ps A3 l3 ∧ SlO 2 (OwP w.heap.size w'.heap.size w') A3 l3 ∧ Sl 7 (fun x => x.In w') e.toList A4 l4 ∧ SlO 7 (OwE w.heap.size w'.heap.size w') A4 l4 ∧ Sl 5 (fun x => x.In w') bd.toList A5 l5 ∧ SlO 5 (OwS w.heap.size w'.heap.size w') A5 l5
def CopyD (x : De) : Prop := ∀ (w : World) (v : Value), x.Is w v → x.Rm → Calls Tryz.prog 63 #[v] w (CDPost x w)
theorem De.cell_oneC {w : World} {x : De} {B p : Nat} (h : x.In w B p) (r : Nat) (hr : r < 7) : ∃ u, w.cell? ⟨B, p + r, none⟩ = some u ∧ u.oneCell' = true := by
  obtain ⟨v0, v1, v2, v3, v4, v5, v6, v7, v8, v9, v10, v11, v12, a0, a1, a2, a3, a4, a5, a6, ax⟩ := De.In_Is h
  match r, hr with
  | 0, _ => exact ⟨_, a0, rfl⟩
  | 1, _ => exact ⟨_, a1, rfl⟩
  | 2, _ => exact ⟨_, a2, rfl⟩
  | 3, _ => exact ⟨_, a3, rfl⟩
  | 4, _ => exact ⟨_, a4, rfl⟩
  | 5, _ => exact ⟨_, a5, rfl⟩
  | 6, _ => exact ⟨_, a6, rfl⟩
/-- an element that is copied already -/
def DnD (g hi : Nat) (w : World) (o : Nat) (x : De) : Prop := ∃ k y n t ps e bd A3 l3 c3 A4 l4 c4 A5 l5 c5, x = ⟨k, y, n, t, ps, e, bd⟩ ∧ w.rangeAt g o [.int .i64 k, .bool y, .string n, .int .i64 t, .slice A3 l3 c3, .slice A4 l4 c4, .slice A5 l5 c5] ∧ Sl 2 (fun x => x.In w) ps A3 l3 ∧ SlO 2 (OwP (g + 1) hi w) A3 l3 ∧ Sl 7 (fun x => x.In w) e.toList A4 l4 ∧ SlO 7 (OwE (g + 1) hi w) A4 l4 ∧ Sl 5 (fun x => x.In w) bd.toList A5 l5 ∧ SlO 5 (OwS (g + 1) hi w) A5 l5
theorem DnD.keep {g hi hi' : Nat} {w w' : World} (hk : Kp (g + 1) hi w w') (hh : hi ≤ hi') {o : Nat} (hc : ∀ r, r < 7 → w'.cell? ⟨g, o + r, none⟩ = w.cell? ⟨g, o + r, none⟩) {x : De} (h : DnD g hi w o x) : DnD g hi' w' o x := by
  obtain ⟨k, y, n, t, ps, e, bd, A3, l3, c3, A4, l4, c4, A5, l5, c5, rfl, hr, s3, o3, s4, o4, s5, o5⟩ := h
  refine ⟨k, y, n, t, ps, e, bd, A3, l3, c3, A4, l4, c4, A5, l5, c5, rfl, fun j v hv => ?_, SlP_keep hk s3 o3, o3.mono fun _ _ h => h.keep (Nat.le_refl _) hh hk, SlE_keep hk s4 o4, o4.mono fun _ _ h => h.keep (Nat.le_refl _) hh hk, SlS_keep hk s5 o5, o5.mono fun _ _ h => h.keep (Nat.le_refl _) hh hk⟩
  rw [hc j (by simpa using (List.getElem?_eq_some_iff.1 hv).1)]
  exact hr j v hv
theorem DnD.in {g hi : Nat} {w : World} {o : Nat} {x : De} (h : DnD g hi w o x) : x.In w g o := by
  obtain ⟨k, y, n, t, ps, e, bd, A3, l3, c3, A4, l4, c4, A5, l5, c5, rfl, hr, s3, o3, s4, o4, s5, o5⟩ := h
  refine De.put (cs := #[.int .i64 k, .bool y, .string n, .int .i64 t, .slice A3 l3 c3, .slice A4 l4 c4, .slice A5 l5 c5]) ?_ fun i v hv => hr i v (by simpa using hv)
  exact ⟨A3, l3, c3, A4, l4, c4, A5, l5, c5, rfl, s3, s4, s5⟩
theorem DnD.ow {g lo hi : Nat} {w : World} {o : Nat} {x : De} (h : DnD g hi w o x) (h1 : lo ≤ g) (h2 : g < hi) (h3 : ∀ r, w.frozen? ⟨g, r, none⟩ = false) : OwD lo hi w g o := by
  obtain ⟨k, y, n, t, ps, e, bd, A3, l3, c3, A4, l4, c4, A5, l5, c5, rfl, hr, s3, o3, s4, o4, s5, o5⟩ := h
  exact ⟨h1, h2, h3, ⟨k, hr 0 _ rfl⟩, ⟨A3, l3, c3, hr 4 _ rfl, s3.2.1, o3.mono fun _ _ h => h.keep (by omega) (Nat.le_refl _) (fun _ _ _ => rfl)⟩, ⟨A4, l4, c4, hr 5 _ rfl, s4.2.1, o4.mono fun _ _ h => h.keep (by omega) (Nat.le_refl _) (fun _ _ _ => rfl)⟩, ⟨A5, l5, c5, hr 6 _ rfl, s5.2.1, o5.mono fun _ _ h => h.keep (by omega) (Nat.le_refl _) (fun _ _ _ => rfl)⟩⟩
theorem each62 (ks : List De) (hK : ∀ x ∈ ks, CopyD x) (w : World) (A : Option Addr) (l c : Nat) (hs : Sl 7 (fun x => x.In w) ks A l) (hR : l * 112 ≤ 140737488351232) (hRm : ∀ x ∈ ks, x.Rm) : Calls Tryz.prog 62 #[.slice A l c, .func (.func 63) #[] #[]] w (DPost ks w) := by
  obtain ⟨news, n1, n2, n3, n4⟩ := cells_gen (by decide) (fun x B o h => De.cell_oneC h) hs
  have HLEN := Hd.mk hs.1
  have hl63 := hs.2.1
  have G := Hd.mk hs
  have HK := Hd.mk hK
  have HRM := Hd.mk hRm
  have X := Hd.mk (clone116 w A l c news n1 n2 n3 hR)
  have N1 := Hd.mk n1
  have N3 := Hd.mk n3
  have N4 := Hd.mk n4
  clear hs hK hRm n1 n2 n3 n4
  go_enter Tryz.func62, Tryz.ntmps62
  go_wp2_with (go_at_call 116; (with_reducible refine (X.out.mono ?_)); (rintro e w1 ⟨A1, c1, rfl, hb1, hg1⟩; have HB1 := Hd.mk hb1; have HG := Hd.mk hg1; clear hb1 hg1))
  go_loopw [12] (fun i w' => ∃ j : Nat, j ≤ l ∧ i = .int .i64 j ∧ Below w.heap.size w w' ∧ w1.heap.size ≤ w'.heap.size ∧ (0 < l → ∃ g, A1 = some ⟨g, 0, none⟩ ∧ w.heap.size ≤ g ∧ g < w'.heap.size ∧ (∀ r, w'.frozen? ⟨g, r, none⟩ = false) ∧
      (∀ q, j * 7 ≤ q → q < l * 7 → w'.cell? ⟨g, q, none⟩ = news[q]?) ∧ ∀ (i : Nat) (x : De), i < j → ks[i]? = some x → DnD g w'.heap.size w' (i * 7) x)) (fun i _ => l - (intOf i).toNat)
  case atStart => exact ⟨0, by omega, rfl, HB1.out, Nat.le_refl _, fun hp => by
    obtain ⟨g, a1, a2, a3, a4, a5⟩ := HG.out hp
    exact ⟨g, a1, a2, a3, a5, fun q _ hq => a4 q hq, fun i x hi => by omega⟩⟩
  case round =>
    obtain ⟨j, hj, rfl, hb, hsz, hg⟩ := hrel
    have HB := Hd.mk hb
    have HSZ := Hd.mk hsz
    have HG2 := Hd.mk hg
    clear hb hsz hg
    by_cases hlt : j < l
    · obtain ⟨x, hx⟩ : ∃ x, ks[j]? = some x := ⟨_, List.getElem?_eq_getElem (by rw [← HLEN.out]; exact hlt)⟩
      obtain ⟨B, o, hA, g1⟩ := G.out.at (by omega)
      obtain ⟨g, rfl, b2, b3, b4, b5, b6⟩ := HG2.out (by omega)
      have i1 := g1 j x hx
      obtain ⟨v0, v1, v2, v3, v4, v5, v6, v7, v8, v9, v10, v11, v12, a0, a1, a2, a3, a4, a5, a6, ax⟩ := De.In_Is i1
      have cp : ∀ (r : Nat) (u : Value), r < 7 → w.cell? ⟨B, o + j * 7 + r, none⟩ = some u → wr.cell? ⟨g, j * 7 + r, none⟩ = some u := fun r u hr hu => by
        rw [b5 (j * 7 + r) (by omega) (by omega), N4.out B o hA (j * 7 + r) (by omega), ← Nat.add_assoc]
        exact hu
      have d0 := cp 0 _ (by decide) a0
      have d1 := cp 1 _ (by decide) a1
      have d2 := cp 2 _ (by decide) a2
      have d3 := cp 3 _ (by decide) a3
      have d4 := cp 4 _ (by decide) a4
      have d5 := cp 5 _ (by decide) a5
      have d6 := cp 6 _ (by decide) a6
      rw [Nat.add_zero] at d0
      have X := Hd.mk (fun w' (hb : Below w.heap.size w w') => HK.out x (List.mem_of_getElem? hx) w' _ (De.Is_below hb ax) (HRM.out x (List.mem_of_getElem? hx)))
      have B2 := Hd.mk b2
      have B4 := Hd.mk b4
      have B5 := Hd.mk b5
      have B6 := Hd.mk b6
      have HX := Hd.mk hx
      clear i1 ax cp a0 a1 a2 a3 a4 a5 a6 b2 b4 b5 b6 hx g1 HG2 hA
      obtain ⟨wo, rfl⟩ : ∃ wo : World, wo = wr := ⟨_, rfl⟩
      go_wp2_with ((go_at_call 63; (with_reducible refine ((X.out _ (up HB.out _)).mono ?_)); (rintro e w3 ⟨k, y, n, t, ps, e, bd, A3, l3, c3, A4, l4, c4, A5, l5, c5, rfl, rfl, hb3, hs3, ho3, hs4, ho4, hs5, ho5⟩; have HB3 := Hd.mk hb3; have HS3 := Hd.mk hs3; have HO3 := Hd.mk ho3; have HS4 := Hd.mk hs4; have HO4 := Hd.mk ho4; have HS5 := Hd.mk hs5; have HO5 := Hd.mk ho5; clear hb3 hs3 ho3 hs4 ho4 hs5 ho5; have hup := step (up (up0 wo) _) HB3.out; have f3 : ∀ r, w3.frozen? ⟨g, r, none⟩ = false := fun r => (hup.frozen (p := ⟨g, r, none⟩) b3).trans (B4.out r); have e0 := keep hup d0; have e1 := keep hup d1; have e2 := keep hup d2; have e3 := keep hup d3; have e4 := keep hup d4; have e5 := keep hup d5; have e6 := keep hup d6; have HUP := Hd.mk hup; clear hup)))
      obtain ⟨W, hW⟩ : ∃ W : World, W = (((((((w3.setCell ⟨g, j * 7, none⟩ (.int .i64 k)).setCell ⟨g, j * 7 + 1, none⟩ (.bool y)).setCell ⟨g, j * 7 + 2, none⟩ (.string n)).setCell ⟨g, j * 7 + 3, none⟩ (.int .i64 t)).setCell ⟨g, j * 7 + 4, none⟩ (.slice A3 l3 c3)).setCell ⟨g, j * 7 + 5, none⟩ (.slice A4 l4 c4)).setCell ⟨g, j * 7 + 6, none⟩ (.slice A5 l5 c5)) := ⟨_, rfl⟩
      rw [← hW]
      have hWs : W = w3.setCells g (j * 7) [.int .i64 k, .bool y, .string n, .int .i64 t, .slice A3 l3 c3, .slice A4 l4 c4, .slice A5 l5 c5] := hW
      clear hW
      obtain ⟨hsz, hbl, hin, hout, hfr⟩ := stored_row (vs := [.int .i64 k, .bool y, .string n, .int .i64 t, .slice A3 l3 c3, .slice A4 l4 c4, .slice A5 l5 c5]) hWs (isSome7 e0 e1 e2 e3 e4 e5 e6)
      have hkp : Kp (g + 1) w3.heap.size w3 W := fun q h1 _ => hbl q (by omega)
      go_roundw
      case rel =>
        refine ⟨j + 1, by omega, by go_num, ?_, by rw [hsz]; exact Nat.le_trans HSZ.out HUP.out.size, fun _ => ⟨g, rfl, B2.out, by rw [hsz]; exact Nat.lt_of_lt_of_le b3 HUP.out.size, fun r => by rw [hfr]; exact f3 r, fun q hq1 hq2 => ?_, fun i y hi hy => ?_⟩⟩
        · exact below_setRow (step HB.out HUP.out) hsz hbl B2.out hWs
        · rw [hout q (by simp; omega)]
          exact ((HUP.out.cell (p := ⟨g, q, none⟩) b3).trans (B5.out q (by omega) hq2))
        · rcases Nat.lt_or_ge i j with h | h
          · refine (B6.out i y h hy).keep (w' := W) (fun q h1 h2 => by rw [hbl q (by omega)]; exact HUP.out.block q h2) (by rw [hsz]; exact HUP.out.size) fun r hr => ?_
            rw [hout _ (by simp; omega)]
            exact HUP.out.cell (p := ⟨g, i * 7 + r, none⟩) b3
          · obtain rfl : i = j := by omega
            have hyx := hy.symm.trans HX.out
            injection hyx with hyx
            subst hyx
            rw [hsz]
            have ho3 : SlO 2 (OwP (g + 1) w3.heap.size w3) A3 l3 := HO3.out.mono fun _ _ h => h.keep (by simp; omega) (Nat.le_refl _) (fun _ _ _ => rfl)
            have ho4 : SlO 7 (OwE (g + 1) w3.heap.size w3) A4 l4 := HO4.out.mono fun _ _ h => h.keep (by simp; omega) (Nat.le_refl _) (fun _ _ _ => rfl)
            have ho5 : SlO 5 (OwS (g + 1) w3.heap.size w3) A5 l5 := HO5.out.mono fun _ _ h => h.keep (by simp; omega) (Nat.le_refl _) (fun _ _ _ => rfl)
            exact ⟨k, y, n, t, ps, e, bd, A3, l3, c3, A4, l4, c4, A5, l5, c5, rfl, hin, SlP_keep hkp HS3.out ho3, ho3.mono fun _ _ h => h.keep (Nat.le_refl _) (Nat.le_refl _) hkp, SlE_keep hkp HS4.out ho4, ho4.mono fun _ _ h => h.keep (Nat.le_refl _) (Nat.le_refl _) hkp, SlS_keep hkp HS5.out ho5, ho5.mono fun _ _ h => h.keep (Nat.le_refl _) (Nat.le_refl _) hkp⟩
      case measure => simp [intOf]; omega
    · obtain rfl : j = l := by omega
      go_wp2_with fail
      go_ret
      refine ⟨A1, j, c1, rfl, HB.out, ⟨HLEN.out, hl63, fun hp => ?_⟩, fun hp => ?_⟩
      · obtain ⟨g, e1, b2, b3, b4, b5, b6⟩ := HG2.out hp
        exact ⟨g, 0, e1, fun i x hx => by rw [Nat.zero_add]; exact (b6 i x (by rw [HLEN.out]; exact (List.getElem?_eq_some_iff.1 hx).1) hx).in⟩
      · obtain ⟨g, e1, b2, b3, b4, b5, b6⟩ := HG2.out hp
        refine ⟨g, 0, e1, fun i hi => ?_⟩
        obtain ⟨x, hx⟩ : ∃ x, ks[i]? = some x := ⟨_, List.getElem?_eq_getElem (by rw [← HLEN.out]; exact hi)⟩
        rw [Nat.zero_add]
        exact (b6 i x hi hx).ow b2 b3 b4
end Go.Proofs.YtbhgpegcdiohlaaGreatDoor.Tr
