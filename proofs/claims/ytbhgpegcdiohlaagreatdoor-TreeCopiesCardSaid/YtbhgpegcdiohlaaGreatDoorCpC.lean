import Derived.Test.YtbhgpegcdiohlaaGreatDoorCpA
import Derived.Test.YtbhgpegcdiohlaaGreatDoorCpB
namespace Go.Proofs.YtbhgpegcdiohlaaGreatDoor.Tr
open Go Go.RowKit Go.Proofs
set_option linter.unusedVariables false
set_option maxRecDepth 100000
set_option maxHeartbeats 4000000
/-- the cells of a list -/
theorem cells_gen {α : Type} {sz : Nat} (hsz : 0 < sz) {P : α → Nat → Nat → Prop} {w : World} (hone : ∀ x B o, P x B o → ∀ r, r < sz → ∃ u, w.cell? ⟨B, o + r, none⟩ = some u ∧ u.oneCell' = true) {l : List α} {A : Option Addr} {n : Nat} (h : Sl sz P l A n) : ∃ news : List Value, news.length = n * sz ∧ (∀ u ∈ news, u.oneCell' = true) ∧ (0 < n → ∃ B o, A = some ⟨B, o, none⟩ ∧ (∀ (j : Nat) (u : Value), news[j]? = some u → w.cell? ((⟨B, o, none⟩ : Addr).add j) = some u)) ∧ (∀ B o, A = some ⟨B, o, none⟩ → ∀ j, j < n * sz → news[j]? = w.cell? ⟨B, o + j, none⟩) := by
  rcases Nat.eq_zero_or_pos n with hz | hp
  · exact ⟨[], by simp [hz], by simp, fun h => by omega, fun B o _ j hj => by rw [hz, Nat.zero_mul] at hj; omega⟩
  · obtain ⟨B, o, hA, g⟩ := h.at hp
    have hone : ∀ j, j < n * sz → ∃ u, w.cell? ⟨B, o + j, none⟩ = some u ∧ u.oneCell' = true := by
      intro j hj
      have hlt : j / sz < l.length := by rw [← h.1]; exact Nat.div_lt_of_lt_mul (by rw [Nat.mul_comm]; exact hj)
      obtain ⟨u, h1, h2⟩ := hone _ _ _ (g (j / sz) _ (List.getElem?_eq_getElem hlt)) (j % sz) (Nat.mod_lt _ hsz)
      refine ⟨u, ?_, h2⟩
      rw [← h1]
      have := Nat.div_add_mod j sz
      rw [Nat.mul_comm] at this
      congr 2
      omega
    have hcell : ∀ j, j < n * sz → ((List.range (n * sz)).map fun j => (w.cell? ⟨B, o + j, none⟩).getD undef)[j]? = w.cell? ⟨B, o + j, none⟩ := by
      intro j hj
      obtain ⟨u, h1, h2⟩ := hone j hj
      rw [List.getElem?_map, List.getElem?_range hj]
      simp [h1]
    refine ⟨(List.range (n * sz)).map fun j => (w.cell? ⟨B, o + j, none⟩).getD undef, by simp, ?_, fun _ => ⟨B, o, hA, ?_⟩, ?_⟩
    · intro u hu
      obtain ⟨j, hj, rfl⟩ := List.mem_map.1 hu
      obtain ⟨u, h1, h2⟩ := hone j (List.mem_range.1 hj)
      rw [h1]
      exact h2
    · intro j u hj
      have hlt : j < n * sz := by simpa using (List.getElem?_eq_some_iff.1 hj).1
      rw [Go.WideShapes.add_plain, ← hj]
      exact (hcell j hlt).symm
    · intro B' o' hA' j hj
      rw [hA] at hA'
      simp only [Option.some.injEq, Addr.mk.injEq, and_true] at hA'
      obtain ⟨rfl, rfl⟩ := hA'
      exact hcell j hj
theorem Ex.cell_one {w : World} {x : Ex} {B p : Nat} (h : x.In w B p) (r : Nat) (hr : r < 7) : ∃ u, w.cell? ⟨B, p + r, none⟩ = some u ∧ u.oneCell' = true := by
  obtain ⟨k, op, m, n, t, b, A, l, c, b0, b1, b2, b3, b4, b5, b6, ax⟩ := Ex.In_Is h
  match r, hr with
  | 0, _ => exact ⟨_, b0, rfl⟩
  | 1, _ => exact ⟨_, b1, rfl⟩
  | 2, _ => exact ⟨_, b2, rfl⟩
  | 3, _ => exact ⟨_, b3, rfl⟩
  | 4, _ => exact ⟨_, b4, rfl⟩
  | 5, _ => exact ⟨_, b5, rfl⟩
  | 6, _ => exact ⟨_, b6, rfl⟩
/-- what a copy of expressions is -/
def EPost (l : List Ex) (w : World) (e : Ending) (w' : World) : Prop := ∃ (A' : Option Addr) (n c' : Nat), e = .returned (.slice A' n c') ∧ Below w.heap.size w w' ∧ Sl 7 (fun x => x.In w') l A' n ∧ SlO 7 (OwE w.heap.size w'.heap.size w') A' n
def CEPost (x : Ex) (w : World) (e : Ending) (w' : World) : Prop := ∃ k op m n t b ks A l c, x = .mk k op m n t b ks ∧ e = .returned (.agg #[.int .i64 k, .int .i64 op, .string m, .string n, .int .i64 t, .int .u64 b, .slice A l c]) ∧ Below w.heap.size w w' ∧ Sl 7 (fun x => x.In w') ks.toList A l ∧ SlO 7 (OwE w.heap.size w'.heap.size w') A l
def CopyE (x : Ex) : Prop := ∀ (w : World) (v : Value), x.Is w v → x.Rm → Calls Tryz.prog 66 #[v] w (CEPost x w)
/-- an element that is copied already: its cells at (g, o), all below it in later blocks -/
def DnE (g hi : Nat) (w : World) (o : Nat) (x : Ex) : Prop := ∃ k op m n t b ks A l c, x = .mk k op m n t b ks ∧ w.rangeAt g o [.int .i64 k, .int .i64 op, .string m, .string n, .int .i64 t, .int .u64 b, .slice A l c] ∧ Sl 7 (fun x => x.In w) ks.toList A l ∧ SlO 7 (OwE (g + 1) hi w) A l
theorem DnE.keep {g hi hi' : Nat} {w w' : World} (hk : Kp (g + 1) hi w w') (hh : hi ≤ hi') {o : Nat} (hc : ∀ r, r < 7 → w'.cell? ⟨g, o + r, none⟩ = w.cell? ⟨g, o + r, none⟩) {x : Ex} (h : DnE g hi w o x) : DnE g hi' w' o x := by
  obtain ⟨k, op, m, n, t, b, ks, A, l, c, rfl, hr, hs, ho⟩ := h
  refine ⟨k, op, m, n, t, b, ks, A, l, c, rfl, fun j v hv => ?_, SlE_keep hk hs ho, ho.mono fun _ _ h => h.keep (Nat.le_refl _) hh hk⟩
  rw [hc j (by simpa using (List.getElem?_eq_some_iff.1 hv).1)]
  exact hr j v hv
theorem DnE.in {g hi : Nat} {w : World} {o : Nat} {x : Ex} (h : DnE g hi w o x) : x.In w g o := by
  obtain ⟨k, op, m, n, t, b, ks, A, l, c, rfl, hr, hs, ho⟩ := h
  refine Ex.put (cs := #[.int .i64 k, .int .i64 op, .string m, .string n, .int .i64 t, .int .u64 b, .slice A l c]) ?_ (Below.refl _ _) fun i v hv => hr i v (by simpa using hv)
  unfold Ex.Is
  exact ⟨A, l, c, rfl, hs⟩
theorem DnE.ow {g lo hi : Nat} {w : World} {o : Nat} {x : Ex} (h : DnE g hi w o x) (h1 : lo ≤ g) (h2 : g < hi) (h3 : ∀ r, w.frozen? ⟨g, r, none⟩ = false) : OwE lo hi w g o := by
  obtain ⟨k, op, m, n, t, b, ks, A, l, c, rfl, hr, hs, ho⟩ := h
  have ho' : SlO 7 (OwE lo hi w) A l := ho.mono fun _ _ h => h.keep (by omega) (Nat.le_refl _) (fun _ _ _ => rfl)
  rcases Nat.eq_zero_or_pos l with hz | hp
  · exact .mk g o k n A l c 0 0 h1 h2 h3 (hr 0 _ rfl) (hr 3 _ rfl) (hr 6 _ rfl) hs.2.1 (fun h => by omega) (fun i hi => by omega)
  · obtain ⟨B', o', hA, hi⟩ := ho' hp
    exact .mk g o k n A l c B' o' h1 h2 h3 (hr 0 _ rfl) (hr 3 _ rfl) (hr 6 _ rfl) hs.2.1 (fun _ => hA) hi
theorem isSome7 {w : World} {g o : Nat} {u0 u1 u2 u3 u4 u5 u6 : Value} (e0 : w.cell? ⟨g, o, none⟩ = some u0) (e1 : w.cell? ⟨g, o + 1, none⟩ = some u1) (e2 : w.cell? ⟨g, o + 2, none⟩ = some u2) (e3 : w.cell? ⟨g, o + 3, none⟩ = some u3) (e4 : w.cell? ⟨g, o + 4, none⟩ = some u4) (e5 : w.cell? ⟨g, o + 5, none⟩ = some u5) (e6 : w.cell? ⟨g, o + 6, none⟩ = some u6) : ∀ r, r < 7 → (w.cell? ⟨g, o + r, none⟩).isSome = true
  | 0, _ => by rw [Nat.add_zero, e0]; rfl
  | 1, _ => by rw [e1]; rfl
  | 2, _ => by rw [e2]; rfl
  | 3, _ => by rw [e3]; rfl
  | 4, _ => by rw [e4]; rfl
  | 5, _ => by rw [e5]; rfl
  | 6, _ => by rw [e6]; rfl
  | r + 7, h => by omega
theorem setCells_size (g : Nat) : ∀ (vs : List Value) (o : Nat) (w : World), (w.setCells g o vs).heap.size = w.heap.size
  | [], _, _ => rfl
  | v :: r, o, w => by rw [World.setCells, setCells_size g r]; simp
theorem setCells_block (g : Nat) : ∀ (vs : List Value) (o : Nat) (w : World) (q : Nat), q ≠ g → (w.setCells g o vs).heap[q]? = w.heap[q]?
  | [], _, _, _, _ => rfl
  | v :: r, o, w, q, h => by rw [World.setCells, setCells_block g r _ _ q h, Below.heap_setCell _ _ _ _ h]
/-- a row of cells was written -/
theorem stored_row {w W : World} {g o : Nat} {vs : List Value} (hW : W = w.setCells g o vs) (hs : ∀ r, r < vs.length → (w.cell? ⟨g, o + r, none⟩).isSome = true) : W.heap.size = w.heap.size ∧ (∀ q, q ≠ g → W.heap[q]? = w.heap[q]?) ∧ W.rangeAt g o vs ∧ (∀ q, q < o ∨ o + vs.length ≤ q → W.cell? ⟨g, q, none⟩ = w.cell? ⟨g, q, none⟩) ∧ ∀ r, W.frozen? ⟨g, r, none⟩ = w.frozen? ⟨g, r, none⟩ := by
  subst hW
  refine ⟨setCells_size _ _ _ _, fun q h => setCells_block g vs o w q h, fun j v hv => ?_, fun q hq => World.cell?_setCells_out g vs o w _ (fun _ _ => hq), fun r => World.frozen?_setCells g vs o w _⟩
  obtain ⟨hj, rfl⟩ := List.getElem?_eq_some_iff.1 hv
  exact World.cell?_setCells_in g vs o w hs j hj
theorem below_setRow {B : Nat} {w0 w W : World} (h : Below B w0 w) {g o : Nat} {vs : List Value} (hs : W.heap.size = w.heap.size) (hb : ∀ q, q ≠ g → W.heap[q]? = w.heap[q]?) (hg : B ≤ g) (hW : W = w.setCells g o vs) : Below B w0 W := by
  subst hW
  clear hs hb
  induction vs generalizing o w with
  | nil => exact h
  | cons v r ih => exact ih (h.setCell hg v)
theorem each65 (ks : List Ex) (hK : ∀ x ∈ ks, CopyE x) (w : World) (A : Option Addr) (l c : Nat) (hs : Sl 7 (fun x => x.In w) ks A l) (hR : l * 88 ≤ 140737488351232) (hRm : ∀ x ∈ ks, x.Rm) : Calls Tryz.prog 65 #[.slice A l c, .func (.func 66) #[] #[]] w (EPost ks w) := by
  obtain ⟨news, n1, n2, n3, n4⟩ := cells_gen (by decide) (fun x B o h => Ex.cell_one h) hs
  have HLEN := Hd.mk hs.1
  have hl63 := hs.2.1
  have G := Hd.mk hs
  have HK := Hd.mk hK
  have HRM := Hd.mk hRm
  have X := Hd.mk (clone117 w A l c news n1 n2 n3 hR)
  have N1 := Hd.mk n1
  have N3 := Hd.mk n3
  have N4 := Hd.mk n4
  clear hs hK hRm n1 n2 n3 n4
  go_enter Tryz.func65, Tryz.ntmps65
  go_wp2_with (go_at_call 117; (with_reducible refine (X.out.mono ?_)); (rintro e w1 ⟨A1, c1, rfl, hb1, hg1⟩; have HB1 := Hd.mk hb1; have HG := Hd.mk hg1; clear hb1 hg1))
  go_loopw [12] (fun i w' => ∃ j : Nat, j ≤ l ∧ i = .int .i64 j ∧ Below w.heap.size w w' ∧ w1.heap.size ≤ w'.heap.size ∧ (0 < l → ∃ g, A1 = some ⟨g, 0, none⟩ ∧ w.heap.size ≤ g ∧ g < w'.heap.size ∧ (∀ r, w'.frozen? ⟨g, r, none⟩ = false) ∧
      (∀ q, j * 7 ≤ q → q < l * 7 → w'.cell? ⟨g, q, none⟩ = news[q]?) ∧ ∀ (i : Nat) (x : Ex), i < j → ks[i]? = some x → DnE g w'.heap.size w' (i * 7) x)) (fun i _ => l - (intOf i).toNat)
  case atStart => exact ⟨0, by omega, rfl, HB1.out, Nat.le_refl _, fun hp => by
    obtain ⟨g, a1, a2, a3, a4, a5⟩ := HG.out hp
    exact ⟨g, a1, a2, a3, a5, fun q _ hq => a4 q hq, fun i x hi => by omega⟩⟩
  case round =>
    obtain ⟨j, hj, rfl, hb, hsz, hg⟩ := hrel
    have HB := Hd.mk hb
    have HSZ := Hd.mk hsz
    have HG2 := Hd.mk hg
    clear hb hsz hg
    by_cases hlt : j < l
    · obtain ⟨x, hx⟩ : ∃ x, ks[j]? = some x := ⟨_, List.getElem?_eq_getElem (by rw [← HLEN.out]; exact hlt)⟩
      obtain ⟨B, o, hA, g1⟩ := G.out.at (by omega)
      obtain ⟨g, rfl, b2, b3, b4, b5, b6⟩ := HG2.out (by omega)
      have i1 := g1 j x hx
      obtain ⟨v0, v1, v2, v3, v4, v5, v6, v7, v8, a0, a1, a2, a3, a4, a5, a6, ax⟩ := Ex.In_Is i1
      have cp : ∀ (r : Nat) (u : Value), r < 7 → w.cell? ⟨B, o + j * 7 + r, none⟩ = some u → wr.cell? ⟨g, j * 7 + r, none⟩ = some u := fun r u hr hu => by
        rw [b5 (j * 7 + r) (by omega) (by omega), N4.out B o hA (j * 7 + r) (by omega), ← Nat.add_assoc]
        exact hu
      have d0 := cp 0 _ (by decide) a0
      have d1 := cp 1 _ (by decide) a1
      have d2 := cp 2 _ (by decide) a2
      have d3 := cp 3 _ (by decide) a3
      have d4 := cp 4 _ (by decide) a4
      have d5 := cp 5 _ (by decide) a5
      have d6 := cp 6 _ (by decide) a6
      rw [Nat.add_zero] at d0
      have X := Hd.mk (fun w' (hb : Below w.heap.size w w') => HK.out x (List.mem_of_getElem? hx) w' _ (Ex.Is_below hb ax) (HRM.out x (List.mem_of_getElem? hx)))
      have B2 := Hd.mk b2
      have B4 := Hd.mk b4
      have B5 := Hd.mk b5
      have B6 := Hd.mk b6
      have HX := Hd.mk hx
      clear i1 ax cp a0 a1 a2 a3 a4 a5 a6 b2 b4 b5 b6 hx g1 HG2 hA
      obtain ⟨wo, rfl⟩ : ∃ wo : World, wo = wr := ⟨_, rfl⟩
      go_wp2_with ((go_at_call 66; (with_reducible refine ((X.out _ (up HB.out _)).mono ?_)); (rintro e w3 ⟨k, op, m, n, t, b, ks', A3, l3, c3, rfl, rfl, hb3, hs3, ho3⟩; have HB3 := Hd.mk hb3; have HS3 := Hd.mk hs3; have HO3 := Hd.mk ho3; clear hb3 hs3 ho3; have hup := step (up (up0 wo) _) HB3.out; have f3 : ∀ r, w3.frozen? ⟨g, r, none⟩ = false := fun r => (hup.frozen (p := ⟨g, r, none⟩) b3).trans (B4.out r); have e0 := keep hup d0; have e1 := keep hup d1; have e2 := keep hup d2; have e3 := keep hup d3; have e4 := keep hup d4; have e5 := keep hup d5; have e6 := keep hup d6; have HUP := Hd.mk hup; clear hup)))
      obtain ⟨W, hW⟩ : ∃ W : World, W = (((((((w3.setCell ⟨g, j * 7, none⟩ (.int .i64 k)).setCell ⟨g, j * 7 + 1, none⟩ (.int .i64 op)).setCell ⟨g, j * 7 + 2, none⟩ (.string m)).setCell ⟨g, j * 7 + 3, none⟩ (.string n)).setCell ⟨g, j * 7 + 4, none⟩ (.int .i64 t)).setCell ⟨g, j * 7 + 5, none⟩ (.int .u64 b)).setCell ⟨g, j * 7 + 6, none⟩ (.slice A3 l3 c3)) := ⟨_, rfl⟩
      rw [← hW]
      have hWs : W = w3.setCells g (j * 7) [.int .i64 k, .int .i64 op, .string m, .string n, .int .i64 t, .int .u64 b, .slice A3 l3 c3] := hW
      clear hW
      obtain ⟨hsz, hbl, hin, hout, hfr⟩ := stored_row (vs := [.int .i64 k, .int .i64 op, .string m, .string n, .int .i64 t, .int .u64 b, .slice A3 l3 c3]) hWs (isSome7 e0 e1 e2 e3 e4 e5 e6)
      have hkp : Kp (g + 1) w3.heap.size w3 W := fun q h1 _ => hbl q (by omega)
      go_roundw
      case rel =>
        refine ⟨j + 1, by omega, by go_num, ?_, by rw [hsz]; exact Nat.le_trans HSZ.out HUP.out.size, fun _ => ⟨g, rfl, B2.out, by rw [hsz]; exact Nat.lt_of_lt_of_le b3 HUP.out.size, fun r => by rw [hfr]; exact f3 r, fun q hq1 hq2 => ?_, fun i y hi hy => ?_⟩⟩
        · exact below_setRow (step HB.out HUP.out) hsz hbl B2.out hWs
        · rw [hout q (by simp; omega)]
          exact ((HUP.out.cell (p := ⟨g, q, none⟩) b3).trans (B5.out q (by omega) hq2))
        · rcases Nat.lt_or_ge i j with h | h
          · refine (B6.out i y h hy).keep (w' := W) (fun q h1 h2 => by rw [hbl q (by omega)]; exact HUP.out.block q h2) (by rw [hsz]; exact HUP.out.size) fun r hr => ?_
            rw [hout _ (by simp; omega)]
            exact HUP.out.cell (p := ⟨g, i * 7 + r, none⟩) b3
          · obtain rfl : i = j := by omega
            have hyx := hy.symm.trans HX.out
            injection hyx with hyx
            subst hyx
            rw [hsz]
            have ho : SlO 7 (OwE (g + 1) w3.heap.size w3) A3 l3 := HO3.out.mono fun _ _ h => h.keep (by simp; omega) (Nat.le_refl _) (fun _ _ _ => rfl)
            exact ⟨k, op, m, n, t, b, ks', A3, l3, c3, rfl, hin, SlE_keep hkp HS3.out ho, ho.mono fun _ _ h => h.keep (Nat.le_refl _) (Nat.le_refl _) hkp⟩
      case measure => simp [intOf]; omega
    · obtain rfl : j = l := by omega
      go_wp2_with fail
      go_ret
      refine ⟨A1, j, c1, rfl, HB.out, ⟨HLEN.out, hl63, fun hp => ?_⟩, fun hp => ?_⟩
      · obtain ⟨g, e1, b2, b3, b4, b5, b6⟩ := HG2.out hp
        exact ⟨g, 0, e1, fun i x hx => by rw [Nat.zero_add]; exact (b6 i x (by rw [HLEN.out]; exact (List.getElem?_eq_some_iff.1 hx).1) hx).in⟩
      · obtain ⟨g, e1, b2, b3, b4, b5, b6⟩ := HG2.out hp
        refine ⟨g, 0, e1, fun i hi => ?_⟩
        obtain ⟨x, hx⟩ : ∃ x, ks[i]? = some x := ⟨_, List.getElem?_eq_getElem (by rw [← HLEN.out]; exact hi)⟩
        rw [Nat.zero_add]
        exact (b6 i x hi hx).ow b2 b3 b4
end Go.Proofs.YtbhgpegcdiohlaaGreatDoor.Tr
