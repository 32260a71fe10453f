import Derived.Test.YtbhgpegcdiohlaaGreatDoorPaH
import Derived.Test.YtbhgpegcdiohlaaGreatDoorRfA
import Derived.Test.YtbhgpegcdiohlaaGreatDoorRfB
namespace Go.Proofs.YtbhgpegcdiohlaaGreatDoor.Tr
open Go Go.RowKit Go.Proofs
set_option linter.unusedVariables false
set_option maxRecDepth 100000
set_option maxHeartbeats 8000000
theorem S9p {N : Nat} {w0 w w' : World} (hb : Below w.heap.size w w') (hN : w0.heap.size = N) {a0 a1 a2 a3 a4 a5 a6 a7 a8 : Addr} {v0 v1 v2 v3 v4 v5 v6 v7 v8 : Value} (h : Below N w0 w ∧ w.cell? a0 = some v0 ∧ w.cell? a1 = some v1 ∧ w.cell? a2 = some v2 ∧ w.cell? a3 = some v3 ∧ w.cell? a4 = some v4 ∧ w.cell? a5 = some v5 ∧ w.cell? a6 = some v6 ∧ w.cell? a7 = some v7 ∧ w.cell? a8 = some v8) : Below N w0 w' ∧ w'.cell? a0 = some v0 ∧ w'.cell? a1 = some v1 ∧ w'.cell? a2 = some v2 ∧ w'.cell? a3 = some v3 ∧ w'.cell? a4 = some v4 ∧ w'.cell? a5 = some v5 ∧ w'.cell? a6 = some v6 ∧ w'.cell? a7 = some v7 ∧ w'.cell? a8 = some v8 := by
  subst hN
  obtain ⟨h, c0, c1, c2, c3, c4, c5, c6, c7, c8⟩ := h
  exact ⟨step h hb, keep hb c0, keep hb c1, keep hb c2, keep hb c3, keep hb c4, keep hb c5, keep hb c6, keep hb c7, keep hb c8⟩
theorem own_at {w : World} {b : Nat} {A : Option Addr} {N c : Nat} {l : List ByteArray} (h : w.ownsRow b 9 1 (.slice A N c) N (l.map Value.string)) {j : Nat} {s : ByteArray} (hs : l[j]? = some s) : ∃ g, A = some ⟨g, 0, none⟩ ∧ w.cell? ⟨g, j, none⟩ = some (.string s) := by
  have hlt := (List.getElem?_eq_some_iff.1 hs).1
  have hl := h.1
  rw [List.length_map] at hl
  rcases h.2 with ⟨_, h0⟩ | ⟨g, cap, cur, hv, _⟩
  · omega
  · injection hv with e1 _ e2
    subst e1 e2
    refine ⟨g, rfl, ?_⟩
    have hc := World.ownsRow.cellAt h j (by omega)
    rw [hc, List.getElem?_map, hs]
    rfl
def GI (N : Nat) (mn : ByteArray) (A0 B0 : Option Addr) (l0 c0 m0 d0 : Nat) (k : Int) (ex : Bool) (n : ByteArray) (t : Int) (A1 A2 A3 : Option Addr) (l1 c1 l2 c2 l3 c3 : Nat) (news : List Value) (x5 x15 x16 x17 x18 x19 : Value) (w0 : World) (L : Array Bool) (a : Act) (w : World) : Prop := ∃ (v5 v9 v10 v11 v12 v13 v14 v15 v16 v17 v18 v19 v20 : Value) (R : Option Nat), a = { tmps := #[.agg #[.string mn, .slice A0 l0 c0, .slice B0 m0 d0], .agg #[.int .i64 k, .bool ex, .string n, .int .i64 t, .slice A1 l1 c1, .slice A2 l2 c2, .slice A3 l3 c3], .pointer (some ⟨N, 0, none⟩), .pointer (some ⟨N + 1, 0, none⟩), .bool false, x5, v5, undef, undef, undef, undef, undef, undef, .bool true, .bool false, x15, x16, x17, x18, x19, v9, v10, v11, v12, v13, v14, v15, v16, v17, v18, v19, v20, undef, undef, undef, undef, undef, undef, undef, undef, undef, undef, undef, undef, undef, undef, undef, undef, undef, undef, undef, undef, undef, undef, undef, undef, undef, undef, undef, undef, undef, undef, undef, undef, undef, undef, undef, undef, undef, undef, undef, undef, undef, undef, undef, undef, undef, undef, undef, undef, undef, undef, undef, undef, undef, undef, undef, undef, undef, undef, undef, undef, undef, undef, undef], defers := [] } ∧
  Below w0.heap.size w0 w ∧
  (∀ r, R = some r → r < w.heap.size ∧ w0.heap.size ≤ r) ∧
  ((L.getD 7 false = true → L.getD 4 false = true) ∧ (L.getD 10 false = true → L.getD 7 false = true) ∧ (L.getD 13 false = true → L.getD 12 false = true) ∧ (L.getD 11 false = true → L.getD 10 false = true) ∧ (L.getD 13 false = true → L.getD 11 false = true)) ∧
  (L.getD 0 false = true → v9 = .pointer (some ⟨N, 0, none⟩)) ∧
  (L.getD 1 false = true → v10 = .string mn) ∧
  (L.getD 2 false = true → v11 = .pointer (some ⟨N, 1, none⟩)) ∧
  (L.getD 3 false = true → v12 = .slice A0 l0 c0) ∧
  (L.getD 4 false = true → L.getD 7 false = false → ∃ G, v13 = .slice (some ⟨G, 0, none⟩) 0 0 ∧ R = some G ∧ w.ownsRow w0.heap.size 47 7 (.slice (some ⟨G, 0, none⟩) 0 0) 0 []) ∧
  (L.getD 5 false = true → v14 = .pointer (some ⟨N, 2, none⟩)) ∧
  (L.getD 6 false = true → v15 = .slice B0 m0 d0) ∧
  (L.getD 7 false = true → L.getD 10 false = false → ∃ g cap, v16 = .slice (some ⟨g, 0, none⟩) m0 cap ∧ R = some g ∧ w.ownsRow w0.heap.size 47 7 (.slice (some ⟨g, 0, none⟩) m0 cap) m0 news) ∧
  (L.getD 8 false = true → v17 = .agg #[.int .i64 k, .bool ex, .string n, .int .i64 t, .slice A1 l1 c1, .slice A2 l2 c2, .slice A3 l3 c3]) ∧
  (L.getD 9 false = true → L.getD 10 false = false → ∃ G, v18 = .slice (some ⟨G, 0, none⟩) 1 1 ∧ R ≠ some G ∧ G < w.heap.size ∧ ∀ (j : Nat) (u : Value), ([.int .i64 k, .bool ex, .string n, .int .i64 t, .slice A1 l1 c1, .slice A2 l2 c2, .slice A3 l3 c3] : List Value)[j]? = some u → w.cell? ((⟨G, 0, none⟩ : Addr).add j) = some u) ∧
  (L.getD 10 false = true → ∃ g cap, v19 = .slice (some ⟨g, 0, none⟩) (m0 + 1) cap ∧ R = some g ∧ w.ownsRow w0.heap.size 47 7 (.slice (some ⟨g, 0, none⟩) (m0 + 1) cap) (m0 + 1) (news ++ [.int .i64 k, .bool ex, .string n, .int .i64 t, .slice A1 l1 c1, .slice A2 l2 c2, .slice A3 l3 c3])) ∧
  (L.getD 11 false = true → v20 = .agg #[.string mn, .slice A0 l0 c0, v19]) ∧
  (L.getD 12 false = true → ∃ K, v5 = .pointer (some ⟨K, 0, none⟩) ∧ w0.heap.size ≤ K ∧ R ≠ some K ∧ K < w.heap.size ∧ w.frozen? ⟨K, 0, none⟩ = false ∧ w.frozen? ⟨K, 1, none⟩ = false ∧ w.frozen? ⟨K, 2, none⟩ = false ∧ ∃ x y z, w.cell? ⟨K, 0, none⟩ = some x ∧ w.cell? ⟨K, 1, none⟩ = some y ∧ w.cell? ⟨K, 2, none⟩ = some z ∧ (L.getD 13 false = true → x = .string mn ∧ y = .slice A0 l0 c0 ∧ z = v19))
theorem parts_walk (mn : ByteArray) (A0 B0 : Option Addr) (l0 c0 m0 d0 : Nat) (k : Int) (ex : Bool) (n : ByteArray) (t : Int) (A1 A2 A3 : Option Addr) (l1 c1 l2 c2 l3 c3 : Nat) (news : List Value) (w : World) (nm na no dm da do' : Int) (um ua uo : List ByteArray) (hl : news.length = m0 * 7) (hone : ∀ u ∈ news, u.oneCell' = true)
    (hnews : 0 < m0 → ∃ B o, B0 = some ⟨B, o, none⟩ ∧ ∀ (j : Nat) (u : Value), news[j]? = some u → w.cell? ((⟨B, o, none⟩ : Addr).add j) = some u) (hm : m0 * 112 ≤ 140737488351232)
    (NM : ∀ w', Below w.heap.size w w' → Calls Tryz.prog 29 #[.agg #[.string mn, .slice A0 l0 c0, .slice B0 m0 d0]] w' (SaysI nm w'))
    (NA : ∀ (w' : World) (base g cap : Nat), Below w.heap.size w w' → w'.ownsRow base 47 7 (.slice (some ⟨g, 0, none⟩) (m0 + 1) cap) (m0 + 1) (news ++ [.int .i64 k, .bool ex, .string n, .int .i64 t, .slice A1 l1 c1, .slice A2 l2 c2, .slice A3 l3 c3]) → ∀ w'', Below w'.heap.size w' w'' → Calls Tryz.prog 29 #[.agg #[.string mn, .slice A0 l0 c0, .slice (some ⟨g, 0, none⟩) (m0 + 1) cap]] w'' (SaysI na w''))
    (NO : ∀ (w' : World) (G : Nat), Below w.heap.size w w' → (∀ (j : Nat) (u : Value), ([.int .i64 k, .bool ex, .string n, .int .i64 t, .slice A1 l1 c1, .slice A2 l2 c2, .slice A3 l3 c3] : List Value)[j]? = some u → w'.cell? ⟨G, j, none⟩ = some u) → Calls Tryz.prog 29 #[.agg #[.string mn, .slice none 0 0, .slice (some ⟨G, 0, none⟩) 1 1]] w' (SaysI no w'))
    (DM : ∀ w', Below w.heap.size w w' → Calls Tryz.prog 30 #[.agg #[.string mn, .slice A0 l0 c0, .slice B0 m0 d0]] w' (SaysI dm w'))
    (DA : ∀ (w' : World) (base g cap : Nat), Below w.heap.size w w' → w'.ownsRow base 47 7 (.slice (some ⟨g, 0, none⟩) (m0 + 1) cap) (m0 + 1) (news ++ [.int .i64 k, .bool ex, .string n, .int .i64 t, .slice A1 l1 c1, .slice A2 l2 c2, .slice A3 l3 c3]) → ∀ w'', Below w'.heap.size w' w'' → Calls Tryz.prog 30 #[.agg #[.string mn, .slice A0 l0 c0, .slice (some ⟨g, 0, none⟩) (m0 + 1) cap]] w'' (SaysI da w''))
    (DO : ∀ (w' : World) (G : Nat), Below w.heap.size w w' → (∀ (j : Nat) (u : Value), ([.int .i64 k, .bool ex, .string n, .int .i64 t, .slice A1 l1 c1, .slice A2 l2 c2, .slice A3 l3 c3] : List Value)[j]? = some u → w'.cell? ⟨G, j, none⟩ = some u) → Calls Tryz.prog 30 #[.agg #[.string mn, .slice none 0 0, .slice (some ⟨G, 0, none⟩) 1 1]] w' (SaysI do' w'))
    (UM : ∀ w', Below w.heap.size w w' → Calls Tryz.prog 31 #[.agg #[.string mn, .slice A0 l0 c0, .slice B0 m0 d0]] w' (Rows' um w'))
    (UA : ∀ (w' : World) (base g cap : Nat), Below w.heap.size w w' → w'.ownsRow base 47 7 (.slice (some ⟨g, 0, none⟩) (m0 + 1) cap) (m0 + 1) (news ++ [.int .i64 k, .bool ex, .string n, .int .i64 t, .slice A1 l1 c1, .slice A2 l2 c2, .slice A3 l3 c3]) → ∀ w'', Below w'.heap.size w' w'' → Calls Tryz.prog 31 #[.agg #[.string mn, .slice A0 l0 c0, .slice (some ⟨g, 0, none⟩) (m0 + 1) cap]] w'' (Rows' ua w''))
    (UO : ∀ (w' : World) (G : Nat), Below w.heap.size w w' → (∀ (j : Nat) (u : Value), ([.int .i64 k, .bool ex, .string n, .int .i64 t, .slice A1 l1 c1, .slice A2 l2 c2, .slice A3 l3 c3] : List Value)[j]? = some u → w'.cell? ⟨G, j, none⟩ = some u) → Calls Tryz.prog 31 #[.agg #[.string mn, .slice none 0 0, .slice (some ⟨G, 0, none⟩) 1 1]] w' (Rows' uo w'))
    (hn1 : wrap64 (nm + no) = na) (hn1' : IntKind.i64.wrap (nm + no) = na) (hn2 : 1 ≤ no) (hd : da = maxI dm do') (hu1 : ∀ x, x ∈ um ++ uo → x ∈ ua) (hu2 : ua.length ≤ (um ++ uo).length) (hu3 : (um ++ uo).length ≤ 1000000000000) :
    Calls Tryz.prog 12 #[.agg #[.string mn, .slice A0 l0 c0, .slice B0 m0 d0], .agg #[.int .i64 k, .bool ex, .string n, .int .i64 t, .slice A1 l1 c1, .slice A2 l2 c2, .slice A3 l3 c3]] w (Says true w) := by
  have HNM := Hd.mk NM
  have HNA := Hd.mk NA
  have HNO := Hd.mk NO
  have HDM := Hd.mk DM
  have HDA := Hd.mk DA
  have HDO := Hd.mk DO
  have HUM := Hd.mk UM
  have HUA := Hd.mk UA
  have HUO := Hd.mk UO
  have Hhn1 := Hd.mk hn1
  have Hhn2 := Hd.mk hn2
  have Hhd := Hd.mk hd
  have Hhu1 := Hd.mk hu1
  have Hhu2 := Hd.mk hu2
  have Hhu3 := Hd.mk hu3
  have Hhnews := Hd.mk hnews
  have Hhl := Hd.mk hl
  have Hhone := Hd.mk hone
  clear NM NA NO DM DA DO UM UA UO hn1 hn2 hd hu1 hu2 hu3 hnews hl hone
  have b1 := new_cell w #[.string mn, .slice A0 l0 c0, .slice B0 m0 d0] 25
  have b2 := new_cell (w.alloc (.cells #[.string mn, .slice A0 l0 c0, .slice B0 m0 d0] 25 (0, 0))) #[.int .i64 k, .bool ex, .string n, .int .i64 t, .slice A1 l1 c1, .slice A2 l2 c2, .slice A3 l3 c3] 47
  rw [show (w.alloc (.cells #[.string mn, .slice A0 l0 c0, .slice B0 m0 d0] 25 (0, 0))).heap.size = w.heap.size + 1 by simp] at b2
  have C1 := Hd.mk b1
  have C2 := Hd.mk b2
  clear b1 b2
  go_enter Tryz.func12, Tryz.ntmps12
  go_wp2_with (go_at_call 17; (with_reducible refine ((live_any _).mono ?_)); (rintro e w3 ⟨rfl, hb3⟩; have HB3 := Hd.mk hb3; have hc3 := bcell hb3; have s3 := hb3.size; clear hb3))

  obtain ⟨w4, hw4⟩ : ∃ w4, w4 = (w3.alloc (.cells #[.int .i64 k, .bool ex, .string n, .int .i64 t, .slice A1 l1 c1, .slice A2 l2 c2, .slice A3 l3 c3] 47 (0, 0))).alloc (.cells #[.string mn, .slice none 0 0, .slice (some ⟨w3.heap.size, 0, none⟩) 1 1] 25 (0, 0)) := ⟨_, rfl⟩
  rw [← hw4]
  have HB4 : Hd (Below w3.heap.size w3 w4) := ⟨by rw [hw4]; exact up (up (up0 _) _) _⟩
  have HBW : Hd (Below w.heap.size w w4) := ⟨step (step (up (up (up0 _) _) _) HB3.out) HB4.out⟩
  have G1 : Hd (∀ (j : Nat) (u : Value), ([.int .i64 k, .bool ex, .string n, .int .i64 t, .slice A1 l1 c1, .slice A2 l2 c2, .slice A3 l3 c3] : List Value)[j]? = some u → w4.cell? ⟨w3.heap.size, j, none⟩ = some u) := ⟨fun j u hj => by
    rw [hw4]
    exact keep (up (up0 _) _) ((new_cell w3 _ 47 j).trans ((List.getElem?_toArray ..).trans hj))⟩
  have O1 : Hd (w4.cell? ⟨w3.heap.size + 1, 0, none⟩ = some (.string mn) ∧ w4.cell? ⟨w3.heap.size + 1, 1, none⟩ = some (.slice none 0 0) ∧ w4.cell? ⟨w3.heap.size + 1, 2, none⟩ = some (.slice (some ⟨w3.heap.size, 0, none⟩) 1 1)) := ⟨by
    have h := fun i => new_cell (w3.alloc (.cells #[.int .i64 k, .bool ex, .string n, .int .i64 t, .slice A1 l1 c1, .slice A2 l2 c2, .slice A3 l3 c3] 47 (0, 0))) #[.string mn, .slice none 0 0, .slice (some ⟨w3.heap.size, 0, none⟩) 1 1] 25 i
    rw [show (w3.alloc (.cells #[.int .i64 k, .bool ex, .string n, .int .i64 t, .slice A1 l1 c1, .slice A2 l2 c2, .slice A3 l3 c3] 47 (0, 0))).heap.size = w3.heap.size + 1 by simp] at h
    rw [hw4]
    exact ⟨h 0, h 1, h 2⟩⟩
  clear hw4 hc3 s3
  have FH0 : FH w.heap.size mn A0 B0 l0 c0 m0 d0 k ex n t A1 A2 A3 l1 c1 l2 c2 l3 c3 news w4 := ⟨keep HB4.out (keep HB3.out (keep (up (up0 _) _) (C1.out 0))), keep HB4.out (keep HB3.out (keep (up (up0 _) _) (C1.out 1))), keep HB4.out (keep HB3.out (keep (up (up0 _) _) (C1.out 2))), keep HB4.out (keep HB3.out (C2.out 0)), keep HB4.out (keep HB3.out (C2.out 1)), keep HB4.out (keep HB3.out (C2.out 2)), keep HB4.out (keep HB3.out (C2.out 3)), keep HB4.out (keep HB3.out (C2.out 4)), keep HB4.out (keep HB3.out (C2.out 5)), keep HB4.out (keep HB3.out (C2.out 6)), Hhl.out, Hhone.out, fun h => by
    obtain ⟨B, o, hB, hn⟩ := Hhnews.out h
    exact ⟨B, o, hB, fun j u hj => keep HBW.out (hn j u hj)⟩, hm⟩
  refine wp_region_inv (GI w.heap.size mn A0 B0 l0 c0 m0 d0 k ex n t A1 A2 A3 l1 c1 l2 c2 l3 c3 news (.pointer (some ⟨w3.heap.size + 1, 0, none⟩)) (.pointer (some ⟨w.heap.size, 0, none⟩)) (.string mn) (.agg #[.int .i64 k, .bool ex, .string n, .int .i64 t, .slice A1 l1 c1, .slice A2 l2 c2, .slice A3 l3 c3]) (.slice (some ⟨w3.heap.size, 0, none⟩) 1 1) (.agg #[.string mn, .slice none 0 0, .slice (some ⟨w3.heap.size, 0, none⟩) 1 1]) w4) (by kernel_rfl) (hac_of (by kernel_rfl)) ?_ ?_ ?_
  · exact ⟨undef, undef, undef, undef, undef, undef, undef, undef, undef, undef, undef, undef, undef, none, rfl, (Below.refl _ _).drew, (fun _ h => by cases h), ⟨fun h => by simp at h, fun h => by simp at h, fun h => by simp at h, fun h => by simp at h, fun h => by simp at h⟩, fun h => by simp at h, fun h => by simp at h, fun h => by simp at h, fun h => by simp at h, fun h => by simp at h, fun h => by simp at h, fun h => by simp at h, fun h => by simp at h, fun h => by simp at h, fun h => by simp at h, fun h => by simp at h, fun h => by simp at h, fun h => by simp at h⟩
  · clear HNM HNA HNO HDM HDA HDO HUM HUA HUO Hhn1 Hhn2 Hhd Hhu1 Hhu2 Hhu3 Hhnews Hhl Hhone C1 C2 HB3 HB4 HBW G1 O1
    intro i o L a w' ho hsz h1 h2 hI
    have hi : i < 14 := (Array.getElem?_eq_some_iff.1 ho).1
    generalize w.heap.size = N at *
    generalize w3.heap.size = N3 at *
    obtain ⟨v5, v9, v10, v11, v12, v13, v14, v15, v16, v17, v18, v19, v20, R, rfl, fB, fR, fC, f0, f1, f2, f3, f4, f5, f6, f7, f8, f9, f10, f11, f12⟩ := hI
    obtain ⟨w0, hw0⟩ : ∃ w0, w0 = w4 := ⟨_, rfl⟩
    subst hw0
    rename_i w
    clear w
    obtain ⟨w, rfl⟩ : ∃ w, w = w' := ⟨_, rfl⟩
    have hi' : i = 0 ∨ i = 1 ∨ i = 2 ∨ i = 3 ∨ i = 4 ∨ i = 5 ∨ i = 6 ∨ i = 7 ∨ i = 8 ∨ i = 9 ∨ i = 10 ∨ i = 11 ∨ i = 12 ∨ i = 13 := by omega
    rcases hi' with rfl | rfl | rfl | rfl | rfl | rfl | rfl | rfl | rfl | rfl | rfl | rfl | rfl | rfl
    all_goals obtain rfl := Option.some.inj ho
    all_goals clear ho
    · refine wpOp_do (o := _) rfl rfl fun K hK => ?_
      go_simp
      refine hK _ _ ?_
      unfold GI
      simp only [gne (show (0 : Nat) ≠ 1 by decide), gne (show (0 : Nat) ≠ 2 by decide), gne (show (0 : Nat) ≠ 3 by decide), gne (show (0 : Nat) ≠ 4 by decide), gne (show (0 : Nat) ≠ 5 by decide), gne (show (0 : Nat) ≠ 6 by decide), gne (show (0 : Nat) ≠ 7 by decide), gne (show (0 : Nat) ≠ 8 by decide), gne (show (0 : Nat) ≠ 9 by decide), gne (show (0 : Nat) ≠ 10 by decide), gne (show (0 : Nat) ≠ 11 by decide), gne (show (0 : Nat) ≠ 12 by decide), gne (show (0 : Nat) ≠ 13 by decide)]
      refine ⟨v5, _, v10, v11, v12, v13, v14, v15, v16, v17, v18, v19, v20, R, rfl, ?_⟩
      exact ⟨fB, fR, fC, fun _ => rfl, f1, f2, f3, f4, f5, f6, f7, f8, f9, f10, f11, f12⟩
    · have d0 : L.getD 0 false = true := h2 ⟨0, .data⟩ (by simp) rfl
      obtain rfl := f0 d0
      have e0 := keep fB FH0.q0
      refine wpOp_do (o := _) rfl rfl fun K hK => ?_
      go_simp
      refine hK _ _ ?_
      unfold GI
      simp only [gne (show (1 : Nat) ≠ 0 by decide), gne (show (1 : Nat) ≠ 2 by decide), gne (show (1 : Nat) ≠ 3 by decide), gne (show (1 : Nat) ≠ 4 by decide), gne (show (1 : Nat) ≠ 5 by decide), gne (show (1 : Nat) ≠ 6 by decide), gne (show (1 : Nat) ≠ 7 by decide), gne (show (1 : Nat) ≠ 8 by decide), gne (show (1 : Nat) ≠ 9 by decide), gne (show (1 : Nat) ≠ 10 by decide), gne (show (1 : Nat) ≠ 11 by decide), gne (show (1 : Nat) ≠ 12 by decide), gne (show (1 : Nat) ≠ 13 by decide)]
      refine ⟨v5, _, _, v11, v12, v13, v14, v15, v16, v17, v18, v19, v20, R, rfl, ?_⟩
      exact ⟨fB, fR, fC, fun _ => rfl, fun _ => rfl, f2, f3, f4, f5, f6, f7, f8, f9, f10, f11, f12⟩
    · refine wpOp_do (o := _) rfl rfl fun K hK => ?_
      go_simp
      refine hK _ _ ?_
      unfold GI
      simp only [gne (show (2 : Nat) ≠ 0 by decide), gne (show (2 : Nat) ≠ 1 by decide), gne (show (2 : Nat) ≠ 3 by decide), gne (show (2 : Nat) ≠ 4 by decide), gne (show (2 : Nat) ≠ 5 by decide), gne (show (2 : Nat) ≠ 6 by decide), gne (show (2 : Nat) ≠ 7 by decide), gne (show (2 : Nat) ≠ 8 by decide), gne (show (2 : Nat) ≠ 9 by decide), gne (show (2 : Nat) ≠ 10 by decide), gne (show (2 : Nat) ≠ 11 by decide), gne (show (2 : Nat) ≠ 12 by decide), gne (show (2 : Nat) ≠ 13 by decide)]
      refine ⟨v5, v9, v10, _, v12, v13, v14, v15, v16, v17, v18, v19, v20, R, rfl, ?_⟩
      exact ⟨fB, fR, fC, f0, f1, fun _ => rfl, f3, f4, f5, f6, f7, f8, f9, f10, f11, f12⟩
    · have d2 : L.getD 2 false = true := h2 ⟨2, .data⟩ (by simp) rfl
      obtain rfl := f2 d2
      have e1 := keep fB FH0.q1
      refine wpOp_do (o := _) rfl rfl fun K hK => ?_
      go_simp
      refine hK _ _ ?_
      unfold GI
      simp only [gne (show (3 : Nat) ≠ 0 by decide), gne (show (3 : Nat) ≠ 1 by decide), gne (show (3 : Nat) ≠ 2 by decide), gne (show (3 : Nat) ≠ 4 by decide), gne (show (3 : Nat) ≠ 5 by decide), gne (show (3 : Nat) ≠ 6 by decide), gne (show (3 : Nat) ≠ 7 by decide), gne (show (3 : Nat) ≠ 8 by decide), gne (show (3 : Nat) ≠ 9 by decide), gne (show (3 : Nat) ≠ 10 by decide), gne (show (3 : Nat) ≠ 11 by decide), gne (show (3 : Nat) ≠ 12 by decide), gne (show (3 : Nat) ≠ 13 by decide)]
      refine ⟨v5, v9, v10, _, _, v13, v14, v15, v16, v17, v18, v19, v20, R, rfl, ?_⟩
      exact ⟨fB, fR, fC, f0, f1, fun _ => rfl, fun _ => rfl, f4, f5, f6, f7, f8, f9, f10, f11, f12⟩
    · refine wpOp_do (o := _) rfl rfl fun K hK => ?_
      go_simp
      have b4 := up (up0 w) (.cells #[] 47 (0, 0))
      refine hK _ _ ?_
      unfold GI
      simp only [gne (show (4 : Nat) ≠ 0 by decide), gne (show (4 : Nat) ≠ 1 by decide), gne (show (4 : Nat) ≠ 2 by decide), gne (show (4 : Nat) ≠ 3 by decide), gne (show (4 : Nat) ≠ 5 by decide), gne (show (4 : Nat) ≠ 6 by decide), gne (show (4 : Nat) ≠ 7 by decide), gne (show (4 : Nat) ≠ 8 by decide), gne (show (4 : Nat) ≠ 9 by decide), gne (show (4 : Nat) ≠ 10 by decide), gne (show (4 : Nat) ≠ 11 by decide), gne (show (4 : Nat) ≠ 12 by decide), gne (show (4 : Nat) ≠ 13 by decide)]
      refine ⟨v5, v9, v10, v11, v12, _, v14, v15, v16, v17, v18, v19, v20, (some w.heap.size), rfl, ?_⟩
      exact ⟨step fB b4, (fun r hr => by cases hr; exact ⟨by simp, fB.size⟩), ⟨fun _ => geq (by rw [hsz]; decide), fC.2.1, fC.2.2⟩, f0, f1, f2, f3, fun _ _ => ⟨_, rfl, rfl, own_nil (heap_alloc_new _ _) fB.size⟩, f5, f6, fun h _ => absurd (fC.1 h) (nof h1), f8, fun h h10 => by obtain ⟨G, x1, x2, x3, x4⟩ := f9 h h10; exact ⟨G, x1, fun hh => by cases hh; omega, by simp; omega, fun j u hj => keep b4 (x4 j u hj)⟩, fun h => absurd (fC.1 (fC.2.1 h)) (nof h1), f11, fun h => by obtain ⟨K0, x1, x2, x3, x4, x5, x6, x7, X, Y, Z, x8, x9, x10, x11⟩ := f12 h; exact ⟨K0, x1, x2, (fun hh => by cases hh; omega), (by simp; omega), (b4.frozen (p := ⟨K0, 0, none⟩) x4).trans x5, (b4.frozen (p := ⟨K0, 1, none⟩) x4).trans x6, (b4.frozen (p := ⟨K0, 2, none⟩) x4).trans x7, X, Y, Z, keep b4 x8, keep b4 x9, keep b4 x10, x11⟩⟩
    · refine wpOp_do (o := _) rfl rfl fun K hK => ?_
      go_simp
      refine hK _ _ ?_
      unfold GI
      simp only [gne (show (5 : Nat) ≠ 0 by decide), gne (show (5 : Nat) ≠ 1 by decide), gne (show (5 : Nat) ≠ 2 by decide), gne (show (5 : Nat) ≠ 3 by decide), gne (show (5 : Nat) ≠ 4 by decide), gne (show (5 : Nat) ≠ 6 by decide), gne (show (5 : Nat) ≠ 7 by decide), gne (show (5 : Nat) ≠ 8 by decide), gne (show (5 : Nat) ≠ 9 by decide), gne (show (5 : Nat) ≠ 10 by decide), gne (show (5 : Nat) ≠ 11 by decide), gne (show (5 : Nat) ≠ 12 by decide), gne (show (5 : Nat) ≠ 13 by decide)]
      refine ⟨v5, v9, v10, v11, v12, v13, _, v15, v16, v17, v18, v19, v20, R, rfl, ?_⟩
      exact ⟨fB, fR, fC, f0, f1, f2, f3, f4, fun _ => rfl, f6, f7, f8, f9, f10, f11, f12⟩
    · have d5 : L.getD 5 false = true := h2 ⟨5, .data⟩ (by simp) rfl
      obtain rfl := f5 d5
      have e2 := keep fB FH0.q2
      refine wpOp_do (o := _) rfl rfl fun K hK => ?_
      go_simp
      refine hK _ _ ?_
      unfold GI
      simp only [gne (show (6 : Nat) ≠ 0 by decide), gne (show (6 : Nat) ≠ 1 by decide), gne (show (6 : Nat) ≠ 2 by decide), gne (show (6 : Nat) ≠ 3 by decide), gne (show (6 : Nat) ≠ 4 by decide), gne (show (6 : Nat) ≠ 5 by decide), gne (show (6 : Nat) ≠ 7 by decide), gne (show (6 : Nat) ≠ 8 by decide), gne (show (6 : Nat) ≠ 9 by decide), gne (show (6 : Nat) ≠ 10 by decide), gne (show (6 : Nat) ≠ 11 by decide), gne (show (6 : Nat) ≠ 12 by decide), gne (show (6 : Nat) ≠ 13 by decide)]
      refine ⟨v5, v9, v10, v11, v12, v13, _, _, v16, v17, v18, v19, v20, R, rfl, ?_⟩
      exact ⟨fB, fR, fC, f0, f1, f2, f3, f4, fun _ => rfl, fun _ => rfl, f7, f8, f9, f10, f11, f12⟩
    · have d4 : L.getD 4 false = true := h2 ⟨4, .data⟩ (by simp) rfl
      have d6 : L.getD 6 false = true := h2 ⟨6, .data⟩ (by simp) rfl
      obtain ⟨i0, hi0, hz0, hz1, hz2⟩ := info_parts infoDe
      obtain rfl := f6 d6
      obtain ⟨G, rfl, rfl, hown⟩ := f4 d4 (by simpa using nof h1)
      rcases Nat.eq_zero_or_pos m0 with hm0 | hm0
      · subst hm0
        obtain rfl : news = [] := List.eq_nil_of_length_eq_zero (by have := FH0.hl; omega)
        refine wpOp_do (o := _) rfl rfl fun K hK => ?_
        cases B0
        all_goals
          go_simp
          refine hK _ _ ?_
          unfold GI
          simp only [gne (show (7 : Nat) ≠ 0 by decide), gne (show (7 : Nat) ≠ 1 by decide), gne (show (7 : Nat) ≠ 2 by decide), gne (show (7 : Nat) ≠ 3 by decide), gne (show (7 : Nat) ≠ 4 by decide), gne (show (7 : Nat) ≠ 5 by decide), gne (show (7 : Nat) ≠ 6 by decide), gne (show (7 : Nat) ≠ 8 by decide), gne (show (7 : Nat) ≠ 9 by decide), gne (show (7 : Nat) ≠ 10 by decide), gne (show (7 : Nat) ≠ 11 by decide), gne (show (7 : Nat) ≠ 12 by decide), gne (show (7 : Nat) ≠ 13 by decide)]
          refine ⟨v5, v9, v10, v11, v12, _, v14, _, _, v17, v18, v19, v20, some G, rfl, ?_⟩
          exact ⟨fB, fR, ⟨fun _ => d4, fun h => geq (by rw [hsz]; decide), fC.2.2⟩, f0, f1, f2, f3, fun _ h => absurd h (by rw [geq (by rw [hsz]; decide)]; decide), f5, fun _ => rfl, fun _ _ => ⟨G, 0, rfl, rfl, hown⟩, f8, f9, fun h => absurd (fC.2.1 h) (nof h1), f11, f12⟩
      obtain ⟨B, o, rfl, hnw⟩ := FH0.hnews hm0
      refine wpOp_do (o := _) rfl rfl fun K hK => ?_
      refine wp_append_lies _ _ _ _ rfl w0.heap.size 47 i0 _ 7 112 Tryz.underlying23 hi0 hz0 hz1 hz2 rfl (by decide) _ 0 [] (by rfl) hown ⟨B, o, none⟩ m0 d0 news (by rfl) FH0.hl (fun j u hj => keep fB (hnw j u hj)) FH0.hone (by omega) (by have := FH0.hm; simp [maxLen]; omega) (by have := FH0.hm; omega) fB.size _ rfl ?_
      intro g cap w1 hown1 hgrow hat hlt
      have hg : g = G ∨ g = w.heap.size := by rcases hat with h | h; exact .inl (by simpa [Value.ownBlock] using h.symm); exact .inr h
      have hG := fR G rfl
      have hne : ∀ X, X < w.heap.size → some G ≠ some X → some g ≠ some X := fun X hX hh h2 => by cases h2; rcases hg with h3 | h3; exact hh (by rw [h3]); omega
      have b4 : Below w0.heap.size w0 w1 := fB.grown hgrow fB.size (fun k hk => by simp only [Value.ownBlock, Option.some.injEq] at hk; omega)
      simp only [Nat.zero_add, List.nil_append] at hown1
      refine hK _ _ ?_
      unfold GI
      simp only [gne (show (7 : Nat) ≠ 0 by decide), gne (show (7 : Nat) ≠ 1 by decide), gne (show (7 : Nat) ≠ 2 by decide), gne (show (7 : Nat) ≠ 3 by decide), gne (show (7 : Nat) ≠ 4 by decide), gne (show (7 : Nat) ≠ 5 by decide), gne (show (7 : Nat) ≠ 6 by decide), gne (show (7 : Nat) ≠ 8 by decide), gne (show (7 : Nat) ≠ 9 by decide), gne (show (7 : Nat) ≠ 10 by decide), gne (show (7 : Nat) ≠ 11 by decide), gne (show (7 : Nat) ≠ 12 by decide), gne (show (7 : Nat) ≠ 13 by decide)]
      refine ⟨v5, v9, v10, v11, v12, _, v14, _, _, v17, v18, v19, v20, (some g), rfl, ?_⟩
      exact ⟨b4, (fun r hr => by cases hr; exact ⟨hlt, by omega⟩), ⟨fun _ => d4, fun h => geq (by rw [hsz]; decide), fC.2.2⟩, f0, f1, f2, f3, fun _ h => absurd h (by rw [geq (by rw [hsz]; decide)]; decide), f5, fun _ => rfl, fun _ _ => ⟨g, cap, by rw [Nat.zero_add], rfl, hown1⟩, f8, fun h h10 => by obtain ⟨G2, x1, x2, x3, x4⟩ := f9 h h10; exact ⟨G2, x1, hne _ x3 x2, Nat.lt_of_lt_of_le x3 (hgrow.size), fun j u hj => by have h9 := x4 j u hj; rw [Go.WideShapes.add_plain] at h9 ⊢; exact (hgrow.cell_far ⟨G2, 0 + j, none⟩ x3 (fun hh => x2 (by simpa [Value.ownBlock] using hh.symm))).trans h9⟩, fun h => absurd (fC.2.1 h) (nof h1), f11, fun h => by obtain ⟨K0, x1, x2, x3, x4, x5, x6, x7, X, Y, Z, x8, x9, x10, x11⟩ := f12 h; exact ⟨K0, x1, x2, hne _ x4 x3, Nat.lt_of_lt_of_le x4 (hgrow.size), (hgrow.frozen_far ⟨K0, 0, none⟩ x4 (fun hh => x3 (by simpa [Value.ownBlock] using hh.symm))).trans x5, (hgrow.frozen_far ⟨K0, 1, none⟩ x4 (fun hh => x3 (by simpa [Value.ownBlock] using hh.symm))).trans x6, (hgrow.frozen_far ⟨K0, 2, none⟩ x4 (fun hh => x3 (by simpa [Value.ownBlock] using hh.symm))).trans x7, X, Y, Z, (hgrow.cell_far ⟨K0, 0, none⟩ x4 (fun hh => x3 (by simpa [Value.ownBlock] using hh.symm))).trans x8, (hgrow.cell_far ⟨K0, 1, none⟩ x4 (fun hh => x3 (by simpa [Value.ownBlock] using hh.symm))).trans x9, (hgrow.cell_far ⟨K0, 2, none⟩ x4 (fun hh => x3 (by simpa [Value.ownBlock] using hh.symm))).trans x10, x11⟩⟩
    · have e3 := keep fB FH0.q3
      have e4 := keep fB FH0.q4
      have e5 := keep fB FH0.q5
      have e6 := keep fB FH0.q6
      have e7 := keep fB FH0.q7
      have e8 := keep fB FH0.q8
      have e9 := keep fB FH0.q9
      refine wpOp_do (o := _) rfl rfl fun K hK => ?_
      go_simp
      refine hK _ _ ?_
      unfold GI
      simp only [gne (show (8 : Nat) ≠ 0 by decide), gne (show (8 : Nat) ≠ 1 by decide), gne (show (8 : Nat) ≠ 2 by decide), gne (show (8 : Nat) ≠ 3 by decide), gne (show (8 : Nat) ≠ 4 by decide), gne (show (8 : Nat) ≠ 5 by decide), gne (show (8 : Nat) ≠ 6 by decide), gne (show (8 : Nat) ≠ 7 by decide), gne (show (8 : Nat) ≠ 9 by decide), gne (show (8 : Nat) ≠ 10 by decide), gne (show (8 : Nat) ≠ 11 by decide), gne (show (8 : Nat) ≠ 12 by decide), gne (show (8 : Nat) ≠ 13 by decide)]
      refine ⟨v5, v9, v10, v11, v12, v13, v14, v15, v16, _, v18, v19, v20, R, rfl, ?_⟩
      exact ⟨fB, fR, fC, f0, f1, f2, f3, f4, f5, f6, f7, fun _ => rfl, f9, f10, f11, f12⟩
    · have d8 : L.getD 8 false = true := h2 ⟨8, .data⟩ (by simp) rfl
      obtain rfl := f8 d8
      refine wpOp_do (o := _) rfl rfl fun K hK => ?_
      go_simp
      have b4 := up (up0 w) (.cells #[.int .i64 k, .bool ex, .string n, .int .i64 t, .slice A1 l1 c1, .slice A2 l2 c2, .slice A3 l3 c3] 47 (0, 0))
      refine hK _ _ ?_
      unfold GI
      simp only [gne (show (9 : Nat) ≠ 0 by decide), gne (show (9 : Nat) ≠ 1 by decide), gne (show (9 : Nat) ≠ 2 by decide), gne (show (9 : Nat) ≠ 3 by decide), gne (show (9 : Nat) ≠ 4 by decide), gne (show (9 : Nat) ≠ 5 by decide), gne (show (9 : Nat) ≠ 6 by decide), gne (show (9 : Nat) ≠ 7 by decide), gne (show (9 : Nat) ≠ 8 by decide), gne (show (9 : Nat) ≠ 10 by decide), gne (show (9 : Nat) ≠ 11 by decide), gne (show (9 : Nat) ≠ 12 by decide), gne (show (9 : Nat) ≠ 13 by decide)]
      refine ⟨v5, v9, v10, v11, v12, v13, v14, v15, v16, _, _, v19, v20, R, rfl, ?_⟩
      exact ⟨step fB b4, (fun r hr => ⟨by have := (fR r hr).1; simp; omega, (fR r hr).2⟩), fC, f0, f1, f2, f3, fun h h7 => by obtain ⟨G, x1, x2, x3⟩ := f4 h h7; exact ⟨G, x1, x2, x3.alloc _⟩, f5, f6, fun h h7 => by obtain ⟨g, cap, x1, x2, x3⟩ := f7 h h7; exact ⟨g, cap, x1, x2, x3.alloc _⟩, fun _ => rfl, fun _ _ => ⟨_, rfl, fun hh => absurd (fR _ hh).1 (by omega), by simp, fun j u hj => by rw [new_add]; exact (List.getElem?_toArray ..).trans hj⟩, fun h => by obtain ⟨g, cap, x1, x2, x3⟩ := f10 h; exact ⟨g, cap, x1, x2, x3.alloc _⟩, f11, fun h => by obtain ⟨K0, x1, x2, x3, x4, x5, x6, x7, X, Y, Z, x8, x9, x10, x11⟩ := f12 h; exact ⟨K0, x1, x2, x3, (by simp; omega), (b4.frozen (p := ⟨K0, 0, none⟩) x4).trans x5, (b4.frozen (p := ⟨K0, 1, none⟩) x4).trans x6, (b4.frozen (p := ⟨K0, 2, none⟩) x4).trans x7, X, Y, Z, keep b4 x8, keep b4 x9, keep b4 x10, x11⟩⟩
    · have d7 : L.getD 7 false = true := h2 ⟨7, .data⟩ (by simp) rfl
      have d9 : L.getD 9 false = true := h2 ⟨9, .data⟩ (by simp) rfl
      obtain ⟨i0, hi0, hz0, hz1, hz2⟩ := info_parts infoDe
      obtain ⟨G, cap0, rfl, rfl, hown⟩ := f7 d7 (by simpa using nof h1)
      obtain ⟨G2, rfl, y2, y3, y4⟩ := f9 d9 (by simpa using nof h1)
      refine wpOp_do (o := _) rfl rfl fun K hK => ?_
      refine wp_append_lies _ _ _ _ rfl w0.heap.size 47 i0 _ 7 112 Tryz.underlying23 hi0 hz0 hz1 hz2 rfl (by decide) _ m0 news (by rfl) hown ⟨G2, 0, none⟩ 1 1 [.int .i64 k, .bool ex, .string n, .int .i64 t, .slice A1 l1 c1, .slice A2 l2 c2, .slice A3 l3 c3] (by rfl) rfl y4 (by intro u hu; simp only [List.mem_cons, List.not_mem_nil, or_false] at hu; rcases hu with rfl | rfl | rfl | rfl | rfl | rfl | rfl <;> rfl) (by omega) (by have := FH0.hm; simp [maxLen]; omega) (by have := FH0.hm; omega) fB.size _ rfl ?_
      intro g cap w1 hown1 hgrow hat hlt
      have hg : g = G ∨ g = w.heap.size := by rcases hat with h | h; exact .inl (by simpa [Value.ownBlock] using h.symm); exact .inr h
      have hG := fR G rfl
      have hne : ∀ X, X < w.heap.size → some G ≠ some X → some g ≠ some X := fun X hX hh h2 => by cases h2; rcases hg with h3 | h3; exact hh (by rw [h3]); omega
      have b4 : Below w0.heap.size w0 w1 := fB.grown hgrow fB.size (fun k hk => by simp only [Value.ownBlock, Option.some.injEq] at hk; omega)
      refine hK _ _ ?_
      unfold GI
      simp only [gne (show (10 : Nat) ≠ 0 by decide), gne (show (10 : Nat) ≠ 1 by decide), gne (show (10 : Nat) ≠ 2 by decide), gne (show (10 : Nat) ≠ 3 by decide), gne (show (10 : Nat) ≠ 4 by decide), gne (show (10 : Nat) ≠ 5 by decide), gne (show (10 : Nat) ≠ 6 by decide), gne (show (10 : Nat) ≠ 7 by decide), gne (show (10 : Nat) ≠ 8 by decide), gne (show (10 : Nat) ≠ 9 by decide), gne (show (10 : Nat) ≠ 11 by decide), gne (show (10 : Nat) ≠ 12 by decide), gne (show (10 : Nat) ≠ 13 by decide)]
      refine ⟨v5, v9, v10, v11, v12, v13, v14, v15, _, v17, _, _, v20, (some g), rfl, ?_⟩
      exact ⟨b4, (fun r hr => by cases hr; exact ⟨hlt, by omega⟩), ⟨fC.1, fun _ => d7, fC.2.2.1, fun _ => geq (by rw [hsz]; decide), fC.2.2.2.2⟩, f0, f1, f2, f3, fun _ h => absurd d7 (by rw [h]; decide), f5, f6, fun _ h => absurd h (by rw [geq (by rw [hsz]; decide)]; decide), f8, fun _ h => absurd h (by rw [geq (by rw [hsz]; decide)]; decide), fun _ => ⟨g, cap, rfl, rfl, hown1⟩, fun h => absurd (fC.2.2.2.1 h) (nof h1), fun h => by obtain ⟨K0, x1, x2, x3, x4, x5, x6, x7, X, Y, Z, x8, x9, x10, x11⟩ := f12 h; exact ⟨K0, x1, x2, hne _ x4 x3, Nat.lt_of_lt_of_le x4 (hgrow.size), (hgrow.frozen_far ⟨K0, 0, none⟩ x4 (fun hh => x3 (by simpa [Value.ownBlock] using hh.symm))).trans x5, (hgrow.frozen_far ⟨K0, 1, none⟩ x4 (fun hh => x3 (by simpa [Value.ownBlock] using hh.symm))).trans x6, (hgrow.frozen_far ⟨K0, 2, none⟩ x4 (fun hh => x3 (by simpa [Value.ownBlock] using hh.symm))).trans x7, X, Y, Z, (hgrow.cell_far ⟨K0, 0, none⟩ x4 (fun hh => x3 (by simpa [Value.ownBlock] using hh.symm))).trans x8, (hgrow.cell_far ⟨K0, 1, none⟩ x4 (fun hh => x3 (by simpa [Value.ownBlock] using hh.symm))).trans x9, (hgrow.cell_far ⟨K0, 2, none⟩ x4 (fun hh => x3 (by simpa [Value.ownBlock] using hh.symm))).trans x10, fun h13 => absurd (fC.2.2.2.1 (fC.2.2.2.2 h13)) (nof h1)⟩⟩
    · have d1 : L.getD 1 false = true := h2 ⟨1, .data⟩ (by simp) rfl
      have d3 : L.getD 3 false = true := h2 ⟨3, .data⟩ (by simp) rfl
      have d10 : L.getD 10 false = true := h2 ⟨10, .data⟩ (by simp) rfl
      obtain rfl := f1 d1
      obtain rfl := f3 d3
      obtain ⟨g, cap, rfl, y1, y2⟩ := f10 d10
      refine wpOp_do (o := _) rfl rfl fun K hK => ?_
      go_simp
      refine hK _ _ ?_
      unfold GI
      simp only [gne (show (11 : Nat) ≠ 0 by decide), gne (show (11 : Nat) ≠ 1 by decide), gne (show (11 : Nat) ≠ 2 by decide), gne (show (11 : Nat) ≠ 3 by decide), gne (show (11 : Nat) ≠ 4 by decide), gne (show (11 : Nat) ≠ 5 by decide), gne (show (11 : Nat) ≠ 6 by decide), gne (show (11 : Nat) ≠ 7 by decide), gne (show (11 : Nat) ≠ 8 by decide), gne (show (11 : Nat) ≠ 9 by decide), gne (show (11 : Nat) ≠ 10 by decide), gne (show (11 : Nat) ≠ 12 by decide), gne (show (11 : Nat) ≠ 13 by decide)]
      refine ⟨v5, v9, _, v11, _, v13, v14, v15, v16, v17, v18, _, _, R, rfl, ?_⟩
      exact ⟨fB, fR, ⟨fC.1, fC.2.1, fC.2.2.1, fun _ => d10, fun _ => geq (by rw [hsz]; decide)⟩, f0, fun _ => rfl, f2, fun _ => rfl, f4, f5, f6, f7, f8, f9, fun _ => ⟨g, cap, rfl, y1, y2⟩, fun _ => rfl, f12⟩
    · refine wpOp_do (o := _) rfl rfl fun K hK => ?_
      go_simp
      have b4 := up (up0 w) (.cells #[.string ⟨#[]⟩, .slice none 0 0, .slice none 0 0] 25 (0, 0))
      refine hK _ _ ?_
      unfold GI
      simp only [gne (show (12 : Nat) ≠ 0 by decide), gne (show (12 : Nat) ≠ 1 by decide), gne (show (12 : Nat) ≠ 2 by decide), gne (show (12 : Nat) ≠ 3 by decide), gne (show (12 : Nat) ≠ 4 by decide), gne (show (12 : Nat) ≠ 5 by decide), gne (show (12 : Nat) ≠ 6 by decide), gne (show (12 : Nat) ≠ 7 by decide), gne (show (12 : Nat) ≠ 8 by decide), gne (show (12 : Nat) ≠ 9 by decide), gne (show (12 : Nat) ≠ 10 by decide), gne (show (12 : Nat) ≠ 11 by decide), gne (show (12 : Nat) ≠ 13 by decide)]
      refine ⟨_, v9, v10, v11, v12, v13, v14, v15, v16, v17, v18, v19, v20, R, rfl, ?_⟩
      exact ⟨step fB b4, (fun r hr => ⟨by have := (fR r hr).1; simp; omega, (fR r hr).2⟩), ⟨fC.1, fC.2.1, fun _ => geq (by rw [hsz]; decide), fC.2.2.2⟩, f0, f1, f2, f3, fun h h7 => by obtain ⟨G, x1, x2, x3⟩ := f4 h h7; exact ⟨G, x1, x2, x3.alloc _⟩, f5, f6, fun h h7 => by obtain ⟨g, cap, x1, x2, x3⟩ := f7 h h7; exact ⟨g, cap, x1, x2, x3.alloc _⟩, f8, fun h h10 => by obtain ⟨G, x1, x2, x3, x4⟩ := f9 h h10; exact ⟨G, x1, x2, by simp; omega, fun j u hj => keep b4 (x4 j u hj)⟩, fun h => by obtain ⟨g, cap, x1, x2, x3⟩ := f10 h; exact ⟨g, cap, x1, x2, x3.alloc _⟩, f11, fun _ => ⟨_, rfl, fB.size, fun hh => absurd (fR _ hh).1 (by omega), by simp, new_frozen .., new_frozen .., new_frozen .., _, _, _, new_cell _ _ _ 0, new_cell _ _ _ 1, new_cell _ _ _ 2, fun h => absurd (fC.2.2.1 h) (nof h1)⟩⟩
    · have d11 : L.getD 11 false = true := h2 ⟨11, .data⟩ (by simp) rfl
      have d12 : L.getD 12 false = true := h2 ⟨12, .data⟩ (by simp) rfl
      obtain rfl := f11 d11
      obtain ⟨K0, rfl, x2, x3, x4, x5, x6, x7, X, Y, Z, x8, x9, x10, x11⟩ := f12 d12
      have d10 := fC.2.2.2.1 d11
      obtain ⟨g, cap, rfl, y1, y2⟩ := f10 d10
      refine wpOp_do (o := _) rfl rfl fun K hK => ?_
      go_simp
      have b4 : Below w0.heap.size w0 (((w.setCell ⟨K0, 0, none⟩ (.string mn)).setCell ⟨K0, 1, none⟩ (.slice A0 l0 c0)).setCell ⟨K0, 2, none⟩ (.slice (some ⟨g, 0, none⟩) (m0 + 1) cap)) := ((fB.setCell x2 _).setCell x2 _).setCell x2 _
      refine hK _ _ ?_
      unfold GI
      simp only [gne (show (13 : Nat) ≠ 0 by decide), gne (show (13 : Nat) ≠ 1 by decide), gne (show (13 : Nat) ≠ 2 by decide), gne (show (13 : Nat) ≠ 3 by decide), gne (show (13 : Nat) ≠ 4 by decide), gne (show (13 : Nat) ≠ 5 by decide), gne (show (13 : Nat) ≠ 6 by decide), gne (show (13 : Nat) ≠ 7 by decide), gne (show (13 : Nat) ≠ 8 by decide), gne (show (13 : Nat) ≠ 9 by decide), gne (show (13 : Nat) ≠ 10 by decide), gne (show (13 : Nat) ≠ 11 by decide), gne (show (13 : Nat) ≠ 12 by decide)]
      refine ⟨_, v9, v10, v11, v12, v13, v14, v15, v16, v17, v18, _, _, R, rfl, ?_⟩
      exact ⟨b4, (fun r hr => ⟨by have := (fR r hr).1; simpa using this, (fR r hr).2⟩), ⟨fC.1, fC.2.1, fun _ => d12, fC.2.2.2.1, fun _ => d11⟩, f0, f1, f2, f3, fun _ h => absurd (fC.2.1 d10) (by rw [h]; decide), f5, f6, fun _ h => absurd d10 (by rw [h]; decide), f8, fun _ h => absurd d10 (by rw [h]; decide), fun _ => ⟨g, cap, rfl, y1, own_set (own_set (own_set y2 _ _ (by simp only [Value.ownBlock]; exact fun hh => x3 (y1.trans hh))) _ _ (by simp only [Value.ownBlock]; exact fun hh => x3 (y1.trans hh))) _ _ (by simp only [Value.ownBlock]; exact fun hh => x3 (y1.trans hh))⟩, fun _ => rfl, fun _ => ⟨K0, rfl, x2, x3, by simpa using x4, by simpa using x5, by simpa using x6, by simpa using x7, _, _, _, ((World.cell?_setCell_other _ _ _ _ (by intro hh; injection hh with h1 h2; omega)).trans (World.cell?_setCell_other _ _ _ _ (by intro hh; injection hh with h1 h2; omega))).trans (World.cell?_setCell_same _ _ _ x8), (World.cell?_setCell_other _ _ _ _ (by intro hh; injection hh with h1 h2; omega)).trans (World.cell?_setCell_same _ _ _ ((World.cell?_setCell_other _ _ _ _ (by intro hh; injection hh with h1 h2; omega)).trans x9)), World.cell?_setCell_same _ _ _ ((World.cell?_setCell_other _ _ _ _ (by intro hh; injection hh with h1 h2; omega)).trans ((World.cell?_setCell_other _ _ _ _ (by intro hh; injection hh with h1 h2; omega)).trans x10)), fun _ => ⟨rfl, rfl, rfl⟩⟩⟩
  · intro L a w' hsz hall hI
    have hsz' : L.size = 14 := hsz
    have ha : ∀ i, i < 14 → L.getD i false = true := hall
    obtain ⟨v5, v9, v10, v11, v12, v13, v14, v15, v16, v17, v18, v19, v20, R, rfl, fB, fR, fC, f0, f1, f2, f3, f4, f5, f6, f7, f8, f9, f10, f11, f12⟩ := hI
    obtain ⟨g, cap, rfl, y1, y2⟩ := f10 (ha 10 (by decide))
    obtain ⟨K0, rfl, x2, x3, x4, x5, x6, x7, X, Y, Z, x8, x9, x10, x11⟩ := f12 (ha 12 (by decide))
    obtain ⟨rfl, rfl, rfl⟩ := x11 (ha 13 (by decide))
    have hW := Hd.mk (step HBW.out fB)
    have OW := Hd.mk y2
    have hO := O1.out
    have e0 := keep fB FH0.q0
    have e1 := keep fB FH0.q1
    have e2 := keep fB FH0.q2
    have o0 := keep fB hO.1
    have o1 := keep fB hO.2.1
    have o2 := keep fB hO.2.2
    have GW : Hd (∀ (j : Nat) (u : Value), ([.int .i64 k, .bool ex, .string n, .int .i64 t, .slice A1 l1 c1, .slice A2 l2 c2, .slice A3 l3 c3] : List Value)[j]? = some u → w'.cell? ⟨w3.heap.size, j, none⟩ = some u) := ⟨fun j u hj => keep fB (G1.out j u hj)⟩
    clear f0 f1 f2 f3 f4 f5 f6 f7 f8 f9 f10 f11 f12 fC fR ha hall hsz hsz' x2 x3 x5 x6 x7 y1 y2 x11 fB C1 C2 FH0 Hhone Hhl Hhnews hO O1 G1
    refine ‹∀ (a : Act) (w : World), Code.wp Tryz.prog _ _ a w → _› _ _ ?_
    dsimp only
    obtain ⟨wa, rfl⟩ : ∃ wa, wa = w' := ⟨_, rfl⟩
    have S0 : (fun w' => Below wa.heap.size wa w' ∧ w'.cell? ⟨w.heap.size, 0, none⟩ = some (.string mn) ∧ w'.cell? ⟨w.heap.size, 1, none⟩ = some (.slice A0 l0 c0) ∧ w'.cell? ⟨w.heap.size, 2, none⟩ = some (.slice B0 m0 d0) ∧ w'.cell? ⟨w3.heap.size + 1, 0, none⟩ = some (.string mn) ∧ w'.cell? ⟨w3.heap.size + 1, 1, none⟩ = some (.slice none 0 0) ∧ w'.cell? ⟨w3.heap.size + 1, 2, none⟩ = some (.slice (some ⟨w3.heap.size, 0, none⟩) 1 1) ∧ w'.cell? ⟨K0, 0, none⟩ = some (.string mn) ∧ w'.cell? ⟨K0, 1, none⟩ = some (.slice A0 l0 c0) ∧ w'.cell? ⟨K0, 2, none⟩ = some (.slice (some ⟨g, 0, none⟩) (m0 + 1) cap)) wa := ⟨Below.refl _ _, e0, e1, e2, o0, o1, o2, x8, x9, x10⟩
    have HS0 := Hd.mk S0
    clear S0 e0 e1 e2 o0 o1 o2 x8 x9 x10
    have q1 : (na == na) = true := beq_self_eq_true _
    have q2 : (na != na) = false := by simp
    have q3 : decide (no < 1) = false := decide_eq_false (by have := Hhn2.out; omega)
    go_wp2_with fail
    go_region_held3 (fun w' => Below wa.heap.size wa w' ∧ w'.cell? ⟨w.heap.size, 0, none⟩ = some (.string mn) ∧ w'.cell? ⟨w.heap.size, 1, none⟩ = some (.slice A0 l0 c0) ∧ w'.cell? ⟨w.heap.size, 2, none⟩ = some (.slice B0 m0 d0) ∧ w'.cell? ⟨w3.heap.size + 1, 0, none⟩ = some (.string mn) ∧ w'.cell? ⟨w3.heap.size + 1, 1, none⟩ = some (.slice none 0 0) ∧ w'.cell? ⟨w3.heap.size + 1, 2, none⟩ = some (.slice (some ⟨w3.heap.size, 0, none⟩) 1 1) ∧ w'.cell? ⟨K0, 0, none⟩ = some (.string mn) ∧ w'.cell? ⟨K0, 1, none⟩ = some (.slice A0 l0 c0) ∧ w'.cell? ⟨K0, 2, none⟩ = some (.slice (some ⟨g, 0, none⟩) (m0 + 1) cap)) (first | exact ⟨HS0.out.1.drew, HS0.out.2⟩ | exact S9p (by assumption) rfl (by assumption))
      (first
        | (go_at_call 29; (with_reducible refine ((HNA.out _ _ _ _ hW.out OW.out _ (And.left (by assumption))).mono ?_)); (rintro e w5 ⟨rfl, hb5⟩))
        | (go_at_call 29; (with_reducible refine ((HNM.out _ (step hW.out (And.left (by assumption)))).mono ?_)); (rintro e w5 ⟨rfl, hb5⟩))
        | (go_at_call 29; (with_reducible refine ((HNO.out _ _ (step hW.out (And.left (by assumption))) (fun j u hj => keep (And.left (by assumption)) (GW.out j u hj))).mono ?_)); (rintro e w5 ⟨rfl, hb5⟩)))
    have hq := (show Below wa.heap.size wa w5 ∧ _ from by assumption)
    have HQ : Hd ((fun w' => Below wa.heap.size wa w' ∧ w'.cell? ⟨w.heap.size, 0, none⟩ = some (.string mn) ∧ w'.cell? ⟨w.heap.size, 1, none⟩ = some (.slice A0 l0 c0) ∧ w'.cell? ⟨w.heap.size, 2, none⟩ = some (.slice B0 m0 d0) ∧ w'.cell? ⟨w3.heap.size + 1, 0, none⟩ = some (.string mn) ∧ w'.cell? ⟨w3.heap.size + 1, 1, none⟩ = some (.slice none 0 0) ∧ w'.cell? ⟨w3.heap.size + 1, 2, none⟩ = some (.slice (some ⟨w3.heap.size, 0, none⟩) 1 1) ∧ w'.cell? ⟨K0, 0, none⟩ = some (.string mn) ∧ w'.cell? ⟨K0, 1, none⟩ = some (.slice A0 l0 c0) ∧ w'.cell? ⟨K0, 2, none⟩ = some (.slice (some ⟨g, 0, none⟩) (m0 + 1) cap)) w5) := ⟨hq⟩
    obtain ⟨hB, p0, p1, p2, p3, p4, p5, p6, p7, p8⟩ := hq
    have hdd : (dm < do' ∧ da = do') ∨ (¬ dm < do' ∧ da = dm) := by
      have := Hhd.out
      unfold maxI at this
      by_cases h : dm < do'
      · rw [if_pos h] at this; exact .inl ⟨h, this⟩
      · rw [if_neg h] at this; exact .inr ⟨h, this⟩
    rcases hdd with ⟨hd1, rfl⟩ | ⟨hd1, rfl⟩
    · have hd2 : decide (dm < da) = true := decide_eq_true hd1
      clear hd1
      go_wp2_with (first
        | (go_at_call 30; (with_reducible refine ((HDM.out _ (step hW.out HQ.out.1)).mono ?_)); (rintro e w6 ⟨rfl, hb6⟩; have hq := S9p hb6 rfl HQ.out; clear HQ; have HQ := Hd.mk hq; obtain ⟨hB, p0, p1, p2, p3, p4, p5, p6, p7, p8⟩ := hq; clear hb6))
        | (go_at_call 30; (with_reducible refine ((HDA.out _ _ _ _ hW.out OW.out _ HQ.out.1).mono ?_)); (rintro e w6 ⟨rfl, hb6⟩; have hq := S9p hb6 rfl HQ.out; clear HQ; have HQ := Hd.mk hq; obtain ⟨hB, p0, p1, p2, p3, p4, p5, p6, p7, p8⟩ := hq; clear hb6))
        | (go_at_call 30; (with_reducible refine ((HDO.out _ _ (step hW.out HQ.out.1) (fun j u hj => keep HQ.out.1 (GW.out j u hj))).mono ?_)); (rintro e w6 ⟨rfl, hb6⟩; have hq := S9p hb6 rfl HQ.out; clear HQ; have HQ := Hd.mk hq; obtain ⟨hB, p0, p1, p2, p3, p4, p5, p6, p7, p8⟩ := hq; clear hb6))
        | (go_at_call 31; (with_reducible refine ((HUA.out _ _ _ _ hW.out OW.out _ HQ.out.1).mono ?_)); (rintro e wu ⟨A5, c5, N5, rfl, hN5, hz5, ho5, hb6⟩; have hq := S9p hb6 rfl HQ.out; clear HQ; have HQ := Hd.mk hq; obtain ⟨hB, p0, p1, p2, p3, p4, p5, p6, p7, p8⟩ := hq; have HO5 := Hd.mk ho5; have HN5 := Hd.mk hN5; clear hb6 ho5 hN5 hz5)))
      obtain ⟨W, hWu⟩ : ∃ W : World, W = wu := ⟨_, rfl⟩
      subst hWu
      go_region_held3 (fun w' => Below wa.heap.size wa w' ∧ w'.cell? ⟨w.heap.size, 0, none⟩ = some (.string mn) ∧ w'.cell? ⟨w.heap.size, 1, none⟩ = some (.slice A0 l0 c0) ∧ w'.cell? ⟨w.heap.size, 2, none⟩ = some (.slice B0 m0 d0) ∧ w'.cell? ⟨w3.heap.size + 1, 0, none⟩ = some (.string mn) ∧ w'.cell? ⟨w3.heap.size + 1, 1, none⟩ = some (.slice none 0 0) ∧ w'.cell? ⟨w3.heap.size + 1, 2, none⟩ = some (.slice (some ⟨w3.heap.size, 0, none⟩) 1 1) ∧ w'.cell? ⟨K0, 0, none⟩ = some (.string mn) ∧ w'.cell? ⟨K0, 1, none⟩ = some (.slice A0 l0 c0) ∧ w'.cell? ⟨K0, 2, none⟩ = some (.slice (some ⟨g, 0, none⟩) (m0 + 1) cap)) (first | exact ⟨HQ.out.1.drew, HQ.out.2⟩ | exact S9p HB7.out rfl ⟨HQ.out.1.drew, HQ.out.2⟩ | exact S9p HB8.out rfl (by assumption) | exact S9p (((up0 W).drew.trans ((HB7.out.trans (HB8.out.mono HB7.out.size)).trans HB9.out))) rfl HQ.out | (trace_state; fail))
      (first
        | (go_at_call 31; (with_reducible refine ((HUM.out _ (step hW.out HQ.out.1.drew)).mono ?_)); (rintro e w7 ⟨A7, c7, N7, rfl, hN7, hz7, ho7, hb7⟩; have HB7 := Hd.mk hb7; have HN7 := Hd.mk hN7; have HO7 := Hd.mk ho7; have HZ7 := Hd.mk hz7; clear hb7 hN7 ho7 hz7))
        | (go_at_call 31; (with_reducible refine ((HUO.out _ _ (step hW.out (And.left (by assumption))) (fun j u hj => keep (And.left (by assumption)) (GW.out j u hj))).mono ?_)); (rintro e w8 ⟨A8, c8, N8, rfl, hN8, hz8, ho8, hb8⟩; have HB8 := Hd.mk hb8; have HN8 := Hd.mk hN8; have HO8 := Hd.mk ho8; have HZ8 := Hd.mk hz8; clear hb8 hN8 ho8 hz8))
        | (rw [if_pos (by rfl)]; refine wp_app_row _ _ rfl _ _ _ _ _ rfl (own_below HO7.out HB8.out) HZ7.out (by have h1 := HB7.out.size; have h2 := HB8.out.size; omega) _ _ _ _ _ rfl HO8.out HZ8.out (by have h1 := Hhu3.out; have h2 := HN7.out; have h3 := HN8.out; rw [List.length_append] at h1; omega) ?_; intro A9 c9 N9 w9 hN9 ho9 hz9 hne9 hce9 hb9; have HN9 := Hd.mk hN9; have HO9 := Hd.mk ho9; have HB9 := Hd.mk hb9; clear hN9 ho9 hz9 hne9 hce9 hb9))
      have HNU : Hd (N5 = ua.length) := HN5
      have HNX : Hd (N9 = (um ++ uo).length) := ⟨by rw [HN9.out, HN7.out, HN8.out, List.length_append]⟩
      have HBT : Hd (Below W.heap.size W w9) := ⟨(up0 W).drew.trans ((HB7.out.trans (HB8.out.mono HB7.out.size)).trans HB9.out)⟩
      have HU : Hd (∀ (k : Nat) (s : ByteArray), ua[k]? = some s → ∃ g5, A5 = some ⟨g5, 0, none⟩ ∧ w9.cell? ⟨g5, k, none⟩ = some (.string s)) := ⟨fun k s hs => own_at (own_below HO5.out HBT.out) hs⟩
      have HX : Hd (∀ (k : Nat) (s : ByteArray), (um ++ uo)[k]? = some s → ∃ g5, A9 = some ⟨g5, 0, none⟩ ∧ w9.cell? ⟨g5, k, none⟩ = some (.string s)) := ⟨fun k s hs => own_at HO9.out hs⟩
      have HW9 : Hd (Below w.heap.size w w9) := ⟨step (step hW.out HQ.out.1) HBT.out⟩
      have hb9 : N9 ≤ 1000000000000 := by have := Hhu3.out; have := HNX.out; omega
      have hb5 : N5 ≤ 1000000000000 := by have := Hhu3.out; have := Hhu2.out; have := HNU.out; omega
      have hlast : decide (N5 ≤ N9) = true := decide_eq_true (by have := Hhu2.out; have := HNU.out; have := HNX.out; omega)
      have HUX : Hd (∀ x, x ∈ um ++ uo → x ∈ ua) := Hhu1
      generalize um ++ uo = xs at HX HNX HUX
      clear HO5 HO7 HO8 HO9 HZ7 HZ8 HN5 HN7 HN8 HN9 HB7 HB8 HB9 HBT HQ hB p0 p1 p2 p3 p4 p5 p6 p7 p8 hW OW GW
      go_wp2_with fail
      go_loopw [10] (fun i w' => ∃ j : Nat, j ≤ N9 ∧ i = .int .i64 j ∧ Below w9.heap.size w9 w') (fun i _ => N9 - (intOf i).toNat)
      case atStart => exact ⟨0, by omega, rfl, Below.refl _ _⟩
      case round =>
        obtain ⟨j, hj, rfl, hb⟩ := hrel
        have HB := Hd.mk hb
        clear hb
        by_cases hlt : j < N9
        · obtain ⟨s, hs⟩ : ∃ s, xs[j]? = some s := ⟨_, List.getElem?_eq_getElem (by rw [← HNX.out]; exact hlt)⟩
          obtain ⟨g9, rfl, hc9⟩ := HX.out j s hs
          have HIN : Hd (s ∈ ua) := ⟨HUX.out s (List.mem_of_getElem? hs)⟩
          have HC9 := Hd.mk hc9
          clear hc9 hs
          obtain ⟨wo, rfl⟩ : ∃ wo : World, wo = wr := ⟨_, rfl⟩
          go_wp2_with fail
          go_loopw [11, 12] (fun f i w' => ∃ (k : Nat) (fb : Bool), k ≤ N5 ∧ f = .bool fb ∧ i = .int .i64 k ∧ (fb = true ↔ s ∈ ua.take k) ∧ Below w9.heap.size w9 w') (fun _ i _ => N5 - (intOf i).toNat)
          case atStart => exact ⟨0, false, by omega, rfl, rfl, by simp, HB.out⟩
          case round =>
            obtain ⟨k2, fb, hk, rfl, rfl, hfb, hb⟩ := hrel
            have HF := Hd.mk hfb
            have HB2 := Hd.mk hb
            clear hfb hb
            by_cases hlt2 : k2 < N5
            · obtain ⟨r, hr⟩ : ∃ r, ua[k2]? = some r := ⟨_, List.getElem?_eq_getElem (by rw [← HNU.out]; exact hlt2)⟩
              obtain ⟨g5, rfl, hc5⟩ := HU.out k2 r hr
              have d5 := keep HB2.out hc5
              have d9 := keep HB2.out HC9.out
              have HT : Hd (ua.take (k2 + 1) = ua.take k2 ++ [r]) := ⟨take_next hr⟩
              clear hc5 hr
              cases fb with
              | true =>
                have HIT : Hd (s ∈ ua.take k2) := ⟨HF.out.1 rfl⟩
                go_wp2_with fail
                go_quiet (fail)
                go_wp2_with fail
                go_roundw
                case rel => exact ⟨k2 + 1, true, by omega, rfl, by go_num, by rw [HT.out, List.mem_append]; exact ⟨fun _ => .inl HIT.out, fun _ => rfl⟩, below_drewN HB2.out _⟩
                case measure => simp [intOf]; omega
              | false =>
                by_cases hrs : r = s
                · have e1 : (r.toList == s.toList) = true := by rw [hrs]; exact beq_self_eq_true _
                  go_wp2_with fail
                  go_quiet (fail)
                  go_wp2_with fail
                  go_roundw
                  case rel => exact ⟨k2 + 1, true, by omega, rfl, by go_num, by rw [HT.out, hrs]; simp, below_drewN HB2.out _⟩
                  case measure => simp [intOf]; omega
                · have e1 : (r.toList == s.toList) = false := beq_eq_false_iff_ne.mpr fun h => hrs (bytes_eq h)
                  go_wp2_with fail
                  go_quiet (fail)
                  go_wp2_with fail
                  go_roundw
                  case rel =>
                    refine ⟨k2 + 1, false, by omega, rfl, by go_num, ?_, below_drewN HB2.out _⟩
                    rw [HT.out, List.mem_append, List.mem_singleton]
                    have := HF.out
                    constructor
                    · intro h; cases h
                    · rintro (h | h)
                      · exact this.2 h
                      · exact absurd h.symm hrs
                  case measure => simp [intOf]; omega
            · obtain rfl : k2 = N5 := by omega
              have ht : ua.take k2 = ua := List.take_of_length_le (by rw [← HNU.out]; omega)
              obtain rfl : fb = true := HF.out.2 (by rw [ht]; exact HIN.out)
              go_wp2_with fail
              go_roundw
              case rel => exact ⟨j + 1, by omega, by go_num, HB2.out⟩
              case measure => simp [intOf]; omega
        · obtain rfl : j = N9 := by omega
          go_wp2_with fail
          go_ret
          exact ⟨rfl, step HW9.out HB.out⟩
    · have hd2 : decide (da < do') = false := decide_eq_false hd1
      clear hd1
      go_wp2_with (first
        | (go_at_call 30; (with_reducible refine ((HDM.out _ (step hW.out HQ.out.1)).mono ?_)); (rintro e w6 ⟨rfl, hb6⟩; have hq := S9p hb6 rfl HQ.out; clear HQ; have HQ := Hd.mk hq; obtain ⟨hB, p0, p1, p2, p3, p4, p5, p6, p7, p8⟩ := hq; clear hb6))
        | (go_at_call 30; (with_reducible refine ((HDA.out _ _ _ _ hW.out OW.out _ HQ.out.1).mono ?_)); (rintro e w6 ⟨rfl, hb6⟩; have hq := S9p hb6 rfl HQ.out; clear HQ; have HQ := Hd.mk hq; obtain ⟨hB, p0, p1, p2, p3, p4, p5, p6, p7, p8⟩ := hq; clear hb6))
        | (go_at_call 30; (with_reducible refine ((HDO.out _ _ (step hW.out HQ.out.1) (fun j u hj => keep HQ.out.1 (GW.out j u hj))).mono ?_)); (rintro e w6 ⟨rfl, hb6⟩; have hq := S9p hb6 rfl HQ.out; clear HQ; have HQ := Hd.mk hq; obtain ⟨hB, p0, p1, p2, p3, p4, p5, p6, p7, p8⟩ := hq; clear hb6))
        | (go_at_call 31; (with_reducible refine ((HUA.out _ _ _ _ hW.out OW.out _ HQ.out.1).mono ?_)); (rintro e wu ⟨A5, c5, N5, rfl, hN5, hz5, ho5, hb6⟩; have hq := S9p hb6 rfl HQ.out; clear HQ; have HQ := Hd.mk hq; obtain ⟨hB, p0, p1, p2, p3, p4, p5, p6, p7, p8⟩ := hq; have HO5 := Hd.mk ho5; have HN5 := Hd.mk hN5; clear hb6 ho5 hN5 hz5)))
      obtain ⟨W, hWu⟩ : ∃ W : World, W = wu := ⟨_, rfl⟩
      subst hWu
      go_region_held3 (fun w' => Below wa.heap.size wa w' ∧ w'.cell? ⟨w.heap.size, 0, none⟩ = some (.string mn) ∧ w'.cell? ⟨w.heap.size, 1, none⟩ = some (.slice A0 l0 c0) ∧ w'.cell? ⟨w.heap.size, 2, none⟩ = some (.slice B0 m0 d0) ∧ w'.cell? ⟨w3.heap.size + 1, 0, none⟩ = some (.string mn) ∧ w'.cell? ⟨w3.heap.size + 1, 1, none⟩ = some (.slice none 0 0) ∧ w'.cell? ⟨w3.heap.size + 1, 2, none⟩ = some (.slice (some ⟨w3.heap.size, 0, none⟩) 1 1) ∧ w'.cell? ⟨K0, 0, none⟩ = some (.string mn) ∧ w'.cell? ⟨K0, 1, none⟩ = some (.slice A0 l0 c0) ∧ w'.cell? ⟨K0, 2, none⟩ = some (.slice (some ⟨g, 0, none⟩) (m0 + 1) cap)) (first | exact ⟨HQ.out.1.drew, HQ.out.2⟩ | exact S9p HB7.out rfl ⟨HQ.out.1.drew, HQ.out.2⟩ | exact S9p HB8.out rfl (by assumption) | exact S9p (((up0 W).drew.trans ((HB7.out.trans (HB8.out.mono HB7.out.size)).trans HB9.out))) rfl HQ.out | (trace_state; fail))
      (first
        | (go_at_call 31; (with_reducible refine ((HUM.out _ (step hW.out HQ.out.1.drew)).mono ?_)); (rintro e w7 ⟨A7, c7, N7, rfl, hN7, hz7, ho7, hb7⟩; have HB7 := Hd.mk hb7; have HN7 := Hd.mk hN7; have HO7 := Hd.mk ho7; have HZ7 := Hd.mk hz7; clear hb7 hN7 ho7 hz7))
        | (go_at_call 31; (with_reducible refine ((HUO.out _ _ (step hW.out (And.left (by assumption))) (fun j u hj => keep (And.left (by assumption)) (GW.out j u hj))).mono ?_)); (rintro e w8 ⟨A8, c8, N8, rfl, hN8, hz8, ho8, hb8⟩; have HB8 := Hd.mk hb8; have HN8 := Hd.mk hN8; have HO8 := Hd.mk ho8; have HZ8 := Hd.mk hz8; clear hb8 hN8 ho8 hz8))
        | (rw [if_pos (by rfl)]; refine wp_app_row _ _ rfl _ _ _ _ _ rfl (own_below HO7.out HB8.out) HZ7.out (by have h1 := HB7.out.size; have h2 := HB8.out.size; omega) _ _ _ _ _ rfl HO8.out HZ8.out (by have h1 := Hhu3.out; have h2 := HN7.out; have h3 := HN8.out; rw [List.length_append] at h1; omega) ?_; intro A9 c9 N9 w9 hN9 ho9 hz9 hne9 hce9 hb9; have HN9 := Hd.mk hN9; have HO9 := Hd.mk ho9; have HB9 := Hd.mk hb9; clear hN9 ho9 hz9 hne9 hce9 hb9))
      have HNU : Hd (N5 = ua.length) := HN5
      have HNX : Hd (N9 = (um ++ uo).length) := ⟨by rw [HN9.out, HN7.out, HN8.out, List.length_append]⟩
      have HBT : Hd (Below W.heap.size W w9) := ⟨(up0 W).drew.trans ((HB7.out.trans (HB8.out.mono HB7.out.size)).trans HB9.out)⟩
      have HU : Hd (∀ (k : Nat) (s : ByteArray), ua[k]? = some s → ∃ g5, A5 = some ⟨g5, 0, none⟩ ∧ w9.cell? ⟨g5, k, none⟩ = some (.string s)) := ⟨fun k s hs => own_at (own_below HO5.out HBT.out) hs⟩
      have HX : Hd (∀ (k : Nat) (s : ByteArray), (um ++ uo)[k]? = some s → ∃ g5, A9 = some ⟨g5, 0, none⟩ ∧ w9.cell? ⟨g5, k, none⟩ = some (.string s)) := ⟨fun k s hs => own_at HO9.out hs⟩
      have HW9 : Hd (Below w.heap.size w w9) := ⟨step (step hW.out HQ.out.1) HBT.out⟩
      have hb9 : N9 ≤ 1000000000000 := by have := Hhu3.out; have := HNX.out; omega
      have hb5 : N5 ≤ 1000000000000 := by have := Hhu3.out; have := Hhu2.out; have := HNU.out; omega
      have hlast : decide (N5 ≤ N9) = true := decide_eq_true (by have := Hhu2.out; have := HNU.out; have := HNX.out; omega)
      have HUX : Hd (∀ x, x ∈ um ++ uo → x ∈ ua) := Hhu1
      generalize um ++ uo = xs at HX HNX HUX
      clear HO5 HO7 HO8 HO9 HZ7 HZ8 HN5 HN7 HN8 HN9 HB7 HB8 HB9 HBT HQ hB p0 p1 p2 p3 p4 p5 p6 p7 p8 hW OW GW
      go_wp2_with fail
      go_loopw [10] (fun i w' => ∃ j : Nat, j ≤ N9 ∧ i = .int .i64 j ∧ Below w9.heap.size w9 w') (fun i _ => N9 - (intOf i).toNat)
      case atStart => exact ⟨0, by omega, rfl, Below.refl _ _⟩
      case round =>
        obtain ⟨j, hj, rfl, hb⟩ := hrel
        have HB := Hd.mk hb
        clear hb
        by_cases hlt : j < N9
        · obtain ⟨s, hs⟩ : ∃ s, xs[j]? = some s := ⟨_, List.getElem?_eq_getElem (by rw [← HNX.out]; exact hlt)⟩
          obtain ⟨g9, rfl, hc9⟩ := HX.out j s hs
          have HIN : Hd (s ∈ ua) := ⟨HUX.out s (List.mem_of_getElem? hs)⟩
          have HC9 := Hd.mk hc9
          clear hc9 hs
          obtain ⟨wo, rfl⟩ : ∃ wo : World, wo = wr := ⟨_, rfl⟩
          go_wp2_with fail
          go_loopw [11, 12] (fun f i w' => ∃ (k : Nat) (fb : Bool), k ≤ N5 ∧ f = .bool fb ∧ i = .int .i64 k ∧ (fb = true ↔ s ∈ ua.take k) ∧ Below w9.heap.size w9 w') (fun _ i _ => N5 - (intOf i).toNat)
          case atStart => exact ⟨0, false, by omega, rfl, rfl, by simp, HB.out⟩
          case round =>
            obtain ⟨k2, fb, hk, rfl, rfl, hfb, hb⟩ := hrel
            have HF := Hd.mk hfb
            have HB2 := Hd.mk hb
            clear hfb hb
            by_cases hlt2 : k2 < N5
            · obtain ⟨r, hr⟩ : ∃ r, ua[k2]? = some r := ⟨_, List.getElem?_eq_getElem (by rw [← HNU.out]; exact hlt2)⟩
              obtain ⟨g5, rfl, hc5⟩ := HU.out k2 r hr
              have d5 := keep HB2.out hc5
              have d9 := keep HB2.out HC9.out
              have HT : Hd (ua.take (k2 + 1) = ua.take k2 ++ [r]) := ⟨take_next hr⟩
              clear hc5 hr
              cases fb with
              | true =>
                have HIT : Hd (s ∈ ua.take k2) := ⟨HF.out.1 rfl⟩
                go_wp2_with fail
                go_quiet (fail)
                go_wp2_with fail
                go_roundw
                case rel => exact ⟨k2 + 1, true, by omega, rfl, by go_num, by rw [HT.out, List.mem_append]; exact ⟨fun _ => .inl HIT.out, fun _ => rfl⟩, below_drewN HB2.out _⟩
                case measure => simp [intOf]; omega
              | false =>
                by_cases hrs : r = s
                · have e1 : (r.toList == s.toList) = true := by rw [hrs]; exact beq_self_eq_true _
                  go_wp2_with fail
                  go_quiet (fail)
                  go_wp2_with fail
                  go_roundw
                  case rel => exact ⟨k2 + 1, true, by omega, rfl, by go_num, by rw [HT.out, hrs]; simp, below_drewN HB2.out _⟩
                  case measure => simp [intOf]; omega
                · have e1 : (r.toList == s.toList) = false := beq_eq_false_iff_ne.mpr fun h => hrs (bytes_eq h)
                  go_wp2_with fail
                  go_quiet (fail)
                  go_wp2_with fail
                  go_roundw
                  case rel =>
                    refine ⟨k2 + 1, false, by omega, rfl, by go_num, ?_, below_drewN HB2.out _⟩
                    rw [HT.out, List.mem_append, List.mem_singleton]
                    have := HF.out
                    constructor
                    · intro h; cases h
                    · rintro (h | h)
                      · exact this.2 h
                      · exact absurd h.symm hrs
                  case measure => simp [intOf]; omega
            · obtain rfl : k2 = N5 := by omega
              have ht : ua.take k2 = ua := List.take_of_length_le (by rw [← HNU.out]; omega)
              obtain rfl : fb = true := HF.out.2 (by rw [ht]; exact HIN.out)
              go_wp2_with fail
              go_roundw
              case rel => exact ⟨j + 1, by omega, by go_num, HB2.out⟩
              case measure => simp [intOf]; omega
        · obtain rfl : j = N9 := by omega
          go_wp2_with fail
          go_ret
          exact ⟨rfl, step HW9.out HB.out⟩

end Go.Proofs.YtbhgpegcdiohlaaGreatDoor.Tr

namespace Go.Proofs.YtbhgpegcdiohlaaGreatDoor.Tr
open Go Go.RowKit Go.Proofs
set_option linter.unusedVariables false
set_option maxRecDepth 100000
set_option maxHeartbeats 1000000
/-! ### names.Set: what is in it, and that each is once there -/
theorem mem_compact_gen (d : Array (List UInt8)) (x : List UInt8) : ∀ m, m ≤ d.size → (x ∈ Lib.compactUpTo d m ↔ ∃ j, j < m ∧ d[j]! = x)
  | 0, _ => by simp [Lib.compactUpTo]
  | m + 1, hm => by
    rw [Lib.compactUpTo_succ, List.mem_append, mem_compact_gen d x m (by omega)]
    by_cases hk : Lib.keeps d m = true
    · rw [if_pos hk]
      simp only [List.mem_singleton]
      constructor
      · rintro (⟨j, hj, h⟩ | h)
        · exact ⟨j, by omega, h⟩
        · exact ⟨m, by omega, h.symm⟩
      · rintro ⟨j, hj, h⟩
        by_cases hjm : j = m
        · subst hjm; exact .inr h.symm
        · exact .inl ⟨j, by omega, h⟩
    · rw [if_neg hk]
      simp only [List.not_mem_nil, or_false]
      have hd : m ≠ 0 ∧ d[m]! = d[m - 1]! := by
        unfold Lib.keeps at hk
        simp only [decide_eq_true_eq, not_or, Classical.not_not] at hk
        exact hk
      constructor
      · rintro ⟨j, hj, h⟩
        exact ⟨j, by omega, h⟩
      · rintro ⟨j, hj, h⟩
        by_cases hjm : j = m
        · subst hjm; exact ⟨j - 1, by omega, by rw [← hd.2]; exact h⟩
        · exact ⟨j, by omega, h⟩
theorem mem_compact (zs : List (List UInt8)) (x : List UInt8) : x ∈ Lib.compact zs ↔ x ∈ zs := by
  unfold Lib.compact
  rw [mem_compact_gen _ _ _ (by simp)]
  constructor
  · rintro ⟨j, hj, rfl⟩
    rw [getElem!_pos zs.toArray j (by simpa using hj)]
    simp
  · intro h
    obtain ⟨j, hj, rfl⟩ := List.mem_iff_getElem.1 h
    exact ⟨j, hj, by rw [getElem!_pos zs.toArray j (by simpa using hj)]; simp⟩
theorem mem_setB (l : List ByteArray) (x : ByteArray) : x ∈ setB l ↔ x ∈ l := by
  unfold setB unlB
  rw [List.mem_map]
  constructor
  · rintro ⟨b, hb, rfl⟩
    rw [mem_compact] at hb
    unfold sortB lisB at hb
    rw [List.mem_mergeSort, List.mem_map] at hb
    obtain ⟨y, hy, rfl⟩ := hb
    exact hy
  · intro h
    refine ⟨x.data.toList, ?_, rfl⟩
    rw [mem_compact]
    unfold sortB lisB
    rw [List.mem_mergeSort, List.mem_map]
    exact ⟨x, h, rfl⟩
/-- sorted: what is kept goes up -/
theorem compact_up (d : Array (List UInt8)) (hs : ∀ i j, i ≤ j → j < d.size → d[i]! ≤ d[j]!) : ∀ m, m ≤ d.size → (Lib.compactUpTo d m).Pairwise (fun a b => a ≠ b) ∧ ∀ x ∈ Lib.compactUpTo d m, ∃ j, j < m ∧ d[j]! = x
  | 0, _ => by simp [Lib.compactUpTo]
  | m + 1, hm => by
    obtain ⟨h1, h2⟩ := compact_up d hs m (by omega)
    rw [Lib.compactUpTo_succ]
    by_cases hk : Lib.keeps d m = true
    · rw [if_pos hk]
      refine ⟨List.pairwise_append.2 ⟨h1, by simp, ?_⟩, ?_⟩
      · intro a ha b hb
        simp only [List.mem_singleton] at hb
        subst hb
        obtain ⟨j, hj, rfl⟩ := h2 a ha
        intro he
        have hk2 : m = 0 ∨ d[m]! ≠ d[m - 1]! := by unfold Lib.keeps at hk; exact of_decide_eq_true hk
        rcases hk2 with h0 | h0
        · omega
        · have l1 := hs j (m - 1) (by omega) (by omega)
          have l2 := hs (m - 1) m (by omega) (by omega)
          rw [he] at l1
          exact h0 (List.le_antisymm l1 l2)
      · intro x hx
        rcases List.mem_append.1 hx with h | h
        · obtain ⟨j, hj, e⟩ := h2 x h
          exact ⟨j, by omega, e⟩
        · simp only [List.mem_singleton] at h
          exact ⟨m, by omega, h.symm⟩
    · rw [if_neg hk, List.append_nil]
      refine ⟨h1, fun x hx => ?_⟩
      obtain ⟨j, hj, e⟩ := h2 x hx
      exact ⟨j, by omega, e⟩
theorem sortB_sorted (l : List ByteArray) : ∀ i j, i ≤ j → j < (sortB l).toArray.size → (sortB l).toArray[i]! ≤ (sortB l).toArray[j]! := by
  intro i j hij hj
  have hp : (sortB l).Pairwise fun a b => decide (a ≤ b) = true := by
    unfold sortB
    refine List.pairwise_mergeSort ?_ ?_ _
    · intro a b c h1 h2
      exact decide_eq_true (List.le_trans (of_decide_eq_true h1) (of_decide_eq_true h2))
    · intro a b
      rcases (show (a : List UInt8) ≤ b ∨ b ≤ a from Std.le_total) with h | h
      · simp [h]
      · simp [h]
  have hj' : j < (sortB l).length := by simpa using hj
  rw [getElem!_pos _ i (by simp; omega), getElem!_pos _ j (by simpa using hj')]
  simp only [List.getElem_toArray]
  rcases Nat.lt_or_ge i j with h | h
  · exact of_decide_eq_true (List.pairwise_iff_getElem.1 hp i j (by omega) hj' h)
  · obtain rfl : i = j := by omega
    have hh : ∀ a : List UInt8, a ≤ a := fun a => Std.le_refl a
    exact hh _
theorem setB_nodup (l : List ByteArray) : (setB l).Pairwise fun a b => a ≠ b := by
  unfold setB unlB
  rw [List.pairwise_map]
  have h := (compact_up (sortB l).toArray (sortB_sorted l) (sortB l).length (by simp)).1
  refine List.Pairwise.imp (fun {a b} hab h => hab ?_) h
  have := congrArg (fun s : ByteArray => s.data.toList) h
  simpa using this
theorem nodup_le {α : Type} [DecidableEq α] : ∀ (l r : List α), l.Pairwise (fun a b => a ≠ b) → (∀ x ∈ l, x ∈ r) → l.length ≤ r.length
  | [], r, _, _ => by simp
  | a :: l, r, h, hs => by
    obtain ⟨h1, h2⟩ := List.pairwise_cons.1 h
    have ha := hs a (by simp)
    have := nodup_le l (r.erase a) h2 (fun x hx => (List.mem_erase_of_ne (fun e => h1 x hx e.symm)).2 (hs x (by simp [hx])))
    rw [List.length_erase_of_mem ha] at this
    have := List.length_pos_of_mem ha
    simp
    omega
theorem setB_le (l : List ByteArray) : (setB l).length ≤ l.length := by
  unfold setB unlB
  rw [List.length_map]
  have := Lib.compact_length_le (sortB l)
  rw [sortB_len] at this
  exact this
theorem sumN_snoc {α : Type} (f : α → Nat) : ∀ (l : List α) (a : α), sumN f (l ++ [a]) = sumN f l + f a
  | [], a => by simp [sumN]
  | b :: l, a => by rw [List.cons_append, sumN, sumN, sumN_snoc f l a]; omega
theorem maxI_l2 (a b : Int) : a ≤ maxI a b := by
  unfold maxI
  split <;> omega
theorem depDs_nonneg (l : List De) : ∀ m : Int, 0 ≤ m → 0 ≤ depDs l m := by
  induction l with
  | nil => intro m h; exact h
  | cons d r ih => intro m h; rw [depDs]; exact ih _ (Int.le_trans h (maxI_l2 _ _))
theorem flatD_all (l : List De) : (l.flatMap usD).length ≤ sumN cntD l := by
  have := flatD_le l l.length
  rwa [List.take_of_length_le (Nat.le_refl _)] at this
theorem all_is (m : Mo) (d : De) (w : World) (vm vd : Value) (hm : m.Is w vm) (hd : d.Is w vd) {A0 B0 : Option Addr} {l0 c0 m0 d0 : Nat} (s1 : Sl 1 (strIn w) m.im A0 l0) (s2 : Sl 7 (fun x => x.In w) m.ds B0 m0) (news : List Value) (n1 : news.length = m0 * 7)
    (n3 : 0 < m0 → ∃ B o, B0 = some ⟨B, o, none⟩ ∧ (∀ (j : Nat) (u : Value), news[j]? = some u → w.cell? ((⟨B, o, none⟩ : Addr).add j) = some u) ∧ ∀ (i : Nat) (x : De), m.ds[i]? = some x → x.In w B (o + i * 7)) (hr : m.ds.length * 112 ≤ 140737488351232)
    (cs : Array Value) (hvd : vd = .agg cs) (w' : World) (base g cap : Nat) (hb : Below w.heap.size w w') (hown : w'.ownsRow base 47 7 (.slice (some ⟨g, 0, none⟩) (m0 + 1) cap) (m0 + 1) (news ++ cs.toList)) : (⟨m.n, m.im, m.ds ++ [d]⟩ : Mo).Is w' (.agg #[.string m.n, .slice A0 l0 c0, .slice (some ⟨g, 0, none⟩) (m0 + 1) cap]) := by
  have hlen := s2.1
  refine ⟨_, _, _, _, _, _, rfl, Slt_up hb s1, by simp [hlen], by omega, fun _ => ⟨g, 0, rfl, fun i x hx => ?_⟩⟩
  rcases Nat.lt_or_ge i m.ds.length with hlt | hge
  · rw [List.getElem?_append_left hlt] at hx
    obtain ⟨B, o, h1, h2, h3⟩ := n3 (by omega)
    refine De.In_copy (h3 i x hx) hb fun r u hr hu => ?_
    have hc := World.ownsRow.cellAt hown (i * 7 + r) (by omega)
    rw [List.getElem?_append_left (by rw [n1]; omega)] at hc
    have hj : i * 7 + r < news.length := by rw [n1]; omega
    have h4 := h2 (i * 7 + r) _ (List.getElem?_eq_getElem hj)
    rw [Go.WideShapes.add_plain, show o + (i * 7 + r) = o + i * 7 + r by omega, hu] at h4
    rw [show 0 + i * 7 + r = i * 7 + r by omega, hc, List.getElem?_eq_getElem hj]
    exact h4.symm
  · rw [List.getElem?_append_right hge] at hx
    have hi : i = m.ds.length := by
      have := (List.getElem?_eq_some_iff.1 hx).1
      simp at this
      omega
    subst hi
    simp at hx
    subst hx
    subst hvd
    refine De.put (De.Is_below hb hd) fun r v hv => ?_
    have hr7 : r < 7 := by
      obtain ⟨_, _, _, _, _, _, _, _, _, e, _⟩ := hd
      injection e with e
      subst e
      exact (Array.getElem?_eq_some_iff.1 hv).1
    have hc := World.ownsRow.cellAt hown (m.ds.length * 7 + r) (by omega)
    rw [List.getElem?_append_right (by rw [n1]; omega), n1, ← hlen, show m0 * 7 + r - m0 * 7 = r by omega] at hc
    rw [← hlen, show 0 + m0 * 7 + r = m0 * 7 + r by omega, hc, ← hv, ← Array.getElem?_toList]
theorem one_is (m : Mo) (d : De) (w : World) (vd : Value) (hd : d.Is w vd) (cs : Array Value) (hvd : vd = .agg cs) (w' : World) (G : Nat) (hb : Below w.heap.size w w') (hc : ∀ (j : Nat) (u : Value), cs.toList[j]? = some u → w'.cell? ⟨G, j, none⟩ = some u) : (⟨m.n, [], [d]⟩ : Mo).Is w' (.agg #[.string m.n, .slice none 0 0, .slice (some ⟨G, 0, none⟩) 1 1]) := by
  refine ⟨_, _, _, _, _, _, rfl, ⟨rfl, by omega, fun h => by omega⟩, rfl, by omega, fun _ => ⟨G, 0, rfl, fun i x hx => ?_⟩⟩
  have hi : i = 0 := by
    have := (List.getElem?_eq_some_iff.1 hx).1
    simp at this
    omega
  subst hi
  simp at hx
  subst hx
  subst hvd
  refine De.put (De.Is_below hb hd) fun r v hv => ?_
  rw [show 0 + 0 * 7 + r = r by omega]
  exact hc r v (by rw [← Array.getElem?_toList] at hv; exact hv)
theorem tree_parts (m : Mo) (d : De) (w : World) (vm vd : Value) (hm : m.Is w vm) (hd : d.Is w vd) (hr : m.ds.length * 112 ≤ 140737488351232) (hN : sumN cntD m.ds + cntD d ≤ 10000000000) : Calls Tryz.prog 12 #[vm, vd] w (Says true w) := by
  have hm' := hm
  have hd' := hd
  obtain ⟨A0, l0, c0, B0, m0, d0, rfl, s1, s2⟩ := hm
  obtain ⟨A1, l1, c1, A2, l2, c2, A3, l3, c3, rfl, t1, t2, t3⟩ := hd
  obtain ⟨news, n1, n2, n3⟩ := De.cells_of s2
  have hlen := s2.1
  have hsn := sumN_snoc cntD m.ds d
  have hs1 : sumN cntD [d] = cntD d := by simp [sumN]
  have f1 := flatD_all m.ds
  have f2 := flatD_all [d]
  have f3 := flatD_all (m.ds ++ [d])
  have XA := fun (w' : World) (base g cap : Nat) (hb : Below w.heap.size w w') (ho : w'.ownsRow base 47 7 (.slice (some ⟨g, 0, none⟩) (m0 + 1) cap) (m0 + 1) (news ++ [.int .i64 d.k, .bool d.x, .string d.n, .int .i64 d.t, .slice A1 l1 c1, .slice A2 l2 c2, .slice A3 l3 c3])) => all_is m d w _ _ hm' hd' (c0 := c0) (d0 := d0) s1 s2 news n1 n3 hr _ rfl w' base g cap hb ho
  have XO := fun (w' : World) (G : Nat) (hb : Below w.heap.size w w') (hc : ∀ (j : Nat) (u : Value), ([.int .i64 d.k, .bool d.x, .string d.n, .int .i64 d.t, .slice A1 l1 c1, .slice A2 l2 c2, .slice A3 l3 c3] : List Value)[j]? = some u → w'.cell? ⟨G, j, none⟩ = some u) => one_is m d w _ hd' _ rfl w' G hb hc
  refine parts_walk m.n A0 B0 l0 c0 m0 d0 d.k d.x d.n d.t A1 A2 A3 l1 c1 l2 c2 l3 c3 news w (sumN cntD m.ds) (sumN cntD (m.ds ++ [d])) (sumN cntD [d]) (depDs m.ds 0) (depDs (m.ds ++ [d]) 0) (depDs [d] 0) (setB (m.ds.flatMap usD)) (setB ((m.ds ++ [d]).flatMap usD)) (setB ([d].flatMap usD)) n1 n2 (fun h => ?_) (by omega)
    (fun w' hb => nodes_any m w' _ (Mo.Is_below hb hm') (by omega)) (fun w' base g cap hb ho w'' hb' => nodes_any _ w'' _ (Mo.Is_below hb' (XA w' base g cap hb ho)) (by show sumN cntD (m.ds ++ [d]) ≤ _; omega)) (fun w' G hb hc => nodes_any _ w' _ (XO w' G hb hc) (by show sumN cntD [d] ≤ _; omega))
    (fun w' hb => depth_any m w' _ (Mo.Is_below hb hm')) (fun w' base g cap hb ho w'' hb' => depth_any _ w'' _ (Mo.Is_below hb' (XA w' base g cap hb ho))) (fun w' G hb hc => depth_any _ w' _ (XO w' G hb hc))
    (fun w' hb => uses_any m w' _ (Mo.Is_below hb hm') (by omega)) (fun w' base g cap hb ho w'' hb' => uses_any _ w'' _ (Mo.Is_below hb' (XA w' base g cap hb ho)) (by show sumN cntD (m.ds ++ [d]) ≤ _; omega)) (fun w' G hb hc => uses_any _ w' _ (XO w' G hb hc) (by show sumN cntD [d] ≤ _; omega))
    ?_ ?_ ?_ ?_ ?_ ?_ ?_
  · obtain ⟨B, o, h1, h2, _⟩ := n3 h
    exact ⟨B, o, h1, h2⟩
  · rw [(wr2 (x := (sumN cntD m.ds : Int) + (sumN cntD [d] : Int)) (by omega) (by omega)).1]; omega
  · rw [(wr2 (x := (sumN cntD m.ds : Int) + (sumN cntD [d] : Int)) (by omega) (by omega)).2]; omega
  · have : 1 ≤ cntD d := by unfold cntD; omega
    omega
  · rw [depDs_snoc]
    have h0 := depDs_nonneg m.ds 0 (Int.le_refl _)
    simp only [depDs]
    unfold maxI
    repeat' split
    all_goals omega
  · intro x hx
    rw [mem_setB, List.flatMap_append, List.mem_append]
    rcases List.mem_append.1 hx with h | h
    · exact .inl ((mem_setB _ _).1 h)
    · exact .inr ((mem_setB _ _).1 h)
  · refine nodup_le _ _ (setB_nodup _) fun x hx => ?_
    rw [mem_setB, List.flatMap_append, List.mem_append] at hx
    rcases hx with h | h
    · exact List.mem_append_left _ ((mem_setB _ _).2 h)
    · exact List.mem_append_right _ ((mem_setB _ _).2 h)
  · rw [List.length_append]
    have g1 := setB_le (m.ds.flatMap usD)
    have g2 := setB_le ([d].flatMap usD)
    omega
end Go.Proofs.YtbhgpegcdiohlaaGreatDoor.Tr
