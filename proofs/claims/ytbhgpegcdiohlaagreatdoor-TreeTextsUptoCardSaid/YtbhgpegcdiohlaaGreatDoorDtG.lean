import Derived.Test.YtbhgpegcdiohlaaGreatDoorDtE
import Derived.Deep.RegionHeld3
namespace Go.Proofs.YtbhgpegcdiohlaaGreatDoor.Tr
open Go Go.RowKit Go.Proofs
set_option linter.unusedVariables false
set_option maxRecDepth 100000
set_option maxHeartbeats 8000000
theorem S7d {N : Nat} {w0 w w' : World} (hb : Below w.heap.size w w') (hN : w0.heap.size = N) {a0 a1 a2 a3 a4 a5 a6 : Addr} {v0 v1 v2 v3 v4 v5 v6 : Value} (h : Below N w0 w ∧ w.cell? a0 = some v0 ∧ w.cell? a1 = some v1 ∧ w.cell? a2 = some v2 ∧ w.cell? a3 = some v3 ∧ w.cell? a4 = some v4 ∧ w.cell? a5 = some v5 ∧ w.cell? a6 = some v6) : Below N w0 w' ∧ w'.cell? a0 = some v0 ∧ w'.cell? a1 = some v1 ∧ w'.cell? a2 = some v2 ∧ w'.cell? a3 = some v3 ∧ w'.cell? a4 = some v4 ∧ w'.cell? a5 = some v5 ∧ w'.cell? a6 = some v6 := by
  subst hN
  obtain ⟨h, c0, c1, c2, c3, c4, c5, c6⟩ := h
  exact ⟨step h hb, keep hb c0, keep hb c1, keep hb c2, keep hb c3, keep hb c4, keep hb c5, keep hb c6⟩
theorem S21d {N : Nat} {w0 w w' : World} (hb : Below w.heap.size w w') (hN : w0.heap.size = N) {a0 a1 a2 a3 a4 a5 a6 a7 a8 a9 a10 a11 a12 a13 a14 a15 a16 a17 a18 a19 a20 : Addr} {v0 v1 v2 v3 v4 v5 v6 v7 v8 v9 v10 v11 v12 v13 v14 v15 v16 v17 v18 v19 v20 : Value} (h : Below N w0 w ∧ w.cell? a0 = some v0 ∧ w.cell? a1 = some v1 ∧ w.cell? a2 = some v2 ∧ w.cell? a3 = some v3 ∧ w.cell? a4 = some v4 ∧ w.cell? a5 = some v5 ∧ w.cell? a6 = some v6 ∧ w.cell? a7 = some v7 ∧ w.cell? a8 = some v8 ∧ w.cell? a9 = some v9 ∧ w.cell? a10 = some v10 ∧ w.cell? a11 = some v11 ∧ w.cell? a12 = some v12 ∧ w.cell? a13 = some v13 ∧ w.cell? a14 = some v14 ∧ w.cell? a15 = some v15 ∧ w.cell? a16 = some v16 ∧ w.cell? a17 = some v17 ∧ w.cell? a18 = some v18 ∧ w.cell? a19 = some v19 ∧ w.cell? a20 = some v20) : Below N w0 w' ∧ w'.cell? a0 = some v0 ∧ w'.cell? a1 = some v1 ∧ w'.cell? a2 = some v2 ∧ w'.cell? a3 = some v3 ∧ w'.cell? a4 = some v4 ∧ w'.cell? a5 = some v5 ∧ w'.cell? a6 = some v6 ∧ w'.cell? a7 = some v7 ∧ w'.cell? a8 = some v8 ∧ w'.cell? a9 = some v9 ∧ w'.cell? a10 = some v10 ∧ w'.cell? a11 = some v11 ∧ w'.cell? a12 = some v12 ∧ w'.cell? a13 = some v13 ∧ w'.cell? a14 = some v14 ∧ w'.cell? a15 = some v15 ∧ w'.cell? a16 = some v16 ∧ w'.cell? a17 = some v17 ∧ w'.cell? a18 = some v18 ∧ w'.cell? a19 = some v19 ∧ w'.cell? a20 = some v20 := by
  subst hN
  obtain ⟨h, c0, c1, c2, c3, c4, c5, c6, c7, c8, c9, c10, c11, c12, c13, c14, c15, c16, c17, c18, c19, c20⟩ := h
  exact ⟨step h hb, keep hb c0, keep hb c1, keep hb c2, keep hb c3, keep hb c4, keep hb c5, keep hb c6, keep hb c7, keep hb c8, keep hb c9, keep hb c10, keep hb c11, keep hb c12, keep hb c13, keep hb c14, keep hb c15, keep hb c16, keep hb c17, keep hb c18, keep hb c19, keep hb c20⟩
theorem doc_lit (op : Int) (m n : ByteArray) (t b : Int) (ks : Exs) (s : ByteArray) (hval : ∀ w, Calls Tryz.prog 150 #[.agg #[.int .i64 t, .int .u64 b]] w (SaysS s w)) : DocT (.mk 1 op m n t b ks) s := by
  intro w v hv
  unfold Ex.Is at hv
  obtain ⟨A, l, c, rfl, g⟩ := hv
  clear g
  have V := Hd.mk hval
  clear hval
  go_enter Tryz.func111, Tryz.ntmps111
  go_wp2_with (go_at_call 150; (with_reducible refine ((V.out _).mono ?_)); (rintro e w3 ⟨rfl, hb3⟩; have HB3 := Hd.mk hb3; clear hb3))
  go_ret
  exact ⟨rfl, step (up (up0 _) _) HB3.out⟩
theorem doc_name (op : Int) (m n : ByteArray) (t b : Int) (ks : Exs) : DocT (.mk 2 op m n t b ks) n := by
  intro w v hv
  unfold Ex.Is at hv
  obtain ⟨A, l, c, rfl, g⟩ := hv
  clear g
  go_enter Tryz.func111, Tryz.ntmps111
  go_wp2
  go_ret
  exact ⟨rfl, up (up0 _) _⟩
theorem doc_input (op : Int) (m n : ByteArray) (t b : Int) (ks : Exs) : DocT (.mk 8 op m n t b ks) ⟨#[105, 110, 112, 117, 116]⟩ := by
  intro w v hv
  unfold Ex.Is at hv
  obtain ⟨A, l, c, rfl, g⟩ := hv
  clear g
  go_enter Tryz.func111, Tryz.ntmps111
  go_wp2
  go_ret
  exact ⟨rfl, up (up0 _) _⟩
theorem doc_far (op : Int) (m n : ByteArray) (t b : Int) (ks : Exs) (hs : m.size + n.size ≤ 9223372036854775000) : DocT (.mk 3 op m n t b ks) (m ++ ⟨#[46]⟩ ++ n) := by
  intro w v hv
  unfold Ex.Is at hv
  obtain ⟨A, l, c, rfl, g⟩ := hv
  clear g
  have z1 : (9223372036854775807 < m.size + 1) = False := eq_false (by omega)
  have z2 : (9223372036854775807 < m.size + 1 + n.size) = False := eq_false (by omega)
  clear hs
  go_enter Tryz.func111, Tryz.ntmps111
  go_wp2
  go_ret
  exact ⟨rfl, up (up0 _) _⟩
theorem doc_call4 (op : Int) (m n : ByteArray) (t b : Int) (ks : Exs) (kt : ByteArray) (hK : ∀ (w : World) (A : Option Addr) (l c : Nat), Sl 7 (fun x => x.In w) ks.toList A l → Calls Tryz.prog 151 #[.slice A l c] w (SaysS kt w)) (hs : m.size + n.size + kt.size ≤ 9223372036854775000) : DocT (.mk 4 op m n t b ks) (n ++ kt) := by
  intro w v hv
  unfold Ex.Is at hv
  obtain ⟨A, l, c, rfl, g⟩ := hv
  have K : Hd (∀ w', Below w.heap.size w w' → Calls Tryz.prog 151 #[.slice A l c] w' (SaysS kt w')) := ⟨fun w' hb => hK w' A l c (Sl_up hb g)⟩
  have z0 : (9223372036854775807 < n.size + kt.size) = False := eq_false (by omega)
  have z1 : (9223372036854775807 < m.size + 1) = False := eq_false (by omega)
  have z2 : (9223372036854775807 < m.size + 1 + n.size) = False := eq_false (by omega)
  have z3 : (9223372036854775807 < m.size + 1 + n.size + kt.size) = False := eq_false (by omega)
  clear hs g hK
  have S0 : (fun w' => Below (w.alloc (.cells #[.int .i64 4, .int .i64 op, .string m, .string n, .int .i64 t, .int .u64 b, .slice A l c] 31 (0, 0))).heap.size (w.alloc (.cells #[.int .i64 4, .int .i64 op, .string m, .string n, .int .i64 t, .int .u64 b, .slice A l c] 31 (0, 0))) w' ∧ w'.cell? ⟨w.heap.size, 0, none⟩ = some (.int .i64 4) ∧ w'.cell? ⟨w.heap.size, 1, none⟩ = some (.int .i64 op) ∧ w'.cell? ⟨w.heap.size, 2, none⟩ = some (.string m) ∧ w'.cell? ⟨w.heap.size, 3, none⟩ = some (.string n) ∧ w'.cell? ⟨w.heap.size, 4, none⟩ = some (.int .i64 t) ∧ w'.cell? ⟨w.heap.size, 5, none⟩ = some (.int .u64 b) ∧ w'.cell? ⟨w.heap.size, 6, none⟩ = some (.slice A l c)) (w.alloc (.cells #[.int .i64 4, .int .i64 op, .string m, .string n, .int .i64 t, .int .u64 b, .slice A l c] 31 (0, 0))) := ⟨Below.refl _ _, new_cell w _ _ 0, new_cell w _ _ 1, new_cell w _ _ 2, new_cell w _ _ 3, new_cell w _ _ 4, new_cell w _ _ 5, new_cell w _ _ 6⟩
  have H0 := Hd.mk S0
  clear S0
  go_enter Tryz.func111, Tryz.ntmps111
  go_wp2
  go_region_held3 (fun w' => Below (w.alloc (.cells #[.int .i64 4, .int .i64 op, .string m, .string n, .int .i64 t, .int .u64 b, .slice A l c] 31 (0, 0))).heap.size (w.alloc (.cells #[.int .i64 4, .int .i64 op, .string m, .string n, .int .i64 t, .int .u64 b, .slice A l c] 31 (0, 0))) w' ∧ w'.cell? ⟨w.heap.size, 0, none⟩ = some (.int .i64 4) ∧ w'.cell? ⟨w.heap.size, 1, none⟩ = some (.int .i64 op) ∧ w'.cell? ⟨w.heap.size, 2, none⟩ = some (.string m) ∧ w'.cell? ⟨w.heap.size, 3, none⟩ = some (.string n) ∧ w'.cell? ⟨w.heap.size, 4, none⟩ = some (.int .i64 t) ∧ w'.cell? ⟨w.heap.size, 5, none⟩ = some (.int .u64 b) ∧ w'.cell? ⟨w.heap.size, 6, none⟩ = some (.slice A l c)) (first | exact ⟨H0.out.1.drew, H0.out.2⟩ | exact S7d (by assumption) rfl (by assumption))
    (first
      | (go_at_call 151; (with_reducible refine ((K.out _ (step (up (up0 _) _) (And.left (by assumption)))).mono ?_)); (rintro e w3 ⟨rfl, hb3⟩)))
  all_goals
    go_wp2_with fail
    go_ret
    exact ⟨rfl, step (up (up0 _) _) (And.left (by assumption))⟩
theorem doc_call5 (op : Int) (m n : ByteArray) (t b : Int) (ks : Exs) (kt : ByteArray) (hK : ∀ (w : World) (A : Option Addr) (l c : Nat), Sl 7 (fun x => x.In w) ks.toList A l → Calls Tryz.prog 151 #[.slice A l c] w (SaysS kt w)) (hs : m.size + n.size + kt.size ≤ 9223372036854775000) : DocT (.mk 5 op m n t b ks) ((m ++ ⟨#[46]⟩ ++ n) ++ kt) := by
  intro w v hv
  unfold Ex.Is at hv
  obtain ⟨A, l, c, rfl, g⟩ := hv
  have K : Hd (∀ w', Below w.heap.size w w' → Calls Tryz.prog 151 #[.slice A l c] w' (SaysS kt w')) := ⟨fun w' hb => hK w' A l c (Sl_up hb g)⟩
  have z0 : (9223372036854775807 < n.size + kt.size) = False := eq_false (by omega)
  have z1 : (9223372036854775807 < m.size + 1) = False := eq_false (by omega)
  have z2 : (9223372036854775807 < m.size + 1 + n.size) = False := eq_false (by omega)
  have z3 : (9223372036854775807 < m.size + 1 + n.size + kt.size) = False := eq_false (by omega)
  clear hs g hK
  have S0 : (fun w' => Below (w.alloc (.cells #[.int .i64 5, .int .i64 op, .string m, .string n, .int .i64 t, .int .u64 b, .slice A l c] 31 (0, 0))).heap.size (w.alloc (.cells #[.int .i64 5, .int .i64 op, .string m, .string n, .int .i64 t, .int .u64 b, .slice A l c] 31 (0, 0))) w' ∧ w'.cell? ⟨w.heap.size, 0, none⟩ = some (.int .i64 5) ∧ w'.cell? ⟨w.heap.size, 1, none⟩ = some (.int .i64 op) ∧ w'.cell? ⟨w.heap.size, 2, none⟩ = some (.string m) ∧ w'.cell? ⟨w.heap.size, 3, none⟩ = some (.string n) ∧ w'.cell? ⟨w.heap.size, 4, none⟩ = some (.int .i64 t) ∧ w'.cell? ⟨w.heap.size, 5, none⟩ = some (.int .u64 b) ∧ w'.cell? ⟨w.heap.size, 6, none⟩ = some (.slice A l c)) (w.alloc (.cells #[.int .i64 5, .int .i64 op, .string m, .string n, .int .i64 t, .int .u64 b, .slice A l c] 31 (0, 0))) := ⟨Below.refl _ _, new_cell w _ _ 0, new_cell w _ _ 1, new_cell w _ _ 2, new_cell w _ _ 3, new_cell w _ _ 4, new_cell w _ _ 5, new_cell w _ _ 6⟩
  have H0 := Hd.mk S0
  clear S0
  go_enter Tryz.func111, Tryz.ntmps111
  go_wp2
  go_region_held3 (fun w' => Below (w.alloc (.cells #[.int .i64 5, .int .i64 op, .string m, .string n, .int .i64 t, .int .u64 b, .slice A l c] 31 (0, 0))).heap.size (w.alloc (.cells #[.int .i64 5, .int .i64 op, .string m, .string n, .int .i64 t, .int .u64 b, .slice A l c] 31 (0, 0))) w' ∧ w'.cell? ⟨w.heap.size, 0, none⟩ = some (.int .i64 5) ∧ w'.cell? ⟨w.heap.size, 1, none⟩ = some (.int .i64 op) ∧ w'.cell? ⟨w.heap.size, 2, none⟩ = some (.string m) ∧ w'.cell? ⟨w.heap.size, 3, none⟩ = some (.string n) ∧ w'.cell? ⟨w.heap.size, 4, none⟩ = some (.int .i64 t) ∧ w'.cell? ⟨w.heap.size, 5, none⟩ = some (.int .u64 b) ∧ w'.cell? ⟨w.heap.size, 6, none⟩ = some (.slice A l c)) (first | exact ⟨H0.out.1.drew, H0.out.2⟩ | exact S7d (by assumption) rfl (by assumption))
    (first
      | (go_at_call 151; (with_reducible refine ((K.out _ (step (up (up0 _) _) (And.left (by assumption)))).mono ?_)); (rintro e w3 ⟨rfl, hb3⟩)))
  all_goals
    go_wp2_with fail
    go_ret
    exact ⟨rfl, step (up (up0 _) _) (And.left (by assumption))⟩
theorem doc_un1 (x : Ex) (s : ByteArray) (hx : AtT x 6 s) (hs : s.size ≤ 9223372036854775000) : DocT (.mk 6 1 ⟨#[]⟩ ⟨#[]⟩ 0 0 (.cons x .nil)) (⟨#[45]⟩ ++ s) := by
  intro w v hv
  unfold Ex.Is at hv
  obtain ⟨A, l, c, rfl, g1⟩ := hv
  obtain rfl : l = 1 := g1.1
  obtain ⟨B, o, rfl, g⟩ := g1.at (by omega)
  have i0 := g 0 x rfl
  rw [show o + 0 * 7 = o by omega] at i0
  have z1 : (9223372036854775807 < 1 + s.size) = False := eq_false (by omega)
  have z2 : (9223372036854775807 < 1 + s.size + 1) = False := eq_false (by omega)
  obtain ⟨v0, v1, v2, v3, v4, v5, v6, v7, v8, a0, a1, a2, a3, a4, a5, a6, ax⟩ := Ex.In_Is i0
  have X := Hd.mk (fun w' (hb : Below w.heap.size w w') => hx w' _ (Ex.Is_below hb ax))
  have lt1 : B < w.heap.size := World.block_lt_of_cell? w _ a0
  clear g1 g i0 ax hx hs
  go_enter Tryz.func111, Tryz.ntmps111
  go_wp2_with (go_at_call 54; (with_reducible refine ((X.out _ (up (up0 _) _)).mono ?_)); (rintro e w3 ⟨rfl, hb3⟩; have HB3 := Hd.mk hb3; clear hb3))
  go_ret
  exact ⟨rfl, step (up (up0 _) _) HB3.out⟩
theorem doc_un2 (x : Ex) (s : ByteArray) (hx : AtT x 6 s) (hs : s.size ≤ 9223372036854775000) : DocT (.mk 6 2 ⟨#[]⟩ ⟨#[]⟩ 0 0 (.cons x .nil)) (⟨#[33]⟩ ++ s) := by
  intro w v hv
  unfold Ex.Is at hv
  obtain ⟨A, l, c, rfl, g1⟩ := hv
  obtain rfl : l = 1 := g1.1
  obtain ⟨B, o, rfl, g⟩ := g1.at (by omega)
  have i0 := g 0 x rfl
  rw [show o + 0 * 7 = o by omega] at i0
  have z1 : (9223372036854775807 < 1 + s.size) = False := eq_false (by omega)
  have z2 : (9223372036854775807 < 1 + s.size + 1) = False := eq_false (by omega)
  obtain ⟨v0, v1, v2, v3, v4, v5, v6, v7, v8, a0, a1, a2, a3, a4, a5, a6, ax⟩ := Ex.In_Is i0
  have X := Hd.mk (fun w' (hb : Below w.heap.size w w') => hx w' _ (Ex.Is_below hb ax))
  have lt1 : B < w.heap.size := World.block_lt_of_cell? w _ a0
  clear g1 g i0 ax hx hs
  go_enter Tryz.func111, Tryz.ntmps111
  go_wp2_with (go_at_call 54; (with_reducible refine ((X.out _ (up (up0 _) _)).mono ?_)); (rintro e w3 ⟨rfl, hb3⟩; have HB3 := Hd.mk hb3; clear hb3))
  go_ret
  exact ⟨rfl, step (up (up0 _) _) HB3.out⟩
theorem doc_un3 (x : Ex) (s : ByteArray) (hx : AtT x 1 s) (hs : s.size ≤ 9223372036854775000) : DocT (.mk 6 3 ⟨#[]⟩ ⟨#[]⟩ 0 0 (.cons x .nil)) (⟨#[105, 110, 116, 40]⟩ ++ s ++ ⟨#[41]⟩) := by
  intro w v hv
  unfold Ex.Is at hv
  obtain ⟨A, l, c, rfl, g1⟩ := hv
  obtain rfl : l = 1 := g1.1
  obtain ⟨B, o, rfl, g⟩ := g1.at (by omega)
  have i0 := g 0 x rfl
  rw [show o + 0 * 7 = o by omega] at i0
  have z1 : (9223372036854775807 < 4 + s.size) = False := eq_false (by omega)
  have z2 : (9223372036854775807 < 4 + s.size + 1) = False := eq_false (by omega)
  obtain ⟨v0, v1, v2, v3, v4, v5, v6, v7, v8, a0, a1, a2, a3, a4, a5, a6, ax⟩ := Ex.In_Is i0
  have X := Hd.mk (fun w' (hb : Below w.heap.size w w') => hx w' _ (Ex.Is_below hb ax))
  have lt1 : B < w.heap.size := World.block_lt_of_cell? w _ a0
  clear g1 g i0 ax hx hs
  go_enter Tryz.func111, Tryz.ntmps111
  go_wp2_with (go_at_call 54; (with_reducible refine ((X.out _ (up (up0 _) _)).mono ?_)); (rintro e w3 ⟨rfl, hb3⟩; have HB3 := Hd.mk hb3; clear hb3))
  go_ret
  exact ⟨rfl, step (up (up0 _) _) HB3.out⟩
theorem doc_un4 (x : Ex) (s : ByteArray) (hx : AtT x 1 s) (hs : s.size ≤ 9223372036854775000) : DocT (.mk 6 4 ⟨#[]⟩ ⟨#[]⟩ 0 0 (.cons x .nil)) (⟨#[102, 108, 111, 97, 116, 40]⟩ ++ s ++ ⟨#[41]⟩) := by
  intro w v hv
  unfold Ex.Is at hv
  obtain ⟨A, l, c, rfl, g1⟩ := hv
  obtain rfl : l = 1 := g1.1
  obtain ⟨B, o, rfl, g⟩ := g1.at (by omega)
  have i0 := g 0 x rfl
  rw [show o + 0 * 7 = o by omega] at i0
  have z1 : (9223372036854775807 < 6 + s.size) = False := eq_false (by omega)
  have z2 : (9223372036854775807 < 6 + s.size + 1) = False := eq_false (by omega)
  obtain ⟨v0, v1, v2, v3, v4, v5, v6, v7, v8, a0, a1, a2, a3, a4, a5, a6, ax⟩ := Ex.In_Is i0
  have X := Hd.mk (fun w' (hb : Below w.heap.size w w') => hx w' _ (Ex.Is_below hb ax))
  have lt1 : B < w.heap.size := World.block_lt_of_cell? w _ a0
  clear g1 g i0 ax hx hs
  go_enter Tryz.func111, Tryz.ntmps111
  go_wp2_with (go_at_call 54; (with_reducible refine ((X.out _ (up (up0 _) _)).mono ?_)); (rintro e w3 ⟨rfl, hb3⟩; have HB3 := Hd.mk hb3; clear hb3))
  go_ret
  exact ⟨rfl, step (up (up0 _) _) HB3.out⟩
theorem doc_bin (op lv p0 p1 : Int) (mk sx sy : ByteArray) (x y : Ex) (hl : lvl 7 op = lv) (hl1 : 1 ≤ lv) (hl7 : lv ≤ 6) (hp0 : leftI lv = p0) (hp1 : lv + 1 = p1) (hm : ∀ w, Calls Tryz.prog 152 #[.int .i64 op] w (SaysS mk w)) (hx : AtT x p0 sx) (hy : AtT y p1 sy) (hlen : sx.size + mk.size + sy.size ≤ 9223372036854775000) :
    DocT (binE op x y) (sx ++ ⟨#[32]⟩ ++ mk ++ ⟨#[32]⟩ ++ sy) := by
  have z1 : (9223372036854775807 < sx.size + 1) = False := eq_false (by omega)
  have z2 : (9223372036854775807 < sx.size + 1 + mk.size) = False := eq_false (by omega)
  have z3 : (9223372036854775807 < sx.size + 1 + mk.size + 1) = False := eq_false (by omega)
  have z4 : (9223372036854775807 < sx.size + 1 + mk.size + 1 + sy.size) = False := eq_false (by omega)
  clear hlen
  intro w v hv
  obtain ⟨B, o, c, rfl, i0, i1⟩ := two_kids hv
  clear hv
  obtain ⟨x0, x1, x2, x3, x4, x5, x6, x7, x8, a0, a1, a2, a3, a4, a5, a6, ax⟩ := Ex.In_Is i0
  obtain ⟨y0, y1, y2, y3, y4, y5, y6, y7, y8, b0, b1, b2, b3, b4, b5, b6, bx⟩ := Ex.In_Is i1
  rw [show o + 7 + 1 = o + 8 by omega] at b1
  rw [show o + 7 + 2 = o + 9 by omega] at b2
  rw [show o + 7 + 3 = o + 10 by omega] at b3
  rw [show o + 7 + 4 = o + 11 by omega] at b4
  rw [show o + 7 + 5 = o + 12 by omega] at b5
  rw [show o + 7 + 6 = o + 13 by omega] at b6
  have AX := Hd.mk ax
  have BX := Hd.mk bx
  have lt1 : B < w.heap.size := World.block_lt_of_cell? w _ a0
  clear i0 i1 ax bx
  have L := Hd.mk hl
  have P0 := Hd.mk hp0
  have P1 := Hd.mk hp1
  have M := Hd.mk hm
  have X : Hd (∀ w', Below w.heap.size w w' → Calls Tryz.prog 54 #[.agg #[.int .i64 x0, .int .i64 x1, .string x2, .string x3, .int .i64 x4, .int .u64 x5, .slice x6 x7 x8], .int .i64 p0] w' (SaysS sx w')) := ⟨fun w' hb => hx w' _ (Ex.Is_below hb AX.out)⟩
  have Y : Hd (∀ w', Below w.heap.size w w' → Calls Tryz.prog 54 #[.agg #[.int .i64 y0, .int .i64 y1, .string y2, .string y3, .int .i64 y4, .int .u64 y5, .slice y6 y7 y8], .int .i64 p1] w' (SaysS sy w')) := ⟨fun w' hb => hy w' _ (Ex.Is_below hb BX.out)⟩
  have R1 : Hd (∀ w, Calls Tryz.prog 128 #[.int .i64 lv] w (SaysI p1 w)) := ⟨fun w => hp1 ▸ (right_one lv hl1 (by omega) w).mono (by rintro e w' ⟨rfl, rfl⟩; exact ⟨rfl, up0 _⟩)⟩
  have R0 : Hd (∀ w, Calls Tryz.prog 127 #[.int .i64 lv] w (SaysI p0 w)) := ⟨fun w => hp0 ▸ (left_any lv w).mono (by rintro e w' ⟨rfl, rfl⟩; exact ⟨rfl, up0 _⟩)⟩
  clear hl hp0 hp1 hm hx hy hl1 hl7
  go_enter Tryz.func111, Tryz.ntmps111
  go_wp2_with (first
    | (go_at_call 93; (with_reducible refine ((rlevel_any 7 op _ _ _ _ _ _).mono ?_)); (rw [L.out]; rintro e w1 ⟨rfl, hb1⟩; have HB1 := Hd.mk hb1; have hc1 := bcell hb1; have hs1 := bsize1 rfl hb1; clear hb1)))
  have S0 : (fun w' => Below w1.heap.size w1 w' ∧ w'.cell? ⟨w.heap.size, 0, none⟩ = some (.int .i64 7) ∧ w'.cell? ⟨w.heap.size, 1, none⟩ = some (.int .i64 op) ∧ w'.cell? ⟨w.heap.size, 2, none⟩ = some (.string ⟨#[]⟩) ∧ w'.cell? ⟨w.heap.size, 3, none⟩ = some (.string ⟨#[]⟩) ∧ w'.cell? ⟨w.heap.size, 4, none⟩ = some (.int .i64 0) ∧ w'.cell? ⟨w.heap.size, 5, none⟩ = some (.int .u64 0) ∧ w'.cell? ⟨w.heap.size, 6, none⟩ = some (.slice (some ⟨B, o, none⟩) 2 c) ∧ w'.cell? ⟨B, o, none⟩ = some (.int .i64 x0) ∧ w'.cell? ⟨B, o + 1, none⟩ = some (.int .i64 x1) ∧ w'.cell? ⟨B, o + 2, none⟩ = some (.string x2) ∧ w'.cell? ⟨B, o + 3, none⟩ = some (.string x3) ∧ w'.cell? ⟨B, o + 4, none⟩ = some (.int .i64 x4) ∧ w'.cell? ⟨B, o + 5, none⟩ = some (.int .u64 x5) ∧ w'.cell? ⟨B, o + 6, none⟩ = some (.slice x6 x7 x8) ∧ w'.cell? ⟨B, o + 7, none⟩ = some (.int .i64 y0) ∧ w'.cell? ⟨B, o + 8, none⟩ = some (.int .i64 y1) ∧ w'.cell? ⟨B, o + 9, none⟩ = some (.string y2) ∧ w'.cell? ⟨B, o + 10, none⟩ = some (.string y3) ∧ w'.cell? ⟨B, o + 11, none⟩ = some (.int .i64 y4) ∧ w'.cell? ⟨B, o + 12, none⟩ = some (.int .u64 y5) ∧ w'.cell? ⟨B, o + 13, none⟩ = some (.slice y6 y7 y8)) w1 := by
    have hw := step (up (up0 w) _) HB1.out
    exact ⟨Below.refl _ _, keep HB1.out (new_cell w _ _ 0), keep HB1.out (new_cell w _ _ 1), keep HB1.out (new_cell w _ _ 2), keep HB1.out (new_cell w _ _ 3), keep HB1.out (new_cell w _ _ 4), keep HB1.out (new_cell w _ _ 5), keep HB1.out (new_cell w _ _ 6), keep hw a0, keep hw a1, keep hw a2, keep hw a3, keep hw a4, keep hw a5, keep hw a6, keep hw b0, keep hw b1, keep hw b2, keep hw b3, keep hw b4, keep hw b5, keep hw b6⟩
  have H0 := Hd.mk S0
  clear S0 a0 a1 a2 a3 a4 a5 a6 b0 b1 b2 b3 b4 b5 b6 hc1
  go_region_held3 (fun w' => Below w1.heap.size w1 w' ∧ w'.cell? ⟨w.heap.size, 0, none⟩ = some (.int .i64 7) ∧ w'.cell? ⟨w.heap.size, 1, none⟩ = some (.int .i64 op) ∧ w'.cell? ⟨w.heap.size, 2, none⟩ = some (.string ⟨#[]⟩) ∧ w'.cell? ⟨w.heap.size, 3, none⟩ = some (.string ⟨#[]⟩) ∧ w'.cell? ⟨w.heap.size, 4, none⟩ = some (.int .i64 0) ∧ w'.cell? ⟨w.heap.size, 5, none⟩ = some (.int .u64 0) ∧ w'.cell? ⟨w.heap.size, 6, none⟩ = some (.slice (some ⟨B, o, none⟩) 2 c) ∧ w'.cell? ⟨B, o, none⟩ = some (.int .i64 x0) ∧ w'.cell? ⟨B, o + 1, none⟩ = some (.int .i64 x1) ∧ w'.cell? ⟨B, o + 2, none⟩ = some (.string x2) ∧ w'.cell? ⟨B, o + 3, none⟩ = some (.string x3) ∧ w'.cell? ⟨B, o + 4, none⟩ = some (.int .i64 x4) ∧ w'.cell? ⟨B, o + 5, none⟩ = some (.int .u64 x5) ∧ w'.cell? ⟨B, o + 6, none⟩ = some (.slice x6 x7 x8) ∧ w'.cell? ⟨B, o + 7, none⟩ = some (.int .i64 y0) ∧ w'.cell? ⟨B, o + 8, none⟩ = some (.int .i64 y1) ∧ w'.cell? ⟨B, o + 9, none⟩ = some (.string y2) ∧ w'.cell? ⟨B, o + 10, none⟩ = some (.string y3) ∧ w'.cell? ⟨B, o + 11, none⟩ = some (.int .i64 y4) ∧ w'.cell? ⟨B, o + 12, none⟩ = some (.int .u64 y5) ∧ w'.cell? ⟨B, o + 13, none⟩ = some (.slice y6 y7 y8)) (first | exact ⟨H0.out.1.drew, H0.out.2⟩ | exact S21d (by assumption) rfl (by assumption))
    (first
      | (go_at_call 127; (with_reducible refine ((R0.out _).mono ?_)); (rintro e w3 ⟨rfl, hb3⟩))
      | (go_at_call 128; (with_reducible refine ((R1.out _).mono ?_)); (rintro e w3 ⟨rfl, hb3⟩))
      | (go_at_call 54; (with_reducible refine ((X.out _ (step (step (up (up0 _) _) HB1.out) (And.left (by assumption)))).mono ?_)); (rintro e w3 ⟨rfl, hb3⟩))
      | (go_at_call 54; (with_reducible refine ((Y.out _ (step (step (up (up0 _) _) HB1.out) (And.left (by assumption)))).mono ?_)); (rintro e w3 ⟨rfl, hb3⟩))
      | (go_at_call 152; (with_reducible refine ((M.out _).mono ?_)); (rintro e w3 ⟨rfl, hb3⟩)))
  all_goals
    go_wp2_with fail
    go_ret
    exact ⟨rfl, step (step (up (up0 _) _) HB1.out) (And.left (by assumption))⟩
end Go.Proofs.YtbhgpegcdiohlaaGreatDoor.Tr

namespace Go.Proofs.YtbhgpegcdiohlaaGreatDoor.Tr
open Go Go.RowKit Go.Proofs
set_option linter.unusedVariables false
set_option maxRecDepth 100000
set_option maxHeartbeats 4000000
def DocIs (x : Ex) : Prop := x.Wf → errE x = 0 → costE x ≤ 70368744177664 → DocT x (bareE vtF x)
theorem left_plc (op : Int) : leftI (lvl 7 op) = plc 7 op 0 := by
  unfold leftI plc
  by_cases h : lvl 7 op = 3
  · rw [if_pos h, if_pos (.inr h)]; omega
  · rw [if_neg h, if_neg (by omega)]
theorem right_plc (op : Int) : lvl 7 op + 1 = plc 7 op 1 := by
  unfold plc
  rw [if_pos (.inl (by omega))]
theorem doc_walk (k op : Int) (m n : ByteArray) (t b : Int) (ks : Exs) (hK : ∀ x ∈ ks.toList, DocIs x) : DocIs (.mk k op m n t b ks) := by
  intro hw he hc
  have hsz := bare_le vtF vtF_size (.mk k op m n t b ks)
  have hw' := hw
  unfold Ex.Wf at hw'
  obtain ⟨h0, h1, hmz, hnz, hks⟩ := hw'
  obtain ⟨hs, h8, hek⟩ := errE_parts he
  have hkid : ∀ x ∈ ks.toList, ∀ a : Int, AtT x a (parE (lvl x.k x.op < a) (bareE vtF x)) := fun x hx a => at_any x a _ (by
    have h1 := bare_le vtF vtF_size x
    have h2 := costL_mem hx
    rw [costE] at hc
    omega) (hK x hx (Exs.Wf_iff.1 hks x hx) (hek x hx) (by have := costL_mem hx; rw [costE] at hc; omega))
  have hk : k = 1 ∨ k = 2 ∨ k = 3 ∨ k = 4 ∨ k = 5 ∨ k = 6 ∨ k = 7 ∨ k = 8 := by
    unfold shapedB at hs
    by_cases hk : k < 1 ∨ 8 < k
    · rw [if_neg (by omega), if_neg (by omega), if_neg (by omega), if_neg (by omega), if_neg (by omega), if_neg (by omega), if_neg (by omega), if_neg (by omega)] at hs
      cases hs
    · omega
  rw [costE] at hc
  unfold strOk at hmz hnz
  have hjoin := joinB_le (textsE vtF ks)
  have htx := texts_le vtF vtF_size ks
  have hkt : ∀ (w : World) (A : Option Addr) (l c : Nat), Sl 7 (fun x => x.In w) ks.toList A l → Calls Tryz.prog 151 #[.slice A l c] w (SaysS (⟨#[40]⟩ ++ joinB (textsE vtF ks) ++ ⟨#[41]⟩) w) := fun w A l c hg => kids_any ks (textsE vtF ks) (textsE_len vtF ks) (fun i x s hx hsx => by
      have h9 := textsE_get vtF ks i x hx
      rw [hsx] at h9
      cases h9
      exact hkid x (List.mem_of_getElem? hx) 1) (by omega) A l c w hg
  have hkz : (⟨#[40]⟩ ++ joinB (textsE vtF ks) ++ ⟨#[41]⟩ : ByteArray).size ≤ 2 + costL ks := by
    simp only [ByteArray.size_append]
    have e1 : (⟨#[40]⟩ : ByteArray).size = 1 := rfl
    have e2 : (⟨#[41]⟩ : ByteArray).size = 1 := rfl
    omega
  rcases hk with rfl | rfl | rfl | rfl | rfl | rfl | rfl | rfl
  · unfold shapedB at hs
    rw [if_pos rfl] at hs
    simp only [Bool.and_eq_true, decide_eq_true_eq] at hs
    obtain ⟨⟨⟨⟨g1, g2⟩, g3⟩, g4⟩, g5⟩ := hs
    have e : bareE vtF (.mk 1 op m n t b ks) = vtF t b := by rw [bareE, if_pos rfl]
    rw [e]
    exact doc_lit op m n t b ks _ (fun w => rlit_any t b h0 g5 w)
  · unfold shapedB at hs
    rw [if_neg (by decide), if_pos rfl] at hs
    simp only [Bool.and_eq_true, decide_eq_true_eq] at hs
    obtain ⟨⟨⟨g1, g2⟩, g3⟩, g4⟩ := hs
    have e : bareE vtF (.mk 2 op m n t b ks) = n := by rw [bareE, if_neg (by decide), if_neg (by decide), if_neg (by decide), if_neg (by decide), if_neg (by decide)]; unfold nameB; rw [if_pos g2]
    rw [e]
    exact doc_name op m n t b ks
  · have hm := far_full he (.inl rfl)
    have e : bareE vtF (.mk 3 op m n t b ks) = m ++ ⟨#[46]⟩ ++ n := by rw [bareE, if_neg (by decide), if_neg (by decide), if_neg (by decide), if_neg (by decide), if_neg (by decide)]; unfold nameB; rw [if_neg (by simp [hm])]
    rw [e]
    exact doc_far op m n t b ks (by omega)
  · unfold shapedB at hs
    rw [if_neg (by decide), if_neg (by decide), if_neg (by decide), if_pos rfl] at hs
    simp only [Bool.and_eq_true, decide_eq_true_eq] at hs
    obtain ⟨⟨g1, g2⟩, g3⟩ := hs
    have e : bareE vtF (.mk 4 op m n t b ks) = n ++ (⟨#[40]⟩ ++ joinB (textsE vtF ks) ++ ⟨#[41]⟩) := by
      rw [bareE, if_neg (by decide), if_neg (by decide), if_pos (by decide)]; unfold nameB; rw [if_pos g2]
      simp only [ByteArray.append_assoc]
    rw [e]
    exact doc_call4 op m n t b ks _ hkt (by omega)
  · have hm := far_full he (.inr rfl)
    have e : bareE vtF (.mk 5 op m n t b ks) = (m ++ ⟨#[46]⟩ ++ n) ++ (⟨#[40]⟩ ++ joinB (textsE vtF ks) ++ ⟨#[41]⟩) := by
      rw [bareE, if_neg (by decide), if_neg (by decide), if_pos (by decide)]; unfold nameB; rw [if_neg (by simp [hm])]
      simp only [ByteArray.append_assoc]
    rw [e]
    exact doc_call5 op m n t b ks _ hkt (by omega)
  · unfold shapedB at hs
    rw [if_neg (by decide), if_neg (by decide), if_neg (by decide), if_neg (by decide), if_neg (by decide), if_pos rfl] at hs
    simp only [Bool.and_eq_true, decide_eq_true_eq] at hs
    obtain ⟨⟨⟨⟨g1, g2⟩, g3⟩, g4⟩, g5, g6⟩ := hs
    obtain rfl := empty_of g2
    obtain rfl := empty_of g3
    subst g5 g6
    clear hkt hkz
    match ks, g4 with
    | .cons x .nil, _ =>
    have hx := hkid x (by simp [Exs.toList])
    have hsx := bare_le vtF vtF_size x
    have hcx : costE x + 4 ≤ costL (.cons x .nil) := costL_mem (by simp [Exs.toList])
    have hp1 := parE_le (lvl x.k x.op < 1) (bareE vtF x)
    have hp6 := parE_le (lvl x.k x.op < 6) (bareE vtF x)
    have ho : op = 1 ∨ op = 2 ∨ op = 3 ∨ op = 4 := by omega
    rcases ho with rfl | rfl | rfl | rfl
    · have e : bareE vtF (.mk 6 1 ⟨#[]⟩ ⟨#[]⟩ 0 0 (.cons x .nil)) = ⟨#[45]⟩ ++ parE (lvl x.k x.op < 6) (bareE vtF x) := by rw [bareE, if_neg (by decide), if_neg (by decide), if_neg (by decide), if_pos rfl, unE, if_pos rfl]
      rw [e]
      exact doc_un1 x _ (hx 6) (by omega)
    · have e : bareE vtF (.mk 6 2 ⟨#[]⟩ ⟨#[]⟩ 0 0 (.cons x .nil)) = ⟨#[33]⟩ ++ parE (lvl x.k x.op < 6) (bareE vtF x) := by rw [bareE, if_neg (by decide), if_neg (by decide), if_neg (by decide), if_pos rfl, unE, if_neg (by decide), if_pos rfl]
      rw [e]
      exact doc_un2 x _ (hx 6) (by omega)
    · have e : bareE vtF (.mk 6 3 ⟨#[]⟩ ⟨#[]⟩ 0 0 (.cons x .nil)) = ⟨#[105, 110, 116, 40]⟩ ++ parE (lvl x.k x.op < 1) (bareE vtF x) ++ ⟨#[41]⟩ := by rw [bareE, if_neg (by decide), if_neg (by decide), if_neg (by decide), if_pos rfl, unE, if_neg (by decide), if_neg (by decide), if_pos rfl]
      rw [e]
      exact doc_un3 x _ (hx 1) (by omega)
    · have e : bareE vtF (.mk 6 4 ⟨#[]⟩ ⟨#[]⟩ 0 0 (.cons x .nil)) = ⟨#[102, 108, 111, 97, 116, 40]⟩ ++ parE (lvl x.k x.op < 1) (bareE vtF x) ++ ⟨#[41]⟩ := by rw [bareE, if_neg (by decide), if_neg (by decide), if_neg (by decide), if_pos rfl, unE, if_neg (by decide), if_neg (by decide), if_neg (by decide)]
      rw [e]
      exact doc_un4 x _ (hx 1) (by omega)
  · unfold shapedB at hs
    rw [if_neg (by decide), if_neg (by decide), if_neg (by decide), if_neg (by decide), if_neg (by decide), if_neg (by decide), if_pos rfl] at hs
    simp only [Bool.and_eq_true, decide_eq_true_eq] at hs
    obtain ⟨⟨⟨⟨g1, g2⟩, g3⟩, g4⟩, g5, g6⟩ := hs
    obtain rfl := empty_of g2
    obtain rfl := empty_of g3
    subst g5 g6
    clear hkt hkz
    match ks, g4 with
    | .cons x (.cons y .nil), _ =>
    have hx := hkid x (by simp [Exs.toList])
    have hy := hkid y (by simp [Exs.toList])
    have hsx := bare_le vtF vtF_size x
    have hsy := bare_le vtF vtF_size y
    have hcx : costE x + 4 ≤ costL (.cons x (.cons y .nil)) := costL_mem (by simp [Exs.toList])
    have hcy : costE y + 4 ≤ costL (.cons x (.cons y .nil)) := costL_mem (by simp [Exs.toList])
    have hp1 := parE_le (lvl x.k x.op < plc 7 op 0) (bareE vtF x)
    have hp2 := parE_le (lvl y.k y.op < plc 7 op 1) (bareE vtF y)
    have hmk := markB_le op
    have hll := lvl_bin g1.1 g1.2
    have hl1 := (lvl_le 7 op).1
    have e : bareE vtF (.mk 7 op ⟨#[]⟩ ⟨#[]⟩ 0 0 (.cons x (.cons y .nil))) = parE (lvl x.k x.op < plc 7 op 0) (bareE vtF x) ++ ⟨#[32]⟩ ++ markB op ++ ⟨#[32]⟩ ++ parE (lvl y.k y.op < plc 7 op 1) (bareE vtF y) := by rw [bareE, if_neg (by decide), if_neg (by decide), if_neg (by decide), if_neg (by decide), if_pos rfl, binTE, binTL]
    rw [e]
    refine doc_bin op _ _ _ (markB op) _ _ x y rfl hl1 (by omega) (left_plc op) (right_plc op) (fun w => ?_) (hx _) (hy _) (by omega)
    obtain ⟨o, rfl⟩ := Int.eq_ofNat_of_zero_le (by omega : 0 ≤ op)
    exact rmark_any o (by omega) (by omega) _ rfl w
  · have e : bareE vtF (.mk 8 op m n t b ks) = ⟨#[105, 110, 112, 117, 116]⟩ := by rw [bareE, if_neg (by decide), if_pos rfl]
    rw [e]
    exact doc_input op m n t b ks
theorem docIs : ∀ x, DocIs x := Ex.byKids doc_walk
theorem rtext_ok (x : Ex) (s : ByteArray) (v : Value) (w : World) (hx : x.Is w v) (hwf : x.Wf) (h0 : errX x = 0) (ht : AtT x 1 s) : Calls Tryz.prog 21 #[v] w (SaysT s 0 w) := by
  obtain ⟨cs, rfl⟩ : ∃ cs, v = .agg cs := by
    cases x; unfold Ex.Is at hx; obtain ⟨A, l, c, e, _⟩ := hx; exact ⟨_, e⟩
  obtain ⟨v0, v1, v2, v3, v4, v5, v6, v7, v8, rfl, hc⟩ := Ex.boxed hx 31
  have X := Hd.mk hx
  have T := Hd.mk ht
  have R : Hd (∀ (w : World) (v : Value), x.Is w v → Calls Tryz.prog 16 #[v] w (SaysI 0 w)) := ⟨fun w v hx => (rrightExpr_any x hwf v w hx).mono fun e w' g => saysI_of h0 g⟩
  clear hc hx ht hwf h0
  go_enter Tryz.func21, Tryz.ntmps21
  go_wp2_with (first
    | (go_at_call 16; (refine (R.out _ _ (Ex.Is_below (up (up0 _) _) X.out)).mono ?_); (rintro e w2 ⟨rfl, hb2⟩; have HB2 := Hd.mk hb2; have hc2 := bcell hb2; have hs2 := bsize1 rfl hb2; clear hb2))
    | (go_at_call 54; (refine (T.out _ _ (Ex.Is_below (step (up (up0 _) _) HB2.out) X.out)).mono ?_); (rintro e w3 ⟨rfl, hb3⟩; have HB3 := Hd.mk hb3; clear hb3)))
  go_ret2
  exact ⟨rfl, step (step (up (up0 _) _) HB2.out) HB3.out⟩
theorem rtext_no (x : Ex) (r : Int) (hr : r ≠ 0) (v : Value) (w : World) (hx : x.Is w v) (hwf : x.Wf) (h0 : errX x = r) : Calls Tryz.prog 21 #[v] w (SaysT ⟨#[]⟩ r w) := by
  obtain ⟨cs, rfl⟩ : ∃ cs, v = .agg cs := by
    cases x; unfold Ex.Is at hx; obtain ⟨A, l, c, e, _⟩ := hx; exact ⟨_, e⟩
  obtain ⟨v0, v1, v2, v3, v4, v5, v6, v7, v8, rfl, hc⟩ := Ex.boxed hx 31
  have X := Hd.mk hx
  have R : Hd (∀ (w : World) (v : Value), x.Is w v → Calls Tryz.prog 16 #[v] w (SaysI r w)) := ⟨fun w v hx => (rrightExpr_any x hwf v w hx).mono fun e w' g => saysI_of h0 g⟩
  have r1 : (r != 0) = true := bne_iff_ne.mpr hr
  have r2 : (r == 0) = false := beq_eq_false_iff_ne.mpr hr
  clear hc hx hwf h0 hr
  go_enter Tryz.func21, Tryz.ntmps21
  go_wp2_with (first
    | (go_at_call 16; (refine (R.out _ _ (Ex.Is_below (up (up0 _) _) X.out)).mono ?_); (rintro e w2 ⟨rfl, hb2⟩; have HB2 := Hd.mk hb2; clear hb2)))
  go_ret2
  exact ⟨rfl, step (up (up0 _) _) HB2.out⟩
theorem rtext_F (x : Ex) (v : Value) (w : World) (hx : x.Is w v) (hwf : x.Wf) (hc : costE x ≤ 70368744177664) : Calls Tryz.prog 21 #[v] w (SaysT (if errX x = 0 then bareE vtF x else ⟨#[]⟩) (errX x) w) := by
  by_cases h0 : errX x = 0
  · rw [if_pos h0, h0]
    have hd := docIs x hwf (errX_parts h0).2 hc
    have hz := bare_le vtF vtF_size x
    have ha := at_any x 1 _ (by omega) hd
    have hl : ¬ lvl x.k x.op < 1 := by have := (lvl_le x.k x.op).1; omega
    have e : parE (lvl x.k x.op < 1) (bareE vtF x) = bareE vtF x := by unfold parE; rw [if_neg hl]
    rw [e] at ha
    exact rtext_ok x _ v w hx hwf h0 ha
  · rw [if_neg h0]
    exact rtext_no x _ h0 v w hx hwf rfl
theorem texts_walk (x : Ex) (v : Value) (w : World) (s : ByteArray) (r : Int) (hx : x.Is w v)
    (XA : ∀ w', Below w.heap.size w w' → Calls Tryz.prog 20 #[v] w' (SaysT s r w')) (XB : ∀ w', Below w.heap.size w w' → Calls Tryz.prog 21 #[v] w' (SaysT s r w')) : Calls Tryz.prog 5 #[v] w (Says true w) := by
  obtain ⟨cs, rfl⟩ : ∃ cs, v = .agg cs := by
    cases x; unfold Ex.Is at hx; obtain ⟨A, l, c, e, _⟩ := hx; exact ⟨_, e⟩
  obtain ⟨v0, v1, v2, v3, v4, v5, v6, v7, v8, rfl, hc⟩ := Ex.boxed hx 31
  have HXA := Hd.mk XA
  have HXB := Hd.mk XB
  have e1 : (s.toList == s.toList) = true := beq_self_eq_true _
  have e2 : (r == r) = true := beq_self_eq_true _
  clear hc hx XA XB
  go_enter Tryz.func5, Tryz.ntmps5
  go_wp2_with (first
    | (go_at_call 20; (refine (HXA.out _ (up (up0 _) _)).mono ?_); (rintro e w2 ⟨rfl, hb2⟩; have HB2 := Hd.mk hb2; have hc2 := bcell hb2; have hs2 := bsize1 rfl hb2; clear hb2))
    | (go_at_call 21; (refine (HXB.out _ (step (up (up0 _) _) HB2.out)).mono ?_); (rintro e w3 ⟨rfl, hb3⟩; have HB3 := Hd.mk hb3; clear hb3))
    | (go_at_call 17; (with_reducible refine ((live_any _).mono ?_)); (rintro e w4 ⟨rfl, hb4⟩; have HB4 := Hd.mk hb4; clear hb4)))
  go_ret
  exact ⟨rfl, step (step (step (up (up0 _) _) HB2.out) HB3.out) HB4.out⟩
theorem tree_texts (x : Ex) (w : World) (v : Value) (hw : LwF w) (hx : x.Is w v) (wx : x.Wf) (cx : costE x ≤ 30000000000000) : Calls Tryz.prog 5 #[v] w (Says true w) :=
  texts_walk x v w _ _ hx (fun w' hb => text_F x v w' (stays_F _ _ hb hw) (Ex.Is_below hb hx) wx (by omega)) (fun w' hb => rtext_F x v w' (Ex.Is_below hb hx) wx (by omega))
end Go.Proofs.YtbhgpegcdiohlaaGreatDoor.Tr
