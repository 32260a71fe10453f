import Derived.Test.YtbhgpegcdiohlaaGreatDoorTxE
import Derived.Test.YtbhgpegcdiohlaaGreatDoorLvU
namespace Go.Proofs.YtbhgpegcdiohlaaGreatDoor.Tr
open Go Go.RowKit Go.Proofs
set_option linter.unusedVariables false
set_option maxRecDepth 100000
set_option maxHeartbeats 4000000
theorem boxes2 (w : World) {a0 a1 : Int} {a2 a3 : ByteArray} {a4 a5 : Int} {a6 : Option Addr} {a7 a8 : Nat} {b0 b1 : Int} {b2 b3 : ByteArray} {b4 b5 : Int} {b6 : Option Addr} {b7 b8 : Nat} {w' : World} (hb : Below ((w.alloc (.cells #[.int .i64 a0, .int .i64 a1, .string a2, .string a3, .int .i64 a4, .int .u64 a5, .slice a6 a7 a8] 31 (0, 0))).alloc (.cells #[.int .i64 b0, .int .i64 b1, .string b2, .string b3, .int .i64 b4, .int .u64 b5, .slice b6 b7 b8] 31 (0, 0))).heap.size ((w.alloc (.cells #[.int .i64 a0, .int .i64 a1, .string a2, .string a3, .int .i64 a4, .int .u64 a5, .slice a6 a7 a8] 31 (0, 0))).alloc (.cells #[.int .i64 b0, .int .i64 b1, .string b2, .string b3, .int .i64 b4, .int .u64 b5, .slice b6 b7 b8] 31 (0, 0))) w') : w'.cell? ⟨w.heap.size, 0, none⟩ = some (.int .i64 a0) ∧ w'.cell? ⟨w.heap.size, 1, none⟩ = some (.int .i64 a1) ∧ w'.cell? ⟨w.heap.size, 2, none⟩ = some (.string a2) ∧ w'.cell? ⟨w.heap.size, 3, none⟩ = some (.string a3) ∧ w'.cell? ⟨w.heap.size, 4, none⟩ = some (.int .i64 a4) ∧ w'.cell? ⟨w.heap.size, 5, none⟩ = some (.int .u64 a5) ∧ w'.cell? ⟨w.heap.size, 6, none⟩ = some (.slice a6 a7 a8) ∧ w'.cell? ⟨w.heap.size + 1, 0, none⟩ = some (.int .i64 b0) ∧ w'.cell? ⟨w.heap.size + 1, 1, none⟩ = some (.int .i64 b1) ∧ w'.cell? ⟨w.heap.size + 1, 2, none⟩ = some (.string b2) ∧ w'.cell? ⟨w.heap.size + 1, 3, none⟩ = some (.string b3) ∧ w'.cell? ⟨w.heap.size + 1, 4, none⟩ = some (.int .i64 b4) ∧ w'.cell? ⟨w.heap.size + 1, 5, none⟩ = some (.int .u64 b5) ∧ w'.cell? ⟨w.heap.size + 1, 6, none⟩ = some (.slice b6 b7 b8) := by
  have h1 : ∀ i, (w.alloc (.cells #[.int .i64 a0, .int .i64 a1, .string a2, .string a3, .int .i64 a4, .int .u64 a5, .slice a6 a7 a8] 31 (0, 0))).cell? ⟨w.heap.size, i, none⟩ = _ := fun i => new_cell w _ 31 i
  have h2 := fun i => new_cell (w.alloc (.cells #[.int .i64 a0, .int .i64 a1, .string a2, .string a3, .int .i64 a4, .int .u64 a5, .slice a6 a7 a8] 31 (0, 0))) #[.int .i64 b0, .int .i64 b1, .string b2, .string b3, .int .i64 b4, .int .u64 b5, .slice b6 b7 b8] 31 i
  rw [show (w.alloc (.cells #[.int .i64 a0, .int .i64 a1, .string a2, .string a3, .int .i64 a4, .int .u64 a5, .slice a6 a7 a8] 31 (0, 0))).heap.size = w.heap.size + 1 by simp] at h2
  have k1 : ∀ (i : Nat) (v : Value), (#[.int .i64 a0, .int .i64 a1, .string a2, .string a3, .int .i64 a4, .int .u64 a5, .slice a6 a7 a8] : Array Value)[i]? = some v → w'.cell? ⟨w.heap.size, i, none⟩ = some v := fun i v hv => keep hb (keep (up (up0 _) _) ((h1 i).trans hv))
  have k2 : ∀ (i : Nat) (v : Value), (#[.int .i64 b0, .int .i64 b1, .string b2, .string b3, .int .i64 b4, .int .u64 b5, .slice b6 b7 b8] : Array Value)[i]? = some v → w'.cell? ⟨w.heap.size + 1, i, none⟩ = some v := fun i v hv => keep hb ((h2 i).trans hv)
  exact ⟨k1 0 _ rfl, k1 1 _ rfl, k1 2 _ rfl, k1 3 _ rfl, k1 4 _ rfl, k1 5 _ rfl, k1 6 _ rfl, k2 0 _ rfl, k2 1 _ rfl, k2 2 _ rfl, k2 3 _ rfl, k2 4 _ rfl, k2 5 _ rfl, k2 6 _ rfl⟩
theorem levels_bad (xa xb : Ex) (va vb : Value) (op : Int) (w : World) (ha : xa.Is w va) (hb : xb.Is w vb) (s t : ByteArray) (e f g : Int)
    (XA : ∀ w', Below w.heap.size w w' → Calls Tryz.prog 20 #[va] w' (SaysT s e w')) (XB : ∀ w', Below w.heap.size w w' → Calls Tryz.prog 20 #[vb] w' (SaysT t f w'))
    (XU : ∀ w' v, Below w.heap.size w w' → (binE op xa xb).Is w' v → Calls Tryz.prog 20 #[v] w' (SaysT ⟨#[]⟩ g w')) (hg : g ≠ 0) (hor : e ≠ 0 ∨ f ≠ 0 ∨ op < 1 ∨ 13 < op) : Calls Tryz.prog 6 #[va, vb, .int .i64 op] w (Says true w) := by
  obtain ⟨cs, rfl⟩ : ∃ cs, va = .agg cs := by
    cases xa; unfold Ex.Is at ha; obtain ⟨A, l, c, e, _⟩ := ha; exact ⟨_, e⟩
  obtain ⟨ds, rfl⟩ : ∃ cs, vb = .agg cs := by
    cases xb; unfold Ex.Is at hb; obtain ⟨A, l, c, e, _⟩ := hb; exact ⟨_, e⟩
  obtain ⟨a0, a1, a2, a3, a4, a5, a6, a7, a8, rfl, _⟩ := Ex.boxed ha 31
  obtain ⟨b0, b1, b2, b3, b4, b5, b6, b7, b8, rfl, _⟩ := Ex.boxed hb 31
  have HA := Hd.mk ha
  have HB := Hd.mk hb
  have HXA := Hd.mk XA
  have HXB := Hd.mk XB
  have HXU := Hd.mk XU
  clear ha hb XA XB XU
  have hg2 : (g != 0) = true := bne_iff_ne.mpr hg
  have hg3 : (g == 0) = false := beq_eq_false_iff_ne.mpr hg
  have hh : ((e != 0) = true ∨ ((e != 0) = false ∧ (f != 0) = true)) ∨ ((e != 0) = false ∧ (f != 0) = false ∧ (decide (op < 1) = true ∨ (decide (op < 1) = false ∧ decide (13 < op) = true))) := by
    by_cases h1 : e = 0
    · by_cases h2 : f = 0
      · rcases hor with h | h | h
        · exact absurd h1 h
        · exact absurd h2 h
        · right
          refine ⟨by simp [h1], by simp [h2], ?_⟩
          by_cases h3 : op < 1
          · exact .inl (decide_eq_true h3)
          · exact .inr ⟨decide_eq_false h3, decide_eq_true (h.resolve_left h3)⟩
      · exact .inl (.inr ⟨by simp [h1], bne_iff_ne.mpr h2⟩)
    · exact .inl (.inl (bne_iff_ne.mpr h1))
  clear hor
  rcases hh with (h1 | ⟨h1, h2⟩) | ⟨h1, h2, h3 | ⟨h3, h4⟩⟩
  all_goals
    go_enter Tryz.func6, Tryz.ntmps6
    go_wp2_with (first
      | (go_at_call 17; (with_reducible refine ((live_any _).mono ?_)); (rintro e w1 ⟨rfl, hb1⟩; obtain ⟨q0, q1, q2, q3, q4, q5, q6, p0, p1, p2, p3, p4, p5, p6⟩ := boxes2 w hb1; have HB1 := Hd.mk (step (up (up (up0 w) _) _) hb1); have HK1 := Hd.mk hb1; clear hb1))
      | (go_at_call 20; (with_reducible refine ((HXA.out _ HB1.out).mono ?_)); (rintro e w2 ⟨rfl, hb2⟩; have hk2 := step HK1.out hb2; obtain ⟨q0, q1, q2, q3, q4, q5, q6, p0, p1, p2, p3, p4, p5, p6⟩ := boxes2 w hk2; have HK2 := Hd.mk hk2; have HB2 := Hd.mk (step HB1.out hb2); clear hb2 hk2))
      | (go_at_call 20; (with_reducible refine ((HXB.out _ HB2.out).mono ?_)); (rintro e w3 ⟨rfl, hb3⟩; have hk3 := step HK2.out hb3; obtain ⟨q0, q1, q2, q3, q4, q5, q6, p0, p1, p2, p3, p4, p5, p6⟩ := boxes2 w hk3; have HB3 := Hd.mk (step HB2.out hb3); clear hb3 hk3))
      | (go_at_call 22; (with_reducible refine ((bin_any op _ _ _ _ _ (Ex.Is_below HB3.out HA.out) (Ex.Is_below HB3.out HB.out)).mono ?_)); (rintro e w4 ⟨v4, rfl, hx4, hb4⟩; have HB4 := Hd.mk (step HB3.out hb4); have HX4 := Hd.mk hx4; clear hb4 hx4))
      | (go_at_call 20; (with_reducible refine ((HXU.out _ _ HB4.out HX4.out).mono ?_)); (rintro e w5 ⟨rfl, hb5⟩; have HB5 := Hd.mk (step HB4.out hb5); clear hb5)))
    go_ret
    exact ⟨rfl, HB5.out⟩
theorem levels_deep (xa xb : Ex) (va vb : Value) (op : Int) (w : World) (ha : xa.Is w va) (hb : xb.Is w vb) (s t u : ByteArray) 
    (XA : ∀ w', Below w.heap.size w w' → Calls Tryz.prog 20 #[va] w' (SaysT s 0 w')) (XB : ∀ w', Below w.heap.size w w' → Calls Tryz.prog 20 #[vb] w' (SaysT t 0 w'))
    (XU : ∀ w' v, Below w.heap.size w w' → (binE op xa xb).Is w' v → Calls Tryz.prog 20 #[v] w' (SaysT u 13 w')) (h1 : 1 ≤ op) (h2 : op ≤ 13) : Calls Tryz.prog 6 #[va, vb, .int .i64 op] w (Says true w) := by
  obtain ⟨cs, rfl⟩ : ∃ cs, va = .agg cs := by
    cases xa; unfold Ex.Is at ha; obtain ⟨A, l, c, e, _⟩ := ha; exact ⟨_, e⟩
  obtain ⟨ds, rfl⟩ : ∃ cs, vb = .agg cs := by
    cases xb; unfold Ex.Is at hb; obtain ⟨A, l, c, e, _⟩ := hb; exact ⟨_, e⟩
  obtain ⟨a0, a1, a2, a3, a4, a5, a6, a7, a8, rfl, _⟩ := Ex.boxed ha 31
  obtain ⟨b0, b1, b2, b3, b4, b5, b6, b7, b8, rfl, _⟩ := Ex.boxed hb 31
  have HA := Hd.mk ha
  have HB := Hd.mk hb
  have HXA := Hd.mk XA
  have HXB := Hd.mk XB
  have HXU := Hd.mk XU
  clear ha hb XA XB XU
  have d1 : decide (op < 1) = false := decide_eq_false (by omega)
  have d2 : decide (13 < op) = false := decide_eq_false (by omega)
  go_enter Tryz.func6, Tryz.ntmps6
  go_wp2_with (first
    | (go_at_call 17; (with_reducible refine ((live_any _).mono ?_)); (rintro e w1 ⟨rfl, hb1⟩; obtain ⟨q0, q1, q2, q3, q4, q5, q6, p0, p1, p2, p3, p4, p5, p6⟩ := boxes2 w hb1; have HB1 := Hd.mk (step (up (up (up0 w) _) _) hb1); have HK1 := Hd.mk hb1; clear hb1))
    | (go_at_call 20; (with_reducible refine ((HXA.out _ HB1.out).mono ?_)); (rintro e w2 ⟨rfl, hb2⟩; have hk2 := step HK1.out hb2; obtain ⟨q0, q1, q2, q3, q4, q5, q6, p0, p1, p2, p3, p4, p5, p6⟩ := boxes2 w hk2; have HK2 := Hd.mk hk2; have HB2 := Hd.mk (step HB1.out hb2); clear hb2 hk2))
    | (go_at_call 20; (with_reducible refine ((HXB.out _ HB2.out).mono ?_)); (rintro e w3 ⟨rfl, hb3⟩; have hk3 := step HK2.out hb3; obtain ⟨q0, q1, q2, q3, q4, q5, q6, p0, p1, p2, p3, p4, p5, p6⟩ := boxes2 w hk3; have HB3 := Hd.mk (step HB2.out hb3); clear hb3 hk3))
    | (go_at_call 22; (with_reducible refine ((bin_any op _ _ _ _ _ (Ex.Is_below HB3.out HA.out) (Ex.Is_below HB3.out HB.out)).mono ?_)); (rintro e w4 ⟨v4, rfl, hx4, hb4⟩; have HB4 := Hd.mk (step HB3.out hb4); have HX4 := Hd.mk hx4; clear hb4 hx4))
    | (go_at_call 20; (with_reducible refine ((HXU.out _ _ HB4.out HX4.out).mono ?_)); (rintro e w5 ⟨rfl, hb5⟩; have HB5 := Hd.mk (step HB4.out hb5); clear hb5)))
  go_ret
  exact ⟨rfl, HB5.out⟩
end Go.Proofs.YtbhgpegcdiohlaaGreatDoor.Tr

namespace Go.Proofs.YtbhgpegcdiohlaaGreatDoor.Tr
open Go Go.RowKit Go.Proofs
set_option linter.unusedVariables false
set_option maxRecDepth 100000
set_option maxHeartbeats 4000000
theorem tl {a b : ByteArray} (h : a = b) : (a.toList == b.toList) = true := by rw [h]; exact beq_self_eq_true _
theorem fl {a b : ByteArray} (h : a ≠ b) : (a.toList == b.toList) = false := beq_eq_false_iff_ne.mpr fun g => h (bytes_eq g)
theorem markB_size (o : Nat) (h1 : 1 ≤ o) (h2 : o ≤ 13) : (markB o).size ≤ 2 := by
  have : o = 1 ∨ o = 2 ∨ o = 3 ∨ o = 4 ∨ o = 5 ∨ o = 6 ∨ o = 7 ∨ o = 8 ∨ o = 9 ∨ o = 10 ∨ o = 11 ∨ o = 12 ∨ o = 13 := by omega
  rcases this with rfl | rfl | rfl | rfl | rfl | rfl | rfl | rfl | rfl | rfl | rfl | rfl | rfl <;> decide
theorem levels_ok (xa xb : Ex) (va vb : Value) (o : Nat) (w : World) (ha : xa.Is w va) (hb : xb.Is w vb) (s t u : ByteArray) 
    (XA : ∀ w', Below w.heap.size w w' → Calls Tryz.prog 20 #[va] w' (SaysT s 0 w')) (XB : ∀ w', Below w.heap.size w w' → Calls Tryz.prog 20 #[vb] w' (SaysT t 0 w'))
    (XU : ∀ w' v, Below w.heap.size w w' → (binE (o : Int) xa xb).Is w' v → Calls Tryz.prog 20 #[v] w' (SaysT u 0 w')) (h1 : 1 ≤ o) (h2 : o ≤ 13) (mk : ByteArray) (hmk : mk = markB o) (hs : s.size ≤ 100000000000000) (ht : t.size ≤ 100000000000000) (hu : u = s ++ (⟨#[32]⟩ ++ mk ++ ⟨#[32]⟩) ++ t ∨ u = ⟨#[40]⟩ ++ s ++ ⟨#[41]⟩ ++ (⟨#[32]⟩ ++ mk ++ ⟨#[32]⟩) ++ t ∨ u = s ++ (⟨#[32]⟩ ++ mk ++ ⟨#[32]⟩) ++ ⟨#[40]⟩ ++ t ++ ⟨#[41]⟩ ∨ u = ⟨#[40]⟩ ++ s ++ ⟨#[41]⟩ ++ (⟨#[32]⟩ ++ mk ++ ⟨#[32]⟩) ++ ⟨#[40]⟩ ++ t ++ ⟨#[41]⟩) : Calls Tryz.prog 6 #[va, vb, .int .i64 (o : Int)] w (Says true w) := by
  obtain ⟨cs, rfl⟩ : ∃ cs, va = .agg cs := by
    cases xa; unfold Ex.Is at ha; obtain ⟨A, l, c, e, _⟩ := ha; exact ⟨_, e⟩
  obtain ⟨ds, rfl⟩ : ∃ cs, vb = .agg cs := by
    cases xb; unfold Ex.Is at hb; obtain ⟨A, l, c, e, _⟩ := hb; exact ⟨_, e⟩
  obtain ⟨a0, a1, a2, a3, a4, a5, a6, a7, a8, rfl, _⟩ := Ex.boxed ha 31
  obtain ⟨b0, b1, b2, b3, b4, b5, b6, b7, b8, rfl, _⟩ := Ex.boxed hb 31
  have HA := Hd.mk ha
  have HB := Hd.mk hb
  have HXA := Hd.mk XA
  have HXB := Hd.mk XB
  have HXU := Hd.mk XU
  clear ha hb XA XB XU
  have hcell : (#[.string ⟨#[]⟩, .string ⟨#[43]⟩, .string ⟨#[45]⟩, .string ⟨#[42]⟩, .string ⟨#[47]⟩, .string ⟨#[37]⟩, .string ⟨#[61, 61]⟩, .string ⟨#[33, 61]⟩, .string ⟨#[60]⟩, .string ⟨#[60, 61]⟩, .string ⟨#[62]⟩, .string ⟨#[62, 61]⟩, .string ⟨#[38, 38]⟩, .string ⟨#[124, 124]⟩] : Array Value)[o]? = some (.string mk) := by
    subst hmk
    have : o = 1 ∨ o = 2 ∨ o = 3 ∨ o = 4 ∨ o = 5 ∨ o = 6 ∨ o = 7 ∨ o = 8 ∨ o = 9 ∨ o = 10 ∨ o = 11 ∨ o = 12 ∨ o = 13 := by omega
    rcases this with rfl | rfl | rfl | rfl | rfl | rfl | rfl | rfl | rfl | rfl | rfl | rfl | rfl <;> rfl
  have hmz : mk.size ≤ 2 := by
    subst hmk
    exact markB_size o h1 h2
  clear hmk
  have z0 : (9223372036854775807 < 1 + mk.size) = False := eq_false (by omega)
  have z1 : (9223372036854775807 < 1 + mk.size + 1) = False := eq_false (by omega)
  have z2 : (9223372036854775807 < s.size + (1 + mk.size + 1)) = False := eq_false (by omega)
  have z3 : (9223372036854775807 < s.size + (1 + mk.size + 1) + t.size) = False := eq_false (by omega)
  have z4 : (9223372036854775807 < 1 + s.size) = False := eq_false (by omega)
  have z5 : (9223372036854775807 < 1 + s.size + 1) = False := eq_false (by omega)
  have z6 : (9223372036854775807 < 1 + s.size + 1 + (1 + mk.size + 1)) = False := eq_false (by omega)
  have z7 : (9223372036854775807 < 1 + s.size + 1 + (1 + mk.size + 1) + t.size) = False := eq_false (by omega)
  have z8 : (9223372036854775807 < s.size + (1 + mk.size + 1) + 1) = False := eq_false (by omega)
  have z9 : (9223372036854775807 < s.size + (1 + mk.size + 1) + 1 + t.size) = False := eq_false (by omega)
  have z10 : (9223372036854775807 < s.size + (1 + mk.size + 1) + 1 + t.size + 1) = False := eq_false (by omega)
  have z11 : (9223372036854775807 < 1 + s.size + 1 + (1 + mk.size + 1) + 1) = False := eq_false (by omega)
  have z12 : (9223372036854775807 < 1 + s.size + 1 + (1 + mk.size + 1) + 1 + t.size) = False := eq_false (by omega)
  have z13 : (9223372036854775807 < 1 + s.size + 1 + (1 + mk.size + 1) + 1 + t.size + 1) = False := eq_false (by omega)
  clear hmz hs ht
  have hh : (u.toList == (s ++ (⟨#[32]⟩ ++ mk ++ ⟨#[32]⟩) ++ t).toList) = true ∨ ((u.toList == (s ++ (⟨#[32]⟩ ++ mk ++ ⟨#[32]⟩) ++ t).toList) = false ∧ (u.toList == (⟨#[40]⟩ ++ s ++ ⟨#[41]⟩ ++ (⟨#[32]⟩ ++ mk ++ ⟨#[32]⟩) ++ t).toList) = true) ∨ ((u.toList == (s ++ (⟨#[32]⟩ ++ mk ++ ⟨#[32]⟩) ++ t).toList) = false ∧ (u.toList == (⟨#[40]⟩ ++ s ++ ⟨#[41]⟩ ++ (⟨#[32]⟩ ++ mk ++ ⟨#[32]⟩) ++ t).toList) = false ∧ (u.toList == (s ++ (⟨#[32]⟩ ++ mk ++ ⟨#[32]⟩) ++ ⟨#[40]⟩ ++ t ++ ⟨#[41]⟩).toList) = true) ∨ ((u.toList == (s ++ (⟨#[32]⟩ ++ mk ++ ⟨#[32]⟩) ++ t).toList) = false ∧ (u.toList == (⟨#[40]⟩ ++ s ++ ⟨#[41]⟩ ++ (⟨#[32]⟩ ++ mk ++ ⟨#[32]⟩) ++ t).toList) = false ∧ (u.toList == (s ++ (⟨#[32]⟩ ++ mk ++ ⟨#[32]⟩) ++ ⟨#[40]⟩ ++ t ++ ⟨#[41]⟩).toList) = false ∧ (u.toList == (⟨#[40]⟩ ++ s ++ ⟨#[41]⟩ ++ (⟨#[32]⟩ ++ mk ++ ⟨#[32]⟩) ++ ⟨#[40]⟩ ++ t ++ ⟨#[41]⟩).toList) = true) := by
    by_cases c1 : u = s ++ (⟨#[32]⟩ ++ mk ++ ⟨#[32]⟩) ++ t
    · exact .inl (tl c1)
    · by_cases c2 : u = ⟨#[40]⟩ ++ s ++ ⟨#[41]⟩ ++ (⟨#[32]⟩ ++ mk ++ ⟨#[32]⟩) ++ t
      · exact .inr (.inl ⟨fl c1, tl c2⟩)
      · by_cases c3 : u = s ++ (⟨#[32]⟩ ++ mk ++ ⟨#[32]⟩) ++ ⟨#[40]⟩ ++ t ++ ⟨#[41]⟩
        · exact .inr (.inr (.inl ⟨fl c1, fl c2, tl c3⟩))
        · exact .inr (.inr (.inr ⟨fl c1, fl c2, fl c3, tl (((hu.resolve_left c1).resolve_left c2).resolve_left c3)⟩))
  clear hu
  have d1 : decide ((o : Int) < 1) = false := decide_eq_false (by omega)
  have d2 : decide (13 < (o : Int)) = false := decide_eq_false (by omega)
  rcases hh with f1 | ⟨f1, f2⟩ | ⟨f1, f2, f3⟩ | ⟨f1, f2, f3, f4⟩
  all_goals
    go_enter Tryz.func6, Tryz.ntmps6
    go_wp2_with (first
      | (go_at_call 17; (with_reducible refine ((live_any _).mono ?_)); (rintro e w1 ⟨rfl, hb1⟩; obtain ⟨q0, q1, q2, q3, q4, q5, q6, p0, p1, p2, p3, p4, p5, p6⟩ := boxes2 w hb1; have HB1 := Hd.mk (step (up (up (up0 w) _) _) hb1); have HK1 := Hd.mk hb1; clear hb1))
      | (go_at_call 20; (with_reducible refine ((HXA.out _ HB1.out).mono ?_)); (rintro e w2 ⟨rfl, hb2⟩; have hk2 := step HK1.out hb2; obtain ⟨q0, q1, q2, q3, q4, q5, q6, p0, p1, p2, p3, p4, p5, p6⟩ := boxes2 w hk2; have HK2 := Hd.mk hk2; have HB2 := Hd.mk (step HB1.out hb2); clear hb2 hk2))
      | (go_at_call 20; (with_reducible refine ((HXB.out _ HB2.out).mono ?_)); (rintro e w3 ⟨rfl, hb3⟩; have hk3 := step HK2.out hb3; obtain ⟨q0, q1, q2, q3, q4, q5, q6, p0, p1, p2, p3, p4, p5, p6⟩ := boxes2 w hk3; have HB3 := Hd.mk (step HB2.out hb3); clear hb3 hk3))
      | (go_at_call 22; (with_reducible refine ((bin_any (o : Int) _ _ _ _ _ (Ex.Is_below HB3.out HA.out) (Ex.Is_below HB3.out HB.out)).mono ?_)); (rintro e w4 ⟨v4, rfl, hx4, hb4⟩; have HB4 := Hd.mk (step HB3.out hb4); have HX4 := Hd.mk hx4; clear hb4 hx4))
      | (go_at_call 20; (with_reducible refine ((HXU.out _ _ HB4.out HX4.out).mono ?_)); (rintro e w5 ⟨rfl, hb5⟩; have HB5 := Hd.mk (step HB4.out hb5); clear hb5)))
    go_ret
    exact ⟨rfl, up HB5.out _⟩
end Go.Proofs.YtbhgpegcdiohlaaGreatDoor.Tr
