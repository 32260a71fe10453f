import Derived.Test.YtbhgpegcdiohlaaGreatDoorTxE
import Derived.Test.YtbhgpegcdiohlaaGreatDoorLvU
import Derived.Test.YtbhgpegcdiohlaaGreatDoorFxG
import Derived.Lib.ItoaLen
namespace Go.Proofs.YtbhgpegcdiohlaaGreatDoor.Tr
open Go Go.RowKit Go.Proofs
set_option linter.unusedVariables false
set_option maxRecDepth 100000
set_option maxHeartbeats 4000000
theorem boxes2 (w : World) {a0 a1 : Int} {a2 a3 : ByteArray} {a4 a5 : Int} {a6 : Option Addr} {a7 a8 : Nat} {b0 b1 : Int} {b2 b3 : ByteArray} {b4 b5 : Int} {b6 : Option Addr} {b7 b8 : Nat} {w' : World} (hb : Below ((w.alloc (.cells #[.int .i64 a0, .int .i64 a1, .string a2, .string a3, .int .i64 a4, .int .u64 a5, .slice a6 a7 a8] 31 (0, 0))).alloc (.cells #[.int .i64 b0, .int .i64 b1, .string b2, .string b3, .int .i64 b4, .int .u64 b5, .slice b6 b7 b8] 31 (0, 0))).heap.size ((w.alloc (.cells #[.int .i64 a0, .int .i64 a1, .string a2, .string a3, .int .i64 a4, .int .u64 a5, .slice a6 a7 a8] 31 (0, 0))).alloc (.cells #[.int .i64 b0, .int .i64 b1, .string b2, .string b3, .int .i64 b4, .int .u64 b5, .slice b6 b7 b8] 31 (0, 0))) w') : w'.cell? ⟨w.heap.size, 0, none⟩ = some (.int .i64 a0) ∧ w'.cell? ⟨w.heap.size, 1, none⟩ = some (.int .i64 a1) ∧ w'.cell? ⟨w.heap.size, 2, none⟩ = some (.string a2) ∧ w'.cell? ⟨w.heap.size, 3, none⟩ = some (.string a3) ∧ w'.cell? ⟨w.heap.size, 4, none⟩ = some (.int .i64 a4) ∧ w'.cell? ⟨w.heap.size, 5, none⟩ = some (.int .u64 a5) ∧ w'.cell? ⟨w.heap.size, 6, none⟩ = some (.slice a6 a7 a8) ∧ w'.cell? ⟨w.heap.size + 1, 0, none⟩ = some (.int .i64 b0) ∧ w'.cell? ⟨w.heap.size + 1, 1, none⟩ = some (.int .i64 b1) ∧ w'.cell? ⟨w.heap.size + 1, 2, none⟩ = some (.string b2) ∧ w'.cell? ⟨w.heap.size + 1, 3, none⟩ = some (.string b3) ∧ w'.cell? ⟨w.heap.size + 1, 4, none⟩ = some (.int .i64 b4) ∧ w'.cell? ⟨w.heap.size + 1, 5, none⟩ = some (.int .u64 b5) ∧ w'.cell? ⟨w.heap.size + 1, 6, none⟩ = some (.slice b6 b7 b8) := by
  have h1 : ∀ i, (w.alloc (.cells #[.int .i64 a0, .int .i64 a1, .string a2, .string a3, .int .i64 a4, .int .u64 a5, .slice a6 a7 a8] 31 (0, 0))).cell? ⟨w.heap.size, i, none⟩ = _ := fun i => new_cell w _ 31 i
  have h2 := fun i => new_cell (w.alloc (.cells #[.int .i64 a0, .int .i64 a1, .string a2, .string a3, .int .i64 a4, .int .u64 a5, .slice a6 a7 a8] 31 (0, 0))) #[.int .i64 b0, .int .i64 b1, .string b2, .string b3, .int .i64 b4, .int .u64 b5, .slice b6 b7 b8] 31 i
  rw [show (w.alloc (.cells #[.int .i64 a0, .int .i64 a1, .string a2, .string a3, .int .i64 a4, .int .u64 a5, .slice a6 a7 a8] 31 (0, 0))).heap.size = w.heap.size + 1 by simp] at h2
  have k1 : ∀ (i : Nat) (v : Value), (#[.int .i64 a0, .int .i64 a1, .string a2, .string a3, .int .i64 a4, .int .u64 a5, .slice a6 a7 a8] : Array Value)[i]? = some v → w'.cell? ⟨w.heap.size, i, none⟩ = some v := fun i v hv => keep hb (keep (up (up0 _) _) ((h1 i).trans hv))
  have k2 : ∀ (i : Nat) (v : Value), (#[.int .i64 b0, .int .i64 b1, .string b2, .string b3, .int .i64 b4, .int .u64 b5, .slice b6 b7 b8] : Array Value)[i]? = some v → w'.cell? ⟨w.heap.size + 1, i, none⟩ = some v := fun i v hv => keep hb ((h2 i).trans hv)
  exact ⟨k1 0 _ rfl, k1 1 _ rfl, k1 2 _ rfl, k1 3 _ rfl, k1 4 _ rfl, k1 5 _ rfl, k1 6 _ rfl, k2 0 _ rfl, k2 1 _ rfl, k2 2 _ rfl, k2 3 _ rfl, k2 4 _ rfl, k2 5 _ rfl, k2 6 _ rfl⟩
theorem levels_bad (xa xb : Ex) (va vb : Value) (op : Int) (w : World) (ha : xa.Is w va) (hb : xb.Is w vb) (s t : ByteArray) (e f g : Int)
    (XA : ∀ w', Below w.heap.size w w' → Calls Tryz.prog 20 #[va] w' (SaysT s e w')) (XB : ∀ w', Below w.heap.size w w' → Calls Tryz.prog 20 #[vb] w' (SaysT t f w'))
    (XU : ∀ w' v, Below w.heap.size w w' → (binE op xa xb).Is w' v → Calls Tryz.prog 20 #[v] w' (SaysT ⟨#[]⟩ g w')) (hg : g ≠ 0) (hor : e ≠ 0 ∨ f ≠ 0 ∨ op < 1 ∨ 13 < op) : Calls Tryz.prog 6 #[va, vb, .int .i64 op] w (Says true w) := by
  obtain ⟨cs, rfl⟩ : ∃ cs, va = .agg cs := by
    cases xa; unfold Ex.Is at ha; obtain ⟨A, l, c, e, _⟩ := ha; exact ⟨_, e⟩
  obtain ⟨ds, rfl⟩ : ∃ cs, vb = .agg cs := by
    cases xb; unfold Ex.Is at hb; obtain ⟨A, l, c, e, _⟩ := hb; exact ⟨_, e⟩
  obtain ⟨a0, a1, a2, a3, a4, a5, a6, a7, a8, rfl, _⟩ := Ex.boxed ha 31
  obtain ⟨b0, b1, b2, b3, b4, b5, b6, b7, b8, rfl, _⟩ := Ex.boxed hb 31
  have HA := Hd.mk ha
  have HB := Hd.mk hb
  have HXA := Hd.mk XA
  have HXB := Hd.mk XB
  have HXU := Hd.mk XU
  clear ha hb XA XB XU
  have hg2 : (g != 0) = true := bne_iff_ne.mpr hg
  have hg3 : (g == 0) = false := beq_eq_false_iff_ne.mpr hg
  have hh : ((e != 0) = true ∨ ((e != 0) = false ∧ (f != 0) = true)) ∨ ((e != 0) = false ∧ (f != 0) = false ∧ (decide (op < 1) = true ∨ (decide (op < 1) = false ∧ decide (13 < op) = true))) := by
    by_cases h1 : e = 0
    · by_cases h2 : f = 0
      · rcases hor with h | h | h
        · exact absurd h1 h
        · exact absurd h2 h
        · right
          refine ⟨by simp [h1], by simp [h2], ?_⟩
          by_cases h3 : op < 1
          · exact .inl (decide_eq_true h3)
          · exact .inr ⟨decide_eq_false h3, decide_eq_true (h.resolve_left h3)⟩
      · exact .inl (.inr ⟨by simp [h1], bne_iff_ne.mpr h2⟩)
    · exact .inl (.inl (bne_iff_ne.mpr h1))
  clear hor
  rcases hh with (h1 | ⟨h1, h2⟩) | ⟨h1, h2, h3 | ⟨h3, h4⟩⟩
  all_goals
    go_enter Tryz.func6, Tryz.ntmps6
    go_wp2_with (first
      | (go_at_call 17; (with_reducible refine ((live_any _).mono ?_)); (rintro e w1 ⟨rfl, hb1⟩; obtain ⟨q0, q1, q2, q3, q4, q5, q6, p0, p1, p2, p3, p4, p5, p6⟩ := boxes2 w hb1; have HB1 := Hd.mk (step (up (up (up0 w) _) _) hb1); have HK1 := Hd.mk hb1; clear hb1))
      | (go_at_call 20; (with_reducible refine ((HXA.out _ HB1.out).mono ?_)); (rintro e w2 ⟨rfl, hb2⟩; have hk2 := step HK1.out hb2; obtain ⟨q0, q1, q2, q3, q4, q5, q6, p0, p1, p2, p3, p4, p5, p6⟩ := boxes2 w hk2; have HK2 := Hd.mk hk2; have HB2 := Hd.mk (step HB1.out hb2); clear hb2 hk2))
      | (go_at_call 20; (with_reducible refine ((HXB.out _ HB2.out).mono ?_)); (rintro e w3 ⟨rfl, hb3⟩; have hk3 := step HK2.out hb3; obtain ⟨q0, q1, q2, q3, q4, q5, q6, p0, p1, p2, p3, p4, p5, p6⟩ := boxes2 w hk3; have HB3 := Hd.mk (step HB2.out hb3); clear hb3 hk3))
      | (go_at_call 22; (with_reducible refine ((bin_any op _ _ _ _ _ (Ex.Is_below HB3.out HA.out) (Ex.Is_below HB3.out HB.out)).mono ?_)); (rintro e w4 ⟨v4, rfl, hx4, hb4⟩; have HB4 := Hd.mk (step HB3.out hb4); have HX4 := Hd.mk hx4; clear hb4 hx4))
      | (go_at_call 20; (with_reducible refine ((HXU.out _ _ HB4.out HX4.out).mono ?_)); (rintro e w5 ⟨rfl, hb5⟩; have HB5 := Hd.mk (step HB4.out hb5); clear hb5)))
    go_ret
    exact ⟨rfl, HB5.out⟩
theorem levels_deep (xa xb : Ex) (va vb : Value) (op : Int) (w : World) (ha : xa.Is w va) (hb : xb.Is w vb) (s t u : ByteArray) 
    (XA : ∀ w', Below w.heap.size w w' → Calls Tryz.prog 20 #[va] w' (SaysT s 0 w')) (XB : ∀ w', Below w.heap.size w w' → Calls Tryz.prog 20 #[vb] w' (SaysT t 0 w'))
    (XU : ∀ w' v, Below w.heap.size w w' → (binE op xa xb).Is w' v → Calls Tryz.prog 20 #[v] w' (SaysT u 13 w')) (h1 : 1 ≤ op) (h2 : op ≤ 13) : Calls Tryz.prog 6 #[va, vb, .int .i64 op] w (Says true w) := by
  obtain ⟨cs, rfl⟩ : ∃ cs, va = .agg cs := by
    cases xa; unfold Ex.Is at ha; obtain ⟨A, l, c, e, _⟩ := ha; exact ⟨_, e⟩
  obtain ⟨ds, rfl⟩ : ∃ cs, vb = .agg cs := by
    cases xb; unfold Ex.Is at hb; obtain ⟨A, l, c, e, _⟩ := hb; exact ⟨_, e⟩
  obtain ⟨a0, a1, a2, a3, a4, a5, a6, a7, a8, rfl, _⟩ := Ex.boxed ha 31
  obtain ⟨b0, b1, b2, b3, b4, b5, b6, b7, b8, rfl, _⟩ := Ex.boxed hb 31
  have HA := Hd.mk ha
  have HB := Hd.mk hb
  have HXA := Hd.mk XA
  have HXB := Hd.mk XB
  have HXU := Hd.mk XU
  clear ha hb XA XB XU
  have d1 : decide (op < 1) = false := decide_eq_false (by omega)
  have d2 : decide (13 < op) = false := decide_eq_false (by omega)
  go_enter Tryz.func6, Tryz.ntmps6
  go_wp2_with (first
    | (go_at_call 17; (with_reducible refine ((live_any _).mono ?_)); (rintro e w1 ⟨rfl, hb1⟩; obtain ⟨q0, q1, q2, q3, q4, q5, q6, p0, p1, p2, p3, p4, p5, p6⟩ := boxes2 w hb1; have HB1 := Hd.mk (step (up (up (up0 w) _) _) hb1); have HK1 := Hd.mk hb1; clear hb1))
    | (go_at_call 20; (with_reducible refine ((HXA.out _ HB1.out).mono ?_)); (rintro e w2 ⟨rfl, hb2⟩; have hk2 := step HK1.out hb2; obtain ⟨q0, q1, q2, q3, q4, q5, q6, p0, p1, p2, p3, p4, p5, p6⟩ := boxes2 w hk2; have HK2 := Hd.mk hk2; have HB2 := Hd.mk (step HB1.out hb2); clear hb2 hk2))
    | (go_at_call 20; (with_reducible refine ((HXB.out _ HB2.out).mono ?_)); (rintro e w3 ⟨rfl, hb3⟩; have hk3 := step HK2.out hb3; obtain ⟨q0, q1, q2, q3, q4, q5, q6, p0, p1, p2, p3, p4, p5, p6⟩ := boxes2 w hk3; have HB3 := Hd.mk (step HB2.out hb3); clear hb3 hk3))
    | (go_at_call 22; (with_reducible refine ((bin_any op _ _ _ _ _ (Ex.Is_below HB3.out HA.out) (Ex.Is_below HB3.out HB.out)).mono ?_)); (rintro e w4 ⟨v4, rfl, hx4, hb4⟩; have HB4 := Hd.mk (step HB3.out hb4); have HX4 := Hd.mk hx4; clear hb4 hx4))
    | (go_at_call 20; (with_reducible refine ((HXU.out _ _ HB4.out HX4.out).mono ?_)); (rintro e w5 ⟨rfl, hb5⟩; have HB5 := Hd.mk (step HB4.out hb5); clear hb5)))
  go_ret
  exact ⟨rfl, HB5.out⟩
end Go.Proofs.YtbhgpegcdiohlaaGreatDoor.Tr

namespace Go.Proofs.YtbhgpegcdiohlaaGreatDoor.Tr
open Go Go.RowKit Go.Proofs
set_option linter.unusedVariables false
set_option maxRecDepth 100000
set_option maxHeartbeats 4000000
theorem tl {a b : ByteArray} (h : a = b) : (a.toList == b.toList) = true := by rw [h]; exact beq_self_eq_true _
theorem fl {a b : ByteArray} (h : a ≠ b) : (a.toList == b.toList) = false := beq_eq_false_iff_ne.mpr fun g => h (bytes_eq g)
theorem markB_size (o : Nat) (h1 : 1 ≤ o) (h2 : o ≤ 13) : (markB o).size ≤ 2 := by
  have : o = 1 ∨ o = 2 ∨ o = 3 ∨ o = 4 ∨ o = 5 ∨ o = 6 ∨ o = 7 ∨ o = 8 ∨ o = 9 ∨ o = 10 ∨ o = 11 ∨ o = 12 ∨ o = 13 := by omega
  rcases this with rfl | rfl | rfl | rfl | rfl | rfl | rfl | rfl | rfl | rfl | rfl | rfl | rfl <;> decide
theorem levels_ok (xa xb : Ex) (va vb : Value) (o : Nat) (w : World) (ha : xa.Is w va) (hb : xb.Is w vb) (s t u : ByteArray) 
    (XA : ∀ w', Below w.heap.size w w' → Calls Tryz.prog 20 #[va] w' (SaysT s 0 w')) (XB : ∀ w', Below w.heap.size w w' → Calls Tryz.prog 20 #[vb] w' (SaysT t 0 w'))
    (XU : ∀ w' v, Below w.heap.size w w' → (binE (o : Int) xa xb).Is w' v → Calls Tryz.prog 20 #[v] w' (SaysT u 0 w')) (h1 : 1 ≤ o) (h2 : o ≤ 13) (mk : ByteArray) (hmk : mk = markB o) (hs : s.size ≤ 100000000000000) (ht : t.size ≤ 100000000000000) (hu : u = s ++ (⟨#[32]⟩ ++ mk ++ ⟨#[32]⟩) ++ t ∨ u = ⟨#[40]⟩ ++ s ++ ⟨#[41]⟩ ++ (⟨#[32]⟩ ++ mk ++ ⟨#[32]⟩) ++ t ∨ u = s ++ (⟨#[32]⟩ ++ mk ++ ⟨#[32]⟩) ++ ⟨#[40]⟩ ++ t ++ ⟨#[41]⟩ ∨ u = ⟨#[40]⟩ ++ s ++ ⟨#[41]⟩ ++ (⟨#[32]⟩ ++ mk ++ ⟨#[32]⟩) ++ ⟨#[40]⟩ ++ t ++ ⟨#[41]⟩) : Calls Tryz.prog 6 #[va, vb, .int .i64 (o : Int)] w (Says true w) := by
  obtain ⟨cs, rfl⟩ : ∃ cs, va = .agg cs := by
    cases xa; unfold Ex.Is at ha; obtain ⟨A, l, c, e, _⟩ := ha; exact ⟨_, e⟩
  obtain ⟨ds, rfl⟩ : ∃ cs, vb = .agg cs := by
    cases xb; unfold Ex.Is at hb; obtain ⟨A, l, c, e, _⟩ := hb; exact ⟨_, e⟩
  obtain ⟨a0, a1, a2, a3, a4, a5, a6, a7, a8, rfl, _⟩ := Ex.boxed ha 31
  obtain ⟨b0, b1, b2, b3, b4, b5, b6, b7, b8, rfl, _⟩ := Ex.boxed hb 31
  have HA := Hd.mk ha
  have HB := Hd.mk hb
  have HXA := Hd.mk XA
  have HXB := Hd.mk XB
  have HXU := Hd.mk XU
  clear ha hb XA XB XU
  have hcell : (#[.string ⟨#[]⟩, .string ⟨#[43]⟩, .string ⟨#[45]⟩, .string ⟨#[42]⟩, .string ⟨#[47]⟩, .string ⟨#[37]⟩, .string ⟨#[61, 61]⟩, .string ⟨#[33, 61]⟩, .string ⟨#[60]⟩, .string ⟨#[60, 61]⟩, .string ⟨#[62]⟩, .string ⟨#[62, 61]⟩, .string ⟨#[38, 38]⟩, .string ⟨#[124, 124]⟩] : Array Value)[o]? = some (.string mk) := by
    subst hmk
    have : o = 1 ∨ o = 2 ∨ o = 3 ∨ o = 4 ∨ o = 5 ∨ o = 6 ∨ o = 7 ∨ o = 8 ∨ o = 9 ∨ o = 10 ∨ o = 11 ∨ o = 12 ∨ o = 13 := by omega
    rcases this with rfl | rfl | rfl | rfl | rfl | rfl | rfl | rfl | rfl | rfl | rfl | rfl | rfl <;> rfl
  have hmz : mk.size ≤ 2 := by
    subst hmk
    exact markB_size o h1 h2
  clear hmk
  have z0 : (9223372036854775807 < 1 + mk.size) = False := eq_false (by omega)
  have z1 : (9223372036854775807 < 1 + mk.size + 1) = False := eq_false (by omega)
  have z2 : (9223372036854775807 < s.size + (1 + mk.size + 1)) = False := eq_false (by omega)
  have z3 : (9223372036854775807 < s.size + (1 + mk.size + 1) + t.size) = False := eq_false (by omega)
  have z4 : (9223372036854775807 < 1 + s.size) = False := eq_false (by omega)
  have z5 : (9223372036854775807 < 1 + s.size + 1) = False := eq_false (by omega)
  have z6 : (9223372036854775807 < 1 + s.size + 1 + (1 + mk.size + 1)) = False := eq_false (by omega)
  have z7 : (9223372036854775807 < 1 + s.size + 1 + (1 + mk.size + 1) + t.size) = False := eq_false (by omega)
  have z8 : (9223372036854775807 < s.size + (1 + mk.size + 1) + 1) = False := eq_false (by omega)
  have z9 : (9223372036854775807 < s.size + (1 + mk.size + 1) + 1 + t.size) = False := eq_false (by omega)
  have z10 : (9223372036854775807 < s.size + (1 + mk.size + 1) + 1 + t.size + 1) = False := eq_false (by omega)
  have z11 : (9223372036854775807 < 1 + s.size + 1 + (1 + mk.size + 1) + 1) = False := eq_false (by omega)
  have z12 : (9223372036854775807 < 1 + s.size + 1 + (1 + mk.size + 1) + 1 + t.size) = False := eq_false (by omega)
  have z13 : (9223372036854775807 < 1 + s.size + 1 + (1 + mk.size + 1) + 1 + t.size + 1) = False := eq_false (by omega)
  clear hmz hs ht
  have hh : (u.toList == (s ++ (⟨#[32]⟩ ++ mk ++ ⟨#[32]⟩) ++ t).toList) = true ∨ ((u.toList == (s ++ (⟨#[32]⟩ ++ mk ++ ⟨#[32]⟩) ++ t).toList) = false ∧ (u.toList == (⟨#[40]⟩ ++ s ++ ⟨#[41]⟩ ++ (⟨#[32]⟩ ++ mk ++ ⟨#[32]⟩) ++ t).toList) = true) ∨ ((u.toList == (s ++ (⟨#[32]⟩ ++ mk ++ ⟨#[32]⟩) ++ t).toList) = false ∧ (u.toList == (⟨#[40]⟩ ++ s ++ ⟨#[41]⟩ ++ (⟨#[32]⟩ ++ mk ++ ⟨#[32]⟩) ++ t).toList) = false ∧ (u.toList == (s ++ (⟨#[32]⟩ ++ mk ++ ⟨#[32]⟩) ++ ⟨#[40]⟩ ++ t ++ ⟨#[41]⟩).toList) = true) ∨ ((u.toList == (s ++ (⟨#[32]⟩ ++ mk ++ ⟨#[32]⟩) ++ t).toList) = false ∧ (u.toList == (⟨#[40]⟩ ++ s ++ ⟨#[41]⟩ ++ (⟨#[32]⟩ ++ mk ++ ⟨#[32]⟩) ++ t).toList) = false ∧ (u.toList == (s ++ (⟨#[32]⟩ ++ mk ++ ⟨#[32]⟩) ++ ⟨#[40]⟩ ++ t ++ ⟨#[41]⟩).toList) = false ∧ (u.toList == (⟨#[40]⟩ ++ s ++ ⟨#[41]⟩ ++ (⟨#[32]⟩ ++ mk ++ ⟨#[32]⟩) ++ ⟨#[40]⟩ ++ t ++ ⟨#[41]⟩).toList) = true) := by
    by_cases c1 : u = s ++ (⟨#[32]⟩ ++ mk ++ ⟨#[32]⟩) ++ t
    · exact .inl (tl c1)
    · by_cases c2 : u = ⟨#[40]⟩ ++ s ++ ⟨#[41]⟩ ++ (⟨#[32]⟩ ++ mk ++ ⟨#[32]⟩) ++ t
      · exact .inr (.inl ⟨fl c1, tl c2⟩)
      · by_cases c3 : u = s ++ (⟨#[32]⟩ ++ mk ++ ⟨#[32]⟩) ++ ⟨#[40]⟩ ++ t ++ ⟨#[41]⟩
        · exact .inr (.inr (.inl ⟨fl c1, fl c2, tl c3⟩))
        · exact .inr (.inr (.inr ⟨fl c1, fl c2, fl c3, tl (((hu.resolve_left c1).resolve_left c2).resolve_left c3)⟩))
  clear hu
  have d1 : decide ((o : Int) < 1) = false := decide_eq_false (by omega)
  have d2 : decide (13 < (o : Int)) = false := decide_eq_false (by omega)
  rcases hh with f1 | ⟨f1, f2⟩ | ⟨f1, f2, f3⟩ | ⟨f1, f2, f3, f4⟩
  all_goals
    go_enter Tryz.func6, Tryz.ntmps6
    go_wp2_with (first
      | (go_at_call 17; (with_reducible refine ((live_any _).mono ?_)); (rintro e w1 ⟨rfl, hb1⟩; obtain ⟨q0, q1, q2, q3, q4, q5, q6, p0, p1, p2, p3, p4, p5, p6⟩ := boxes2 w hb1; have HB1 := Hd.mk (step (up (up (up0 w) _) _) hb1); have HK1 := Hd.mk hb1; clear hb1))
      | (go_at_call 20; (with_reducible refine ((HXA.out _ HB1.out).mono ?_)); (rintro e w2 ⟨rfl, hb2⟩; have hk2 := step HK1.out hb2; obtain ⟨q0, q1, q2, q3, q4, q5, q6, p0, p1, p2, p3, p4, p5, p6⟩ := boxes2 w hk2; have HK2 := Hd.mk hk2; have HB2 := Hd.mk (step HB1.out hb2); clear hb2 hk2))
      | (go_at_call 20; (with_reducible refine ((HXB.out _ HB2.out).mono ?_)); (rintro e w3 ⟨rfl, hb3⟩; have hk3 := step HK2.out hb3; obtain ⟨q0, q1, q2, q3, q4, q5, q6, p0, p1, p2, p3, p4, p5, p6⟩ := boxes2 w hk3; have HB3 := Hd.mk (step HB2.out hb3); clear hb3 hk3))
      | (go_at_call 22; (with_reducible refine ((bin_any (o : Int) _ _ _ _ _ (Ex.Is_below HB3.out HA.out) (Ex.Is_below HB3.out HB.out)).mono ?_)); (rintro e w4 ⟨v4, rfl, hx4, hb4⟩; have HB4 := Hd.mk (step HB3.out hb4); have HX4 := Hd.mk hx4; clear hb4 hx4))
      | (go_at_call 20; (with_reducible refine ((HXU.out _ _ HB4.out HX4.out).mono ?_)); (rintro e w5 ⟨rfl, hb5⟩; have HB5 := Hd.mk (step HB4.out hb5); clear hb5)))
    go_ret
    exact ⟨rfl, up HB5.out _⟩
end Go.Proofs.YtbhgpegcdiohlaaGreatDoor.Tr

namespace Go.Proofs.YtbhgpegcdiohlaaGreatDoor.Tr
open Go Go.RowKit Go.Proofs
set_option linter.unusedVariables false
set_option maxRecDepth 100000
set_option maxHeartbeats 1000000
/-- a literal's text, at every number -/
def vtF (t b : Int) : ByteArray := if t = 1 then (if 0 ≤ b ∧ b < 9223372036854775808 then ⟨(Lib.itoa b).toArray⟩ else ⟨#[]⟩) else if t = 2 then strOfNums (txtL b) else if b = 1 then ⟨#[116, 114, 117, 101]⟩ else ⟨#[102, 97, 108, 115, 101]⟩
def LwF (w : World) : Prop := Lib.TabIs Tryz.prog w "internal/strconv.uint64pow10" .u64 Lib.pow10Tab
theorem stays_F : Stays LwF := fun w w' hb h => Lib.tabBelow_of_tabIs h w' hb
theorem vtF_size (t b : Int) : (vtF t b).size ≤ 64 := by
  unfold vtF
  split
  · split
    · rename_i _ h
      have := Lib.itoa_length_le b (by omega) (by omega)
      show (Lib.itoa b).toArray.size ≤ 64
      simp; omega
    · decide
  · split
    · rw [strOfNums_size]
      have := txtL_len b
      omega
    · split <;> decide
theorem vals_F : ValsL vtF LwF := by
  intro t b h0 h1 hl w hw
  have h := vals_any LwF stays_F (fun b => strOfNums (txtL b)) (fun w h => h) (fun b h0 h1 w _ => float_text b h0 h1 w) t b h0 h1 hl w hw
  have e : vtF t b = litT (fun b => strOfNums (txtL b)) t b := by
    unfold vtF litT
    by_cases ht : t = 1
    · subst ht
      rw [if_pos rfl, if_pos rfl]
      unfold litB at hl
      rw [if_pos rfl] at hl
      rw [if_pos ⟨h0, of_decide_eq_true hl⟩]
    · rw [if_neg ht, if_neg ht]
  rw [e]
  exact h
theorem text_F (x : Ex) (v : Value) (w : World) (hw : LwF w) (hx : x.Is w v) (hwf : x.Wf) (hc : costE x ≤ 70368744177664) : Calls Tryz.prog 20 #[v] w (SaysT (if errX x = 0 then bareE vtF x else ⟨#[]⟩) (errX x) w) := text_any vtF LwF stays_F vtF_size vals_F x v w hw hx hwf hc
theorem maxI_le {a b c d : Int} (h1 : a ≤ b) (h2 : c ≤ d) : maxI a c ≤ maxI b d := by unfold maxI; split <;> split <;> omega
theorem maxI_l (a b : Int) : a ≤ maxI a b := by unfold maxI; split <;> omega
theorem maxI_r (a b : Int) : b ≤ maxI a b := by unfold maxI; split <;> omega
theorem deepL_most (k op : Int) : ∀ (ks : Exs) (i d most : Int), most ≤ deepL k op ks i d most
  | .nil, i, d, most => by rw [deepL]; omega
  | .cons e l, i, d, most => by
    rw [deepL]
    exact Int.le_trans (maxI_l _ _) (deepL_most k op l _ _ _)
theorem std_more (k op i : Int) : 0 ≤ (std k op i).2 ∧ (std k op i).2 ≤ 1 := by
  unfold std
  split
  · decide
  · split
    · decide
    · split
      · decide
      · split <;> exact ⟨Int.le_refl _, by dsimp only; omega⟩
theorem wrap_small {x : Int} (h0 : 0 ≤ x) (h1 : x ≤ 4611686018427387904) : wrap64 x = x := by unfold wrap64; omega
mutual
theorem deepE_mono : ∀ (x : Ex) (a a' d d' : Int), a ≤ a' → d ≤ d' → 0 ≤ d → d' + costE x ≤ 4611686018427387904 → deepE x a d ≤ deepE x a' d'
  | .mk k op m n t b ks, a, a', d, d', h1, h2, h3, h4 => by
    rw [deepE, deepE]
    rw [costE] at h4
    rw [wrap_small (x := d + 1) (by omega) (by omega), wrap_small (x := d' + 1) (by omega) (by omega)]
    have hle : (if lvl k op < a then d + 1 else d) ≤ (if lvl k op < a' then d' + 1 else d') := by
      split <;> split <;> omega
    exact deepL_mono k op ks 0 _ _ _ _ hle hle (by split <;> omega) (by split <;> omega)
theorem deepL_mono (k op : Int) : ∀ (ks : Exs) (i d d' most most' : Int), d ≤ d' → most ≤ most' → 0 ≤ d → d' + costL ks ≤ 4611686018427387904 → deepL k op ks i d most ≤ deepL k op ks i d' most'
  | .nil, i, d, d', most, most', h1, h2, h3, h4 => by rw [deepL, deepL]; exact h2
  | .cons e l, i, d, d', most, most', h1, h2, h3, h4 => by
    rw [deepL, deepL]
    rw [costL] at h4
    have hm := std_more k op i
    refine deepL_mono k op l _ _ _ _ _ h1 (maxI_le h2 ?_) h3 (by omega)
    rw [wrap_small (x := d + (std k op i).2) (by omega) (by omega), wrap_small (x := d' + (std k op i).2) (by omega) (by omega)]
    exact deepE_mono e _ _ _ _ (Int.le_refl _) (by omega) (by omega) (by omega)
end
theorem std7 (op i : Int) : (std 7 op i).2 = 0 ∧ 1 ≤ (std 7 op i).1 := by
  unfold std
  rw [if_neg (by decide), if_neg (fun h => by omega), if_neg (fun h => by omega)]
  split
  · refine ⟨rfl, ?_⟩
    have := (lvl_le 7 op).1
    unfold plc
    dsimp only
    split <;> omega
  · exact ⟨rfl, by decide⟩
theorem bin_deep (op : Int) (x y : Ex) (cx : costE x ≤ 30000000000000) (cy : costE y ≤ 30000000000000) : deepE x 1 0 ≤ deepE (binE op x y) 1 0 ∧ deepE y 1 0 ≤ deepE (binE op x y) 1 0 := by
  have h1 : ¬ lvl 7 op < 1 := by have := (lvl_le 7 op).1; omega
  unfold binE
  rw [deepE]
  rw [if_neg h1, deepL, deepL, deepL, (std7 op 0).1, (std7 op (0 + 1)).1, show wrap64 (0 + 0) = 0 from wrap_small (by omega) (by omega)]
  have e1 := deepE_mono x 1 (std 7 op 0).1 0 0 (std7 op 0).2 (by omega) (by omega) (by omega)
  have e2 := deepE_mono y 1 (std 7 op (0 + 1)).1 0 0 (std7 op (0 + 1)).2 (by omega) (by omega) (by omega)
  exact ⟨Int.le_trans e1 (Int.le_trans (maxI_r _ _) (maxI_l _ _)), Int.le_trans e2 (maxI_r _ _)⟩
theorem errX_parts {x : Ex} (h : errX x = 0) : deepE x 1 0 ≤ 32 ∧ errE x = 0 := by
  unfold errX at h
  obtain ⟨h1, h2⟩ := seqI_zero h
  refine ⟨?_, h2⟩
  split at h1
  · assumption
  · cases h1
theorem bin_err (op : Int) (x y : Ex) (cx : costE x ≤ 30000000000000) (cy : costE y ≤ 30000000000000) (h : errX (binE op x y) = 0) : errX x = 0 ∧ errX y = 0 ∧ 1 ≤ op ∧ op ≤ 13 := by
  obtain ⟨hd, he⟩ := errX_parts h
  obtain ⟨d1, d2⟩ := bin_deep op x y cx cy
  unfold binE at he
  obtain ⟨hs, _, hk⟩ := errE_parts he
  have kx := hk x (by simp [Exs.toList])
  have ky := hk y (by simp [Exs.toList])
  refine ⟨?_, ?_, ?_⟩
  · unfold errX; rw [if_pos (by omega), seqI_0 rfl]; exact kx
  · unfold errX; rw [if_pos (by omega), seqI_0 rfl]; exact ky
  · unfold shapedB at hs
    simp at hs
    exact hs.1
theorem bin_right (op : Int) (x y : Ex) (hx : errX x = 0) (hy : errX y = 0) (h1 : 1 ≤ op) (h2 : op ≤ 13) : errX (binE op x y) = 0 ∨ errX (binE op x y) = 13 := by
  have he : errE (binE op x y) = 0 := by
    unfold binE
    have hs : shapedB 7 op ⟨#[]⟩ ⟨#[]⟩ 0 0 (Exs.cons x (.cons y .nil)).toList.length = true := by
      unfold shapedB
      simp [Exs.toList, h1, h2]
    rw [errE, if_pos hs, seqI_0 rfl, if_neg (by decide), seqI_0 rfl, if_neg (by decide), seqI_0 rfl, if_neg (by simp [Exs.toList]), seqI_0 rfl, errL, errL, errL, seqI_0 (errX_parts hx).2, seqI_0 (errX_parts hy).2]
  unfold errX
  rw [he]
  split
  · left; rfl
  · right; rfl
theorem bin_text (op : Int) (x y : Ex) : bareE vtF (binE op x y) = parE (lvl x.k x.op < plc 7 op 0) (bareE vtF x) ++ (⟨#[32]⟩ ++ markB op ++ ⟨#[32]⟩) ++ parE (lvl y.k y.op < plc 7 op 1) (bareE vtF y) := by
  unfold binE
  rw [bareE, if_neg (by decide), if_neg (by decide), if_neg (by decide), if_neg (by decide), if_pos rfl, binTE, binTL]
  simp only [ByteArray.append_assoc]
theorem tree_levels (x y : Ex) (op : Int) (w : World) (u v : Value) (hw : LwF w) (hx : x.Is w u) (hy : y.Is w v) (wx : x.Wf) (wy : y.Wf) (cx : costE x ≤ 30000000000000) (cy : costE y ≤ 30000000000000) : Calls Tryz.prog 6 #[u, v, .int .i64 op] w (Says true w) := by
  have XA : ∀ w', Below w.heap.size w w' → Calls Tryz.prog 20 #[u] w' (SaysT (if errX x = 0 then bareE vtF x else ⟨#[]⟩) (errX x) w') := fun w' hb => text_F x u w' (stays_F _ _ hb hw) (Ex.Is_below hb hx) wx (by omega)
  have XB : ∀ w', Below w.heap.size w w' → Calls Tryz.prog 20 #[v] w' (SaysT (if errX y = 0 then bareE vtF y else ⟨#[]⟩) (errX y) w') := fun w' hb => text_F y v w' (stays_F _ _ hb hw) (Ex.Is_below hb hy) wy (by omega)
  have cb : costE (binE op x y) ≤ 70368744177664 := by
    unfold binE
    rw [costE, costL, costL, costL]
    have : (⟨#[]⟩ : ByteArray).size = 0 := rfl
    omega
  have wb : (binE op x y).Wf := by
    unfold binE
    unfold Ex.Wf
    have : strOk ⟨#[]⟩ := by unfold strOk; decide
    exact ⟨by decide, by decide, this, this, by unfold Exs.Wf; exact ⟨wx, by unfold Exs.Wf; exact ⟨wy, by unfold Exs.Wf; trivial⟩⟩⟩
  have XU : ∀ w' z, Below w.heap.size w w' → (binE op x y).Is w' z → Calls Tryz.prog 20 #[z] w' (SaysT (if errX (binE op x y) = 0 then bareE vtF (binE op x y) else ⟨#[]⟩) (errX (binE op x y)) w') := fun w' z hb hz => text_F _ z w' (stays_F _ _ hb hw) hz wb cb
  by_cases hg : errX (binE op x y) = 0
  · obtain ⟨e1, e2, o1, o2⟩ := bin_err op x y cx cy hg
    obtain ⟨o, rfl⟩ := Int.eq_ofNat_of_zero_le (by omega : 0 ≤ op)
    rw [hg, if_pos rfl] at XU
    rw [e1, if_pos rfl] at XA
    rw [e2, if_pos rfl] at XB
    have s1 := bare_le vtF vtF_size x
    have s2 := bare_le vtF vtF_size y
    refine levels_ok x y u v o w hx hy _ _ _ XA XB XU (by omega) (by omega) (markB o) rfl (by omega) (by omega) ?_
    rw [bin_text]
    unfold parE
    split <;> split <;> simp only [ByteArray.append_assoc, true_or, or_true]
  · rw [if_neg hg] at XU
    by_cases hbad : errX x ≠ 0 ∨ errX y ≠ 0 ∨ op < 1 ∨ 13 < op
    · exact levels_bad x y u v op w hx hy _ _ _ _ _ XA XB XU hg hbad
    · have e1 : errX x = 0 := Classical.byContradiction fun h => hbad (.inl h)
      have e2 : errX y = 0 := Classical.byContradiction fun h => hbad (.inr (.inl h))
      have o1 : 1 ≤ op := by omega
      have o2 : op ≤ 13 := by omega
      have h13 := (bin_right op x y e1 e2 o1 o2).resolve_left hg
      rw [h13] at XU
      rw [e1, if_pos rfl] at XA
      rw [e2, if_pos rfl] at XB
      exact levels_deep x y u v op w hx hy _ _ _ XA XB XU o1 o2
end Go.Proofs.YtbhgpegcdiohlaaGreatDoor.Tr
