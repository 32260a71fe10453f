import Derived.Test.YtbhgpegcdiohlaaGreatDoorLvR
namespace Go.Proofs.YtbhgpegcdiohlaaGreatDoor.Tr
open Go Go.RowKit Go.Proofs
set_option linter.unusedVariables false
set_option maxRecDepth 100000
set_option maxHeartbeats 4000000
theorem keepN {n : Nat} {a b : World} (hb : Below n a b) {p : Addr} {v : Value} (hl : p.block < n) (h : a.cell? p = some v) : b.cell? p = some v := (hb.cell hl).trans h
def srcL : List UInt8 := [109, 111, 100, 117, 108, 101, 32, 109, 59, 10, 105, 109, 112, 111, 114, 116, 32, 107, 59, 10]
theorem print_live (K : Nat) (w : World) (hk : w.cell? ⟨K, 0, none⟩ = some (.string ⟨#[107]⟩)) :
    Calls Tryz.prog 18 #[.agg #[.string ⟨#[109]⟩, .slice (some ⟨K, 0, none⟩) 1 1, .slice none 0 0]] w fun e w' => e = .returned (.tuple #[.string ⟨#[109, 111, 100, 117, 108, 101, 32, 109, 59, 10, 105, 109, 112, 111, 114, 116, 32, 107, 59, 10]⟩, .int .i64 0]) ∧ Below w.heap.size w w' := by
  have HK := Hd.mk hk
  have lk : K < w.heap.size := World.block_lt_of_cell? w _ hk
  clear hk
  go_enter Tryz.func18, Tryz.ntmps18
  go_wp2_with (first
    | (go_at_call 13; (with_reducible refine ((right_live K _ (keep (up (up0 _) _) HK.out)).mono ?_)); (rintro e w1 ⟨rfl, hb1⟩; have HB1 := Hd.mk hb1; have hc1 := bcell hb1; have hs1 := bsize1 rfl hb1; clear hb1))
    | (go_at_call 46; refine ((line_any w1.heap.size w1.heap.size [] _ _ (Or.inl ⟨Nat.le_refl _, .slice none 0 0, heap_alloc_new w1 _, World.ownsRow_nil _ _ _ _, by simp [Value.ownBlock]⟩) (by decide) (by simp)).mono ?_)))
  rintro e w2 ⟨rfl, hw2, hb2⟩
  have HW2 := Hd.mk hw2
  have HB2 := Hd.mk hb2
  have lk1 : K < w1.heap.size := Nat.lt_trans lk hs1
  have e1 : w2.cell? ⟨w.heap.size, 1, none⟩ = some (.slice (some ⟨K, 0, none⟩) 1 1) := keepN hb2 hs1 (keep (up (up0 w1) _) (keep HB1.out (new_cell w _ _ 1)))
  have e2 : w2.cell? ⟨w.heap.size, 2, none⟩ = some (.slice none 0 0) := keepN hb2 hs1 (keep (up (up0 w1) _) (keep HB1.out (new_cell w _ _ 2)))
  have ek : w2.cell? ⟨K, 0, none⟩ = some (.string ⟨#[107]⟩) := keepN hb2 lk1 (keep (up (up0 w1) _) (keep (step (up (up0 w) _) HB1.out) HK.out))
  have z2 : w1.heap.size + 1 ≤ w2.heap.size := by have := hb2.size; simpa using this
  have l2 : w.heap.size < w2.heap.size := by omega
  have m2 : K < w2.heap.size := by omega
  have Z2 := Hd.mk z2
  clear hw2 hb2 hc1 z2
  go_wp2_with fail
  refine wp_loop_rounds 2 ?_
  rw [rounds_succ]
  go_wp2_with (go_at_call 46; refine ((line_any w1.heap.size w1.heap.size _ _ _ (Or.inr HW2.out) (by decide) (by have := Z2.out; omega)).mono ?_))
  rintro e w3 ⟨rfl, hw3, hb3⟩
  have HW3 := Hd.mk hw3
  have HB3 := Hd.mk hb3
  have f1 := keepN hb3 hs1 e1
  have f2 := keepN hb3 hs1 e2
  have l3 : w.heap.size < w3.heap.size := by have := hb3.size; omega
  clear hw3 hb3 e1 e2 ek
  go_wp2_with fail
  rw [rounds_succ]
  go_wp2_with fail
  refine wp_loop_rounds 1 ?_
  rw [rounds_succ]
  obtain ⟨g, cap, cells, hg, hbg, q1, q2, q3, hs⟩ := strIn_of srcL HW3.out (by rfl) (by decide)
  have hg' : w.heap.size ≤ g := by omega
  have S := Hd.mk (And.intro hbg (And.intro q1 (And.intro q2 (And.intro q3 (And.intro hs hg')))))
  clear hg hbg q1 q2 q3 hs hg'
  have b3 := ((up (step (up (up0 w) _) HB1.out) _).trans (HB2.out.mono (Nat.le_of_lt hs1))).trans (HB3.out.mono (Nat.le_of_lt hs1))
  have B3 := Hd.mk b3
  clear b3
  go_wp2_with (first
    | (go_at_call 48; refine ((lex_src _).mono ?_))
    | (go_at_call 49; refine ((string_in S.out.2.2.2.2.1 (by decide) S.out.2.1 S.out.2.2.1 S.out.2.2.2.1).mono ?_); rintro e w4 ⟨rfl, rfl⟩))
  rintro e w5 ⟨v, rfl, hb5⟩
  have hs5 := strIn_later S.out.2.2.2.2.1 S.out.1 _ hb5
  have H5 := Hd.mk hb5
  have S5 := Hd.mk hs5
  clear hb5 hs5
  go_wp2_with (go_at_call 49; refine ((string_in S5.out (by decide) S.out.2.1 S.out.2.2.1 S.out.2.2.2.1).mono ?_); rintro e w6 ⟨rfl, rfl⟩)
  go_ret2
  exact ⟨rfl, Lib.below_freeze (step (Lib.below_freeze B3.out.drew (p := ⟨g, 0, none⟩) S.out.2.2.2.2.2 _) H5.out).drew (p := ⟨g, 0, none⟩) S.out.2.2.2.2.2 _⟩
end Go.Proofs.YtbhgpegcdiohlaaGreatDoor.Tr
