import Derived.Test.YtbhgpegcdiohlaaGreatDoorLvQ
namespace Go.Proofs.YtbhgpegcdiohlaaGreatDoor.Tr
open Go Go.RowKit Go.Proofs
set_option linter.unusedVariables false
set_option maxRecDepth 100000
set_option maxHeartbeats 2000000
def StrIn (b g n cap cells : Nat) (p : Value) (l : List UInt8) (w : World) : Prop := w.heap[b]? = some (.cells #[p, .slice (some ⟨g, 0, none⟩) n cap] 72 (0, 0)) ∧ w.shape? g = some (5, cells) ∧ ∀ j x, l[j]? = some x → w.cell? ((⟨g, 0, none⟩ : Addr).add j) = some (.int .u8 x.toNat)
theorem strIn_of {B b : Nat} {p : Value} {bs : List Value} {w : World} (l : List UInt8) (h : Lib.BuilderAt 72 5 B b p bs w) (hl : bs = Lib.byteCells l) (h0 : l ≠ []) :
    ∃ g cap cells, B ≤ g ∧ b ≠ g ∧ l.length ≤ cap ∧ cap ≤ 9223372036854775807 ∧ l.length ≤ cells ∧ StrIn b g l.length cap cells p l w := by
  subst hl
  obtain ⟨hB, v, hbk, hown, hne⟩ := h
  have hl0 : l.length ≠ 0 := by simpa using h0
  rw [Lib.byteCells_length] at hown
  obtain ⟨g, cap, cur, rfl, hbg, hg, hnc, hcm, hcs, htake⟩ : ∃ g cap cur, v = .slice (some ⟨g, 0, none⟩) l.length cap ∧ B ≤ g ∧ w.heap[g]? = some (.cells cur 5 (0, 0)) ∧ l.length ≤ cap ∧ cap ≤ maxLen ∧ cur.size = cap * 1 ∧ cur.toList.take (l.length * 1) = Lib.byteCells l := by
    rcases hown.2 with ⟨_, hz⟩ | ⟨g, cap, cur, hv, r⟩
    · exact absurd hz hl0
    · exact ⟨g, cap, cur, hv, r⟩
  refine ⟨g, cap, cur.size, hbg, ?_, hnc, hcm, by omega, hbk, by simp [World.shape?, hg], ?_⟩
  · intro e; apply hne; simp [Value.ownBlock, e]
  · intro j x hx
    exact hown.cells (g := g) rfl j (.int .u8 x.toNat) (by simp [Lib.byteCells, hx])
theorem strIn_later {b g n cap cells : Nat} {p : Value} {l : List UInt8} {w w' : World} (h : StrIn b g n cap cells p l w) (hne : b ≠ g) (k : Nat) (hb : Below (w.drew.freeze ⟨g, 0, none⟩ k).heap.size (w.drew.freeze ⟨g, 0, none⟩ k) w') : StrIn b g n cap cells p l w' := by
  obtain ⟨h1, h2, h3⟩ := h
  obtain ⟨cur, fr, hg, hcz⟩ : ∃ cur fr, w.heap[g]? = some (.cells cur 5 fr) ∧ cur.size = cells := by
    unfold World.shape? at h2
    split at h2
    · rename_i c e f hh
      simp only [Option.some.injEq, Prod.mk.injEq] at h2
      obtain ⟨rfl, rfl⟩ := h2
      exact ⟨c, f, hh, rfl⟩
    · cases h2
  have hsz : (w.drew.freeze ⟨g, 0, none⟩ k).heap.size = w.heap.size := by
    unfold World.freeze; split
    · rfl
    · simp [Array.size_modify]
  have f1 : (w.drew.freeze ⟨g, 0, none⟩ k).heap[b]? = w.heap[b]? := by
    unfold World.freeze; split
    · rfl
    · show (w.heap.modify g _)[b]? = _
      rw [Array.getElem?_modify]; simp [hne.symm]
  obtain ⟨fr', f2⟩ : ∃ fr', (w.drew.freeze ⟨g, 0, none⟩ k).heap[g]? = some (.cells cur 5 fr') := by
    unfold World.freeze; split
    · exact ⟨fr, hg⟩
    · obtain ⟨lo, hi⟩ := fr
      exact ⟨if lo == hi then (0, 0 + k) else (min lo 0, max hi (0 + k)), by
        show (w.heap.modify g _)[g]? = _
        rw [Array.getElem?_modify]; simp [hg]⟩
  have lb := (Array.getElem?_eq_some_iff.1 h1).1
  have lg := (Array.getElem?_eq_some_iff.1 hg).1
  have g1 : w'.heap[b]? = _ := (hb.block b (by omega)).trans (f1.trans h1)
  have g2 : w'.heap[g]? = _ := (hb.block g (by omega)).trans f2
  refine ⟨g1, by simp [World.shape?, g2, hcz], fun j x hx => ?_⟩
  have h4 := h3 j x hx
  have e : ∀ i, w'.cell? ⟨g, i, none⟩ = w.cell? ⟨g, i, none⟩ := fun i => by rw [cell_of_row w' g i _ _ _ g2, cell_of_row w g i _ _ _ hg]
  have ha : (⟨g, 0, none⟩ : Addr).add j = ⟨g, j, none⟩ := by
    unfold Addr.add
    split
    · rename_i e; subst e; rfl
    · simp
  rw [ha] at h4 ⊢
  rw [e]; exact h4
theorem string_in {b g cap cells : Nat} {p : Value} {l : List UInt8} {w : World} (h : StrIn b g l.length cap cells p l w) (h0 : l ≠ []) (hc : l.length ≤ cap) (hm : cap ≤ 9223372036854775807) (hcl : l.length ≤ cells) :
    Calls Tryz.prog 49 #[.pointer (some ⟨b, 0, none⟩)] w fun e w' => e = .returned (.string ⟨l.toArray⟩) ∧ w' = w.drew.freeze ⟨g, 0, none⟩ l.length :=
  string_any b g _ cap cells p l w h.1 rfl h0 hc hm h.2.1 hcl h.2.2
end Go.Proofs.YtbhgpegcdiohlaaGreatDoor.Tr

namespace Go.Proofs.YtbhgpegcdiohlaaGreatDoor.Tr
open Go Go.RowKit Go.Proofs
set_option linter.unusedVariables false
set_option maxRecDepth 100000
set_option maxHeartbeats 4000000
theorem keepN {n : Nat} {a b : World} (hb : Below n a b) {p : Addr} {v : Value} (hl : p.block < n) (h : a.cell? p = some v) : b.cell? p = some v := (hb.cell hl).trans h
def srcL : List UInt8 := [109, 111, 100, 117, 108, 101, 32, 109, 59, 10, 105, 109, 112, 111, 114, 116, 32, 107, 59, 10]
theorem print_live (K : Nat) (w : World) (hk : w.cell? ⟨K, 0, none⟩ = some (.string ⟨#[107]⟩)) :
    Calls Tryz.prog 18 #[.agg #[.string ⟨#[109]⟩, .slice (some ⟨K, 0, none⟩) 1 1, .slice none 0 0]] w fun e w' => e = .returned (.tuple #[.string ⟨#[109, 111, 100, 117, 108, 101, 32, 109, 59, 10, 105, 109, 112, 111, 114, 116, 32, 107, 59, 10]⟩, .int .i64 0]) ∧ Below w.heap.size w w' := by
  have HK := Hd.mk hk
  have lk : K < w.heap.size := World.block_lt_of_cell? w _ hk
  clear hk
  go_enter Tryz.func18, Tryz.ntmps18
  go_wp2_with (first
    | (go_at_call 13; (with_reducible refine ((right_live K _ (keep (up (up0 _) _) HK.out)).mono ?_)); (rintro e w1 ⟨rfl, hb1⟩; have HB1 := Hd.mk hb1; have hc1 := bcell hb1; have hs1 := bsize1 rfl hb1; clear hb1))
    | (go_at_call 46; refine ((line_any w1.heap.size w1.heap.size [] _ _ (Or.inl ⟨Nat.le_refl _, .slice none 0 0, heap_alloc_new w1 _, World.ownsRow_nil _ _ _ _, by simp [Value.ownBlock]⟩) (by decide) (by simp)).mono ?_)))
  rintro e w2 ⟨rfl, hw2, hb2⟩
  have HW2 := Hd.mk hw2
  have HB2 := Hd.mk hb2
  have lk1 : K < w1.heap.size := Nat.lt_trans lk hs1
  have e1 : w2.cell? ⟨w.heap.size, 1, none⟩ = some (.slice (some ⟨K, 0, none⟩) 1 1) := keepN hb2 hs1 (keep (up (up0 w1) _) (keep HB1.out (new_cell w _ _ 1)))
  have e2 : w2.cell? ⟨w.heap.size, 2, none⟩ = some (.slice none 0 0) := keepN hb2 hs1 (keep (up (up0 w1) _) (keep HB1.out (new_cell w _ _ 2)))
  have ek : w2.cell? ⟨K, 0, none⟩ = some (.string ⟨#[107]⟩) := keepN hb2 lk1 (keep (up (up0 w1) _) (keep (step (up (up0 w) _) HB1.out) HK.out))
  have z2 : w1.heap.size + 1 ≤ w2.heap.size := by have := hb2.size; simpa using this
  have l2 : w.heap.size < w2.heap.size := by omega
  have m2 : K < w2.heap.size := by omega
  have Z2 := Hd.mk z2
  clear hw2 hb2 hc1 z2
  go_wp2_with fail
  refine wp_loop_rounds 2 ?_
  rw [rounds_succ]
  go_wp2_with (go_at_call 46; refine ((line_any w1.heap.size w1.heap.size _ _ _ (Or.inr HW2.out) (by decide) (by have := Z2.out; omega)).mono ?_))
  rintro e w3 ⟨rfl, hw3, hb3⟩
  have HW3 := Hd.mk hw3
  have HB3 := Hd.mk hb3
  have f1 := keepN hb3 hs1 e1
  have f2 := keepN hb3 hs1 e2
  have l3 : w.heap.size < w3.heap.size := by have := hb3.size; omega
  clear hw3 hb3 e1 e2 ek
  go_wp2_with fail
  rw [rounds_succ]
  go_wp2_with fail
  refine wp_loop_rounds 1 ?_
  rw [rounds_succ]
  obtain ⟨g, cap, cells, hg, hbg, q1, q2, q3, hs⟩ := strIn_of srcL HW3.out (by rfl) (by decide)
  have hg' : w.heap.size ≤ g := by omega
  have S := Hd.mk (And.intro hbg (And.intro q1 (And.intro q2 (And.intro q3 (And.intro hs hg')))))
  clear hg hbg q1 q2 q3 hs hg'
  have b3 := ((up (step (up (up0 w) _) HB1.out) _).trans (HB2.out.mono (Nat.le_of_lt hs1))).trans (HB3.out.mono (Nat.le_of_lt hs1))
  have B3 := Hd.mk b3
  clear b3
  go_wp2_with (first
    | (go_at_call 48; refine ((lex_src _).mono ?_))
    | (go_at_call 49; refine ((string_in S.out.2.2.2.2.1 (by decide) S.out.2.1 S.out.2.2.1 S.out.2.2.2.1).mono ?_); rintro e w4 ⟨rfl, rfl⟩))
  rintro e w5 ⟨v, rfl, hb5⟩
  have hs5 := strIn_later S.out.2.2.2.2.1 S.out.1 _ hb5
  have H5 := Hd.mk hb5
  have S5 := Hd.mk hs5
  clear hb5 hs5
  go_wp2_with (go_at_call 49; refine ((string_in S5.out (by decide) S.out.2.1 S.out.2.2.1 S.out.2.2.2.1).mono ?_); rintro e w6 ⟨rfl, rfl⟩)
  go_ret2
  exact ⟨rfl, Lib.below_freeze (step (Lib.below_freeze B3.out.drew (p := ⟨g, 0, none⟩) S.out.2.2.2.2.2 _) H5.out).drew (p := ⟨g, 0, none⟩) S.out.2.2.2.2.2 _⟩
end Go.Proofs.YtbhgpegcdiohlaaGreatDoor.Tr

namespace Go.Proofs.YtbhgpegcdiohlaaGreatDoor.Tr
open Go Go.RowKit Go.Proofs
set_option linter.unusedVariables false
set_option maxRecDepth 100000
set_option maxHeartbeats 4000000
theorem lit_is (n : Int) (w : World) : (litE n).Is w (.agg #[.int .i64 1, .int .i64 0, .string ⟨#[]⟩, .string ⟨#[]⟩, .int .i64 1, .int .u64 n, .slice none 0 0]) := by
  unfold litE Ex.Is
  exact ⟨none, 0, 0, rfl, rfl, by omega, fun h => absurd h (by decide)⟩
theorem lit_any (n : Int) (w : World) : Calls Tryz.prog 45 #[.int .u64 n] w fun e w' => e = .returned (.agg #[.int .i64 1, .int .i64 0, .string ⟨#[]⟩, .string ⟨#[]⟩, .int .i64 1, .int .u64 n, .slice none 0 0]) ∧ Below w.heap.size w w' := by
  go_enter Tryz.func45, Tryz.ntmps45
  go_wp2
  exact bodyPost_ret (v := .agg #[.int .i64 1, .int .i64 0, .string ⟨#[]⟩, .string ⟨#[]⟩, .int .i64 1, .int .u64 n, .slice none 0 0]) (by simp [results, Tryz.results45, go_sem]) rfl ⟨rfl, up (up0 _) _⟩
def Made (x : Ex) (w : World) (e : Ending) (w' : World) : Prop := ∃ v, e = .returned v ∧ x.Is w' v ∧ Below w.heap.size w w'
theorem Exs.In_of {w : World} : ∀ {ks : Exs} {B o : Nat}, (∀ (i : Nat) (x : Ex), ks.toList[i]? = some x → x.In w B (o + i * 7)) → ks.In w B o
  | .nil, _, _, _ => by unfold Exs.In; trivial
  | .cons e l, B, o, h => by
    unfold Exs.In
    refine ⟨by simpa using h 0 e rfl, Exs.In_of fun i x hx => ?_⟩
    have := h (i + 1) x (by simpa [Exs.toList] using hx)
    rw [show o + (i + 1) * 7 = o + 7 + i * 7 by omega] at this
    exact this
theorem get_left {a0 a1 a2 a3 a4 a5 a6 b0 b1 b2 b3 b4 b5 b6 v : Value} {i : Nat} (h : (#[a0, a1, a2, a3, a4, a5, a6] : Array Value)[i]? = some v) : (#[a0, a1, a2, a3, a4, a5, a6, b0, b1, b2, b3, b4, b5, b6] : Array Value)[i]? = some v := by
  match i with
  | 0 | 1 | 2 | 3 | 4 | 5 | 6 => exact h
  | n + 7 => simp at h
theorem get_right {a0 a1 a2 a3 a4 a5 a6 b0 b1 b2 b3 b4 b5 b6 v : Value} {i : Nat} (h : (#[b0, b1, b2, b3, b4, b5, b6] : Array Value)[i]? = some v) : (#[a0, a1, a2, a3, a4, a5, a6, b0, b1, b2, b3, b4, b5, b6] : Array Value)[7 + i]? = some v := by
  match i with
  | 0 | 1 | 2 | 3 | 4 | 5 | 6 => exact h
  | n + 7 => simp at h
/-- seven cells of an expression make one in memory -/
theorem Ex.put {w w' : World} {x : Ex} {cs : Array Value} (h : x.Is w (.agg cs)) (hb : Below w.heap.size w w') {B o : Nat} (hc : ∀ i v, cs[i]? = some v → w'.cell? ⟨B, o + i, none⟩ = some v) : x.In w' B o := by
  have h' := Ex.Is_below hb h
  cases x with
  | mk k op m n t b ks =>
    unfold Ex.Is at h'
    obtain ⟨A, l, c, e, hl, hm, hs⟩ := h'
    injection e with e
    subst e
    unfold Ex.In
    refine ⟨hc 0 _ rfl, hc 1 _ rfl, hc 2 _ rfl, hc 3 _ rfl, hc 4 _ rfl, hc 5 _ rfl, A, l, c, hc 6 _ rfl, hl, hm, fun hp => ?_⟩
    obtain ⟨B', o', hA, hi⟩ := hs hp
    exact ⟨B', o', hA, Exs.In_of hi⟩
theorem bin_any (op : Int) (x y : Ex) (u v : Value) (w : World) (hx : x.Is w u) (hy : y.Is w v) : Calls Tryz.prog 22 #[.int .i64 op, u, v] w (Made (binE op x y) w) := by
  obtain ⟨cs, rfl⟩ : ∃ cs, u = .agg cs := by
    cases x; unfold Ex.Is at hx; obtain ⟨A, l, c, e, _⟩ := hx; exact ⟨_, e⟩
  obtain ⟨ds, rfl⟩ : ∃ cs, v = .agg cs := by
    cases y; unfold Ex.Is at hy; obtain ⟨A, l, c, e, _⟩ := hy; exact ⟨_, e⟩
  obtain ⟨a0, a1, a2, a3, a4, a5, a6, a7, a8, rfl, _⟩ := Ex.boxed hx 31
  obtain ⟨b0, b1, b2, b3, b4, b5, b6, b7, b8, rfl, _⟩ := Ex.boxed hy 31
  have X := Hd.mk hx
  have Y := Hd.mk hy
  clear hx hy
  go_enter Tryz.func22, Tryz.ntmps22
  go_wp2
  have hall := up (up (up (up (up0 w) (.cells #[.int .i64 a0, .int .i64 a1, .string a2, .string a3, .int .i64 a4, .int .u64 a5, .slice a6 a7 a8] 31 (0, 0))) (.cells #[.int .i64 b0, .int .i64 b1, .string b2, .string b3, .int .i64 b4, .int .u64 b5, .slice b6 b7 b8] 31 (0, 0))) (.cells #[.int .i64 7, .int .i64 op, .string ⟨#[]⟩, .string ⟨#[]⟩, .int .i64 0, .int .u64 0, .slice (some ⟨w.heap.size + 1 + 1 + 1, 0, none⟩) 2 2] 31 (0, 0))) (.cells #[.int .i64 a0, .int .i64 a1, .string a2, .string a3, .int .i64 a4, .int .u64 a5, .slice a6 a7 a8, .int .i64 b0, .int .i64 b1, .string b2, .string b3, .int .i64 b4, .int .u64 b5, .slice b6 b7 b8] 31 (0, 0))
  refine bodyPost_ret (v := .agg #[.int .i64 7, .int .i64 op, .string ⟨#[]⟩, .string ⟨#[]⟩, .int .i64 0, .int .u64 0, .slice (some ⟨w.heap.size + 1 + 1 + 1, 0, none⟩) 2 2]) (by simp [results, Tryz.results22, go_sem]) rfl ⟨_, rfl, ?_, hall⟩
  have hn := fun i => new_cell (((w.alloc (.cells #[.int .i64 a0, .int .i64 a1, .string a2, .string a3, .int .i64 a4, .int .u64 a5, .slice a6 a7 a8] 31 (0, 0))).alloc (.cells #[.int .i64 b0, .int .i64 b1, .string b2, .string b3, .int .i64 b4, .int .u64 b5, .slice b6 b7 b8] 31 (0, 0))).alloc (.cells #[.int .i64 7, .int .i64 op, .string ⟨#[]⟩, .string ⟨#[]⟩, .int .i64 0, .int .u64 0, .slice (some ⟨w.heap.size + 1 + 1 + 1, 0, none⟩) 2 2] 31 (0, 0))) #[.int .i64 a0, .int .i64 a1, .string a2, .string a3, .int .i64 a4, .int .u64 a5, .slice a6 a7 a8, .int .i64 b0, .int .i64 b1, .string b2, .string b3, .int .i64 b4, .int .u64 b5, .slice b6 b7 b8] 31 i
  have e3 : (((w.alloc (.cells #[.int .i64 a0, .int .i64 a1, .string a2, .string a3, .int .i64 a4, .int .u64 a5, .slice a6 a7 a8] 31 (0, 0))).alloc (.cells #[.int .i64 b0, .int .i64 b1, .string b2, .string b3, .int .i64 b4, .int .u64 b5, .slice b6 b7 b8] 31 (0, 0))).alloc (.cells #[.int .i64 7, .int .i64 op, .string ⟨#[]⟩, .string ⟨#[]⟩, .int .i64 0, .int .u64 0, .slice (some ⟨w.heap.size + 1 + 1 + 1, 0, none⟩) 2 2] 31 (0, 0))).heap.size = w.heap.size + 1 + 1 + 1 := by simp
  rw [e3] at hn
  unfold binE Ex.Is
  refine ⟨_, _, _, rfl, rfl, by omega, fun _ => ⟨_, _, rfl, fun i z hz => ?_⟩⟩
  match i, hz with
  | 0, hz =>
    simp only [Exs.toList, List.getElem?_cons_zero, Option.some.injEq] at hz
    subst hz
    refine Ex.put X.out hall fun i v hv => ?_
    rw [show 0 + 0 * 7 + i = i by omega, hn]
    exact get_left hv
  | 1, hz =>
    simp only [Exs.toList, List.getElem?_cons_zero, List.getElem?_cons_succ, Option.some.injEq] at hz
    subst hz
    refine Ex.put Y.out hall fun i v hv => ?_
    rw [show 0 + 1 * 7 + i = 7 + i by omega, hn]
    exact get_right hv
  | n + 2, hz => simp [Exs.toList] at hz
end Go.Proofs.YtbhgpegcdiohlaaGreatDoor.Tr
