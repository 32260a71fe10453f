import Derived.Test.YtbhgpegcdiohlaaGreatDoorLvS
namespace Go.Proofs.YtbhgpegcdiohlaaGreatDoor.Tr
open Go Go.RowKit Go.Proofs
set_option linter.unusedVariables false
set_option maxRecDepth 100000
set_option maxHeartbeats 4000000
theorem lit_is (n : Int) (w : World) : (litE n).Is w (.agg #[.int .i64 1, .int .i64 0, .string ⟨#[]⟩, .string ⟨#[]⟩, .int .i64 1, .int .u64 n, .slice none 0 0]) := by
  unfold litE Ex.Is
  exact ⟨none, 0, 0, rfl, rfl, by omega, fun h => absurd h (by decide)⟩
theorem lit_any (n : Int) (w : World) : Calls Tryz.prog 45 #[.int .u64 n] w fun e w' => e = .returned (.agg #[.int .i64 1, .int .i64 0, .string ⟨#[]⟩, .string ⟨#[]⟩, .int .i64 1, .int .u64 n, .slice none 0 0]) ∧ Below w.heap.size w w' := by
  go_enter Tryz.func45, Tryz.ntmps45
  go_wp2
  exact bodyPost_ret (v := .agg #[.int .i64 1, .int .i64 0, .string ⟨#[]⟩, .string ⟨#[]⟩, .int .i64 1, .int .u64 n, .slice none 0 0]) (by simp [results, Tryz.results45, go_sem]) rfl ⟨rfl, up (up0 _) _⟩
def Made (x : Ex) (w : World) (e : Ending) (w' : World) : Prop := ∃ v, e = .returned v ∧ x.Is w' v ∧ Below w.heap.size w w'
theorem Exs.In_of {w : World} : ∀ {ks : Exs} {B o : Nat}, (∀ (i : Nat) (x : Ex), ks.toList[i]? = some x → x.In w B (o + i * 7)) → ks.In w B o
  | .nil, _, _, _ => by unfold Exs.In; trivial
  | .cons e l, B, o, h => by
    unfold Exs.In
    refine ⟨by simpa using h 0 e rfl, Exs.In_of fun i x hx => ?_⟩
    have := h (i + 1) x (by simpa [Exs.toList] using hx)
    rw [show o + (i + 1) * 7 = o + 7 + i * 7 by omega] at this
    exact this
theorem get_left {a0 a1 a2 a3 a4 a5 a6 b0 b1 b2 b3 b4 b5 b6 v : Value} {i : Nat} (h : (#[a0, a1, a2, a3, a4, a5, a6] : Array Value)[i]? = some v) : (#[a0, a1, a2, a3, a4, a5, a6, b0, b1, b2, b3, b4, b5, b6] : Array Value)[i]? = some v := by
  match i with
  | 0 | 1 | 2 | 3 | 4 | 5 | 6 => exact h
  | n + 7 => simp at h
theorem get_right {a0 a1 a2 a3 a4 a5 a6 b0 b1 b2 b3 b4 b5 b6 v : Value} {i : Nat} (h : (#[b0, b1, b2, b3, b4, b5, b6] : Array Value)[i]? = some v) : (#[a0, a1, a2, a3, a4, a5, a6, b0, b1, b2, b3, b4, b5, b6] : Array Value)[7 + i]? = some v := by
  match i with
  | 0 | 1 | 2 | 3 | 4 | 5 | 6 => exact h
  | n + 7 => simp at h
/-- seven cells of an expression make one in memory -/
theorem Ex.put {w w' : World} {x : Ex} {cs : Array Value} (h : x.Is w (.agg cs)) (hb : Below w.heap.size w w') {B o : Nat} (hc : ∀ i v, cs[i]? = some v → w'.cell? ⟨B, o + i, none⟩ = some v) : x.In w' B o := by
  have h' := Ex.Is_below hb h
  cases x with
  | mk k op m n t b ks =>
    unfold Ex.Is at h'
    obtain ⟨A, l, c, e, hl, hm, hs⟩ := h'
    injection e with e
    subst e
    unfold Ex.In
    refine ⟨hc 0 _ rfl, hc 1 _ rfl, hc 2 _ rfl, hc 3 _ rfl, hc 4 _ rfl, hc 5 _ rfl, A, l, c, hc 6 _ rfl, hl, hm, fun hp => ?_⟩
    obtain ⟨B', o', hA, hi⟩ := hs hp
    exact ⟨B', o', hA, Exs.In_of hi⟩
theorem bin_any (op : Int) (x y : Ex) (u v : Value) (w : World) (hx : x.Is w u) (hy : y.Is w v) : Calls Tryz.prog 22 #[.int .i64 op, u, v] w (Made (binE op x y) w) := by
  obtain ⟨cs, rfl⟩ : ∃ cs, u = .agg cs := by
    cases x; unfold Ex.Is at hx; obtain ⟨A, l, c, e, _⟩ := hx; exact ⟨_, e⟩
  obtain ⟨ds, rfl⟩ : ∃ cs, v = .agg cs := by
    cases y; unfold Ex.Is at hy; obtain ⟨A, l, c, e, _⟩ := hy; exact ⟨_, e⟩
  obtain ⟨a0, a1, a2, a3, a4, a5, a6, a7, a8, rfl, _⟩ := Ex.boxed hx 31
  obtain ⟨b0, b1, b2, b3, b4, b5, b6, b7, b8, rfl, _⟩ := Ex.boxed hy 31
  have X := Hd.mk hx
  have Y := Hd.mk hy
  clear hx hy
  go_enter Tryz.func22, Tryz.ntmps22
  go_wp2
  have hall := up (up (up (up (up0 w) (.cells #[.int .i64 a0, .int .i64 a1, .string a2, .string a3, .int .i64 a4, .int .u64 a5, .slice a6 a7 a8] 31 (0, 0))) (.cells #[.int .i64 b0, .int .i64 b1, .string b2, .string b3, .int .i64 b4, .int .u64 b5, .slice b6 b7 b8] 31 (0, 0))) (.cells #[.int .i64 7, .int .i64 op, .string ⟨#[]⟩, .string ⟨#[]⟩, .int .i64 0, .int .u64 0, .slice (some ⟨w.heap.size + 1 + 1 + 1, 0, none⟩) 2 2] 31 (0, 0))) (.cells #[.int .i64 a0, .int .i64 a1, .string a2, .string a3, .int .i64 a4, .int .u64 a5, .slice a6 a7 a8, .int .i64 b0, .int .i64 b1, .string b2, .string b3, .int .i64 b4, .int .u64 b5, .slice b6 b7 b8] 31 (0, 0))
  refine bodyPost_ret (v := .agg #[.int .i64 7, .int .i64 op, .string ⟨#[]⟩, .string ⟨#[]⟩, .int .i64 0, .int .u64 0, .slice (some ⟨w.heap.size + 1 + 1 + 1, 0, none⟩) 2 2]) (by simp [results, Tryz.results22, go_sem]) rfl ⟨_, rfl, ?_, hall⟩
  have hn := fun i => new_cell (((w.alloc (.cells #[.int .i64 a0, .int .i64 a1, .string a2, .string a3, .int .i64 a4, .int .u64 a5, .slice a6 a7 a8] 31 (0, 0))).alloc (.cells #[.int .i64 b0, .int .i64 b1, .string b2, .string b3, .int .i64 b4, .int .u64 b5, .slice b6 b7 b8] 31 (0, 0))).alloc (.cells #[.int .i64 7, .int .i64 op, .string ⟨#[]⟩, .string ⟨#[]⟩, .int .i64 0, .int .u64 0, .slice (some ⟨w.heap.size + 1 + 1 + 1, 0, none⟩) 2 2] 31 (0, 0))) #[.int .i64 a0, .int .i64 a1, .string a2, .string a3, .int .i64 a4, .int .u64 a5, .slice a6 a7 a8, .int .i64 b0, .int .i64 b1, .string b2, .string b3, .int .i64 b4, .int .u64 b5, .slice b6 b7 b8] 31 i
  have e3 : (((w.alloc (.cells #[.int .i64 a0, .int .i64 a1, .string a2, .string a3, .int .i64 a4, .int .u64 a5, .slice a6 a7 a8] 31 (0, 0))).alloc (.cells #[.int .i64 b0, .int .i64 b1, .string b2, .string b3, .int .i64 b4, .int .u64 b5, .slice b6 b7 b8] 31 (0, 0))).alloc (.cells #[.int .i64 7, .int .i64 op, .string ⟨#[]⟩, .string ⟨#[]⟩, .int .i64 0, .int .u64 0, .slice (some ⟨w.heap.size + 1 + 1 + 1, 0, none⟩) 2 2] 31 (0, 0))).heap.size = w.heap.size + 1 + 1 + 1 := by simp
  rw [e3] at hn
  unfold binE Ex.Is
  refine ⟨_, _, _, rfl, rfl, by omega, fun _ => ⟨_, _, rfl, fun i z hz => ?_⟩⟩
  match i, hz with
  | 0, hz =>
    simp only [Exs.toList, List.getElem?_cons_zero, Option.some.injEq] at hz
    subst hz
    refine Ex.put X.out hall fun i v hv => ?_
    rw [show 0 + 0 * 7 + i = i by omega, hn]
    exact get_left hv
  | 1, hz =>
    simp only [Exs.toList, List.getElem?_cons_zero, List.getElem?_cons_succ, Option.some.injEq] at hz
    subst hz
    refine Ex.put Y.out hall fun i v hv => ?_
    rw [show 0 + 1 * 7 + i = 7 + i by omega, hn]
    exact get_right hv
  | n + 2, hz => simp [Exs.toList] at hz
end Go.Proofs.YtbhgpegcdiohlaaGreatDoor.Tr
