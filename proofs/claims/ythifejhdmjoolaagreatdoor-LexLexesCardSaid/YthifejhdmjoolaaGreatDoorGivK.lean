/-
  What the rows' listed variables give the walks (LaidOk): the sentinels, optimize, float32info, float64info: the blocks as they lie.
-/
import Derived.Test.YthifejhdmjoolaaGreatDoorGiv
import Derived.LaidMore
import Derived.ChangeArms
import Derived.Stop.LaidErr
namespace Go.Proofs.YthifejhdmjoolaaGreatDoorG
open Go Go.RowKit
set_option linter.unusedVariables false
set_option linter.unusedSimpArgs false

structure LaidOk (w : World) : Prop where
  syn : ∃ tp p, w.var? Tryz.prog "strconv.ErrSyntax" = some #[.iface tp p]
  rng : ∃ tp p, w.var? Tryz.prog "strconv.ErrRange" = some #[.iface tp p]
  h4 : ∃ t, w.heap[4]? = some (.cells #[.bool true] t (0, 0))
  h5 : ∃ t, w.heap[5]? = some (.cells #[.int .u64 23, .int .u64 8, .int .i64 (-127)] t (0, 0))
  h6 : ∃ t, w.heap[6]? = some (.cells #[.int .u64 52, .int .u64 11, .int .i64 (-1023)] t (0, 0))

theorem gsyn : Tryz.prog.globalNamed "strconv.ErrSyntax" = some 2 := by kernel_rfl
theorem grng : Tryz.prog.globalNamed "strconv.ErrRange" = some 3 := by kernel_rfl
theorem gopt : Tryz.prog.globalNamed "internal/strconv.optimize" = some 4 := by kernel_rfl
theorem ginf32 : Tryz.prog.globalNamed "internal/strconv.float32info" = some 5 := by kernel_rfl
theorem ginf64 : Tryz.prog.globalNamed "internal/strconv.float64info" = some 6 := by kernel_rfl

theorem var_lt {P : Program} {W : World} {n : String} {g : Nat} {cs : Array Value} (hg : P.globalNamed n = some g) (h : W.var? P n = some cs) : g < W.heap.size := by
  unfold World.var? at h
  simp only [hg, Option.bind_some] at h
  rcases Nat.lt_or_ge g W.heap.size with h' | h'
  · exact h'
  · simp [Array.getElem?_eq_none h'] at h
theorem heap_lt {W : World} {g : Nat} {o : Obj} (h : W.heap[g]? = some o) : g < W.heap.size := by
  rcases Nat.lt_or_ge g W.heap.size with h' | h'
  · exact h'
  · simp [Array.getElem?_eq_none h'] at h
theorem LaidOk.below {w w' : World} (h : Below w.heap.size w w') (L : LaidOk w) : LaidOk w' := by
  obtain ⟨⟨t2, p2, h2⟩, ⟨t3, p3, h3⟩, ⟨t4, h4⟩, ⟨t5, h5⟩, ⟨t6, h6⟩⟩ := L
  refine ⟨⟨t2, p2, var?_below h gsyn (var_lt gsyn h2) h2⟩, ⟨t3, p3, var?_below h grng (var_lt grng h3) h3⟩, ⟨t4, ?_⟩, ⟨t5, ?_⟩, ⟨t6, ?_⟩⟩
  · rw [h.block _ (heap_lt h4)]; exact h4
  · rw [h.block _ (heap_lt h5)]; exact h5
  · rw [h.block _ (heap_lt h6)]; exact h6

theorem cell_of_heap {W : World} {g : Nat} {cs : Array Value} {t : TypeId} {fr : Nat × Nat} (h : W.heap[g]? = some (.cells cs t fr)) (i : Nat) : W.cell? ⟨g, i, none⟩ = cs[i]? := by
  simp [World.cell?, h]

theorem LaidOk.g6 {w : World} (L : LaidOk w) : w.cell? ⟨6, 0, none⟩ = some (.int .u64 52) ∧ w.cell? ⟨6, 1, none⟩ = some (.int .u64 11) ∧ w.cell? ⟨6, 2, none⟩ = some (.int .i64 (-1023)) := by
  obtain ⟨t, h⟩ := L.h6
  exact ⟨cell_of_heap h 0, cell_of_heap h 1, cell_of_heap h 2⟩
theorem LaidOk.g4 {w : World} (L : LaidOk w) : w.cell? ⟨4, 0, none⟩ = some (.bool true) := by
  obtain ⟨t, h⟩ := L.h4
  exact cell_of_heap h 0

/-- A listed variable's block, as it lies. -/
theorem laid_block {P : Program} {W : World} {name : String} {d : DataW Unit} {rest : List (String × DataW Unit)} {g : Nat} (hg : P.globalNamed name = some g) (h : laidMet P ((name, d) :: rest) W) :
    ∃ cs t fuel p, (P.globals[g]?).map (·.type) = some t ∧ DataW.trod (fun _ => ()) P W 0 (fun _ => true) false fuel t cs.toList = some (d, p) ∧ (0 < cs.size → ∃ t', W.heap[g]? = some (.cells cs t' (0, 0))) := by
  obtain ⟨ps, ⟨g', t', cs, fuel, p, q, hg', ht', hvar, hd, _, e⟩, _, hall⟩ := h
  obtain rfl := Option.some.inj (hg.symm.trans hg')
  refine ⟨cs, t', fuel, p, ht', hd, fun h0 => ?_⟩
  obtain ⟨⟨c, t2, hc⟩, _⟩ := hall g 0 (by
    rw [e]
    apply List.mem_append_left
    apply List.mem_append_left
    unfold MemPlace.row
    exact List.mem_map.2 ⟨0, List.mem_range.2 h0, rfl⟩)
  unfold World.var? at hvar
  simp only [hg, Option.bind_some, hc] at hvar
  obtain rfl := Option.some.inj hvar
  exact ⟨t2, hc⟩
end Go.Proofs.YthifejhdmjoolaaGreatDoorG
