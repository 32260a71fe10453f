import Derived.Test.YtbhgpegcdiohlaaGreatDoorRfB
import Derived.SizedLaws
namespace Go.Proofs.YtbhgpegcdiohlaaGreatDoor.Tr
open Go Go.ChangeShapes Go.WideShapes Go.RowKit Go.Proofs
set_option linter.unusedVariables false
set_option maxRecDepth 100000
set_option maxHeartbeats 1000000
section
variable {H : Type} {enc : TypeId × Value → H} {w : World} {base : Nat} {spare : Nat → Bool} {held : Bool}
theorem bytes47 : Tryz.prog.bytesOf 47 = 112 := by kernel_rfl
/-- a module's declarations are no more than memory holds -/
theorem module_sized {fuel : Nat} {cs : List Value} {x : DataW H × List MemPlace} (h : DataW.trod enc Tryz.prog w base spare held fuel 25 cs = some x) (hw : ∀ n ∈ x.1.weights Tryz.prog 25, n ≤ reachBytes) (y : Mo) (hy : y.Is w (.agg cs.toArray)) : y.ds.length * 112 ≤ 140737488351232 := by
  obtain ⟨fs, hu, hf⟩ := fields_of (t := 25) (l := [(9, 0), (22, 1), (23, 2)]) (by kernel_rfl)
  obtain ⟨xs, n, hn, hx, hl, hlen, hF⟩ := DataW.trod_struct hu h
  have hfl : fs.toList.length = 3 := by rw [← List.length_map (f := fun f : Field => (f.type, f.offset)), hf]; rfl
  rw [c25] at hl
  match cs, hl with
  | [c0, c1, c2], _ =>
  obtain ⟨A, l, c, A', l', c', hv, s1, s2⟩ := hy
  injection hv with hv
  simp only [Array.mk.injEq, List.cons.injEq, and_true] at hv
  obtain ⟨rfl, rfl, rfl⟩ := hv
  have h2 : (fs.toList.map fun f => (f.type, f.offset))[2]? = some (23, 2) := by rw [hf]; rfl
  rw [List.getElem?_map] at h2
  obtain ⟨f, hfi, hfe⟩ := Option.map_eq_some_iff.1 h2
  simp only [Prod.mk.injEq] at hfe
  have hfi' : fs[2]? = some f := by rw [← Array.getElem?_toList]; exact hfi
  have g2 := hF 2 f hfi'
  rw [hfe.1, hfe.2, c23] at g2
  have hlt : 2 < xs.length := by rw [hlen, ← Array.length_toList, hfl]; decide
  rw [List.getElem?_eq_getElem hlt] at g2
  have g3 : DataW.trod enc Tryz.prog w base spare held n 23 [.slice A' l' c'] = some xs[2] := g2
  rw [← s2.1]
  rcases DataW.trod_slice Tryz.underlying23 g3 with ⟨hc, _⟩ | ⟨a, len, cap, elems, rest, n', hn', hc, hx2, hb, hlc, hm, hlen2, hi, _, _⟩
  · simp only [List.cons.injEq, and_true, Value.slice.injEq] at hc
    omega
  · simp only [List.cons.injEq, and_true, Value.slice.injEq] at hc
    obtain ⟨rfl, rfl, rfl⟩ := hc
    have hx3 : x.1 = .agg (xs.map (·.1)) := by rw [hx]
    have hwe : (DataW.weightsEach Tryz.prog (fs.toList.map (·.type)) (xs.map (·.1))).all (· ≤ reachBytes) = true := by
      rw [List.all_eq_true]
      intro n hn
      refine decide_eq_true (hw n ?_)
      rw [hx3, DataW.weights, hu]
      exact hn
    have key := sized_slice hwe (j := 2) (t := 23) (e := 47) (elems := elems.map (·.1)) (spare := rest.map (·.1)) (by rw [List.getElem?_map, hfi]; exact congrArg some hfe.1) (by rw [List.getElem?_map, List.getElem?_eq_getElem hlt, hx2]; rfl) Tryz.underlying23
    rw [bytes47] at key
    have hrb : reachBytes = 140737488351232 := by decide
    simp only [List.length_map] at key
    rw [hrb] at key
    have := Nat.mul_le_mul_right 112 (Nat.le_add_right elems.length rest.length)
    omega
theorem module_reach {ts : List TypeId} {ds : List (DataW H)} {d : DataW H} {ps : List MemPlace} {fuel : Nat} {cs : List Value} (hz : (DataW.weightsEach Tryz.prog (25 :: ts) (d :: ds)).all (· ≤ reachBytes) = true) (h : DataW.trod enc Tryz.prog w base spare held fuel 25 cs = some (d, ps)) (y : Mo) (hy : y.Is w (.agg cs.toArray)) : y.ds.length * 112 ≤ 140737488351232 :=
  module_sized h (fun n hn => of_decide_eq_true (List.all_eq_true.1 hz n (DataW.weights_mem_each (j := 0) rfl rfl n hn))) y hy
end
end Go.Proofs.YtbhgpegcdiohlaaGreatDoor.Tr
