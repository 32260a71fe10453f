import Derived.Test.YtbhgpegcdiohlaaGreatDoorLvB
namespace Go.Proofs.YtbhgpegcdiohlaaGreatDoor.Tr
open Go Go.RowKit Go.Proofs
set_option linter.unusedVariables false
set_option maxRecDepth 100000
set_option maxHeartbeats 400000
theorem catch_idle (p : Addr) (w : World) :
    CallsD Tryz.prog 77 #[.pointer (some p)] .returning w fun e u' w' => e = .returned (.tuple #[]) ∧ u' = .returning ∧ w' = w := by
  refine callsD_of_wpS Tryz.func77 rfl fun c₀ cs hu => ?_
  simp only [Tryz.ntmps77, List.size_toArray, List.length_cons, List.length_nil, Nat.reduceAdd, Nat.reduceSub, Array.replicate_succ, Array.replicate_zero, List.push_toArray, List.append_toArray, List.nil_append, List.cons_append]
  apply wpS_seq
  apply wpS_region
  simp [wpOpsS, go_sem, recoverD, hu, Exit.thenS]
  refine wpS_of_wp ?_
  go_wp2
  cases c₀
  simp_all [bodyPostS, results, Tryz.results77]
theorem assert_wrong (n : Int) (w : World) : (Instr.typeAssert (.iface 108 (.int .i64 n)) 20 108 true).run Tryz.prog w = .ok (.tuple #[.int .i64 n, .bool true]) w := by kernel_rfl
theorem catch_panicking (p : Addr) (w : World) (n x : Int) (hc : w.cell? p = some (.int .i64 x)) (hz : w.frozen? p = false) :
    CallsD Tryz.prog 77 #[.pointer (some p)] (.panicking [{ v := .iface 108 (.int .i64 n), recovered := false }]) w fun e u' w' => e = .returned (.tuple #[]) ∧ u' = .panicking [{ v := .iface 108 (.int .i64 n), recovered := true }] ∧ w' = w.setCell p (.int .i64 n) := by
  have hta := fun w => assert_wrong n w
  refine callsD_of_wpS Tryz.func77 rfl fun c₀ cs hu => ?_
  simp only [Tryz.ntmps77, List.size_toArray, List.length_cons, List.length_nil, Nat.reduceAdd, Nat.reduceSub, Array.replicate_succ, Array.replicate_zero, List.push_toArray, List.append_toArray, List.nil_append, List.cons_append]
  apply wpS_seq
  apply wpS_region
  simp [wpOpsS, go_sem, recoverD, hu, Exit.thenS]
  refine wpS_of_wp ?_
  go_wp2
  cases c₀
  simp_all [bodyPostS, results, Tryz.results77]
theorem bbox1 {W w1 : World} {B : Nat} {t : TypeId} {v : Value} (hb : Below W.heap.size W w1) (h : W.heap[B]? = some (.cells #[v] t (0, 0))) : w1.cell? ⟨B, 0, none⟩ = some v ∧ w1.frozen? ⟨B, 0, none⟩ = false := by
  have h' : w1.heap[B]? = some (.cells #[v] t (0, 0)) := (hb.block B (Array.getElem?_eq_some_iff.1 h).1).trans h
  exact ⟨by rw [cell_of_row w1 B 0 _ t (0, 0) h']; rfl, by simp [World.frozen?, h']⟩
theorem caught_ok (b : Nat) (w : World) (hK : ∀ w1, Below w.heap.size w w1 → Calls Tryz.prog 40 #[.pointer (some ⟨b, 0, none⟩)] w1 (SaysU w1)) :
    Calls Tryz.prog 32 #[.func (.func 40) #[] #[.pointer (some ⟨b, 0, none⟩)]] w (SaysI 0 w) := by
  have hmf : ∀ (fn : Fn) (first cap : Array Value) (w : World), (Instr.makeFunc fn first cap).run Tryz.prog w = .ok (.func fn first cap) w := fun _ _ _ _ => rfl
  have HK := Hd.mk hK
  clear hK
  go_enter_defers Tryz.func32, Tryz.ntmps32
  go_wp2_with (go_at_call 40; (refine (HK.out _ (up (up0 _) _)).mono ?_); (rintro e w2 ⟨rfl, hb2⟩; have HB2 := Hd.mk hb2; obtain ⟨hc2, hz2⟩ := bbox1 hb2 (heap_alloc_new _ _); clear hb2))
  refine leaves_cons (f := 77) (args := #[.pointer (some ⟨w.heap.size, 0, none⟩)]) (by simp) (by simp [go_sem]) ?_
  refine (catch_idle ⟨w.heap.size, 0, none⟩ _).mono ?_
  rintro e u' w'' ⟨rfl, rfl, rfl⟩
  have hset : (w2.setCell ⟨w.heap.size, 0, none⟩ (.int .i64 0)).cell? ⟨w.heap.size, 0, none⟩ = some (.int .i64 0) := World.cell?_setCell_same _ _ _ hc2
  simp [Leaves, settle, results, Tryz.results32, go_sem, hset, SaysI]
  exact (step (up (up0 _) _) HB2.out).setCell (Nat.le_refl _) _
theorem caught_no (b : Nat) (n : Int) (w : World) (hK : ∀ w1, Below w.heap.size w w1 → Calls Tryz.prog 40 #[.pointer (some ⟨b, 0, none⟩)] w1 (Fails n w1)) :
    Calls Tryz.prog 32 #[.func (.func 40) #[] #[.pointer (some ⟨b, 0, none⟩)]] w (SaysI n w) := by
  have hmf : ∀ (fn : Fn) (first cap : Array Value) (w : World), (Instr.makeFunc fn first cap).run Tryz.prog w = .ok (.func fn first cap) w := fun _ _ _ _ => rfl
  have HK := Hd.mk hK
  clear hK
  go_enter_defers Tryz.func32, Tryz.ntmps32
  go_wp2_with (go_at_call 40; (refine (HK.out _ (up (up0 _) _)).mono ?_); (rintro e w2 ⟨rfl, hb2⟩; have HB2 := Hd.mk hb2; obtain ⟨hc2, hz2⟩ := bbox1 hb2 (heap_alloc_new _ _); clear hb2))
  refine leaves_cons (f := 77) (args := #[.pointer (some ⟨w.heap.size, 0, none⟩)]) (by simp) (by simp [go_sem]) ?_
  refine (catch_panicking ⟨w.heap.size, 0, none⟩ _ n 0 hc2 hz2).mono ?_
  rintro e u' w'' ⟨rfl, rfl, rfl⟩
  have hset : (w2.setCell ⟨w.heap.size, 0, none⟩ (.int .i64 n)).cell? ⟨w.heap.size, 0, none⟩ = some (.int .i64 n) := World.cell?_setCell_same _ _ _ hc2
  simp [Leaves, settle, results, Tryz.results32, go_sem, hset, SaysI]
  exact (step (up (up0 _) _) HB2.out).setCell (Nat.le_refl _) _
end Go.Proofs.YtbhgpegcdiohlaaGreatDoor.Tr
