import Derived.Test.YtbhgpegcdiohlaaGreatDoorLvK
namespace Go.Proofs.YtbhgpegcdiohlaaGreatDoor.Tr
open Go Go.RowKit Go.Proofs
set_option linter.unusedVariables false
set_option maxRecDepth 100000
set_option maxHeartbeats 2000000
theorem empty_app (s : ByteArray) : (⟨#[]⟩ : ByteArray) ++ s = s := ByteArray.ext (by simp)
def Wrote (B b : Nat) (bs : List Value) (w : World) (e : Ending) (w' : World) : Prop := e = .returned (.tuple #[]) ∧ Lib.BuilderAt 72 5 B b (.pointer (some ⟨b, 0, none⟩)) bs w' ∧ Below B w w'
theorem line_any (B b : Nat) (bs : List Value) (s : ByteArray) (w : World) (h : Lib.IsBuilder 72 5 B b bs w) (hlen : bs.length + s.size ≤ 1000) (hBw : B ≤ w.heap.size) :
    Calls Tryz.prog 46 #[.pointer (some ⟨b, 0, none⟩), .int .i64 0, .string s] w (Wrote B b (bs ++ Lib.strCells (s ++ ⟨#[10]⟩)) w) := by
  have z1 : (9223372036854775807 < s.size + 1) = False := eq_false (by omega)
  have z0 : (9223372036854775807 < s.size) = False := eq_false (by omega)
  have hW : ∀ w', Lib.IsBuilder 72 5 B b bs w' → B ≤ w'.heap.size → Calls Tryz.prog 96 #[.pointer (some ⟨b, 0, none⟩), .string (⟨#[]⟩ ++ s ++ ⟨#[10]⟩)] w' fun e w'' => e = .returned (.tuple #[.int .i64 ((s ++ ⟨#[10]⟩ : ByteArray).size : Nat), .nilIface]) ∧ (Lib.BuilderAt 72 5 B b (.pointer (some ⟨b, 0, none⟩)) (bs ++ Lib.strCells (s ++ ⟨#[10]⟩)) w'' ∧ Below B w' w'') :=
    fun w' h1 h2 => by rw [empty_app]; exact write_string B b bs _ w' h1 (by rw [ByteArray.size_append]; have : (⟨#[10]⟩ : ByteArray).size = 1 := rfl; omega) h2
  have W := Hd.mk hW
  have hd : Lib.IsBuilder 72 5 B b bs w.drew := h
  have H := Hd.mk hd
  have hBd : B ≤ w.drew.heap.size := hBw
  have HB := Hd.mk hBd
  clear hW h hlen hd hBd
  go_enter Tryz.func46, Tryz.ntmps46
  go_wp2
  go_region_with (first
    | (go_at_call 97; (with_reducible refine ((repeat0 _).mono ?_)); (rintro e w1 ⟨rfl, rfl⟩))
    | (go_at_call 96; (with_reducible refine ((W.out _ H.out HB.out).mono ?_)); (rintro e w1 ⟨rfl, hb1, hb2⟩)))
  go_end0
  exact ⟨rfl, hb1, ((Below.refl _ _).drew).trans hb2⟩
theorem string_any (b g n cap cells : Nat) (p : Value) (l : List UInt8) (w : World) (hbk : w.heap[b]? = some (.cells #[p, .slice (some ⟨g, 0, none⟩) n cap] 72 (0, 0))) (hn : n = l.length) (h0 : l ≠ []) (hc : n ≤ cap) (hm : cap ≤ 9223372036854775807) (hsh : w.shape? g = some (5, cells)) (hcl : n ≤ cells)
    (hcell : ∀ j x, l[j]? = some x → w.cell? ((⟨g, 0, none⟩ : Addr).add j) = some (.int .u8 x.toNat)) :
    Calls Tryz.prog 49 #[.pointer (some ⟨b, 0, none⟩)] w fun e w' => e = .returned (.string ⟨l.toArray⟩) ∧ w' = w.drew.freeze ⟨g, 0, none⟩ l.length := by
  subst hn
  have hl0 : l.length ≠ 0 := by simpa using h0
  have c1 : w.drew.cell? ⟨b, 1, none⟩ = some (.slice (some ⟨g, 0, none⟩) l.length cap) := by
    have : w.drew.heap[b]? = some (.cells #[p, .slice (some ⟨g, 0, none⟩) l.length cap] 72 (0, 0)) := hbk
    rw [Lib.cell_of_heap this]; rfl
  have hSD : (Builtin.unsafeSliceData_ #[68] 133 #[.slice (some ⟨g, 0, none⟩) l.length cap]).run Tryz.prog w.drew = .ok (.pointer (some ⟨g, 0, none⟩)) w.drew :=
    Lib.run_unsafeSliceData_row _ _ _ _ _ _ (by omega)
  have hUS : (Builtin.unsafeString_ #[133, 3] 9 #[.pointer (some ⟨g, 0, none⟩), .int .i64 l.length]).run Tryz.prog w.drew = .ok (.string ⟨l.toArray⟩) (w.drew.freeze ⟨g, 0, none⟩ l.length) :=
    Lib.run_unsafeString_row w.drew 133 3 9 5 Tryz.underlying133 (by kernel_rfl) g cells hsh l h0 hcl (by omega) hcell
  clear hbk hcell hsh
  go_enter Tryz.func49, Tryz.ntmps49
  go_wp2
  go_region
  all_goals (go_wp2; go_ret; exact ⟨rfl, rfl⟩)
end Go.Proofs.YtbhgpegcdiohlaaGreatDoor.Tr
