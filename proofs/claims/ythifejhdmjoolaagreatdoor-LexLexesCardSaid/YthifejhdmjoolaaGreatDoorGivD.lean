/-
  floats.digits walked by hand: are a text's bytes digits, one at least?
-/
import Derived.Test.YthifejhdmjoolaaGreatDoorGivB
import Derived.Lib.ConvBytes
import Derived.Lib.SmallJoins
namespace Go.Proofs.YthifejhdmjoolaaGreatDoorG
open Go Go.RowKit
set_option linter.unusedVariables false
set_option linter.unusedSimpArgs false

def dgB (c : UInt8) : Bool := decide (48 ≤ c.toNat ∧ c.toNat ≤ 57)
def digsB (l : List UInt8) : Bool := l.all dgB
def neB (s : ByteArray) : Bool := decide (s.size ≠ 0)
def digitsB (s : ByteArray) : Bool := digsB s.data.toList && neB s

theorem digs_take (l : List UInt8) (k : Nat) (h : k < l.length) : digsB (l.take (k + 1)) = (digsB (l.take k) && dgB (l.getD k 0)) := by
  unfold digsB
  rw [List.take_succ_eq_append_getElem h, List.all_append, List.getD_eq_getElem?_getD, List.getElem?_eq_getElem h]
  simp
theorem digs_bad (l : List UInt8) (k : Nat) (h : k < l.length) (hb : dgB (l.getD k 0) = false) : digsB l = false := by
  unfold digsB
  rw [List.all_eq_false]
  refine ⟨l[k], List.getElem_mem h, ?_⟩
  rw [List.getD_eq_getElem?_getD, List.getElem?_eq_getElem h] at hb
  simpa using hb

theorem below_bytes (w : World) (e : TypeId) (s : ByteArray) : Below w.heap.size w (Lib.bytesWorld w e s) :=
  ⟨rfl, rfl, rfl, by rw [Lib.bytesWorld_size]; omega, fun i hi => Lib.bytesWorld_at_old w e s i (by omega)⟩

set_option maxHeartbeats 400000 in
theorem digits_any (s : ByteArray) (hs : s.size ≤ 140737488355328) (w : World) :
    Calls Tryz.prog 44 #[.string s] w fun e w' => e = .returned (.bool (digitsB s)) ∧ Below w.heap.size w w' := by
  have hcv := Lib.run_convert_string_bytes (P := Tryz.prog) w 9 82 5 s Tryz.underlying9 Tryz.underlying82 Tryz.underlying5
  have hcell : ∀ j, j < s.size → (Lib.bytesWorld w 5 s).cell? ⟨w.heap.size, j, none⟩ = some (.int .u8 (s.data.toList.getD j 0).toNat) := fun j hj => Lib.bytesWorld_cell w 5 s j hj
  have HB : Hid (Below w.heap.size w (Lib.bytesWorld w 5 s)) := below_bytes w 5 s
  obtain ⟨W1, hW1⟩ : ∃ W1, W1 = Lib.bytesWorld w 5 s := ⟨_, rfl⟩
  rw [← hW1] at hcv hcell HB
  clear hW1
  have hlen : s.data.toList.length = s.size := by simp
  have hne : (s.toList.isEmpty) = decide (s.size = 0) := by
    rw [ByteArray.toList_eq, ← hlen]; cases s.data.toList <;> simp
  unfold digitsB
  generalize hL : s.data.toList = l at hcell hlen ⊢
  generalize grownCap w s.size 0 5 = cap at hcv
  have HN : Hid _ := hne
  have HLen : Hid _ := hlen
  clear hne hlen hL
  go_enter Tryz.func44, Tryz.ntmps44
  go_wp2
  go_loop [8] (fun vi => ∃ k : Nat, vi = .int .i64 k ∧ k ≤ s.size ∧ Hid (digsB (l.take k) = true)) (fun vi => s.size - (intOf vi).toNat)
  case atStart => exact ⟨0, rfl, by omega, (rfl : digsB (l.take 0) = true)⟩
  case round =>
    obtain ⟨k, rfl, hk, HK⟩ := hrel
    by_cases hlt : k < s.size
    · have hc := hcell k hlt
      have hT := digs_take l k (by rw [HLen.out]; exact hlt)
      have hbad := digs_bad l k (by rw [HLen.out]; exact hlt)
      generalize l.getD k 0 = c at hc hT hbad
      have hc256 : c.toNat < 256 := c.toNat_lt
      have HT : Hid _ := hT
      have HBad : Hid _ := hbad
      clear hcell hT hbad
      by_cases c1 : (c.toNat : Int) < 48
      · have e1 : digsB l = false := HBad.out (by unfold dgB; rw [decide_eq_false]; omega)
        have E1 : Hid _ := e1
        clear e1
        go_wp2
        go_ret
        exact ⟨by rw [E1.out]; rfl, HB.out⟩
      · by_cases c2 : 57 < (c.toNat : Int)
        · have e1 : digsB l = false := HBad.out (by unfold dgB; rw [decide_eq_false]; omega)
          have E1 : Hid _ := e1
          clear e1
          go_wp2
          go_ret
          exact ⟨by rw [E1.out]; rfl, HB.out⟩
        · have HK2 : Hid (digsB (l.take (k + 1)) = true) := by
            show _ = _
            rw [HT.out, HK.out]
            unfold dgB
            rw [decide_eq_true (by omega)]
            rfl
          go_wp2
          go_round
          case rel => exact ⟨k + 1, by go_num, by omega, HK2⟩
          case measure => simp [intOf]; omega
    · have e1 : digsB l = true := by have := HK.out; rwa [List.take_of_length_le (by rw [HLen.out]; omega)] at this
      have HR : Hid ((!s.toList.isEmpty) = (digsB l && neB s)) := by
        show _ = _
        rw [HN.out, e1]
        unfold neB
        by_cases c : s.size = 0
        · rw [decide_eq_true c, decide_eq_false (by omega)]; rfl
        · rw [decide_eq_false c, decide_eq_true c]; rfl
      clear e1
      go_wp2
      go_ret
      exact ⟨congrArg (fun b => Ending.returned (.bool b)) HR.out, HB.out⟩
end Go.Proofs.YthifejhdmjoolaaGreatDoorG
