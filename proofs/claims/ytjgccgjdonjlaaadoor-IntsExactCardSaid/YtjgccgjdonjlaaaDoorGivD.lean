/-
  ints.digits walked by hand: it comes to a plain function of its text.
-/
import Derived.Test.YtjgccgjdonjlaaaDoorGiv
namespace Go.Proofs.YtjgccgjdonjlaaaDoorG
open Go Go.RowKit Go.Shelf
set_option linter.unusedVariables false
set_option linter.unusedSimpArgs false

/-- the first byte that is no digit, from place i on -/
def bad : List UInt8 → Nat → Option Nat
  | [], _ => none
  | c :: r, i => if 48 ≤ c.toNat ∧ c.toNat ≤ 57 then bad r (i + 1) else some i

/-- what ints.digits answers behind the look at the bytes -/
def digitsTail (l : List UInt8) : Int × Int × Int :=
  match Lib.parseUintB 64 l with
  | .ok u => (u, 0, 0)
  | _ => (0, 0, 80)

def ints_digits.f (s : ByteArray) : Option (Int × Int × Int) :=
  if s.size ≤ 140737488355328 then
    (if s.size = 0 then some (0, 0, 10)
     else match bad s.data.toList 0 with
      | some i => some (0, i, 10)
      | none => if 1 < s.size ∧ s.data.toList.getD 0 0 = 48 then some (0, 0, 10) else some (digitsTail s.data.toList))
  else none

theorem below_bytes (w : World) (e : TypeId) (s : ByteArray) : Below w.heap.size w (Lib.bytesWorld w e s) := by
  exact ⟨rfl, rfl, rfl, by rw [Lib.bytesWorld_size]; omega, fun i hi => Lib.bytesWorld_at_old w e s i (by omega)⟩

theorem parse_ok (s : ByteArray) (hs : s.size ≤ 140737488355328) (u : Nat) (h : Lib.parseUintB 64 s.data.toList = .ok u) (w : World) :
    Calls Tryd.prog 42 #[.string s, .int .i64 10, .int .i64 64] w fun e w' => e = .returned (.tuple #[.int .u64 u, .nilIface]) ∧ Below w.heap.size w w' := by
  refine (Tryd.strconv_ParseUint_10_at64_ok s (by omega) u h w).mono ?_
  rintro e w' ⟨rfl, rfl | rfl⟩
  · exact ⟨rfl, Below.refl _ _⟩
  · exact ⟨rfl, below_bytes w 5 s⟩

theorem parse_no (s : ByteArray) (hs : s.size ≤ 140737488355328) (h : ∀ u, Lib.parseUintB 64 s.data.toList ≠ .ok u) (w : World) (L : LaidOk w) :
    Calls Tryd.prog 42 #[.string s, .int .i64 10, .int .i64 64] w fun e w' => ∃ v q, e = .returned (.tuple #[.int .u64 v, .iface 63 (.pointer (some q))]) ∧ Below w.heap.size w w' := by
  cases hp : Lib.parseUintB 64 s.data.toList with
  | ok u => exact absurd hp (h u)
  | range =>
    obtain ⟨tp, p, hv⟩ := L.rng
    refine (Any.strconv_ParseUint_10_at64_range_var Tryd.laysPu14 s (by omega) hp tp p w hv).mono ?_
    rintro e w' ⟨N, rfl, _, _, hb⟩
    exact ⟨_, _, rfl, hb⟩
  | _ =>
    obtain ⟨tp, p, hv⟩ := L.syn
    refine (Any.strconv_ParseUint_10_at64_syntax_var Tryd.laysPu14 s (by omega) hp tp p w hv).mono ?_
    rintro e w' ⟨N, rfl, _, _, hb⟩
    exact ⟨_, _, rfl, hb⟩

theorem drop_cons (s : ByteArray) (i : Nat) (h : i < s.size) : s.data.toList.drop i = s[i] :: s.data.toList.drop (i + 1) := by
  rw [List.drop_eq_getElem_cons (by simpa using h)]; rfl

set_option maxHeartbeats 400000 in
theorem digits_empty (w : World) : Calls Tryd.prog 37 #[.string ⟨#[]⟩] w fun e w' => e = .returned (.tuple #[.int .u64 0, .int .i64 0, .int .i64 10]) ∧ Below w.heap.size w w' := by
  go_enter Tryd.func37, Tryd.ntmps37
  go_wp2
  go_ret3
  exact ⟨rfl, Below.refl _ _⟩

set_option maxHeartbeats 400000 in
theorem digits_bad (a0 : ByteArray) (hs : a0.size ≤ 140737488355328) (hn : 0 < a0.size) (i : Nat) (hb : bad a0.data.toList 0 = some i) (w : World) :
    Calls Tryd.prog 37 #[.string a0] w fun e w' => e = .returned (.tuple #[.int .u64 0, .int .i64 i, .int .i64 10]) ∧ Below w.heap.size w w' := by
  have HB : Hid (bad a0.data.toList 0 = some i) := hb
  clear hb
  have he : a0.toList.isEmpty = false := by rw [ByteArray.toList_eq]; cases h : a0.data.toList with
    | nil => exfalso; have : a0.data.toList.length = 0 := by rw [h]; rfl
             simp at this; have : a0.size = a0.data.size := rfl; simp_all
    | cons => rfl
  go_enter Tryd.func37, Tryd.ntmps37
  go_wp2
  go_loopw [5] (fun _ w' => ∃ pos, w' = w.iter a0 pos ∧ pos ≤ a0.size ∧ Hid (bad (a0.data.toList.drop pos) pos = some i)) (fun _ w' => a0.size - w'.iterPos w.heap.size)
  case atStart => exact ⟨0, rfl, by omega, by simpa using HB⟩
  case round =>
    obtain ⟨pos, rfl, hp, HR⟩ := hrel
    by_cases hlt : pos < a0.size
    · have hnx : ∀ ty, (Instr.next (.pointer (some ⟨w.heap.size, 0, none⟩)) true ty).run Tryd.prog (w.iter a0 pos) = _ := fun ty => run_next_any w a0 pos ty hlt
      have HR2 : Hid ((if 48 ≤ a0[pos].toNat ∧ a0[pos].toNat ≤ 57 then bad (a0.data.toList.drop (pos + 1)) (pos + 1) else some pos) = some i) := by
        have := HR.out; rw [drop_cons a0 pos hlt] at this; exact this
      clear HR
      by_cases c1 : (a0[pos].toNat : Int) < 48
      · have e1 : pos = i := by have := HR2.out; rw [if_neg (by omega)] at this; exact Option.some.inj this
        clear HR2
        subst e1
        go_wp2
        go_ret3
        exact ⟨rfl, (Below.refl _ _).alloc (Nat.le_refl _) _⟩
      · by_cases c2 : 57 < (a0[pos].toNat : Int)
        · have e1 : pos = i := by have := HR2.out; rw [if_neg (by omega)] at this; exact Option.some.inj this
          clear HR2
          subst e1
          go_wp2
          go_ret3
          exact ⟨rfl, (Below.refl _ _).alloc (Nat.le_refl _) _⟩
        · have e1 : bad (a0.data.toList.drop (pos + 1)) (pos + 1) = some i := by have := HR2.out; rw [if_pos (by omega)] at this; exact this
          have HR3 : Hid (bad (a0.data.toList.drop (pos + 1)) (pos + 1) = some i) := e1
          have hd := decode_ascii a0 pos hlt (by omega)
          clear HR2 e1
          go_wp2
          go_roundw
          case rel => exact ⟨pos + 1, rfl, by omega, HR3⟩
          case measure => simp [hd]; omega
    · exfalso
      have : pos = a0.size := by omega
      subst this
      have := HR.out
      rw [List.drop_eq_nil_of_le (by simp)] at this
      cases this

set_option maxHeartbeats 1000000 in
theorem digits_good (a0 : ByteArray) (hs : a0.size ≤ 140737488355328) (hn : 0 < a0.size) (hb : bad a0.data.toList 0 = none) (r1 r2 r3 : Int)
    (hr : (if 1 < a0.size ∧ a0.data.toList.getD 0 0 = 48 then (0, 0, 10) else digitsTail a0.data.toList) = (r1, r2, r3)) (w : World) (hL : LaidOk w) :
    Calls Tryd.prog 37 #[.string a0] w fun e w' => e = .returned (.tuple #[.int .u64 r1, .int .i64 r2, .int .i64 r3]) ∧ Below w.heap.size w w' := by
  have HB : Hid (bad a0.data.toList 0 = none) := hb
  have HR : Hid ((if 1 < a0.size ∧ a0.data.toList.getD 0 0 = 48 then (0, 0, 10) else digitsTail a0.data.toList) = (r1, r2, r3)) := hr
  have HL : Hid (LaidOk w) := hL
  clear hb hr hL
  have he : a0.toList.isEmpty = false := by rw [ByteArray.toList_eq]; cases h : a0.data.toList with
    | nil => exfalso; have : a0.data.toList.length = 0 := by rw [h]; rfl
             simp at this; have : a0.size = a0.data.size := rfl; simp_all
    | cons => rfl
  go_enter Tryd.func37, Tryd.ntmps37
  go_wp2
  go_loopw [5] (fun _ w' => ∃ pos, w' = w.iter a0 pos ∧ pos ≤ a0.size ∧ Hid (bad (a0.data.toList.drop pos) pos = none)) (fun _ w' => a0.size - w'.iterPos w.heap.size)
  case atStart => exact ⟨0, rfl, by omega, by simpa using HB⟩
  case round =>
    obtain ⟨pos, rfl, hp, HR1⟩ := hrel
    by_cases hlt : pos < a0.size
    · have hnx : ∀ ty, (Instr.next (.pointer (some ⟨w.heap.size, 0, none⟩)) true ty).run Tryd.prog (w.iter a0 pos) = _ := fun ty => run_next_any w a0 pos ty hlt
      have h0 := HR1.out
      rw [drop_cons a0 pos hlt] at h0
      unfold bad at h0
      split at h0
      · rename_i hc
        have HR3 : Hid (bad (a0.data.toList.drop (pos + 1)) (pos + 1) = none) := h0
        have c1 : ¬ (a0[pos].toNat : Int) < 48 := by omega
        have c2 : ¬ 57 < (a0[pos].toNat : Int) := by omega
        have hd := decode_ascii a0 pos hlt (by omega)
        clear HR1 h0 hc
        go_wp2
        go_roundw
        case rel => exact ⟨pos + 1, rfl, by omega, HR3⟩
        case measure => simp [hd]; omega
      · cases h0
    · have hnx : ∀ ty, (Instr.next (.pointer (some ⟨w.heap.size, 0, none⟩)) true ty).run Tryd.prog (w.iter a0 pos) = _ := fun ty => run_next_end w a0 pos ty hlt
      have HLW : Hid (LaidOk (w.iter a0 pos)) := LaidOk.below ((Below.refl _ _).alloc (Nat.le_refl _) _) HL.out
      by_cases c1 : 1 < a0.size ∧ a0.data.toList.getD 0 0 = 48
      · have h0 := HR.out
        rw [if_pos c1] at h0
        simp only [Prod.mk.injEq] at h0
        obtain ⟨rfl, rfl, rfl⟩ := h0
        clear HR
        obtain ⟨c1, c2⟩ := c1
        have c3 : ((a0[0].toNat : Int) == 48) = true := by
          have : a0.data.toList.getD 0 0 = a0[0] := by rw [List.getD_eq_getElem?_getD, List.getElem?_eq_getElem (by simpa using hn)]; rfl
          rw [this] at c2; rw [c2]; rfl
        clear c2
        go_wp2
        go_ret3
        exact ⟨rfl, (Below.refl _ _).alloc (Nat.le_refl _) _⟩
      · have h0 := HR.out
        rw [if_neg c1] at h0
        have BW : Below w.heap.size w (w.iter a0 pos) := (Below.refl _ _).alloc (Nat.le_refl _) _
        have HBW : Hid (Below w.heap.size w (w.iter a0 pos)) := BW
        have hgo : a0.size = 1 ∨ (1 < a0.size ∧ ((a0[0].toNat : Int) == 48) = false) := by
          by_cases c2 : 1 < a0.size
          · refine Or.inr ⟨c2, ?_⟩
            have c3 : a0.data.toList.getD 0 0 ≠ 48 := fun h => c1 ⟨c2, h⟩
            have : a0.data.toList.getD 0 0 = a0[0] := by rw [List.getD_eq_getElem?_getD, List.getElem?_eq_getElem (by simpa using hn)]; rfl
            rw [this] at c3
            rw [beq_eq_false_iff_ne]
            intro h
            exact c3 (UInt8.toNat_inj.1 (by have : (48 : UInt8).toNat = 48 := rfl; omega))
          · exact Or.inl (by omega)
        have hend : ∀ W2 : World, Below (w.iter a0 pos).heap.size (w.iter a0 pos) W2 → Below w.heap.size w W2 := fun W2 h => HBW.out.trans (h.mono BW.size)
        have HE : Hid (∀ W2 : World, Below (w.iter a0 pos).heap.size (w.iter a0 pos) W2 → Below w.heap.size w W2) := hend
        clear c1 HR BW hend HBW
        by_cases hp : ∃ u, Lib.parseUintB 64 a0.data.toList = .ok u
        · obtain ⟨u, hu⟩ := hp
          unfold digitsTail at h0
          rw [hu] at h0
          simp only [Prod.mk.injEq] at h0
          obtain ⟨rfl, rfl, rfl⟩ := h0
          have HC : Hid _ := parse_ok a0 hs u hu (w.iter a0 pos)
          clear hu
          rcases hgo with h1 | ⟨h1, h2⟩
          · have h3 : ¬ 1 < a0.size := by omega
            clear h1
            go_wp2_with (go_at_call 42; refine Calls.mono HC.out ?_; rintro e W2 ⟨rfl, hb2⟩; have HB2 : Hid _ := hb2; clear hb2)
            go_ret3
            exact ⟨rfl, HE.out _ HB2.out⟩
          · go_wp2_with (go_at_call 42; refine Calls.mono HC.out ?_; rintro e W2 ⟨rfl, hb2⟩; have HB2 : Hid _ := hb2; clear hb2)
            go_ret3
            exact ⟨rfl, HE.out _ HB2.out⟩
        · have hq : ∀ u, Lib.parseUintB 64 a0.data.toList ≠ .ok u := fun u h => hp ⟨u, h⟩
          have h4 : digitsTail a0.data.toList = (0, 0, 80) := by
            unfold digitsTail
            split
            · rename_i u hu; exact absurd hu (hq u)
            · rfl
          rw [h4] at h0
          simp only [Prod.mk.injEq] at h0
          obtain ⟨rfl, rfl, rfl⟩ := h0
          have HC : Hid _ := parse_no a0 hs hq (w.iter a0 pos) HLW.out
          clear hp hq h4
          rcases hgo with h1 | ⟨h1, h2⟩
          · have h3 : ¬ 1 < a0.size := by omega
            clear h1
            go_wp2_with (go_at_call 42; refine Calls.mono HC.out ?_; rintro e W2 ⟨v, q, rfl, hb2⟩; have HB2 : Hid _ := hb2; clear hb2)
            go_ret3
            exact ⟨rfl, HE.out _ HB2.out⟩
          · go_wp2_with (go_at_call 42; refine Calls.mono HC.out ?_; rintro e W2 ⟨v, q, rfl, hb2⟩; have HB2 : Hid _ := hb2; clear hb2)
            go_ret3
            exact ⟨rfl, HE.out _ HB2.out⟩

theorem ints_digits.calls (a0 : ByteArray) (r1 r2 r3 : Int) (w : World) (hLaid : LaidOk w) (h : ints_digits.f a0 = some (r1, r2, r3)) :
    Calls Tryd.prog 37 #[.string a0] w fun e w' => e = .returned (.tuple #[.int .u64 r1, .int .i64 r2, .int .i64 r3]) ∧ Below w.heap.size w w' := by
  unfold ints_digits.f at h
  split at h
  · rename_i hs
    split at h
    · rename_i h0
      simp only [Option.some.injEq, Prod.mk.injEq] at h
      obtain ⟨rfl, rfl, rfl⟩ := h
      obtain rfl : a0 = ⟨#[]⟩ := by
        obtain ⟨⟨l⟩⟩ := a0
        cases l with
        | nil => rfl
        | cons c l => simp [ByteArray.size] at h0
      exact digits_empty w
    · rename_i h0
      cases hb : bad a0.data.toList 0 with
      | some i =>
        rw [hb] at h
        simp only [Option.some.injEq, Prod.mk.injEq] at h
        obtain ⟨rfl, rfl, rfl⟩ := h
        exact digits_bad a0 hs (by omega) i hb w
      | none =>
        rw [hb] at h
        simp only [] at h
        refine digits_good a0 hs (by omega) hb r1 r2 r3 ?_ w hLaid
        split at h <;> rename_i hc
        · rw [if_pos hc]; exact Option.some.inj h
        · rw [if_neg hc]; exact Option.some.inj h
  · cases h

end Go.Proofs.YtjgccgjdonjlaaaDoorG
