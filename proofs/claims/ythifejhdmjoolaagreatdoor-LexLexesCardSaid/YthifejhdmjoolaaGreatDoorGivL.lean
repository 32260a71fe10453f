/-
  floats.Literal walked by hand: it comes to a plain function of its text; condition: the text's size is within the reach of the rows, and the quotient is told.
-/
import Derived.Test.YthifejhdmjoolaaGreatDoorQC1
import Derived.Test.YthifejhdmjoolaaGreatDoorShelf
import Derived.Lib.ParseIntB
import Derived.Laws.RangeAny
namespace Go.Proofs.YthifejhdmjoolaaGreatDoorG
open Go Go.RowKit Go.Proofs.YthifejhdmjoolaaGreatDoor.QC Go.Proofs.YthifejhdmjoolaaGreatDoorW.PrintWords
set_option linter.unusedVariables false
set_option linter.unusedSimpArgs false

/-- 1.0, times 10, so often -/
def tenW : Nat → Nat
  | 0 => 4607182418800017408
  | k + 1 => (floatBits .mul .f64 (tenW k) 4621819117588971520).getD 0
theorem tenW_step : ∀ k : Fin 15, floatBits .mul .f64 (tenW k.val) 4621819117588971520 = some (tenW (k.val + 1)) := by decide +kernel

/-- the float of digits ahead of and behind a point -/
def litBits (a b : ByteArray) : Option Int :=
  match Lib.parseUintB 64 (a ++ b).data.toList with
  | .ok u => (floatBits .quo .f64 (floatOfInt .f64 u) (tenW b.size)).map fun r => ((canonN r : Nat) : Int)
  | _ => none
def litTail (a b : ByteArray) (found : Bool) : Option (Int × Int) :=
  if found = false then some (0, 10) else if digitsB a = false then some (0, 10) else if digitsB b = false then some (0, 10)
  else if 15 < a.size + b.size then some (0, 3) else (litBits a b).map fun r => (r, 0)
def floats_Literal.f (s : ByteArray) : Option (Int × Int) :=
  if s.size ≤ 140737488355328 then (strings_Cut.f s ⟨#[46]⟩).bind fun p => litTail p.1 p.2.1 p.2.2 else none

theorem cut_sizes (s : ByteArray) (hs : s.size ≤ 140737488355328) (a b : ByteArray) (f : Bool) (h : strings_Cut.f s ⟨#[46]⟩ = some (a, b, f)) : a.size ≤ 140737488355328 ∧ b.size ≤ 140737488355328 := by
  unfold strings_Cut.f stringslite_Cut.f at h
  generalize stringslite_Index.f s ⟨#[46]⟩ = I at h
  cases I with
  | none => cases h
  | some i =>
    simp only [Option.bind_some] at h
    generalize wrap64 (i + ((⟨#[46]⟩ : ByteArray).size : Int)) = j at h
    by_cases c1 : i ≥ 0
    · rw [if_pos c1, if_pos (by omega)] at h
      by_cases c2 : i ≤ (s.size : Int)
      · rw [if_pos c2] at h
        by_cases c3 : 0 ≤ j
        · rw [if_pos c3] at h
          by_cases c4 : j ≤ (s.size : Int)
          · rw [if_pos c4] at h
            simp only [Option.bind_some, Option.some.injEq, Prod.mk.injEq] at h
            obtain ⟨rfl, rfl, rfl⟩ := h
            simp only [ByteArray.size_extract]
            omega
          · rw [if_neg c4] at h; cases h
        · rw [if_neg c3] at h; cases h
      · rw [if_neg c2] at h; cases h
    · rw [if_neg c1] at h
      simp only [Option.bind_some, Option.some.injEq, Prod.mk.injEq] at h
      obtain ⟨rfl, rfl, rfl⟩ := h
      exact ⟨hs, Nat.zero_le _⟩

theorem parse_ok (s : ByteArray) (hs : s.size ≤ 281474976710656) (u : Nat) (h : Lib.parseUintB 64 s.data.toList = .ok u) (w : World) :
    Calls Tryz.prog 45 #[.string s, .int .i64 10, .int .i64 64] w fun e w' => e = .returned (.tuple #[.int .u64 u, .nilIface]) ∧ Below w.heap.size w w' := by
  refine (Tryz.strconv_ParseUint_10_at64_ok s (by omega) u h w).mono ?_
  rintro e w' ⟨rfl, rfl | rfl⟩
  · exact ⟨rfl, Below.refl _ _⟩
  · exact ⟨rfl, below_bytes w 5 s⟩

theorem lt128_of_digs (l : List UInt8) (h : digsB l = true) (k : Nat) (hk : k < l.length) : l[k].toNat < 128 := by
  unfold digsB at h
  rw [List.all_eq_true] at h
  have := h l[k] (List.getElem_mem hk)
  unfold dgB at this
  have := of_decide_eq_true this
  omega

set_option maxHeartbeats 1000000 in
set_option maxRecDepth 100000 in
theorem literal_full (s a b : ByteArray) (hs : s.size ≤ 140737488355328) (hc : strings_Cut.f s ⟨#[46]⟩ = some (a, b, true)) (ha : digitsB a = true) (hb : digitsB b = true) (hl : ¬ 15 < a.size + b.size) (r : Int) (hr : litBits a b = some r) (w : World) :
    Calls Tryz.prog 19 #[.string s] w fun e w' => e = .returned (.tuple #[.int .u64 r, .int .i64 0]) ∧ Below w.heap.size w w' := by
  have hz := cut_sizes s hs a b true hc
  obtain ⟨za, zb⟩ := hz
  have HC : Hid _ := fun w => strings_Cut.calls s ⟨#[46]⟩ _ _ _ w hc
  have HA : Hid _ := fun w => digits_any a (by omega) w
  have HB : Hid _ := fun w => digits_any b (by omega) w
  unfold litBits at hr
  split at hr
  · rename_i u hu
    obtain ⟨q, hq, rfl⟩ := Option.map_eq_some_iff.mp hr
    have HP : Hid _ := fun w => parse_ok (a ++ b) (by rw [ByteArray.size_append]; omega) u hu w
    have hqlt := f64_lt hq
    have HQ : Hid (∀ t w, (binOp .quo t (.float .f64 (floatOfInt .f64 u)) (.float .f64 (tenW b.size))).run Tryz.prog w = .ok (.float .f64 q) w) := fun t w => run_float_arith w .quo t .f64 _ _ q hq
    have HM : Hid (∀ k, k < 15 → ∀ t w, (binOp .mul t (.float .f64 (tenW k)) (.float .f64 4621819117588971520)).run Tryz.prog w = .ok (.float .f64 (tenW (k + 1))) w) := fun k hk t w => run_float_arith w .mul t .f64 _ _ _ (tenW_step ⟨k, hk⟩)
    have hcan : canonI (q : Int) = ((canonN q : Nat) : Int) := canonI_nat q hqlt
    have HCan : Hid _ := hcan
    have hd2 : ∀ k (hk : k < b.size), (b[k].toNat : Nat) < 128 := by
      intro k hk
      unfold digitsB at hb
      rw [Bool.and_eq_true] at hb
      exact lt128_of_digs _ hb.1 k (by simpa using hk)
    have HD : Hid _ := hd2
    clear hr hq hu hc hcan hd2 hqlt
    have HAd : Hid (digitsB a = true) := ha
    have HBd : Hid (digitsB b = true) := hb
    rw [ha] at HA
    rw [hb] at HB
    clear ha hb
    go_enter Tryz.func19, Tryz.ntmps19
    go_wp2_with (first
      | (go_at_call 43; (with_reducible refine Calls.mono (HC.out _) ?_); rintro e w1 ⟨rfl, hb1⟩; have HB1 : Hid _ := hb1; clear hb1)
      | (go_at_call 44; (with_reducible refine Calls.mono (HA.out _) ?_); rintro e w2 ⟨rfl, hb2⟩; have HB2 : Hid _ := hb2; clear hb2)
      | (go_at_call 44; (with_reducible refine Calls.mono (HB.out _) ?_); rintro e w3 ⟨rfl, hb3⟩; have HB3 : Hid _ := hb3; clear hb3)
      | (go_at_call 45; (with_reducible refine Calls.mono (HP.out _) ?_); rintro e w4 ⟨rfl, hb4⟩; have HB4 : Hid _ := hb4; clear hb4))
    have HBel : Hid (Below w.heap.size w w4) := below_step (below_step (below_step HB1.out HB2.out) HB3.out) HB4.out
    clear HB1 HB2 HB3 HB4
    have hsz15 : b.size ≤ 15 := by omega
    go_loopw [9] (fun v w' => ∃ pos, v = .float .f64 (tenW pos) ∧ w' = w4.iter b pos ∧ pos ≤ b.size) (fun _ w' => b.size - w'.iterPos w4.heap.size)
    case atStart => exact ⟨0, rfl, rfl, by omega⟩
    case round =>
      obtain ⟨pos, rfl, rfl, hp⟩ := hrel
      by_cases hlt : pos < b.size
      · have hnx : ∀ ty, (Instr.next (.pointer (some ⟨w4.heap.size, 0, none⟩)) true ty).run Tryz.prog (w4.iter b pos) = _ := fun ty => run_next_any w4 b pos ty hlt
        have hm := HM.out pos (by omega)
        have hd := decode_ascii b pos hlt (HD.out pos hlt)
        generalize tenW pos = t0 at hm
        go_wp2_with (simp only [hm])
        go_roundw
        case rel => exact ⟨pos + 1, rfl, rfl, by omega⟩
        case measure => simp [hd]; omega
      · have hnx : ∀ ty, (Instr.next (.pointer (some ⟨w4.heap.size, 0, none⟩)) true ty).run Tryz.prog (w4.iter b pos) = _ := fun ty => run_next_end w4 b pos ty hlt
        have e1 : pos = b.size := by omega
        subst e1
        have hq := HQ.out
        go_wp2_with (first | (go_at_call 34; (with_reducible refine Calls.mono (from_any _ _) ?_); rintro e w5 ⟨rfl, rfl⟩) | simp only [hq])
        go_ret2
        exact ⟨congrArg (fun z => Ending.returned (.tuple #[.int .u64 z, .int .i64 0])) HCan.out, HBel.out.trans ((Below.refl _ _).alloc (below_size HBel.out) _)⟩
  · cases hr

set_option maxHeartbeats 1000000 in
set_option maxRecDepth 100000 in
theorem literal_big (s a b : ByteArray) (hs : s.size ≤ 140737488355328) (hc : strings_Cut.f s ⟨#[46]⟩ = some (a, b, true)) (ha : digitsB a = true) (hb : digitsB b = true) (hl : 15 < a.size + b.size) (w : World) :
    Calls Tryz.prog 19 #[.string s] w fun e w' => e = .returned (.tuple #[.int .u64 0, .int .i64 3]) ∧ Below w.heap.size w w' := by
  obtain ⟨za, zb⟩ := cut_sizes s hs a b true hc
  have HC : Hid _ := fun w => strings_Cut.calls s ⟨#[46]⟩ _ _ _ w hc
  have HA : Hid _ := fun w => digits_any a (by omega) w
  have HB : Hid _ := fun w => digits_any b (by omega) w
  rw [ha] at HA
  rw [hb] at HB
  clear ha hb hc
  have hl2 : (15 : Int) < (a.size : Int) + (b.size : Int) := by omega
  have hl3 : decide ((15 : Int) < (a.size : Int) + (b.size : Int)) = true := decide_eq_true hl2
  go_enter Tryz.func19, Tryz.ntmps19
  go_wp2_with (first
    | (go_at_call 43; (with_reducible refine Calls.mono (HC.out _) ?_); rintro e w1 ⟨rfl, hb1⟩; have HB1 : Hid _ := hb1; clear hb1)
    | (go_at_call 44; (with_reducible refine Calls.mono (HA.out _) ?_); rintro e w2 ⟨rfl, hb2⟩; have HB2 : Hid _ := hb2; clear hb2)
    | (go_at_call 44; (with_reducible refine Calls.mono (HB.out _) ?_); rintro e w3 ⟨rfl, hb3⟩; have HB3 : Hid _ := hb3; clear hb3))
  go_ret2
  exact ⟨rfl, below_step (below_step HB1.out HB2.out) HB3.out⟩

set_option maxHeartbeats 1000000 in
set_option maxRecDepth 100000 in
theorem literal_behind (s a b : ByteArray) (hs : s.size ≤ 140737488355328) (hc : strings_Cut.f s ⟨#[46]⟩ = some (a, b, true)) (ha : digitsB a = true) (hb : digitsB b = false) (w : World) :
    Calls Tryz.prog 19 #[.string s] w fun e w' => e = .returned (.tuple #[.int .u64 0, .int .i64 10]) ∧ Below w.heap.size w w' := by
  obtain ⟨za, zb⟩ := cut_sizes s hs a b true hc
  have HC : Hid _ := fun w => strings_Cut.calls s ⟨#[46]⟩ _ _ _ w hc
  have HA : Hid _ := fun w => digits_any a (by omega) w
  have HB : Hid _ := fun w => digits_any b (by omega) w
  rw [ha] at HA
  rw [hb] at HB
  clear ha hb hc
  go_enter Tryz.func19, Tryz.ntmps19
  go_wp2_with (first
    | (go_at_call 43; (with_reducible refine Calls.mono (HC.out _) ?_); rintro e w1 ⟨rfl, hb1⟩; have HB1 : Hid _ := hb1; clear hb1)
    | (go_at_call 44; (with_reducible refine Calls.mono (HA.out _) ?_); rintro e w2 ⟨rfl, hb2⟩; have HB2 : Hid _ := hb2; clear hb2)
    | (go_at_call 44; (with_reducible refine Calls.mono (HB.out _) ?_); rintro e w3 ⟨rfl, hb3⟩; have HB3 : Hid _ := hb3; clear hb3))
  go_ret2
  exact ⟨rfl, below_step (below_step HB1.out HB2.out) HB3.out⟩

set_option maxHeartbeats 1000000 in
set_option maxRecDepth 100000 in
theorem literal_ahead (s a b : ByteArray) (hs : s.size ≤ 140737488355328) (hc : strings_Cut.f s ⟨#[46]⟩ = some (a, b, true)) (ha : digitsB a = false) (w : World) :
    Calls Tryz.prog 19 #[.string s] w fun e w' => e = .returned (.tuple #[.int .u64 0, .int .i64 10]) ∧ Below w.heap.size w w' := by
  obtain ⟨za, zb⟩ := cut_sizes s hs a b true hc
  have HC : Hid _ := fun w => strings_Cut.calls s ⟨#[46]⟩ _ _ _ w hc
  have HA : Hid _ := fun w => digits_any a (by omega) w
  rw [ha] at HA
  clear ha hc
  go_enter Tryz.func19, Tryz.ntmps19
  go_wp2_with (first
    | (go_at_call 43; (with_reducible refine Calls.mono (HC.out _) ?_); rintro e w1 ⟨rfl, hb1⟩; have HB1 : Hid _ := hb1; clear hb1)
    | (go_at_call 44; (with_reducible refine Calls.mono (HA.out _) ?_); rintro e w2 ⟨rfl, hb2⟩; have HB2 : Hid _ := hb2; clear hb2))
  go_ret2
  exact ⟨rfl, below_step HB1.out HB2.out⟩

set_option maxHeartbeats 1000000 in
set_option maxRecDepth 100000 in
theorem literal_none (s a b : ByteArray) (hs : s.size ≤ 140737488355328) (hc : strings_Cut.f s ⟨#[46]⟩ = some (a, b, false)) (w : World) :
    Calls Tryz.prog 19 #[.string s] w fun e w' => e = .returned (.tuple #[.int .u64 0, .int .i64 10]) ∧ Below w.heap.size w w' := by
  have HC : Hid _ := fun w => strings_Cut.calls s ⟨#[46]⟩ _ _ _ w hc
  clear hc
  go_enter Tryz.func19, Tryz.ntmps19
  go_wp2_with (first
    | (go_at_call 43; (with_reducible refine Calls.mono (HC.out _) ?_); rintro e w1 ⟨rfl, hb1⟩; have HB1 : Hid _ := hb1; clear hb1))
  go_ret2
  exact ⟨rfl, HB1.out⟩

theorem floats_Literal.calls (a0 : ByteArray) (r1 r2 : Int) (w : World) (h : floats_Literal.f a0 = some (r1, r2)) :
    Calls Tryz.prog 19 #[.string a0] w fun e w' => e = .returned (.tuple #[.int .u64 r1, .int .i64 r2]) ∧ Below w.heap.size w w' := by
  unfold floats_Literal.f at h
  split at h
  · rename_i hs
    obtain ⟨⟨a, b, f⟩, hc, h⟩ := Option.bind_eq_some_iff.mp h
    unfold litTail at h
    dsimp only at h
    cases f
    · rw [if_pos rfl] at h
      simp only [Option.some.injEq, Prod.mk.injEq] at h
      obtain ⟨rfl, rfl⟩ := h
      exact literal_none a0 a b hs hc w
    · rw [if_neg (by simp)] at h
      cases ha : digitsB a
      · rw [if_pos ha] at h
        simp only [Option.some.injEq, Prod.mk.injEq] at h
        obtain ⟨rfl, rfl⟩ := h
        exact literal_ahead a0 a b hs hc ha w
      · rw [if_neg (by simp [ha])] at h
        cases hb : digitsB b
        · rw [if_pos hb] at h
          simp only [Option.some.injEq, Prod.mk.injEq] at h
          obtain ⟨rfl, rfl⟩ := h
          exact literal_behind a0 a b hs hc ha hb w
        · rw [if_neg (by simp [hb])] at h
          by_cases hl : 15 < a.size + b.size
          · rw [if_pos hl] at h
            simp only [Option.some.injEq, Prod.mk.injEq] at h
            obtain ⟨rfl, rfl⟩ := h
            exact literal_big a0 a b hs hc ha hb hl w
          · rw [if_neg hl] at h
            obtain ⟨r, hr, e⟩ := Option.map_eq_some_iff.mp h
            simp only [Prod.mk.injEq] at e
            obtain ⟨rfl, rfl⟩ := e
            exact literal_full a0 a b hs hc ha hb hl r hr w
  · cases h
end Go.Proofs.YthifejhdmjoolaaGreatDoorG
