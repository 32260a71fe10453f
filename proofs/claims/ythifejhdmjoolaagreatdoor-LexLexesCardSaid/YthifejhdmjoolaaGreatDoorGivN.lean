/-
  lex.number walked by hand: a numeral at a place.
-/
import Derived.Test.YthifejhdmjoolaaGreatDoorQR5
import Derived.Test.YthifejhdmjoolaaGreatDoorGivL
import Derived.Test.YthifejhdmjoolaaGreatDoorGivK
namespace Go.Proofs.YthifejhdmjoolaaGreatDoorG
open Go Go.RowKit Go.Proofs.YthifejhdmjoolaaGreatDoor.QR Go.Proofs.YthifejhdmjoolaaGreatDoorW.PrintWords
set_option linter.unusedVariables false
set_option linter.unusedSimpArgs false

theorem bcell {W w1 : World} (hb : Below W.heap.size W w1) : (∀ b o, b < W.heap.size → w1.cell? ⟨b, o, none⟩ = W.cell? ⟨b, o, none⟩) ∧ (∀ b o, b < W.heap.size → w1.frozen? ⟨b, o, none⟩ = W.frozen? ⟨b, o, none⟩) :=
  ⟨fun b o h => hb.cell (p := ⟨b, o, none⟩) h, fun b o h => hb.frozen (p := ⟨b, o, none⟩) h⟩

theorem parseInt_ok (s : ByteArray) (hs : s.size ≤ 281474976710656) (v : Int) (h : Lib.parseIntB 64 s.data.toList = .ok v) (w : World) :
    Calls Tryz.prog 100 #[.string s, .int .i64 10, .int .i64 64] w fun e w' => e = .returned (.tuple #[.int .i64 v, .nilIface]) ∧ Below w.heap.size w w' := by
  refine (Tryz.strconv_ParseInt_10_at64_ok s (by omega) v h w).mono ?_
  rintro e w' ⟨rfl, rfl | ⟨t, rfl⟩⟩
  · exact ⟨rfl, Below.refl _ _⟩
  · exact ⟨rfl, below_bytes w 5 t⟩
theorem parseInt_no (s : ByteArray) (hs : s.size ≤ 281474976710656) (h : Lib.parseIntB 64 s.data.toList = .range) (w : World) (L : LaidOk w) :
    Calls Tryz.prog 100 #[.string s, .int .i64 10, .int .i64 64] w fun e w' => ∃ v N, e = .returned (.tuple #[.int .i64 v, .iface 105 (.pointer (some ⟨N, 0, none⟩))]) ∧ Below w.heap.size w w' := by
  obtain ⟨tp, p, hv⟩ := L.rng
  refine (Tryz.strconv_ParseInt_10_at64_range_var s (by omega) h tp p w hv).mono ?_
  rintro e w' ⟨N, rfl, _, _, hb⟩
  exact ⟨_, _, rfl, hb⟩

def Z44 : Obj := .cells #[.int .i64 0, .string ⟨#[]⟩, .int .i64 0, .int .u64 0, .int .i64 0] 44
theorem kept_tok (w w1 : World) (hb : Below (w.alloc (.cells #[.int .i64 0, .string ⟨#[]⟩, .int .i64 0, .int .u64 0, .int .i64 0] 44)).heap.size (w.alloc (.cells #[.int .i64 0, .string ⟨#[]⟩, .int .i64 0, .int .u64 0, .int .i64 0] 44)) w1) :
    w.heap.size < w1.heap.size ∧ w1.cell? ⟨w.heap.size, 0, none⟩ = some (.int .i64 0) ∧ w1.cell? ⟨w.heap.size, 1, none⟩ = some (.string ⟨#[]⟩) ∧ w1.cell? ⟨w.heap.size, 2, none⟩ = some (.int .i64 0) ∧ w1.cell? ⟨w.heap.size, 3, none⟩ = some (.int .u64 0) ∧ w1.cell? ⟨w.heap.size, 4, none⟩ = some (.int .i64 0)
    ∧ w1.frozen? ⟨w.heap.size, 0, none⟩ = false ∧ w1.frozen? ⟨w.heap.size, 1, none⟩ = false ∧ w1.frozen? ⟨w.heap.size, 2, none⟩ = false ∧ w1.frozen? ⟨w.heap.size, 3, none⟩ = false ∧ w1.frozen? ⟨w.heap.size, 4, none⟩ = false := by
  obtain ⟨hc, hf⟩ := bcell hb
  have hlt : w.heap.size < (w.alloc (.cells #[.int .i64 0, .string ⟨#[]⟩, .int .i64 0, .int .u64 0, .int .i64 0] 44)).heap.size := by simp
  have hs := hb.size
  refine ⟨by omega, ?_, ?_, ?_, ?_, ?_, ?_, ?_, ?_, ?_, ?_⟩
  all_goals first | (rw [hc _ _ hlt]; simp) | (rw [hf _ _ hlt]; simp)

set_option maxHeartbeats 1000000 in
set_option maxRecDepth 100000 in
theorem number_end_ok (k : Nat) (s : ByteArray) (a n : Int) (hs : s.size ≤ 140737488355328) (h0 : 0 ≤ a) (hn : 0 ≤ n) (hr : lex_run_of_99.f k s a = some n) (h1 : a + n = s.size) (v : Int) (hv : Lib.parseIntB 64 (s.extract a.toNat (a + n).toNat).data.toList = .ok v) (w : World) :
    Calls Tryz.prog 74 #[.string s, .int .i64 a] w fun e w' => e = .returned (.tuple #[.agg #[.int .i64 3, .string (s.extract a.toNat (a + n).toNat), .int .i64 1, .int .u64 (IntKind.u64.wrap v), .int .i64 a], .int .i64 0]) ∧ Below w.heap.size w w' := by
  have HR : Hid _ := fun w => lex_run_of_99.calls k s a n w hr
  have hz : (s.extract a.toNat (a + n).toNat).size ≤ 281474976710656 := by rw [ByteArray.size_extract]; omega
  have HP : Hid _ := fun w => parseInt_ok _ hz v hv w
  clear hr hv hz
  have c1 : ¬ a + n < (s.size : Int) := by omega
  have c2 : a + n ≤ (s.size : Int) := by omega
  have c3 : a ≤ a + n := by omega
  have HE : Hid (a + n = (s.size : Int)) := h1
  clear h1
  go_enter Tryz.func74, Tryz.ntmps74
  go_wp2_with (first
    | (go_at_call 70; (with_reducible refine Calls.mono (HR.out _) ?_); rintro e w1 ⟨rfl, hb1⟩; have HB1 : Hid _ := hb1; clear hb1)
    | (go_at_call 100; (with_reducible refine Calls.mono (HP.out _) ?_); rintro e w2 ⟨rfl, hb2⟩; have HB2 : Hid _ := below_step HB1.out hb2; obtain ⟨z, k0, k1, k2, k3, k4, f0, f1, f2, f3, f4⟩ := kept_tok w w2 HB2.out; clear hb2))
  refine bodyPost_ret (v := .tuple #[.agg #[.int .i64 3, .string (s.extract a.toNat (a + n).toNat), .int .i64 1, .int .u64 (IntKind.u64.wrap v), .int .i64 a], .int .i64 0]) (by simp [results, Tryz.results74, go_sem, k0, k1, k2, k3, k4, z]) rfl ⟨rfl, ?_⟩
  have hw := ((Below.refl w.heap.size w).alloc (Nat.le_refl _) (.cells #[.int .i64 0, .string ⟨#[]⟩, .int .i64 0, .int .u64 0, .int .i64 0] 44)).trans (HB2.out.mono (by simp))
  exact ((((hw.setCell (by simp) _).setCell (by simp) _).setCell (by simp) _).setCell (by simp) _).setCell (by simp) _

set_option maxHeartbeats 1000000 in
set_option maxRecDepth 100000 in
theorem number_end_no (k : Nat) (s : ByteArray) (a n : Int) (hs : s.size ≤ 140737488355328) (h0 : 0 ≤ a) (hn : 0 ≤ n) (hr : lex_run_of_99.f k s a = some n) (h1 : a + n = s.size) (hv : Lib.parseIntB 64 (s.extract a.toNat (a + n).toNat).data.toList = .range) (w : World) (hL : LaidOk w) :
    Calls Tryz.prog 74 #[.string s, .int .i64 a] w fun e w' => e = .returned (.tuple #[.agg #[.int .i64 0, .string ⟨#[]⟩, .int .i64 0, .int .u64 0, .int .i64 0], .int .i64 80]) ∧ Below w.heap.size w w' := by
  have HR : Hid _ := fun w => lex_run_of_99.calls k s a n w hr
  have hz : (s.extract a.toNat (a + n).toNat).size ≤ 281474976710656 := by rw [ByteArray.size_extract]; omega
  have HP : Hid _ := fun w L => parseInt_no _ hz hv w L
  have HL : Hid (LaidOk w) := hL
  clear hL
  clear hr hv hz
  have c1 : ¬ a + n < (s.size : Int) := by omega
  have c2 : a + n ≤ (s.size : Int) := by omega
  have c3 : a ≤ a + n := by omega
  have HE : Hid (a + n = (s.size : Int)) := h1
  clear h1
  go_enter Tryz.func74, Tryz.ntmps74
  go_wp2_with (first
    | (go_at_call 70; (with_reducible refine Calls.mono (HR.out _) ?_); rintro e w1 ⟨rfl, hb1⟩; have HB1 : Hid _ := hb1; clear hb1)
    | (go_at_call 100; (with_reducible refine Calls.mono (HP.out _ (LaidOk.below (((Below.refl w.heap.size w).alloc (Nat.le_refl _) (.cells #[.int .i64 0, .string ⟨#[]⟩, .int .i64 0, .int .u64 0, .int .i64 0] 44)).trans (HB1.out.mono (by simp))) HL.out)) ?_); rintro e w2 ⟨v, N, rfl, hb2⟩; have HB2 : Hid _ := below_step HB1.out hb2; obtain ⟨z, k0, k1, k2, k3, k4, f0, f1, f2, f3, f4⟩ := kept_tok w w2 HB2.out; clear hb2))
  refine bodyPost_ret (v := .tuple #[.agg #[.int .i64 0, .string ⟨#[]⟩, .int .i64 0, .int .u64 0, .int .i64 0], .int .i64 80]) (by simp [results, Tryz.results74, go_sem, k0, k1, k2, k3, k4, z]) rfl ⟨rfl, ?_⟩
  have hw := ((Below.refl w.heap.size w).alloc (Nat.le_refl _) (.cells #[.int .i64 0, .string ⟨#[]⟩, .int .i64 0, .int .u64 0, .int .i64 0] 44)).trans (HB2.out.mono (by simp))
  exact ((((hw.setCell (by simp) _).setCell (by simp) _).setCell (by simp) _).setCell (by simp) _).setCell (by simp) _

set_option maxHeartbeats 1000000 in
set_option maxRecDepth 100000 in
theorem number_mark_ok (k : Nat) (s : ByteArray) (a n : Int) (hs : s.size ≤ 140737488355328) (h0 : 0 ≤ a) (hn : 0 ≤ n) (hr : lex_run_of_99.f k s a = some n) (h1 : a + n < s.size) (hb : bt s (a + n) ≠ 46) (v : Int) (hv : Lib.parseIntB 64 (s.extract a.toNat (a + n).toNat).data.toList = .ok v) (w : World) :
    Calls Tryz.prog 74 #[.string s, .int .i64 a] w fun e w' => e = .returned (.tuple #[.agg #[.int .i64 3, .string (s.extract a.toNat (a + n).toNat), .int .i64 1, .int .u64 (IntKind.u64.wrap v), .int .i64 a], .int .i64 0]) ∧ Below w.heap.size w w' := by
  have HR : Hid _ := fun w => lex_run_of_99.calls k s a n w hr
  have hz : (s.extract a.toNat (a + n).toNat).size ≤ 281474976710656 := by rw [ByteArray.size_extract]; omega
  have HP : Hid _ := fun w => parseInt_ok _ hz v hv w
  clear hr hv hz
  have c1 : a + n < (s.size : Int) := h1
  have c2 : a + n ≤ (s.size : Int) := by omega
  have c3 : a ≤ a + n := by omega
  have cb : (bt s (a + n) == 46) = false := beq_eq_false_iff_ne.2 hb
  clear h1 hb
  have p0 : 0 ≤ a + n := by omega
  have hx := bt_at s (a + n)
  go_enter Tryz.func74, Tryz.ntmps74
  go_wp2_with (first
    | (go_at_call 70; (with_reducible refine Calls.mono (HR.out _) ?_); rintro e w1 ⟨rfl, hb1⟩; have HB1 : Hid _ := hb1; clear hb1)
    | (go_at_call 100; (with_reducible refine Calls.mono (HP.out _) ?_); rintro e w2 ⟨rfl, hb2⟩; have HB2 : Hid _ := below_step HB1.out hb2; obtain ⟨z, k0, k1, k2, k3, k4, f0, f1, f2, f3, f4⟩ := kept_tok w w2 HB2.out; clear hb2))
  refine bodyPost_ret (v := .tuple #[.agg #[.int .i64 3, .string (s.extract a.toNat (a + n).toNat), .int .i64 1, .int .u64 (IntKind.u64.wrap v), .int .i64 a], .int .i64 0]) (by simp [results, Tryz.results74, go_sem, k0, k1, k2, k3, k4, z]) rfl ⟨rfl, ?_⟩
  have hw := ((Below.refl w.heap.size w).alloc (Nat.le_refl _) (.cells #[.int .i64 0, .string ⟨#[]⟩, .int .i64 0, .int .u64 0, .int .i64 0] 44)).trans (HB2.out.mono (by simp))
  exact ((((hw.setCell (by simp) _).setCell (by simp) _).setCell (by simp) _).setCell (by simp) _).setCell (by simp) _

set_option maxHeartbeats 1000000 in
set_option maxRecDepth 100000 in
theorem number_mark_no (k : Nat) (s : ByteArray) (a n : Int) (hs : s.size ≤ 140737488355328) (h0 : 0 ≤ a) (hn : 0 ≤ n) (hr : lex_run_of_99.f k s a = some n) (h1 : a + n < s.size) (hb : bt s (a + n) ≠ 46) (hv : Lib.parseIntB 64 (s.extract a.toNat (a + n).toNat).data.toList = .range) (w : World) (hL : LaidOk w) :
    Calls Tryz.prog 74 #[.string s, .int .i64 a] w fun e w' => e = .returned (.tuple #[.agg #[.int .i64 0, .string ⟨#[]⟩, .int .i64 0, .int .u64 0, .int .i64 0], .int .i64 80]) ∧ Below w.heap.size w w' := by
  have HR : Hid _ := fun w => lex_run_of_99.calls k s a n w hr
  have hz : (s.extract a.toNat (a + n).toNat).size ≤ 281474976710656 := by rw [ByteArray.size_extract]; omega
  have HP : Hid _ := fun w L => parseInt_no _ hz hv w L
  have HL : Hid (LaidOk w) := hL
  clear hL
  clear hr hv hz
  have c1 : a + n < (s.size : Int) := h1
  have c2 : a + n ≤ (s.size : Int) := by omega
  have c3 : a ≤ a + n := by omega
  have cb : (bt s (a + n) == 46) = false := beq_eq_false_iff_ne.2 hb
  clear h1 hb
  have p0 : 0 ≤ a + n := by omega
  have hx := bt_at s (a + n)
  go_enter Tryz.func74, Tryz.ntmps74
  go_wp2_with (first
    | (go_at_call 70; (with_reducible refine Calls.mono (HR.out _) ?_); rintro e w1 ⟨rfl, hb1⟩; have HB1 : Hid _ := hb1; clear hb1)
    | (go_at_call 100; (with_reducible refine Calls.mono (HP.out _ (LaidOk.below (((Below.refl w.heap.size w).alloc (Nat.le_refl _) (.cells #[.int .i64 0, .string ⟨#[]⟩, .int .i64 0, .int .u64 0, .int .i64 0] 44)).trans (HB1.out.mono (by simp))) HL.out)) ?_); rintro e w2 ⟨v, N, rfl, hb2⟩; have HB2 : Hid _ := below_step HB1.out hb2; obtain ⟨z, k0, k1, k2, k3, k4, f0, f1, f2, f3, f4⟩ := kept_tok w w2 HB2.out; clear hb2))
  refine bodyPost_ret (v := .tuple #[.agg #[.int .i64 0, .string ⟨#[]⟩, .int .i64 0, .int .u64 0, .int .i64 0], .int .i64 80]) (by simp [results, Tryz.results74, go_sem, k0, k1, k2, k3, k4, z]) rfl ⟨rfl, ?_⟩
  have hw := ((Below.refl w.heap.size w).alloc (Nat.le_refl _) (.cells #[.int .i64 0, .string ⟨#[]⟩, .int .i64 0, .int .u64 0, .int .i64 0] 44)).trans (HB2.out.mono (by simp))
  exact ((((hw.setCell (by simp) _).setCell (by simp) _).setCell (by simp) _).setCell (by simp) _).setCell (by simp) _

set_option maxHeartbeats 1000000 in
set_option maxRecDepth 100000 in
theorem number_dot_ok (k : Nat) (s : ByteArray) (a n : Int) (hs : s.size ≤ 140737488355328) (h0 : 0 ≤ a) (hn : 0 ≤ n) (hr : lex_run_of_99.f k s a = some n) (h1 : a + n < s.size) (hb : bt s (a + n) = 46) (m : Int) (hr2 : lex_run_of_99.f k s (a + n + 1) = some m) (hm : ¬ 0 < m) (v : Int) (hv : Lib.parseIntB 64 (s.extract a.toNat (a + n).toNat).data.toList = .ok v) (w : World) :
    Calls Tryz.prog 74 #[.string s, .int .i64 a] w fun e w' => e = .returned (.tuple #[.agg #[.int .i64 3, .string (s.extract a.toNat (a + n).toNat), .int .i64 1, .int .u64 (IntKind.u64.wrap v), .int .i64 a], .int .i64 0]) ∧ Below w.heap.size w w' := by
  have HR : Hid _ := fun w => lex_run_of_99.calls k s a n w hr
  have HR2 : Hid _ := fun w => lex_run_of_99.calls k s (a + n + 1) m w hr2
  clear hr2
  have hz : (s.extract a.toNat (a + n).toNat).size ≤ 281474976710656 := by rw [ByteArray.size_extract]; omega
  have HP : Hid _ := fun w => parseInt_ok _ hz v hv w
  clear hr hv hz
  have c1 : a + n < (s.size : Int) := h1
  have c2 : a + n ≤ (s.size : Int) := by omega
  have c3 : a ≤ a + n := by omega
  have cb : (bt s (a + n) == 46) = true := beq_iff_eq.2 hb
  clear h1 hb
  have p0 : 0 ≤ a + n := by omega
  have hx := bt_at s (a + n)
  go_enter Tryz.func74, Tryz.ntmps74
  go_wp2_with (first
    | (go_at_call 70; (with_reducible refine Calls.mono (HR.out _) ?_); rintro e w1 ⟨rfl, hb1⟩; have HB1 : Hid _ := hb1; clear hb1)
    | (go_at_call 70; (with_reducible refine Calls.mono (HR2.out _) ?_); rintro e w3 ⟨rfl, hb3⟩; have HB3 : Hid _ := below_step HB1.out hb3; clear hb3)
    | (go_at_call 100; (with_reducible refine Calls.mono (HP.out _) ?_); rintro e w2 ⟨rfl, hb2⟩; have HB2 : Hid _ := below_step HB3.out hb2; obtain ⟨z, k0, k1, k2, k3, k4, f0, f1, f2, f3, f4⟩ := kept_tok w w2 HB2.out; clear hb2))
  refine bodyPost_ret (v := .tuple #[.agg #[.int .i64 3, .string (s.extract a.toNat (a + n).toNat), .int .i64 1, .int .u64 (IntKind.u64.wrap v), .int .i64 a], .int .i64 0]) (by simp [results, Tryz.results74, go_sem, k0, k1, k2, k3, k4, z]) rfl ⟨rfl, ?_⟩
  have hw := ((Below.refl w.heap.size w).alloc (Nat.le_refl _) (.cells #[.int .i64 0, .string ⟨#[]⟩, .int .i64 0, .int .u64 0, .int .i64 0] 44)).trans (HB2.out.mono (by simp))
  exact ((((hw.setCell (by simp) _).setCell (by simp) _).setCell (by simp) _).setCell (by simp) _).setCell (by simp) _

set_option maxHeartbeats 1000000 in
set_option maxRecDepth 100000 in
theorem number_dot_no (k : Nat) (s : ByteArray) (a n : Int) (hs : s.size ≤ 140737488355328) (h0 : 0 ≤ a) (hn : 0 ≤ n) (hr : lex_run_of_99.f k s a = some n) (h1 : a + n < s.size) (hb : bt s (a + n) = 46) (m : Int) (hr2 : lex_run_of_99.f k s (a + n + 1) = some m) (hm : ¬ 0 < m) (hv : Lib.parseIntB 64 (s.extract a.toNat (a + n).toNat).data.toList = .range) (w : World) (hL : LaidOk w) :
    Calls Tryz.prog 74 #[.string s, .int .i64 a] w fun e w' => e = .returned (.tuple #[.agg #[.int .i64 0, .string ⟨#[]⟩, .int .i64 0, .int .u64 0, .int .i64 0], .int .i64 80]) ∧ Below w.heap.size w w' := by
  have HR : Hid _ := fun w => lex_run_of_99.calls k s a n w hr
  have HR2 : Hid _ := fun w => lex_run_of_99.calls k s (a + n + 1) m w hr2
  clear hr2
  have hz : (s.extract a.toNat (a + n).toNat).size ≤ 281474976710656 := by rw [ByteArray.size_extract]; omega
  have HP : Hid _ := fun w L => parseInt_no _ hz hv w L
  have HL : Hid (LaidOk w) := hL
  clear hL
  clear hr hv hz
  have c1 : a + n < (s.size : Int) := h1
  have c2 : a + n ≤ (s.size : Int) := by omega
  have c3 : a ≤ a + n := by omega
  have cb : (bt s (a + n) == 46) = true := beq_iff_eq.2 hb
  clear h1 hb
  have p0 : 0 ≤ a + n := by omega
  have hx := bt_at s (a + n)
  go_enter Tryz.func74, Tryz.ntmps74
  go_wp2_with (first
    | (go_at_call 70; (with_reducible refine Calls.mono (HR.out _) ?_); rintro e w1 ⟨rfl, hb1⟩; have HB1 : Hid _ := hb1; clear hb1)
    | (go_at_call 70; (with_reducible refine Calls.mono (HR2.out _) ?_); rintro e w3 ⟨rfl, hb3⟩; have HB3 : Hid _ := below_step HB1.out hb3; clear hb3)
    | (go_at_call 100; (with_reducible refine Calls.mono (HP.out _ (LaidOk.below (((Below.refl w.heap.size w).alloc (Nat.le_refl _) (.cells #[.int .i64 0, .string ⟨#[]⟩, .int .i64 0, .int .u64 0, .int .i64 0] 44)).trans (HB3.out.mono (by simp))) HL.out)) ?_); rintro e w2 ⟨v, N, rfl, hb2⟩; have HB2 : Hid _ := below_step HB3.out hb2; obtain ⟨z, k0, k1, k2, k3, k4, f0, f1, f2, f3, f4⟩ := kept_tok w w2 HB2.out; clear hb2))
  refine bodyPost_ret (v := .tuple #[.agg #[.int .i64 0, .string ⟨#[]⟩, .int .i64 0, .int .u64 0, .int .i64 0], .int .i64 80]) (by simp [results, Tryz.results74, go_sem, k0, k1, k2, k3, k4, z]) rfl ⟨rfl, ?_⟩
  have hw := ((Below.refl w.heap.size w).alloc (Nat.le_refl _) (.cells #[.int .i64 0, .string ⟨#[]⟩, .int .i64 0, .int .u64 0, .int .i64 0] 44)).trans (HB2.out.mono (by simp))
  exact ((((hw.setCell (by simp) _).setCell (by simp) _).setCell (by simp) _).setCell (by simp) _).setCell (by simp) _

set_option maxHeartbeats 1000000 in
set_option maxRecDepth 100000 in
theorem number_float (k : Nat) (s : ByteArray) (a n : Int) (hs : s.size ≤ 140737488355328) (h0 : 0 ≤ a) (hn : 0 ≤ n) (hr : lex_run_of_99.f k s a = some n) (h1 : a + n < s.size) (hb : bt s (a + n) = 46) (m : Int) (hr2 : lex_run_of_99.f k s (a + n + 1) = some m) (hm : 0 < m) (hm2 : a + (n + (1 + m)) ≤ s.size)
    (q1 q2 : Int) (hq : floats_Literal.f (s.extract a.toNat (a + (n + (1 + m))).toNat) = some (q1, q2)) (w : World) :
    Calls Tryz.prog 74 #[.string s, .int .i64 a] w fun e w' => e = .returned (.tuple #[.agg #[.int .i64 4, .string (s.extract a.toNat (a + (n + (1 + m))).toNat), .int .i64 2, .int .u64 q1, .int .i64 a], .int .i64 q2]) ∧ Below w.heap.size w w' := by
  have HR : Hid _ := fun w => lex_run_of_99.calls k s a n w hr
  have HR2 : Hid _ := fun w => lex_run_of_99.calls k s (a + n + 1) m w hr2
  have HP : Hid _ := fun w => floats_Literal.calls _ q1 q2 w hq
  clear hr hr2 hq
  have c1 : a + n < (s.size : Int) := h1
  have c2 : a + (n + (1 + m)) ≤ (s.size : Int) := hm2
  have c3 : a ≤ a + (n + (1 + m)) := by omega
  have cb : (bt s (a + n) == 46) = true := beq_iff_eq.2 hb
  clear h1 hb hm2
  have p0 : 0 ≤ a + n := by omega
  have p1 : 0 ≤ n + (1 + m) := by omega
  have p2 : n + (1 + m) ≤ (s.size : Int) := by omega
  have hx := bt_at s (a + n)
  go_enter Tryz.func74, Tryz.ntmps74
  go_wp2_with (first
    | (go_at_call 70; (with_reducible refine Calls.mono (HR.out _) ?_); rintro e w1 ⟨rfl, hb1⟩; have HB1 : Hid _ := hb1; clear hb1)
    | (go_at_call 70; (with_reducible refine Calls.mono (HR2.out _) ?_); rintro e w3 ⟨rfl, hb3⟩; have HB3 : Hid _ := below_step HB1.out hb3; clear hb3)
    | (go_at_call 19; (with_reducible refine Calls.mono (HP.out _) ?_); rintro e w2 ⟨rfl, hb2⟩; have HB2 : Hid _ := below_step HB3.out hb2; obtain ⟨z, k0, k1, k2, k3, k4, f0, f1, f2, f3, f4⟩ := kept_tok w w2 HB2.out; clear hb2))
  refine bodyPost_ret (v := .tuple #[.agg #[.int .i64 4, .string (s.extract a.toNat (a + (n + (1 + m))).toNat), .int .i64 2, .int .u64 q1, .int .i64 a], .int .i64 q2]) (by simp [results, Tryz.results74, go_sem, k0, k1, k2, k3, k4, z]) rfl ⟨rfl, ?_⟩
  have hw := ((Below.refl w.heap.size w).alloc (Nat.le_refl _) (.cells #[.int .i64 0, .string ⟨#[]⟩, .int .i64 0, .int .u64 0, .int .i64 0] 44)).trans (HB2.out.mono (by simp))
  exact ((((hw.setCell (by simp) _).setCell (by simp) _).setCell (by simp) _).setCell (by simp) _).setCell (by simp) _

def numInt (s : ByteArray) (a n : Int) : Option (Int × ByteArray × Int × Int × Int × Int) :=
  match Lib.parseIntB 64 (s.extract a.toNat (a + n).toNat).data.toList with
  | .ok v => some (3, s.extract a.toNat (a + n).toNat, 1, IntKind.u64.wrap v, a, 0)
  | .range => some (0, ⟨#[]⟩, 0, 0, 0, 80)
  | _ => none
def numTail (k : Nat) (s : ByteArray) (a n : Int) : Option (Int × ByteArray × Int × Int × Int × Int) :=
  if 0 ≤ n ∧ a + n ≤ s.size then
    (if a + n = s.size then numInt s a n
     else if bt s (a + n) = 46 then
      (lex_run_of_99.f k s (a + n + 1)).bind fun m =>
        if 0 < m then (if a + (n + (1 + m)) ≤ s.size then (floats_Literal.f (s.extract a.toNat (a + (n + (1 + m))).toNat)).bind fun p => some (4, (s.extract a.toNat (a + (n + (1 + m))).toNat), 2, p.1, a, p.2) else none)
        else numInt s a n
     else numInt s a n)
  else none
def lex_number.f (k : Nat) (s : ByteArray) (a : Int) : Option (Int × ByteArray × Int × Int × Int × Int) :=
  if s.size ≤ 140737488355328 ∧ 0 ≤ a then (lex_run_of_99.f k s a).bind fun n => numTail k s a n else none

theorem lex_number.mono : ∀ a0 a1 k, LeO (lex_number.f k a0 a1) (lex_number.f (k + 1) a0 a1) := by
  intro s a k
  unfold lex_number.f
  refine LeO.ite ?_ (LeO.refl _)
  refine LeO.bind (lex_run_of_99.mono _ _ _) (fun n => ?_)
  unfold numTail
  refine LeO.ite ?_ (LeO.refl _)
  refine LeO.ite (LeO.refl _) ?_
  refine LeO.ite ?_ (LeO.refl _)
  exact LeO.bind (lex_run_of_99.mono _ _ _) (fun m => LeO.refl _)

theorem lex_number.calls (k : Nat) (a0 : ByteArray) (a1 : Int) (r1 : Int) (r2 : ByteArray) (r3 : Int) (r4 : Int) (r5 : Int) (r6 : Int) (w : World) (hLaid : LaidOk w) (h : lex_number.f k a0 a1 = some (r1, r2, r3, r4, r5, r6)) :
    Calls Tryz.prog 74 #[.string a0, .int .i64 a1] w fun e w' => e = .returned (.tuple #[.agg #[.int .i64 r1, .string r2, .int .i64 r3, .int .u64 r4, .int .i64 r5], .int .i64 r6]) ∧ Below w.heap.size w w' := by
  unfold lex_number.f at h
  split at h
  · rename_i hc
    obtain ⟨hs, h0⟩ := hc
    obtain ⟨n, hr, h⟩ := Option.bind_eq_some_iff.mp h
    unfold numTail at h
    split at h
    · rename_i hc
      obtain ⟨hn, hle⟩ := hc
      have intCase : ∀ (ok : ∀ v, Lib.parseIntB 64 (a0.extract a1.toNat (a1 + n).toNat).data.toList = .ok v → Calls Tryz.prog 74 #[.string a0, .int .i64 a1] w fun e w' => e = .returned (.tuple #[.agg #[.int .i64 3, .string (a0.extract a1.toNat (a1 + n).toNat), .int .i64 1, .int .u64 (IntKind.u64.wrap v), .int .i64 a1], .int .i64 0]) ∧ Below w.heap.size w w')
          (no : Lib.parseIntB 64 (a0.extract a1.toNat (a1 + n).toNat).data.toList = .range → Calls Tryz.prog 74 #[.string a0, .int .i64 a1] w fun e w' => e = .returned (.tuple #[.agg #[.int .i64 0, .string ⟨#[]⟩, .int .i64 0, .int .u64 0, .int .i64 0], .int .i64 80]) ∧ Below w.heap.size w w')
          (hh : numInt a0 a1 n = some (r1, r2, r3, r4, r5, r6)),
          Calls Tryz.prog 74 #[.string a0, .int .i64 a1] w fun e w' => e = .returned (.tuple #[.agg #[.int .i64 r1, .string r2, .int .i64 r3, .int .u64 r4, .int .i64 r5], .int .i64 r6]) ∧ Below w.heap.size w w' := by
        intro ok no hh
        unfold numInt at hh
        split at hh
        · rename_i v hv
          simp only [Option.some.injEq, Prod.mk.injEq] at hh
          obtain ⟨rfl, rfl, rfl, rfl, rfl, rfl⟩ := hh
          exact ok v hv
        · rename_i hv
          simp only [Option.some.injEq, Prod.mk.injEq] at hh
          obtain ⟨rfl, rfl, rfl, rfl, rfl, rfl⟩ := hh
          exact no hv
        · cases hh
      split at h
      · rename_i he
        exact intCase (fun v hv => number_end_ok k a0 a1 n hs h0 hn hr he v hv w) (fun hv => number_end_no k a0 a1 n hs h0 hn hr he hv w hLaid) h
      · rename_i he
        split at h
        · rename_i hb
          obtain ⟨m, hr2, h⟩ := Option.bind_eq_some_iff.mp h
          split at h
          · rename_i hm
            split at h
            · rename_i hm2
              obtain ⟨⟨q1, q2⟩, hq, h⟩ := Option.bind_eq_some_iff.mp h
              simp only [Option.some.injEq, Prod.mk.injEq] at h
              obtain ⟨rfl, rfl, rfl, rfl, rfl, rfl⟩ := h
              exact number_float k a0 a1 n hs h0 hn hr (by omega) hb m hr2 hm hm2 q1 q2 hq w
            · cases h
          · rename_i hm
            exact intCase (fun v hv => number_dot_ok k a0 a1 n hs h0 hn hr (by omega) hb m hr2 hm v hv w) (fun hv => number_dot_no k a0 a1 n hs h0 hn hr (by omega) hb m hr2 hm hv w hLaid) h
        · rename_i hb
          exact intCase (fun v hv => number_mark_ok k a0 a1 n hs h0 hn hr (by omega) hb v hv w) (fun hv => number_mark_no k a0 a1 n hs h0 hn hr (by omega) hb hv w hLaid) h
    · cases h
  · cases h
end Go.Proofs.YthifejhdmjoolaaGreatDoorG
