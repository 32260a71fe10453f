import Derived.Test.YtbhgpegcdiohlaaGreatDoorFxC
import Derived.Test.YtbhgpegcdiohlaaGreatDoorTxA
import Derived.Laws.Externs
import Derived.Laws.MakeOwn
import Derived.BigQuiet
import Derived.Deep.QuietTactic
namespace Go.Proofs.YtbhgpegcdiohlaaGreatDoor.Tr
open Go Go.RowKit Go.Proofs
set_option linter.unusedVariables false
set_option maxRecDepth 100000
set_option maxHeartbeats 4000000
theorem fmtX_zero (base : Nat) (A : Option Addr) (c : Nat) (e : Int) (w : World) (hbs : base ≤ w.heap.size) (hown : w.ownsRow base 5 1 (.slice A 0 c) 0 []) : Calls Tryz.prog 244 #[.slice A 0 c, .int .i64 (-1), .int .u8 120, .bool false, .int .u64 0, .int .i64 e, .int .i64 52] w (Apps base w [48, 120, 48, 112, 43, 48, 48]) := by
  have HO := Hd.mk hown
  have HW := Hd.mk hbs
  have HN : Hd (0 ≤ 0) := ⟨Nat.le_refl _⟩
  have HB := Hd.mk (Below.refl base w)
  have z0 : bits BinOp.and IntKind.u64 0 1 = 0 := rfl
  clear hbs hown
  go_enter Tryz.func244, Tryz.ntmps244
  go_wp2
  refine wp_loop_rounds 1 ?_
  rw [rounds_succ]
  go_wp2_with (first
    | (at_builtin; refine app_lit rfl _ _ rfl base _ _ _ _ rfl HO.out HW.out _ _ _ _ rfl (by rfl) (by decide) (by simp [Value.oneCell']) (by have := HN.out; omega) ?_; intro A1 c1 N1 w1 hN ho hb; have HO1 := Hd.mk ho; have HN1 := Hd.mk (le_step HN.out hN); have HB1 := Hd.mk (HB.out.trans hb); have HW1 := Hd.mk (Nat.le_trans HW.out hb.size); clear HO HN HB HW hN ho hb; have HO := HO1; have HN := HN1; have HB := HB1; have HW := HW1; clear HO1 HN1 HB1 HW1)
    | (go_at_call 235; (with_reducible refine (lower120 _).mono ?_); rintro e w2 ⟨rfl, rfl⟩))
  go_ret
  exact ⟨_, _, _, rfl, HO.out, HB.out⟩
theorem ext242 (x : Nat) (w : World) : (callFunc 242 #[.float .f64 x]).run Tryz.prog w = .ok (.value (.int .u64 x)) w := by
  rw [run_callFunc_extern Tryz.func242 (by kernel_rfl) (by kernel_rfl) (by kernel_rfl) (e := Extern.MathFloatBits.float64bits) (by kernel_rfl)]
  rfl
/-- what ftoa64 appends -/
def fmtB (b : Int) : List Int := if b = 0 then [48, 120, 48, 112, 43, 48, 48] else fmtL (manB b) (expB b)
theorem Apps.from {base : Nat} {w w' : World} {xs : List Int} (hbs : base ≤ w.heap.size) (hb : Below w.heap.size w w') : ∀ (e : Ending) (w2 : World), Apps base w' xs e w2 → Apps base w xs e w2 := by
  rintro e w2 ⟨A, c, N, he, ho, h⟩
  exact ⟨A, c, N, he, ho, (hb.mono hbs).trans h⟩
theorem dn (w : World) (k : Nat) : Below w.heap.size w (w.drewN k) := below_drewN (Below.refl _ _) k
theorem ftoa_zero (base : Nat) (A : Option Addr) (c : Nat) (w : World) (hbs : base ≤ w.heap.size) (hown : w.ownsRow base 5 1 (.slice A 0 c) 0 []) : Calls Tryz.prog 222 #[.slice A 0 c, .float .f64 0, .int .u8 120, .int .i64 (-1)] w (Apps base w (fmtB 0)) := by
  have C : Hd (∀ e w', Below w.heap.size w w' → Calls Tryz.prog 244 #[.slice A 0 c, .int .i64 (-1), .int .u8 120, .bool false, .int .u64 0, .int .i64 e, .int .i64 52] w' (Apps base w (fmtB 0))) := ⟨fun e w' hb => (fmtX_zero base A c e w' (Nat.le_trans hbs hb.size) (own_below hown hb)).mono (Apps.from hbs hb)⟩
  have z0 : bits BinOp.and IntKind.u64 0 4503599627370495 = 0 := rfl
  have z1 : bits BinOp.and IntKind.i64 0 2047 = 0 := rfl
  clear hbs hown
  go_enter Tryz.func222, Tryz.ntmps222
  go_wp2_with (first
    | rw [ext242, Oper.upon_value]
    | (go_at_call 244; (with_reducible refine (C.out _ _ (dn w _)).mono ?_); rintro e w2 ⟨A2, c2, N2, rfl, ho, hb⟩; have HO := Hd.mk ho; have HB := Hd.mk hb; clear ho hb))
  go_quiet (fail)
  go_wp2_with (first
    | rw [ext242, Oper.upon_value]
    | (go_at_call 244; (with_reducible refine (C.out _ _ (dn w _)).mono ?_); rintro e w2 ⟨A2, c2, N2, rfl, ho, hb⟩; have HO := Hd.mk ho; have HB := Hd.mk hb; clear ho hb))
  go_ret
  exact ⟨_, _, _, rfl, HO.out, HB.out⟩
theorem ftoa_pos (b q r M E : Int) (base : Nat) (A : Option Addr) (c : Nat) (w : World) (h0 : 0 < b) (h1 : b < 9218868437227405312) (hq : b / 4503599627370496 = q) (hr : b % 4503599627370496 = r) (hM : M = if q = 0 then r else r + 4503599627370496) (hE : E = if q = 0 then -1022 else q + -1023) (hbs : base ≤ w.heap.size) (hown : w.ownsRow base 5 1 (.slice A 0 c) 0 []) : Calls Tryz.prog 222 #[.slice A 0 c, .float .f64 b.toNat, .int .u8 120, .int .i64 (-1)] w (Apps base w (fmtL M E)) := by
  have C : Hd (∀ w', Below w.heap.size w w' → Calls Tryz.prog 244 #[.slice A 0 c, .int .i64 (-1), .int .u8 120, .bool false, .int .u64 M, .int .i64 E, .int .i64 52] w' (Apps base w (fmtL M E))) := ⟨fun w' hb => (fmtX_pos base A c M E w' (by split at hM <;> omega) (by split at hE <;> omega) (Nat.le_trans hbs hb.size) (own_below hown hb)).mono (Apps.from hbs hb)⟩
  have x242 : ∀ w, (callFunc 242 #[.float .f64 b.toNat]).run Tryz.prog w = .ok (.value (.int .u64 b)) w := fun w => by rw [ext242, Int.toNat_of_nonneg (by omega)]
  have X242 := Hd.mk x242
  have e63 : b / 9223372036854775808 = 0 := by omega
  have w1 : wrap64 q = q := by unfold wrap64; omega
  have a1 : bits BinOp.and IntKind.i64 q 2047 = q := and_expo (by omega) (by omega)
  have a2 : bits BinOp.and IntKind.u64 b 4503599627370495 = r := (and_frac (by omega) (by omega)).trans hr
  have a3 : bits BinOp.or IntKind.u64 r 4503599627370496 = r + 4503599627370496 := or_hid (by omega) (by omega)
  have q2047 : (q == 2047) = false := beq_eq_false_iff_ne.mpr (by omega)
  have q2047' : decide (q = 2047) = false := decide_eq_false (by omega)
  by_cases hz : q = 0
  · subst hz
    rw [if_pos rfl] at hM hE
    subst hM hE
    clear hr x242 hbs hown h0 h1
    go_enter Tryz.func222, Tryz.ntmps222
    go_wp2_with (first
      | rw [X242.out, Oper.upon_value]
      | (go_at_call 244; (with_reducible refine (C.out _ (dn w _)).mono ?_); rintro e w2 ⟨A2, c2, N2, rfl, ho, hb⟩; have HO := Hd.mk ho; have HB := Hd.mk hb; clear ho hb))
    go_quiet (fail)
    go_wp2_with (first
      | (go_at_call 244; (with_reducible refine (C.out _ (dn w _)).mono ?_); rintro e w2 ⟨A2, c2, N2, rfl, ho, hb⟩; have HO := Hd.mk ho; have HB := Hd.mk hb; clear ho hb))
    go_ret
    exact ⟨_, _, _, rfl, HO.out, HB.out⟩
  · have qz : (q == 0) = false := beq_eq_false_iff_ne.mpr hz
    have qz' : decide (q = 0) = false := decide_eq_false hz
    have w3 : wrap64 (q + -1023) = q + -1023 := by unfold wrap64; omega
    rw [if_neg hz] at hM hE
    subst hM hE
    clear hr x242 hbs hown h0 h1
    go_enter Tryz.func222, Tryz.ntmps222
    go_wp2_with (first
      | rw [X242.out, Oper.upon_value])
    go_quiet (fail)
    go_wp2_with (first
      | (go_at_call 244; (with_reducible refine (C.out _ (dn w _)).mono ?_); rintro e w2 ⟨A2, c2, N2, rfl, ho, hb⟩; have HO := Hd.mk ho; have HB := Hd.mk hb; clear ho hb))
    go_ret
    exact ⟨_, _, _, rfl, HO.out, HB.out⟩
theorem ftoa_any (b : Int) (h0 : 0 ≤ b) (h1 : b < 9218868437227405312) (base : Nat) (A : Option Addr) (c : Nat) (w : World) (hbs : base ≤ w.heap.size) (hown : w.ownsRow base 5 1 (.slice A 0 c) 0 []) : Calls Tryz.prog 222 #[.slice A 0 c, .float .f64 b.toNat, .int .u8 120, .int .i64 (-1)] w (Apps base w (fmtB b)) := by
  by_cases hz : b = 0
  · subst hz
    exact ftoa_zero base A c w hbs hown
  · have e : fmtB b = fmtL (manB b) (expB b) := by unfold fmtB; rw [if_neg hz]
    rw [e]
    exact ftoa_pos b _ _ _ _ base A c w (by omega) h1 rfl rfl rfl (by unfold expB; split <;> omega) hbs hown
theorem str_own {w : World} {base : Nat} {A : Option Addr} {N c : Nat} {xs : List Int} (h : w.ownsRow base 5 1 (.slice A N c) N (bytesV xs)) (hp : 0 < xs.length) : (convert 68 9 (.slice A N c)).run Tryz.prog w = .ok (.string (strOfNums xs)) w := by
  have hl := h.1
  simp [bytesV] at hl
  rcases h.2 with ⟨_, h2⟩ | ⟨g, cap, cur, hv, hb, hh, h3, h4, h5, h6⟩
  · omega
  · injection hv with e1 e2 e3
    subst e1 e3
    refine run_convert_bytes_arg w 68 5 Tryz.underlying68 Tryz.underlying5 g 0 N c xs (by omega) (fun i hi => ?_) 9 Tryz.underlying9
    have hc := World.ownsRow.cellAt h i (by omega)
    have hlt : i < xs.length := by omega
    rw [Nat.zero_add, hc]
    simp [bytesV, List.getD, List.getElem?_eq_getElem hlt]
theorem fmtB_pos (b : Int) : 0 < (fmtB b).length := by
  unfold fmtB fmtL
  split <;> simp
theorem fmt193 (b : Int) (h0 : 0 ≤ b) (h1 : b < 9218868437227405312) (w : World) : Calls Tryz.prog 193 #[.float .f64 b.toNat, .int .u8 120, .int .i64 (-1), .int .i64 64] w (SaysS (strOfNums (fmtB b)) w) := by
  obtain ⟨i, hi, hz, hs, hb⟩ := info_parts infoU8
  obtain ⟨w1, hmk, hown, hgr⟩ := run_make_own (P := Tryz.prog) w w.heap.size 68 5 i (.int .u8 0) 1 Tryz.underlying68 hi hz hs .i64 .i64 24 (by rw [hb]; decide) (by decide) (Nat.le_refl _)
  clear hi hz hs hb
  rw [show ((24 : Nat) : Int) = 24 from rfl] at hmk
  have hB : Below w.heap.size w w1 := (Below.refl _ w).grown hgr (Nat.le_refl _) (by simp)
  have C := Hd.mk (ftoa_any b h0 h1 w.heap.size _ _ w1 hB.size hown)
  have HB := Hd.mk hB
  have P := Hd.mk (fmtB_pos b)
  clear hown hgr hB h0 h1
  go_enter Tryz.func193, Tryz.ntmps193
  go_wp2_with (first | rw [hmk] | (go_at_call 222; (with_reducible refine C.out.mono ?_); rintro e w2 ⟨A2, c2, N2, rfl, ho, hb⟩; have HB2 := Hd.mk (HB.out.trans hb); have hcv := str_own ho P.out; clear ho hb) | rw [hcv])
  go_ret
  exact ⟨rfl, HB2.out⟩
theorem fmt174 (b : Int) (h0 : 0 ≤ b) (h1 : b < 9218868437227405312) (w : World) : Calls Tryz.prog 174 #[.float .f64 b.toNat, .int .u8 120, .int .i64 (-1), .int .i64 64] w (SaysS (strOfNums (fmtB b)) w) := by
  have C := Hd.mk (fmt193 b h0 h1 w)
  clear h0 h1
  go_enter Tryz.func174, Tryz.ntmps174
  go_wp2_with (go_at_call 193; (with_reducible refine C.out.mono ?_); rintro e w2 ⟨rfl, hb⟩; have HB := Hd.mk hb; clear hb)
  go_ret
  exact ⟨rfl, HB.out⟩
end Go.Proofs.YtbhgpegcdiohlaaGreatDoor.Tr

namespace Go.Proofs.YtbhgpegcdiohlaaGreatDoor.Tr
open Go Go.RowKit Go.Proofs
set_option linter.unusedVariables false
set_option maxRecDepth 100000
set_option maxHeartbeats 4000000
theorem ext194 (a : Int) (w : World) : (callFunc 194 #[.int .u64 a]).run Tryz.prog w = .ok (.value (.float .f64 a.toNat)) w := by
  rw [run_callFunc_extern Tryz.func194 (by kernel_rfl) (by kernel_rfl) (by kernel_rfl) (e := Extern.MathFloatBits.float64frombits) (by kernel_rfl)]
  rfl
theorem to_any (a : Int) (w : World) : Calls Tryz.prog 175 #[.int .u64 a] w fun e w' => e = .returned (.float .f64 a.toNat) ∧ w' = w := by
  go_enter Tryz.func175, Tryz.ntmps175
  go_wp2_with (rw [ext194, Oper.upon_value])
  go_ret
  exact ⟨rfl, rfl⟩
theorem idx163 (s : ByteArray) (c : Int) (w : World) : Calls Tryz.prog 163 #[.string s, .int .u8 c] w fun e w' => e = .returned (.int .i64 (Lib.indexByte s.data.toList c.toNat.toUInt8)) ∧ w' = w := by
  go_enter Tryz.func163, Tryz.ntmps163
  go_wp2_with (rw [ext182, Oper.upon_value])
  go_ret
  exact ⟨rfl, rfl⟩
theorem idx138 (s : ByteArray) (c : Int) (w : World) : Calls Tryz.prog 138 #[.string s, .int .u8 c] w fun e w' => e = .returned (.int .i64 (Lib.indexByte s.data.toList c.toNat.toUInt8)) ∧ w' = w := by
  go_enter Tryz.func138, Tryz.ntmps138
  go_wp2_with (go_at_call 163; (with_reducible refine (idx163 _ _ _).mono ?_); rintro e w2 ⟨rfl, rfl⟩)
  go_ret
  exact ⟨rfl, rfl⟩
theorem canon_ok (b : Int) (h0 : 0 ≤ b) (h1 : b ≤ 9218868437227405312) (w : World) : Calls Tryz.prog 126 #[.int .u64 b] w fun e w' => e = .returned (.int .u64 b) ∧ w' = w := by
  have e := andNot63 h0 (by omega)
  have d : decide (9218868437227405312 < b) = false := decide_eq_false (by omega)
  clear h0 h1
  go_enter Tryz.func126, Tryz.ntmps126
  go_wp2
  go_ret
  exact ⟨rfl, rfl⟩
theorem canon_nan (w : World) : Calls Tryz.prog 126 #[.int .u64 9221120237041090561] w fun e w' => e = .returned (.int .u64 9221120237041090561) ∧ w' = w := by
  have e := andNot63 (b := 9221120237041090561) (by omega) (by omega)
  go_enter Tryz.func126, Tryz.ntmps126
  go_wp2
  go_ret
  exact ⟨rfl, rfl⟩
theorem text_nan (w : World) : Calls Tryz.prog 149 #[.int .u64 9221120237041090561] w (SaysS ⟨#[110, 97, 110]⟩ w) := by
  go_enter Tryz.func149, Tryz.ntmps149
  go_wp2_with (go_at_call 126; (with_reducible refine (canon_nan _).mono ?_); rintro e w2 ⟨rfl, rfl⟩)
  go_ret
  exact ⟨rfl, up0 _⟩
theorem text_inf (w : World) : Calls Tryz.prog 149 #[.int .u64 9218868437227405312] w (SaysS ⟨#[105, 110, 102]⟩ w) := by
  go_enter Tryz.func149, Tryz.ntmps149
  go_wp2_with (go_at_call 126; (with_reducible refine (canon_ok _ (by decide) (by decide) _).mono ?_); rintro e w2 ⟨rfl, rfl⟩)
  go_ret
  exact ⟨rfl, up0 _⟩
theorem text_core (b : Int) (s : ByteArray) (i : Nat) (h0 : 0 ≤ b) (h1 : b < 9218868437227405312) (hs : strOfNums (fmtB b) = s) (hi : Lib.indexByte s.data.toList 112 = i) (hlen : s.size ≤ 1000) (h2 : i + 2 < s.size) (h3 : s[i + 2] ≠ 48) (w : World) : Calls Tryz.prog 149 #[.int .u64 b] w (SaysS s w) := by
  have C : Hd (∀ w, Calls Tryz.prog 174 #[.float .f64 b.toNat, .int .u8 120, .int .i64 (-1), .int .i64 64] w (SaysS s w)) := ⟨fun w => hs ▸ fmt174 b h0 h1 w⟩
  have CA : Hd (∀ w, Calls Tryz.prog 126 #[.int .u64 b] w fun e w' => e = .returned (.int .u64 b) ∧ w' = w) := ⟨fun w => canon_ok b h0 (by omega) w⟩
  have HI : Hd (∀ w, Calls Tryz.prog 138 #[.string s, .int .u8 112] w fun e w' => e = .returned (.int .i64 (i : Int)) ∧ w' = w) := ⟨fun w => (idx138 s 112 w).mono (by rintro e w' ⟨rfl, rfl⟩; exact ⟨by rw [← hi]; rfl, rfl⟩)⟩
  have n1 : (b == 9221120237041090561) = false := beq_eq_false_iff_ne.mpr (by omega)
  have n2 : (b == 9218868437227405312) = false := beq_eq_false_iff_ne.mpr (by omega)
  have n3 : (b == 18442240474082181120) = false := beq_eq_false_iff_ne.mpr (by omega)
  clear h0 h1 hs hi
  go_enter Tryz.func149, Tryz.ntmps149
  go_wp2_with (first
    | (go_at_call 126; (with_reducible refine (CA.out _).mono ?_); rintro e w2 ⟨rfl, rfl⟩)
    | (go_at_call 175; (with_reducible refine (to_any _ _).mono ?_); rintro e w2 ⟨rfl, rfl⟩)
    | (go_at_call 174; (with_reducible refine (C.out _).mono ?_); rintro e w3 ⟨rfl, hb⟩; have HB := Hd.mk hb; clear hb)
    | (go_at_call 138; (with_reducible refine (HI.out _).mono ?_); rintro e w2 ⟨rfl, rfl⟩))
  have hq : ((s[i + 2].toNat : Int) == 48) = false := beq_eq_false_iff_ne.mpr (fun h => h3 (UInt8.toNat_inj.1 (Int.ofNat_inj.1 h)))
  refine wp_loop_rounds 1 ?_
  rw [rounds_succ]
  go_wp2
  all_goals
    go_ret
    exact ⟨rfl, HB.out⟩
theorem text_cut (b : Int) (s : ByteArray) (i : Nat) (h0 : 0 ≤ b) (h1 : b < 9218868437227405312) (hs : strOfNums (fmtB b) = s) (hi : Lib.indexByte s.data.toList 112 = i) (hlen : s.size ≤ 1000) (h2 : i + 4 = s.size) (h3 : ∀ h : i + 2 < s.size, s[i + 2] = 48) (w : World) : Calls Tryz.prog 149 #[.int .u64 b] w (SaysS (s.extract 0 (i + 2) ++ s.extract (i + 3) s.size) w) := by
  have C : Hd (∀ w, Calls Tryz.prog 174 #[.float .f64 b.toNat, .int .u8 120, .int .i64 (-1), .int .i64 64] w (SaysS s w)) := ⟨fun w => hs ▸ fmt174 b h0 h1 w⟩
  have CA : Hd (∀ w, Calls Tryz.prog 126 #[.int .u64 b] w fun e w' => e = .returned (.int .u64 b) ∧ w' = w) := ⟨fun w => canon_ok b h0 (by omega) w⟩
  have HI : Hd (∀ w, Calls Tryz.prog 138 #[.string s, .int .u8 112] w fun e w' => e = .returned (.int .i64 (i : Int)) ∧ w' = w) := ⟨fun w => (idx138 s 112 w).mono (by rintro e w' ⟨rfl, rfl⟩; exact ⟨by rw [← hi]; rfl, rfl⟩)⟩
  have n1 : (b == 9221120237041090561) = false := beq_eq_false_iff_ne.mpr (by omega)
  have n2 : (b == 9218868437227405312) = false := beq_eq_false_iff_ne.mpr (by omega)
  have n3 : (b == 18442240474082181120) = false := beq_eq_false_iff_ne.mpr (by omega)
  clear h0 h1 hs hi
  have h4 : i + 2 < s.size := by omega
  have hq : ((s[i + 2].toNat : Int) == 48) = true := by rw [h3 h4]; rfl
  have l1 : decide ((i : Int) + 2 + 1 < (s.size : Int)) = true := decide_eq_true (by omega)
  go_enter Tryz.func149, Tryz.ntmps149
  go_wp2_with (first
    | (go_at_call 126; (with_reducible refine (CA.out _).mono ?_); rintro e w2 ⟨rfl, rfl⟩)
    | (go_at_call 175; (with_reducible refine (to_any _ _).mono ?_); rintro e w2 ⟨rfl, rfl⟩)
    | (go_at_call 174; (with_reducible refine (C.out _).mono ?_); rintro e w3 ⟨rfl, hb⟩; have HB := Hd.mk hb; clear hb)
    | (go_at_call 138; (with_reducible refine (HI.out _).mono ?_); rintro e w2 ⟨rfl, rfl⟩))
  refine wp_loop_rounds 2 ?_
  rw [rounds_succ]
  go_wp2
  go_quiet (fail)
  go_wp2
  rw [rounds_succ]
  go_wp2
  go_ret
  exact ⟨rfl, below_drewN HB.out _⟩
theorem bytes_idx (pre : List Int) (r : List Int) (hp : ∀ c ∈ pre, 0 ≤ c ∧ c < 256 ∧ c ≠ 112) : Lib.indexByte (strOfNums (pre ++ 112 :: r)).data.toList 112 = pre.length := by
  rw [strOfNums_data, List.map_append, List.map_cons]
  have h := idx_at (pre.map fun n => UInt8.ofNat n.toNat) (r.map fun n => UInt8.ofNat n.toNat) (fun c hc => by
    obtain ⟨n, hn, rfl⟩ := List.mem_map.1 hc
    have := hp n hn
    intro h
    have h2 := congrArg UInt8.toNat h
    simp only [UInt8.toNat_ofNat'] at h2
    rw [Nat.mod_eq_of_lt (by omega)] at h2
    have : (112 : UInt8).toNat = 112 := rfl
    omega)
  rw [List.length_map] at h
  exact h
theorem bytes_get (l : List Int) (i : Nat) (h : i < (strOfNums l).size) (hi : i < l.length) : (strOfNums l)[i] = UInt8.ofNat (l[i]).toNat := by
  have h1 : (strOfNums l).data.toList[i]? = (l.map fun n => UInt8.ofNat n.toNat)[i]? := by rw [strOfNums_data]
  rw [List.getElem?_map, List.getElem?_eq_getElem hi] at h1
  rw [Array.getElem?_toList] at h1
  have h2 := Array.getElem?_eq_getElem (xs := (strOfNums l).data) (i := i) h
  rw [h2] at h1
  exact Option.some.inj h1
theorem bytes_cut (a : List Int) (c d : Int) : (strOfNums (a ++ [c, d])).extract 0 a.length ++ (strOfNums (a ++ [c, d])).extract (a.length + 1) (strOfNums (a ++ [c, d])).size = strOfNums (a ++ [d]) := by
  apply ByteArray.ext
  apply Array.ext'
  rw [ByteArray.data_append, Array.toList_append, ByteArray.data_extract, ByteArray.data_extract, Array.toList_extract, Array.toList_extract, strOfNums_data, strOfNums_data, strOfNums_size]
  have hl : a.length = (a.map fun n => UInt8.ofNat n.toNat).length := by simp
  simp
  rw [hl, List.drop_append, List.drop_eq_nil_of_le (by simp)]
  simp
theorem text_split (b : Int) (h0 : 0 ≤ b) (h1 : b < 9218868437227405312) (pre : List Int) (sg : Int) (ds es : List Int) (hl : fmtB b = pre ++ 112 :: sg :: ds) (hp : ∀ c ∈ pre, 0 ≤ c ∧ c < 256 ∧ c ≠ 112) (hlen : pre.length ≤ 900) (hd : (∃ d, ds = [48, d] ∧ es = [d]) ∨ (∃ d r, ds = d :: r ∧ es = ds ∧ 48 < d ∧ d < 256 ∧ r.length ≤ 3)) (w : World) : Calls Tryz.prog 149 #[.int .u64 b] w (SaysS (strOfNums (pre ++ 112 :: sg :: es)) w) := by
  rcases hd with ⟨d, rfl, rfl⟩ | ⟨d, r, rfl, rfl, h2, h3, h4⟩
  · have e := bytes_cut (pre ++ [112, sg]) 48 d
    rw [show pre ++ 112 :: sg :: [d] = pre ++ [112, sg] ++ [d] by simp, ← e]
    have hl' : fmtB b = pre ++ [112, sg] ++ [48, d] := by rw [hl]; simp
    have hsz : (pre ++ [112, sg]).length = pre.length + 2 := by simp
    rw [hsz]
    refine text_cut b _ pre.length h0 h1 (by rw [hl']) (by rw [show pre ++ [112, sg] ++ [48, d] = pre ++ 112 :: [sg, 48, d] by simp]; exact bytes_idx pre _ hp) (by rw [strOfNums_size]; simp; omega) (by rw [strOfNums_size]; simp) (fun h => ?_) w
    rw [bytes_get _ _ h (by simp)]
    have : (pre ++ [112, sg] ++ [48, d])[pre.length + 2]'(by simp) = 48 := by
      rw [List.getElem_append_right (by simp)]
      simp
    rw [this]
    rfl
  · refine text_core b _ pre.length h0 h1 (by rw [hl]) (bytes_idx pre _ hp) (by rw [strOfNums_size]; simp; omega) (by rw [strOfNums_size]; simp) ?_ w
    have hb : pre.length + 2 < (strOfNums (pre ++ 112 :: sg :: d :: r)).size := by rw [strOfNums_size]; simp
    rw [bytes_get _ _ hb (by simp)]
    have : (pre ++ 112 :: sg :: d :: r)[pre.length + 2]'(by simp) = d := by
      rw [List.getElem_append_right (by simp)]
      simp
    rw [this]
    intro h
    have h5 := congrArg UInt8.toNat h
    simp only [UInt8.toNat_ofNat'] at h5
    rw [Nat.mod_eq_of_lt (by omega)] at h5
    have : (48 : UInt8).toNat = 48 := rfl
    omega
theorem exp_dec (F : Int) (h0 : 0 ≤ F) (h1 : F < 3001) : (∃ d, expL F = [48, d] ∧ decL F = [d]) ∨ (∃ d r, expL F = d :: r ∧ decL F = expL F ∧ 48 < d ∧ d < 256 ∧ r.length ≤ 3) := by
  unfold expL decL
  by_cases c1 : F < 10
  · left
    rw [if_pos (show F < 100 by omega), if_pos c1, show F / 10 = 0 by omega, show F % 10 = F by omega]
    exact ⟨_, rfl, rfl⟩
  · right
    rw [if_neg c1]
    by_cases c2 : F < 100
    · simp only [if_pos c2]
      exact ⟨_, _, rfl, trivial, by omega, by omega, by simp⟩
    · simp only [if_neg c2]
      by_cases c3 : F < 1000
      · simp only [if_pos c3]
        exact ⟨_, _, rfl, trivial, by omega, by omega, by simp⟩
      · simp only [if_neg c3]
        exact ⟨_, _, rfl, trivial, by omega, by omega, by simp⟩
theorem frac_mem (X : Int) (h0 : 0 ≤ X) (h1 : X < 18446744073709551616) : ∀ c ∈ fracL X, 0 ≤ c ∧ c < 256 ∧ c ≠ 112 := by
  intro c hc
  unfold fracL at hc
  split at hc
  · simp at hc
  · rcases List.mem_cons.1 hc with rfl | h
    · decide
    · have := hexL_mem 16 X h0 h1 c h
      omega
theorem float_text (b : Int) (h0 : 0 ≤ b) (h1 : b ≤ 9218868437227405312 ∨ b = 9221120237041090561) (w : World) : Calls Tryz.prog 149 #[.int .u64 b] w (SaysS (strOfNums (txtL b)) w) := by
  by_cases c1 : b = 9221120237041090561
  · subst c1; exact text_nan w
  · by_cases c2 : b = 9218868437227405312
    · subst c2; exact text_inf w
    · have h2 : b < 9218868437227405312 := by omega
      by_cases c3 : b = 0
      · subst c3
        exact text_split 0 h0 h2 [48, 120, 48] 43 [48, 48] [48] rfl (by decide) (by decide) (.inl ⟨_, rfl, rfl⟩) w
      · have e : txtL b = ([48, 120, 49] ++ fracL ((nrm 52 (manB b * 256) (expB b)).1 * 16 % 18446744073709551616)) ++ 112 :: (if (nrm 52 (manB b * 256) (expB b)).2 < 0 then 45 else 43) :: decL (if (nrm 52 (manB b * 256) (expB b)).2 < 0 then -(nrm 52 (manB b * 256) (expB b)).2 else (nrm 52 (manB b * 256) (expB b)).2) := by
          unfold txtL finL
          rw [if_neg c1, if_neg c2, if_neg c3]
          simp
        rw [e]
        have hE : -1022 ≤ expB b ∧ expB b ≤ 1024 := by unfold expB; split <;> omega
        have hn := nrm_lo 52 (manB b * 256) (expB b)
        have hfl : (fracL ((nrm 52 (manB b * 256) (expB b)).1 * 16 % 18446744073709551616)).length ≤ 17 := by
          unfold fracL
          split
          · simp
          · have := hexL_len 16 ((nrm 52 (manB b * 256) (expB b)).1 * 16 % 18446744073709551616)
            simp; omega
        refine text_split b h0 h2 _ _ _ _ (by unfold fmtB fmtL; rw [if_neg c3]; simp) (fun c hc => ?_) (by simp; omega) (exp_dec _ (by split <;> omega) (by split <;> omega)) w
        rcases List.mem_append.1 hc with h | h
        · have : ∀ c ∈ [48, 120, 49], 0 ≤ c ∧ c < 256 ∧ c ≠ (112 : Int) := by decide
          exact this c h
        · exact frac_mem _ (by omega) (by omega) c h
end Go.Proofs.YtbhgpegcdiohlaaGreatDoor.Tr
