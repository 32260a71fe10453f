import Derived.Test.YtbhgpegcdiohlaaGreatDoorLlC
import Derived.Test.YtbhgpegcdiohlaaGreatDoorTrP
import Derived.Test.YtbhgpegcdiohlaaGreatDoorRrM
namespace Go.Proofs.YtbhgpegcdiohlaaGreatDoor.Tr
open Go Go.RowKit Go.Proofs
set_option linter.unusedVariables false
set_option maxRecDepth 100000
set_option maxHeartbeats 4000000
/-- a text of one new byte -/
theorem byte_str (w : World) (c : Int) : (convert 68 9 (.slice (some ⟨w.heap.size, 0, none⟩) 1 1)).run Tryz.prog (w.alloc (.cells #[.int .u8 c] 5 (0, 0))) = .ok (.string (strOfNums [c])) (w.alloc (.cells #[.int .u8 c] 5 (0, 0))) := by
  refine run_convert_bytes_arg _ 68 5 Tryz.underlying68 Tryz.underlying5 w.heap.size 0 1 1 [c] rfl (fun i hi => ?_) 9 Tryz.underlying9
  obtain rfl : i = 0 := by omega
  rw [Nat.zero_add, new_cell]
  rfl
theorem dec_digits (u : Nat) : ⟨(Lib.decDigits u).toArray⟩ = (if u < 10 then (⟨#[]⟩ : ByteArray) else ⟨(Lib.decDigits (u / 10)).toArray⟩) ++ strOfNums [48 + ((u % 10 : Nat) : Int)] := by
  apply ByteArray.ext
  apply Array.ext'
  rw [ByteArray.data_append, Array.toList_append, strOfNums_data, Lib.decDigits]
  by_cases h : u < 10
  · rw [dif_pos h, if_pos h]
    have e : (48 + (u : Int)).toNat = 48 + u := by omega
    simp only [Nat.mod_eq_of_lt h, List.map_cons, List.map_nil, e]
    rfl
  · rw [dif_neg h, if_neg h]
    have e : (48 + ((u % 10 : Nat) : Int)).toNat = 48 + u % 10 := by omega
    simp only [List.map_cons, List.map_nil, e]
theorem rdec_any (u : Nat) : ∀ (hu : u < 9223372036854775808) (w : World), Calls Tryz.prog 176 #[.int .i64 (u : Int)] w (SaysS ⟨(Lib.decDigits u).toArray⟩ w) := by
  induction u using Nat.strongRecOn with
  | _ u ih =>
  intro hu w
  have e := dec_digits u
  have h4 : decide ((u : Int) < 0) = false := decide_eq_false (by omega)
  have hm : ((u % 10 : Nat) : Int) = (u : Int) % 10 := by omega
  rw [hm] at e
  by_cases h : u < 10
  · rw [if_pos h] at e
    have h2 : (u : Int) / 10 = 0 := by omega
    have z : ∀ c, (9223372036854775807 < (strOfNums [c]).size) = False := fun c => eq_false (by rw [strOfNums_size]; simp)
    rw [e]
    clear e ih
    go_enter Tryz.func176, Tryz.ntmps176
    go_wp2_with (rw [byte_str])
    go_ret
    exact ⟨rfl, up (up0 _) _⟩
  · rw [if_neg h] at e
    have h1 : u / 10 < u := by omega
    have C := Hd.mk (ih (u / 10) h1 (by omega))
    obtain ⟨D, hD⟩ : ∃ D : ByteArray, D = ⟨(Lib.decDigits (u / 10)).toArray⟩ := ⟨_, rfl⟩
    obtain ⟨q, hq⟩ : ∃ q : Int, q = ((u / 10 : Nat) : Int) := ⟨_, rfl⟩
    have h2 : (u : Int) / 10 = q := by omega
    have hq0 : ¬ q = 0 := by omega
    have h3 : (q != 0) = true := bne_iff_ne.mpr hq0
    have hds : D.size ≤ 30 := by
      have := Lib.itoa_length_le ((u / 10 : Nat) : Int) (by omega) (by omega)
      rw [Lib.itoa_nonneg] at this
      rw [hD]
      show (Lib.decDigits (u / 10)).toArray.size ≤ 30
      simp
      omega
    have z : ∀ c, (9223372036854775807 < D.size + (strOfNums [c]).size) = False := fun c => eq_false (by rw [strOfNums_size]; simp; omega)
    have C2 : Hd (∀ w, Calls Tryz.prog 176 #[.int .i64 q] w (SaysS D w)) := ⟨fun w => by rw [hq, hD]; exact C.out w⟩
    rw [e, ← hD]
    clear e ih C hD hq hds
    go_enter Tryz.func176, Tryz.ntmps176
    go_wp2_with (first | rw [byte_str] | (go_at_call 176; (with_reducible refine (C2.out _).mono ?_); rintro e w2 ⟨rfl, hb⟩; have HB := Hd.mk hb; clear hb))
    go_ret
    exact ⟨rfl, up HB.out _⟩
/-- foundryref02.Decimal of a number that isn't below zero -/
theorem rdecimal (b : Int) (h0 : 0 ≤ b) (h1 : b < 9223372036854775808) (w : World) : Calls Tryz.prog 176 #[.int .i64 b] w (SaysS ⟨(Lib.itoa b).toArray⟩ w) := by
  obtain ⟨u, rfl⟩ := Int.eq_ofNat_of_zero_le h0
  rw [Lib.itoa_nonneg]
  exact rdec_any u (by omega) w
end Go.Proofs.YtbhgpegcdiohlaaGreatDoor.Tr

namespace Go.Proofs.YtbhgpegcdiohlaaGreatDoor.Tr
open Go Go.RowKit Go.Proofs
set_option linter.unusedVariables false
set_option maxRecDepth 100000
set_option maxHeartbeats 4000000
theorem and_2047 {q : Int} (h0 : 0 ≤ q) (h1 : q < 2048) : Go.bits .and .u64 q 2047 = q := by
  obtain ⟨n, rfl⟩ := Int.eq_ofNat_of_zero_le h0
  have h := bits_and_u64_nat n 2047 (by omega) (by decide)
  rw [show (2047 : Nat) = 2 ^ 11 - 1 from rfl, Nat.and_two_pow_sub_one_eq_mod, Nat.mod_eq_of_lt (by omega)] at h
  exact h
/-- the class of a float -/
def clsB (b : Int) : Int := if b / 4503599627370496 = 2047 then (if b % 4503599627370496 = 0 then 2 else 1) else if b / 4503599627370496 = 0 then (if b % 4503599627370496 = 0 then 3 else 4) else 5
theorem class_any (b : Int) (h0 : 0 ≤ b) (h1 : b < 9223372036854775808) (w : World) : Calls Tryz.prog 195 #[.int .u64 b] w fun e w' => e = .returned (.int .i64 (clsB b)) ∧ w' = w := by
  obtain ⟨q, hq⟩ : ∃ q, q = b / 4503599627370496 := ⟨_, rfl⟩
  obtain ⟨r, hr⟩ : ∃ r, r = b % 4503599627370496 := ⟨_, rfl⟩
  have e1 : b / 4503599627370496 = q := hq.symm
  have e2 : bits BinOp.and IntKind.u64 q 2047 = q := and_2047 (by omega) (by omega)
  obtain ⟨s, hs⟩ : ∃ s, s = r * 4096 := ⟨_, rfl⟩
  have e3 : IntKind.u64.wrap (b * 4096) = s := by rw [IntKind.wrap_u64]; omega
  unfold clsB
  rw [e1, ← hr]
  by_cases c1 : q = 2047
  · rw [if_pos c1]
    have d1 : (q == 2047) = true := by rw [c1]; rfl
    by_cases c2 : r = 0
    · rw [if_pos c2]
      have d2 : (s != 0) = false := by rw [hs, c2]; rfl
      clear h0 h1 hq hr hs c1 c2
      go_enter Tryz.func195, Tryz.ntmps195
      go_wp2
      go_ret
      exact ⟨rfl, rfl⟩
    · rw [if_neg c2]
      have d2 : (s != 0) = true := bne_iff_ne.mpr (by omega)
      clear h0 h1 hq hr hs c1 c2
      go_enter Tryz.func195, Tryz.ntmps195
      go_wp2
      go_ret
      exact ⟨rfl, rfl⟩
  · rw [if_neg c1]
    have d1 : (q == 2047) = false := beq_eq_false_iff_ne.mpr c1
    by_cases c3 : q = 0
    · rw [if_pos c3]
      have d3 : (q == 0) = true := by rw [c3]; rfl
      by_cases c2 : r = 0
      · rw [if_pos c2]
        have d2 : (s == 0) = true := by rw [hs, c2]; rfl
        clear h0 h1 hq hr hs c1 c2 c3
        go_enter Tryz.func195, Tryz.ntmps195
        go_wp2
        go_ret
        exact ⟨rfl, rfl⟩
      · rw [if_neg c2]
        have d2 : (s == 0) = false := beq_eq_false_iff_ne.mpr (by omega)
        clear h0 h1 hq hr hs c1 c2 c3
        go_enter Tryz.func195, Tryz.ntmps195
        go_wp2
        go_ret
        exact ⟨rfl, rfl⟩
    · rw [if_neg c3]
      have d3 : (q == 0) = false := beq_eq_false_iff_ne.mpr c3
      clear h0 h1 hq hr hs c1 c3
      go_enter Tryz.func195, Tryz.ntmps195
      go_wp2
      go_ret
      exact ⟨rfl, rfl⟩
theorem parts_pos (b : Int) (h0 : 0 < b) (h1 : b < 9218868437227405312) (w : World) : Calls Tryz.prog 196 #[.int .u64 b] w fun e w' => e = .returned (.tuple #[.bool false, .int .u64 (manB b), .int .i64 (expB b - 52)]) ∧ w' = w := by
  have C : Hd (∀ w, Calls Tryz.prog 195 #[.int .u64 b] w fun e w' => e = .returned (.int .i64 (clsB b)) ∧ w' = w) := ⟨fun w => class_any b (by omega) (by omega) w⟩
  obtain ⟨q, hq⟩ : ∃ q, q = b / 4503599627370496 := ⟨_, rfl⟩
  obtain ⟨r, hr⟩ : ∃ r, r = b % 4503599627370496 := ⟨_, rfl⟩
  have e1 : b / 4503599627370496 = q := hq.symm
  have e2 : bits BinOp.and IntKind.u64 q 2047 = q := and_2047 (by omega) (by omega)
  have e3 : bits BinOp.and IntKind.u64 b 4503599627370495 = r := (and_frac (by omega) (by omega)).trans hr.symm
  have e4 : bits BinOp.or IntKind.u64 r 4503599627370496 = r + 4503599627370496 := or_hid (by omega) (by omega)
  have e5 : b / 9223372036854775808 = 0 := by omega
  have w1 : wrap64 q = q := by unfold wrap64; omega
  have hc : clsB b = if q = 0 then 4 else 5 := by
    unfold clsB
    rw [e1, ← hr, if_neg (by omega)]
    by_cases c : q = 0
    · rw [if_pos c, if_pos c, if_neg (by omega)]
    · rw [if_neg c, if_neg c]
  unfold manB expB
  rw [e1, ← hr]
  rw [hc] at C
  by_cases c : q = 0
  · rw [if_pos c, if_pos c]
    rw [if_pos c] at C
    clear h0 h1 hq hr hc
    go_enter Tryz.func196, Tryz.ntmps196
    go_wp2_with (go_at_call 195; (with_reducible refine (C.out _).mono ?_); rintro e w2 ⟨rfl, rfl⟩)
    refine bodyPost_ret (v := .tuple #[.bool false, .int .u64 r, .int .i64 (-1074)]) (by simp [results, Tryz.results196, go_sem]) rfl ⟨?_, rfl⟩
    rfl
  · rw [if_neg c, if_neg c]
    rw [if_neg c] at C
    have w2 : wrap64 (q - 1075) = q - 1023 - 52 := by unfold wrap64; omega
    have w3 : wrap64 (q + -1075) = q - 1023 - 52 := by unfold wrap64; omega
    clear h0 h1 hq hr hc
    go_enter Tryz.func196, Tryz.ntmps196
    go_wp2_with (go_at_call 195; (with_reducible refine (C.out _).mono ?_); rintro e w2 ⟨rfl, rfl⟩)
    refine bodyPost_ret (v := .tuple #[.bool false, .int .u64 (r + 4503599627370496), .int .i64 (q - 1023 - 52)]) (by simp [results, Tryz.results196, go_sem]; omega) rfl ⟨?_, rfl⟩
    rfl
end Go.Proofs.YtbhgpegcdiohlaaGreatDoor.Tr

namespace Go.Proofs.YtbhgpegcdiohlaaGreatDoor.Tr
open Go Go.RowKit Go.Proofs
set_option linter.unusedVariables false
set_option maxRecDepth 100000
set_option maxHeartbeats 4000000
theorem strNums_append (a b : List Int) : strOfNums (a ++ b) = strOfNums a ++ strOfNums b := by
  apply ByteArray.ext
  apply Array.ext'
  rw [ByteArray.data_append, Array.toList_append, strOfNums_data, strOfNums_data, strOfNums_data, List.map_append]
def CutAt (d : Int) : Prop := ∀ w : World, (Instr.slice 9 (Value.string ⟨#[48, 49, 50, 51, 52, 53, 54, 55, 56, 57, 97, 98, 99, 100, 101, 102]⟩) (some (Value.int IntKind.u64 d)) (some (Value.int IntKind.u64 (d + 1))) none).run Tryz.prog w = .ok (.string (strOfNums [hexc d])) w
theorem cut0 : CutAt 0 := fun w => by kernel_rfl
theorem cut1 : CutAt 1 := fun w => by kernel_rfl
theorem cut2 : CutAt 2 := fun w => by kernel_rfl
theorem cut3 : CutAt 3 := fun w => by kernel_rfl
theorem cut4 : CutAt 4 := fun w => by kernel_rfl
theorem cut5 : CutAt 5 := fun w => by kernel_rfl
theorem cut6 : CutAt 6 := fun w => by kernel_rfl
theorem cut7 : CutAt 7 := fun w => by kernel_rfl
theorem cut8 : CutAt 8 := fun w => by kernel_rfl
theorem cut9 : CutAt 9 := fun w => by kernel_rfl
theorem cut10 : CutAt 10 := fun w => by kernel_rfl
theorem cut11 : CutAt 11 := fun w => by kernel_rfl
theorem cut12 : CutAt 12 := fun w => by kernel_rfl
theorem cut13 : CutAt 13 := fun w => by kernel_rfl
theorem cut14 : CutAt 14 := fun w => by kernel_rfl
theorem cut15 : CutAt 15 := fun w => by kernel_rfl
theorem hex_cut (d : Int) (h0 : 0 ≤ d) (h1 : d < 16) : CutAt d := by
  have : d = 0 ∨ d = 1 ∨ d = 2 ∨ d = 3 ∨ d = 4 ∨ d = 5 ∨ d = 6 ∨ d = 7 ∨ d = 8 ∨ d = 9 ∨ d = 10 ∨ d = 11 ∨ d = 12 ∨ d = 13 ∨ d = 14 ∨ d = 15 := by omega
  rcases this with rfl | rfl | rfl | rfl | rfl | rfl | rfl | rfl | rfl | rfl | rfl | rfl | rfl | rfl | rfl | rfl
  · exact cut0
  · exact cut1
  · exact cut2
  · exact cut3
  · exact cut4
  · exact cut5
  · exact cut6
  · exact cut7
  · exact cut8
  · exact cut9
  · exact cut10
  · exact cut11
  · exact cut12
  · exact cut13
  · exact cut14
  · exact cut15
def lenB : Value → Nat
  | .string s => s.size
  | _ => 0
theorem rtext_fin (b : Int) (h0 : 0 < b) (h1 : b < 9218868437227405312) (w : World) (hdec : ∀ (n : Int), 0 ≤ n → n ≤ 3000 → ∀ w, Calls Tryz.prog 197 #[.int .i64 n] w (SaysS (strOfNums (decL n)) w)) : Calls Tryz.prog 177 #[.int .u64 b] w (SaysS (strOfNums (finL (manB b) (expB b))) w) := by
  have hcl : clsB b = 4 ∨ clsB b = 5 := by
    unfold clsB
    rw [if_neg (by omega)]
    split
    · rw [if_neg (by omega)]; exact .inl rfl
    · exact .inr rfl
  have k1 : (clsB b == 1) = false := beq_eq_false_iff_ne.mpr (by omega)
  have k2 : (clsB b == 2) = false := beq_eq_false_iff_ne.mpr (by omega)
  have k3 : (clsB b == 3) = false := beq_eq_false_iff_ne.mpr (by omega)
  have CL : Hd (∀ w, Calls Tryz.prog 195 #[.int .u64 b] w fun e w' => e = .returned (.int .i64 (clsB b)) ∧ w' = w) := ⟨fun w => class_any b (by omega) (by omega) w⟩
  have CP : Hd (∀ w, Calls Tryz.prog 196 #[.int .u64 b] w fun e w' => e = .returned (.tuple #[.bool false, .int .u64 (manB b), .int .i64 (expB b - 52)]) ∧ w' = w) := ⟨fun w => parts_pos b h0 h1 w⟩
  have e5 : b / 9223372036854775808 = 0 := by omega
  have HM : Hd (0 < manB b ∧ manB b < 9007199254740992) := ⟨by unfold manB; split <;> omega⟩
  have HEE : Hd (-1022 ≤ expB b ∧ expB b ≤ 1024) := ⟨by unfold expB; split <;> omega⟩
  clear h0 h1 hcl
  go_enter Tryz.func177, Tryz.ntmps177
  go_wp2_with (first
    | (go_at_call 195; (with_reducible refine (CL.out _).mono ?_); rintro e w2 ⟨rfl, rfl⟩)
    | (go_at_call 196; (with_reducible refine (CP.out _).mono ?_); rintro e w2 ⟨rfl, rfl⟩))
  go_loopw [5, 6] (fun v i w' => ∃ (k : Nat) (M E : Int), v = .int .u64 M ∧ i = .int .i64 E ∧ 0 < M ∧ M < 9007199254740992 ∧ 4503599627370496 ≤ M * 2 ^ k ∧ k ≤ 60 ∧ -3000 + k ≤ E ∧ E ≤ 2000 ∧ nrm k (M * 256) (E + 52) = nrm 52 (manB b * 256) (expB b) ∧ w' = w2) (fun v _ _ => 9007199254740992 - (intOf v).toNat)
  case atStart => exact ⟨52, _, _, rfl, rfl, HM.out.1, HM.out.2, by have := HM.out; omega, by omega, by have := HEE.out; omega, by have := HEE.out; omega, by rw [show expB b - 52 + 52 = expB b by omega], rfl⟩
  case round =>
    obtain ⟨k, M, E, rfl, rfl, h1, h2, h3, h4, h5, h6, h7, rfl⟩ := hrel
    by_cases hlo : M < 4503599627370496
    · have hz : M / 4503599627370496 = 0 := by omega
      obtain ⟨q, rfl⟩ : ∃ q, k = q + 1 := ⟨k - 1, by cases k with | zero => simp at h3; omega | succ => rfl⟩
      have ew : IntKind.u64.wrap (M * 2) = M * 2 := by rw [IntKind.wrap_u64]; omega
      have ee : wrap64 (E - 1) = E - 1 := by unfold wrap64; omega
      have h3' : 4503599627370496 ≤ M * 2 * 2 ^ q := by rw [Int.pow_succ] at h3; rw [Int.mul_assoc, Int.mul_comm 2]; exact h3
      have h7' : nrm q (M * 2 * 256) (E - 1 + 52) = nrm 52 (manB b * 256) (expB b) := by
        rw [nrm, if_pos (by omega)] at h7
        rw [← h7, show M * 2 * 256 = M * 256 * 2 by omega, show E - 1 + 52 = E + 52 - 1 by omega]
      have HH := Hd.mk (And.intro h1 (And.intro hlo (And.intro h3' (And.intro h4 (And.intro h5 (And.intro h6 h7'))))))
      have EW := Hd.mk ew
      have EE := Hd.mk ee
      clear h1 h2 h3 h4 h5 h6 h7 h3' h7' hlo ew ee
      go_wp2
      go_roundw
      case rel => exact ⟨q, M * 2, E - 1, rfl, by rw [EE.out], by have := HH.out; omega, by have := HH.out; omega, HH.out.2.2.1, by have := HH.out; omega, by have := HH.out; omega, by have := HH.out; omega, HH.out.2.2.2.2.2.2, trivial⟩
      case measure => have := HH.out; simp only [intOf]; omega
    · have hz : (M / 4503599627370496 == 0) = false := beq_eq_false_iff_ne.mpr (by omega)
      have eN : nrm 52 (manB b * 256) (expB b) = (M * 256, E + 52) := by rw [← h7]; exact nrm_at (by omega)
      obtain ⟨E1, hE1⟩ : ∃ E1, E1 = E + 52 := ⟨_, rfl⟩
      rw [← hE1] at eN
      have eE : wrap64 (E + 52) = E1 := by unfold wrap64; omega
      obtain ⟨X, hX⟩ : ∃ X, X = M * 256 * 16 % 18446744073709551616 := ⟨_, rfl⟩
      have EX : IntKind.u64.wrap (M * 4096) = X := by rw [IntKind.wrap_u64]; omega
      have HX := Hd.mk hX
      have HX1 : Hd (0 ≤ X ∧ X < 18446744073709551616) := ⟨by omega⟩
      have HE : Hd (-3000 ≤ E1 ∧ E1 ≤ 2052) := ⟨by omega⟩
      have HN := Hd.mk eN
      clear h1 h2 h3 h4 h5 h6 h7 hlo eN hX hE1
      obtain ⟨w0, rfl⟩ : ∃ w0 : World, w0 = wr := ⟨_, rfl⟩
      by_cases hx0 : X = 0
      · have xb : (X != 0) = false := by rw [hx0]; rfl
        go_wp2
        rw [eE]
        go_loopw [3, 5] (fun v y w' => ∃ (j : Nat) (S : ByteArray) (Y : Int) (ds : List Int), v = .string S ∧ y = .int .u64 Y ∧ 0 ≤ Y ∧ Y < 18446744073709551616 ∧ (∃ Z : Int, Y = Z * 16 ^ j) ∧ j ≤ 16 ∧ ds.length = j ∧ ds ++ hexL (16 - j) Y = hexL 16 X ∧ S = strOfNums ([48, 120, 49] ++ ds) ∧ w' = w0) (fun v _ _ => 100 - lenB v)
        case atStart => exact ⟨0, _, X, [], rfl, by rw [hx0], HX1.out.1, HX1.out.2, ⟨X, by rw [Int.pow_zero, Int.mul_one]⟩, by omega, rfl, rfl, rfl, rfl⟩
        case round =>
          obtain ⟨j, S, Y, ds, rfl, rfl, y0, y1, y2, y3, y5, y4, hS, rfl⟩ := hrel
          have hSz : S.size ≤ 20 := by rw [hS, strOfNums_size]; simp; omega
          by_cases hY : Y = 0
          · have yb : (Y != 0) = false := by rw [hY]; rfl
            have HSS : Hd (S = strOfNums ([48, 120, 49] ++ fracL X)) := ⟨by
              have hds : ds = hexL 16 X := by rw [← y4, hY, hexL_zero, List.append_nil]
              rw [hS, hds, fracL, if_pos hx0]; rw [hx0, hexL_zero]⟩
            clear y0 y1 y2 y3 y4 y5 hS
            subst hY
            obtain ⟨E, rfl⟩ : ∃ E, E = E1 := ⟨_, rfl⟩
            by_cases hneg : E < 0
            · have hsg : decide (E < 0) = true := decide_eq_true hneg
              obtain ⟨F, hF⟩ : ∃ F, F = -E := ⟨_, rfl⟩
              have eF : wrap64 (-E) = F := by have := HE.out; unfold wrap64; omega
              have HF := Hd.mk (show finL (manB b) (expB b) = [48, 120, 49] ++ fracL X ++ [112] ++ [45] ++ decL F by
                rw [finL, HN.out]
                dsimp only
                rw [← HX.out, if_pos hneg, if_pos hneg, ← hF])
              have HD := Hd.mk (hdec F (by omega) (by have := HE.out; omega))
              have zD := decL_len F
              clear hF hneg
              obtain ⟨D, hD⟩ : ∃ D, D = strOfNums (decL F) := ⟨_, rfl⟩
              have hDz : D.size ≤ 4 := by rw [hD, strOfNums_size]; exact zD
              rw [← hD] at HD
              have HDD := Hd.mk hD
              have z1 : (9223372036854775807 < S.size + 2) = False := eq_false (by omega)
              have z2 : (9223372036854775807 < S.size + 2 + D.size) = False := eq_false (by omega)
              clear hD hDz zD hSz
              go_wp2_with (go_at_call 197; (with_reducible refine (HD.out _).mono ?_); rintro e w2 ⟨rfl, hb⟩; have HB2 := Hd.mk hb; clear hb)
              go_ret
              refine ⟨?_, HB2.out⟩
              rw [HF.out]
              show Ending.returned (.string (S ++ ⟨#[112, 45]⟩ ++ D)) = _
              rw [HSS.out, HDD.out, show (⟨#[112, 45]⟩ : ByteArray) = strOfNums [112, 45] from rfl, ← strNums_append, ← strNums_append]
              simp
            · have hsg : decide (E < 0) = false := decide_eq_false hneg
              have HF := Hd.mk (show finL (manB b) (expB b) = [48, 120, 49] ++ fracL X ++ [112] ++ [43] ++ decL E by
                rw [finL, HN.out]
                dsimp only
                rw [← HX.out, if_neg hneg, if_neg hneg])
              have HD := Hd.mk (hdec E (by omega) (by have := HE.out; omega))
              have zD := decL_len E
              clear hneg
              obtain ⟨D, hD⟩ : ∃ D, D = strOfNums (decL E) := ⟨_, rfl⟩
              have hDz : D.size ≤ 4 := by rw [hD, strOfNums_size]; exact zD
              rw [← hD] at HD
              have HDD := Hd.mk hD
              have z1 : (9223372036854775807 < S.size + 2) = False := eq_false (by omega)
              have z2 : (9223372036854775807 < S.size + 2 + D.size) = False := eq_false (by omega)
              clear hD hDz zD hSz
              go_wp2_with (go_at_call 197; (with_reducible refine (HD.out _).mono ?_); rintro e w2 ⟨rfl, hb⟩; have HB2 := Hd.mk hb; clear hb)
              go_ret
              refine ⟨?_, HB2.out⟩
              rw [HF.out]
              show Ending.returned (.string (S ++ ⟨#[112, 43]⟩ ++ D)) = _
              rw [HSS.out, HDD.out, show (⟨#[112, 43]⟩ : ByteArray) = strOfNums [112, 43] from rfl, ← strNums_append, ← strNums_append]
              simp
          · have yb : (Y != 0) = true := bne_iff_ne.mpr hY
            have hj : j < 16 := by
              rcases Nat.lt_or_ge j 16 with h | h
              · exact h
              · exact absurd (hex_last y0 y1 (by have h16 : j = 16 := (by omega); subst h16; exact y2)) hY
            obtain ⟨d, hd⟩ : ∃ d, d = Y / 1152921504606846976 := ⟨_, rfl⟩
            have hd0 : 0 ≤ d := by omega
            have hd1 : d < 16 := by omega
            have hdd : Y / 1152921504606846976 = d := hd.symm
            have hS1 : S.size = 3 + j := by rw [hS, strOfNums_size, ← y5]; simp; omega
            have zz : (9223372036854775807 < S.size + (strOfNums [hexc d]).size) = False := eq_false (by rw [strOfNums_size]; simp; omega)
            have hcut := hex_cut d hd0 hd1
            unfold CutAt at hcut
            have HDD := Hd.mk hd
            have HS := Hd.mk hS
            have HS1 := Hd.mk hS1
            clear hd hS hS1 hSz
            go_wp2
            refine ⟨⟨j + 1, S ++ strOfNums [hexc d], Y * 16 % 18446744073709551616, ds ++ [hexc d], rfl, by rw [IntKind.wrap_u64], by omega, by omega, ?_, by omega, by simp; omega, ?_, ?_, trivial⟩, ?_⟩
            · obtain ⟨Z, hz⟩ := hex_next y0 y1 y2
              exact ⟨Z, hz.resolve_right (by omega)⟩
            · rw [← y4, show 16 - j = (16 - (j + 1)) + 1 by omega, hexL, if_neg hY, List.append_assoc, ← HDD.out]
              rfl
            · rw [HS.out, ← strNums_append, List.append_assoc]
            · simp only [lenB]
              have : (S ++ strOfNums [hexc d]).size = S.size + 1 := by rw [ByteArray.size_append, strOfNums_size]; rfl
              have := HS1.out
              omega
      · have xb : (X != 0) = true := bne_iff_ne.mpr hx0
        go_wp2
        rw [eE]
        go_loopw [3, 5] (fun v y w' => ∃ (j : Nat) (S : ByteArray) (Y : Int) (ds : List Int), v = .string S ∧ y = .int .u64 Y ∧ 0 ≤ Y ∧ Y < 18446744073709551616 ∧ (∃ Z : Int, Y = Z * 16 ^ j) ∧ j ≤ 16 ∧ ds.length = j ∧ ds ++ hexL (16 - j) Y = hexL 16 X ∧ S = strOfNums ([48, 120, 49, 46] ++ ds) ∧ w' = w0) (fun v _ _ => 100 - lenB v)
        case atStart => exact ⟨0, _, X, [], rfl, rfl, HX1.out.1, HX1.out.2, ⟨X, by rw [Int.pow_zero, Int.mul_one]⟩, by omega, rfl, rfl, rfl, rfl⟩
        case round =>
          obtain ⟨j, S, Y, ds, rfl, rfl, y0, y1, y2, y3, y5, y4, hS, rfl⟩ := hrel
          have hSz : S.size ≤ 20 := by rw [hS, strOfNums_size]; simp; omega
          by_cases hY : Y = 0
          · have yb : (Y != 0) = false := by rw [hY]; rfl
            have HSS : Hd (S = strOfNums ([48, 120, 49] ++ fracL X)) := ⟨by
              have hds : ds = hexL 16 X := by rw [← y4, hY, hexL_zero, List.append_nil]
              rw [hS, hds, fracL, if_neg hx0]; rfl⟩
            clear y0 y1 y2 y3 y4 y5 hS
            subst hY
            obtain ⟨E, rfl⟩ : ∃ E, E = E1 := ⟨_, rfl⟩
            by_cases hneg : E < 0
            · have hsg : decide (E < 0) = true := decide_eq_true hneg
              obtain ⟨F, hF⟩ : ∃ F, F = -E := ⟨_, rfl⟩
              have eF : wrap64 (-E) = F := by have := HE.out; unfold wrap64; omega
              have HF := Hd.mk (show finL (manB b) (expB b) = [48, 120, 49] ++ fracL X ++ [112] ++ [45] ++ decL F by
                rw [finL, HN.out]
                dsimp only
                rw [← HX.out, if_pos hneg, if_pos hneg, ← hF])
              have HD := Hd.mk (hdec F (by omega) (by have := HE.out; omega))
              have zD := decL_len F
              clear hF hneg
              obtain ⟨D, hD⟩ : ∃ D, D = strOfNums (decL F) := ⟨_, rfl⟩
              have hDz : D.size ≤ 4 := by rw [hD, strOfNums_size]; exact zD
              rw [← hD] at HD
              have HDD := Hd.mk hD
              have z1 : (9223372036854775807 < S.size + 2) = False := eq_false (by omega)
              have z2 : (9223372036854775807 < S.size + 2 + D.size) = False := eq_false (by omega)
              clear hD hDz zD hSz
              go_wp2_with (go_at_call 197; (with_reducible refine (HD.out _).mono ?_); rintro e w2 ⟨rfl, hb⟩; have HB2 := Hd.mk hb; clear hb)
              go_ret
              refine ⟨?_, HB2.out⟩
              rw [HF.out]
              show Ending.returned (.string (S ++ ⟨#[112, 45]⟩ ++ D)) = _
              rw [HSS.out, HDD.out, show (⟨#[112, 45]⟩ : ByteArray) = strOfNums [112, 45] from rfl, ← strNums_append, ← strNums_append]
              simp
            · have hsg : decide (E < 0) = false := decide_eq_false hneg
              have HF := Hd.mk (show finL (manB b) (expB b) = [48, 120, 49] ++ fracL X ++ [112] ++ [43] ++ decL E by
                rw [finL, HN.out]
                dsimp only
                rw [← HX.out, if_neg hneg, if_neg hneg])
              have HD := Hd.mk (hdec E (by omega) (by have := HE.out; omega))
              have zD := decL_len E
              clear hneg
              obtain ⟨D, hD⟩ : ∃ D, D = strOfNums (decL E) := ⟨_, rfl⟩
              have hDz : D.size ≤ 4 := by rw [hD, strOfNums_size]; exact zD
              rw [← hD] at HD
              have HDD := Hd.mk hD
              have z1 : (9223372036854775807 < S.size + 2) = False := eq_false (by omega)
              have z2 : (9223372036854775807 < S.size + 2 + D.size) = False := eq_false (by omega)
              clear hD hDz zD hSz
              go_wp2_with (go_at_call 197; (with_reducible refine (HD.out _).mono ?_); rintro e w2 ⟨rfl, hb⟩; have HB2 := Hd.mk hb; clear hb)
              go_ret
              refine ⟨?_, HB2.out⟩
              rw [HF.out]
              show Ending.returned (.string (S ++ ⟨#[112, 43]⟩ ++ D)) = _
              rw [HSS.out, HDD.out, show (⟨#[112, 43]⟩ : ByteArray) = strOfNums [112, 43] from rfl, ← strNums_append, ← strNums_append]
              simp
          · have yb : (Y != 0) = true := bne_iff_ne.mpr hY
            have hj : j < 16 := by
              rcases Nat.lt_or_ge j 16 with h | h
              · exact h
              · exact absurd (hex_last y0 y1 (by have h16 : j = 16 := (by omega); subst h16; exact y2)) hY
            obtain ⟨d, hd⟩ : ∃ d, d = Y / 1152921504606846976 := ⟨_, rfl⟩
            have hd0 : 0 ≤ d := by omega
            have hd1 : d < 16 := by omega
            have hdd : Y / 1152921504606846976 = d := hd.symm
            have hS1 : S.size = 4 + j := by rw [hS, strOfNums_size, ← y5]; simp; omega
            have zz : (9223372036854775807 < S.size + (strOfNums [hexc d]).size) = False := eq_false (by rw [strOfNums_size]; simp; omega)
            have hcut := hex_cut d hd0 hd1
            unfold CutAt at hcut
            have HDD := Hd.mk hd
            have HS := Hd.mk hS
            have HS1 := Hd.mk hS1
            clear hd hS hS1 hSz
            go_wp2
            refine ⟨⟨j + 1, S ++ strOfNums [hexc d], Y * 16 % 18446744073709551616, ds ++ [hexc d], rfl, by rw [IntKind.wrap_u64], by omega, by omega, ?_, by omega, by simp; omega, ?_, ?_, trivial⟩, ?_⟩
            · obtain ⟨Z, hz⟩ := hex_next y0 y1 y2
              exact ⟨Z, hz.resolve_right (by omega)⟩
            · rw [← y4, show 16 - j = (16 - (j + 1)) + 1 by omega, hexL, if_neg hY, List.append_assoc, ← HDD.out]
              rfl
            · rw [HS.out, ← strNums_append, List.append_assoc]
            · simp only [lenB]
              have : (S ++ strOfNums [hexc d]).size = S.size + 1 := by rw [ByteArray.size_append, strOfNums_size]; rfl
              have := HS1.out
              omega
end Go.Proofs.YtbhgpegcdiohlaaGreatDoor.Tr

namespace Go.Proofs.YtbhgpegcdiohlaaGreatDoor.Tr
open Go Go.RowKit Go.Proofs
set_option linter.unusedVariables false
set_option maxRecDepth 100000
set_option maxHeartbeats 4000000
theorem byte_at {w : World} {B : Nat} {c : Int} (h : w.cell? ⟨B, 0, none⟩ = some (.int .u8 c)) : (convert 68 9 (.slice (some ⟨B, 0, none⟩) 1 1)).run Tryz.prog w = .ok (.string (strOfNums [c])) w := by
  refine run_convert_bytes_arg _ 68 5 Tryz.underlying68 Tryz.underlying5 B 0 1 1 [c] rfl (fun i hi => ?_) 9 Tryz.underlying9
  obtain rfl : i = 0 := by omega
  rw [Nat.zero_add, h]
  rfl
theorem rdec_small (n : Int) (h0 : 0 ≤ n) (h1 : n < 10) (w : World) : Calls Tryz.prog 197 #[.int .i64 n] w (SaysS (strOfNums [n + 48]) w) := by
  have d : decide (n < 10) = true := decide_eq_true h1
  have e : (48 + n) = n + 48 := by omega
  go_enter Tryz.func197, Tryz.ntmps197
  go_wp2_with (rw [byte_str])
  go_ret
  exact ⟨by rw [← e]; rfl, up (up0 _) _⟩
def RgD (n q r : Int) (D : ByteArray) (w0 : World) (L : Array Bool) (a : Act) (w : World) : Prop := ∃ (v10 v11 v12 v13 v14 v15 v16 v17 v18 v19 v2 : Value), a = { tmps := #[.int .i64 n, undef, v2, .int .i64 n, .bool false, undef, undef, undef, undef, undef, v10, v11, v12, v13, v14, v15, v16, v17, v18, v19], defers := [] } ∧
  Below w0.heap.size w0 w ∧
  (L.getD 0 false = true → v10 = .int .i64 n) ∧
  (L.getD 1 false = true → v11 = .int .i64 q) ∧
  (L.getD 2 false = true → v12 = .string D) ∧
  (L.getD 3 false = true → v13 = .int .i64 n) ∧
  (L.getD 4 false = true → v14 = .int .i64 r) ∧
  (L.getD 5 false = true → v15 = .int .i64 (48 + r)) ∧
  (L.getD 6 false = true → v16 = .int .u8 (48 + r)) ∧
  (L.getD 7 false = true → ∃ B, v17 = .slice (some ⟨B, 0, none⟩) 1 1 ∧ w.cell? ⟨B, 0, none⟩ = some (.int .u8 (48 + r))) ∧
  (L.getD 8 false = true → v18 = .string (strOfNums [48 + r])) ∧
  (L.getD 9 false = true → v19 = .string (D ++ strOfNums [48 + r])) ∧
  (L.getD 10 false = true → v2 = .string (D ++ strOfNums [48 + r]))
theorem rdec_big (n q r : Int) (h0 : 10 ≤ n) (h1 : n ≤ 3000) (hq : n / 10 = q) (hr : n % 10 = r) (D : ByteArray) (hD : D.size ≤ 100) (C : ∀ w, Calls Tryz.prog 197 #[.int .i64 q] w (SaysS D w)) (w : World) : Calls Tryz.prog 197 #[.int .i64 n] w (SaysS (D ++ strOfNums [r + 48]) w) := by
  have d : decide (n < 10) = false := decide_eq_false (by omega)
  have hr0 : 0 ≤ r := by omega
  have hr1 : r < 10 := by omega
  have zz : (9223372036854775807 < D.size + (strOfNums [48 + r]).size) = False := eq_false (by rw [strOfNums_size]; simp; omega)
  have HC := Hd.mk C
  have Q1 : IntKind.i64.wrap (n.tdiv 10) = q := by rw [Int.tdiv_eq_ediv_of_nonneg (by omega), IntKind.wrap_i64]; omega
  have Q2 : n.tmod 10 = r := by rw [Int.tmod_eq_emod_of_nonneg (by omega)]; omega
  have Q3 : IntKind.i64.wrap (48 + r) = 48 + r := by rw [IntKind.wrap_i64]; omega
  have Q4 : IntKind.u8.wrap (48 + r) = 48 + r := by rw [IntKind.wrap_u8]; omega
  clear C hD
  go_enter Tryz.func197, Tryz.ntmps197
  go_wp2
  refine wp_region_inv (RgD n q r D w) (by kernel_rfl) (hac_ofP (by kernel_rfl)) ?_ ?_ ?_
  · exact ⟨undef, undef, undef, undef, undef, undef, undef, undef, undef, undef, .string ⟨#[]⟩, rfl, (Below.refl _ _).drew, fun h => by simp at h, fun h => by simp at h, fun h => by simp at h, fun h => by simp at h, fun h => by simp at h, fun h => by simp at h, fun h => by simp at h, fun h => by simp at h, fun h => by simp at h, fun h => by simp at h, fun h => by simp at h⟩
  · intro i o L a w' ho hsz h1 h2 hI
    have hi : i < 11 := (Array.getElem?_eq_some_iff.1 ho).1
    obtain ⟨v10, v11, v12, v13, v14, v15, v16, v17, v18, v19, v2, rfl, fB, f0, f1, f2, f3, f4, f5, f6, f7, f8, f9, f10⟩ := hI
    have hi' : i = 0 ∨ i = 1 ∨ i = 2 ∨ i = 3 ∨ i = 4 ∨ i = 5 ∨ i = 6 ∨ i = 7 ∨ i = 8 ∨ i = 9 ∨ i = 10 := by omega
    rcases hi' with rfl | rfl | rfl | rfl | rfl | rfl | rfl | rfl | rfl | rfl | rfl
    all_goals obtain rfl := Option.some.inj ho
    all_goals clear ho
    · refine wpOp_doP (o := _) rfl rfl fun K hK => ?_
      go_simp
      refine hK _ _ ?_
      unfold RgD
      simp only [gneP (show (0 : Nat) ≠ 1 by decide), gneP (show (0 : Nat) ≠ 2 by decide), gneP (show (0 : Nat) ≠ 3 by decide), gneP (show (0 : Nat) ≠ 4 by decide), gneP (show (0 : Nat) ≠ 5 by decide), gneP (show (0 : Nat) ≠ 6 by decide), gneP (show (0 : Nat) ≠ 7 by decide), gneP (show (0 : Nat) ≠ 8 by decide), gneP (show (0 : Nat) ≠ 9 by decide), gneP (show (0 : Nat) ≠ 10 by decide)]
      exact ⟨_, v11, v12, v13, v14, v15, v16, v17, v18, v19, v2, rfl, fB, fun _ => rfl, f1, f2, f3, f4, f5, f6, f7, f8, f9, f10⟩
    · have d0 : L.getD 0 false = true := h2 ⟨0, .data⟩ (by simp) rfl
      obtain rfl := f0 d0
      refine wpOp_doP (o := _) rfl rfl fun K hK => ?_
      go_simp
      refine hK _ _ ?_
      unfold RgD
      simp only [gneP (show (1 : Nat) ≠ 0 by decide), gneP (show (1 : Nat) ≠ 2 by decide), gneP (show (1 : Nat) ≠ 3 by decide), gneP (show (1 : Nat) ≠ 4 by decide), gneP (show (1 : Nat) ≠ 5 by decide), gneP (show (1 : Nat) ≠ 6 by decide), gneP (show (1 : Nat) ≠ 7 by decide), gneP (show (1 : Nat) ≠ 8 by decide), gneP (show (1 : Nat) ≠ 9 by decide), gneP (show (1 : Nat) ≠ 10 by decide)]
      exact ⟨_, _, v12, v13, v14, v15, v16, v17, v18, v19, v2, rfl, fB, fun _ => rfl, fun _ => rfl, f2, f3, f4, f5, f6, f7, f8, f9, f10⟩
    · have d1 : L.getD 1 false = true := h2 ⟨1, .data⟩ (by simp) rfl
      obtain rfl := f1 d1
      refine wpOp_doP (o := _) rfl rfl fun K hK => ?_
      go_simp
      refine (HC.out _).mono ?_
      rintro e w2 ⟨rfl, hb⟩
      refine hK _ _ ?_
      unfold RgD
      simp only [gneP (show (2 : Nat) ≠ 0 by decide), gneP (show (2 : Nat) ≠ 1 by decide), gneP (show (2 : Nat) ≠ 3 by decide), gneP (show (2 : Nat) ≠ 4 by decide), gneP (show (2 : Nat) ≠ 5 by decide), gneP (show (2 : Nat) ≠ 6 by decide), gneP (show (2 : Nat) ≠ 7 by decide), gneP (show (2 : Nat) ≠ 8 by decide), gneP (show (2 : Nat) ≠ 9 by decide), gneP (show (2 : Nat) ≠ 10 by decide)]
      exact ⟨v10, _, _, v13, v14, v15, v16, v17, v18, v19, v2, rfl, step fB hb, f0, fun _ => rfl, fun _ => rfl, f3, f4, f5, f6, fun h => by obtain ⟨B, x1, x2⟩ := f7 h; exact ⟨B, x1, keep hb x2⟩, f8, f9, f10⟩
    · refine wpOp_doP (o := _) rfl rfl fun K hK => ?_
      go_simp
      refine hK _ _ ?_
      unfold RgD
      simp only [gneP (show (3 : Nat) ≠ 0 by decide), gneP (show (3 : Nat) ≠ 1 by decide), gneP (show (3 : Nat) ≠ 2 by decide), gneP (show (3 : Nat) ≠ 4 by decide), gneP (show (3 : Nat) ≠ 5 by decide), gneP (show (3 : Nat) ≠ 6 by decide), gneP (show (3 : Nat) ≠ 7 by decide), gneP (show (3 : Nat) ≠ 8 by decide), gneP (show (3 : Nat) ≠ 9 by decide), gneP (show (3 : Nat) ≠ 10 by decide)]
      exact ⟨v10, v11, v12, _, v14, v15, v16, v17, v18, v19, v2, rfl, fB, f0, f1, f2, fun _ => rfl, f4, f5, f6, f7, f8, f9, f10⟩
    · have d3 : L.getD 3 false = true := h2 ⟨3, .data⟩ (by simp) rfl
      obtain rfl := f3 d3
      refine wpOp_doP (o := _) rfl rfl fun K hK => ?_
      go_simp
      refine hK _ _ ?_
      unfold RgD
      simp only [gneP (show (4 : Nat) ≠ 0 by decide), gneP (show (4 : Nat) ≠ 1 by decide), gneP (show (4 : Nat) ≠ 2 by decide), gneP (show (4 : Nat) ≠ 3 by decide), gneP (show (4 : Nat) ≠ 5 by decide), gneP (show (4 : Nat) ≠ 6 by decide), gneP (show (4 : Nat) ≠ 7 by decide), gneP (show (4 : Nat) ≠ 8 by decide), gneP (show (4 : Nat) ≠ 9 by decide), gneP (show (4 : Nat) ≠ 10 by decide)]
      exact ⟨v10, v11, v12, _, _, v15, v16, v17, v18, v19, v2, rfl, fB, f0, f1, f2, fun _ => rfl, fun _ => rfl, f5, f6, f7, f8, f9, f10⟩
    · have d4 : L.getD 4 false = true := h2 ⟨4, .data⟩ (by simp) rfl
      obtain rfl := f4 d4
      refine wpOp_doP (o := _) rfl rfl fun K hK => ?_
      go_simp
      refine hK _ _ ?_
      unfold RgD
      simp only [gneP (show (5 : Nat) ≠ 0 by decide), gneP (show (5 : Nat) ≠ 1 by decide), gneP (show (5 : Nat) ≠ 2 by decide), gneP (show (5 : Nat) ≠ 3 by decide), gneP (show (5 : Nat) ≠ 4 by decide), gneP (show (5 : Nat) ≠ 6 by decide), gneP (show (5 : Nat) ≠ 7 by decide), gneP (show (5 : Nat) ≠ 8 by decide), gneP (show (5 : Nat) ≠ 9 by decide), gneP (show (5 : Nat) ≠ 10 by decide)]
      exact ⟨v10, v11, v12, v13, _, _, v16, v17, v18, v19, v2, rfl, fB, f0, f1, f2, f3, fun _ => rfl, fun _ => rfl, f6, f7, f8, f9, f10⟩
    · have d5 : L.getD 5 false = true := h2 ⟨5, .data⟩ (by simp) rfl
      obtain rfl := f5 d5
      refine wpOp_doP (o := _) rfl rfl fun K hK => ?_
      go_simp
      refine hK _ _ ?_
      unfold RgD
      simp only [gneP (show (6 : Nat) ≠ 0 by decide), gneP (show (6 : Nat) ≠ 1 by decide), gneP (show (6 : Nat) ≠ 2 by decide), gneP (show (6 : Nat) ≠ 3 by decide), gneP (show (6 : Nat) ≠ 4 by decide), gneP (show (6 : Nat) ≠ 5 by decide), gneP (show (6 : Nat) ≠ 7 by decide), gneP (show (6 : Nat) ≠ 8 by decide), gneP (show (6 : Nat) ≠ 9 by decide), gneP (show (6 : Nat) ≠ 10 by decide)]
      exact ⟨v10, v11, v12, v13, v14, _, _, v17, v18, v19, v2, rfl, fB, f0, f1, f2, f3, f4, fun _ => rfl, fun _ => rfl, f7, f8, f9, f10⟩
    · have d6 : L.getD 6 false = true := h2 ⟨6, .data⟩ (by simp) rfl
      obtain rfl := f6 d6
      refine wpOp_doP (o := _) rfl rfl fun K hK => ?_
      go_simp
      refine hK _ _ ?_
      unfold RgD
      simp only [gneP (show (7 : Nat) ≠ 0 by decide), gneP (show (7 : Nat) ≠ 1 by decide), gneP (show (7 : Nat) ≠ 2 by decide), gneP (show (7 : Nat) ≠ 3 by decide), gneP (show (7 : Nat) ≠ 4 by decide), gneP (show (7 : Nat) ≠ 5 by decide), gneP (show (7 : Nat) ≠ 6 by decide), gneP (show (7 : Nat) ≠ 8 by decide), gneP (show (7 : Nat) ≠ 9 by decide), gneP (show (7 : Nat) ≠ 10 by decide)]
      exact ⟨v10, v11, v12, v13, v14, v15, _, _, v18, v19, v2, rfl, step fB (up (up0 _) _), f0, f1, f2, f3, f4, f5, fun _ => rfl, fun _ => ⟨_, rfl, new_cell _ _ _ 0⟩, f8, f9, f10⟩
    · have d7 : L.getD 7 false = true := h2 ⟨7, .data⟩ (by simp) rfl
      obtain ⟨B, rfl, cB⟩ := f7 d7
      have hcv := byte_at cB
      refine wpOp_doP (o := _) rfl rfl fun K hK => ?_
      go_simp
      refine hK _ _ ?_
      unfold RgD
      simp only [gneP (show (8 : Nat) ≠ 0 by decide), gneP (show (8 : Nat) ≠ 1 by decide), gneP (show (8 : Nat) ≠ 2 by decide), gneP (show (8 : Nat) ≠ 3 by decide), gneP (show (8 : Nat) ≠ 4 by decide), gneP (show (8 : Nat) ≠ 5 by decide), gneP (show (8 : Nat) ≠ 6 by decide), gneP (show (8 : Nat) ≠ 7 by decide), gneP (show (8 : Nat) ≠ 9 by decide), gneP (show (8 : Nat) ≠ 10 by decide)]
      exact ⟨v10, v11, v12, v13, v14, v15, v16, _, _, v19, v2, rfl, fB, f0, f1, f2, f3, f4, f5, f6, fun _ => ⟨B, rfl, cB⟩, fun _ => rfl, f9, f10⟩
    · have d2 : L.getD 2 false = true := h2 ⟨2, .data⟩ (by simp) rfl
      have d8 : L.getD 8 false = true := h2 ⟨8, .data⟩ (by simp) rfl
      obtain rfl := f2 d2
      obtain rfl := f8 d8
      refine wpOp_doP (o := _) rfl rfl fun K hK => ?_
      go_simp
      refine hK _ _ ?_
      unfold RgD
      simp only [gneP (show (9 : Nat) ≠ 0 by decide), gneP (show (9 : Nat) ≠ 1 by decide), gneP (show (9 : Nat) ≠ 2 by decide), gneP (show (9 : Nat) ≠ 3 by decide), gneP (show (9 : Nat) ≠ 4 by decide), gneP (show (9 : Nat) ≠ 5 by decide), gneP (show (9 : Nat) ≠ 6 by decide), gneP (show (9 : Nat) ≠ 7 by decide), gneP (show (9 : Nat) ≠ 8 by decide), gneP (show (9 : Nat) ≠ 10 by decide)]
      exact ⟨v10, v11, _, v13, v14, v15, v16, v17, _, _, v2, rfl, fB, f0, f1, fun _ => rfl, f3, f4, f5, f6, f7, fun _ => rfl, fun _ => rfl, f10⟩
    · have d9 : L.getD 9 false = true := h2 ⟨9, .data⟩ (by simp) rfl
      obtain rfl := f9 d9
      refine wpOp_doP (o := _) rfl rfl fun K hK => ?_
      go_simp
      refine hK _ _ ?_
      unfold RgD
      simp only [gneP (show (10 : Nat) ≠ 0 by decide), gneP (show (10 : Nat) ≠ 1 by decide), gneP (show (10 : Nat) ≠ 2 by decide), gneP (show (10 : Nat) ≠ 3 by decide), gneP (show (10 : Nat) ≠ 4 by decide), gneP (show (10 : Nat) ≠ 5 by decide), gneP (show (10 : Nat) ≠ 6 by decide), gneP (show (10 : Nat) ≠ 7 by decide), gneP (show (10 : Nat) ≠ 8 by decide), gneP (show (10 : Nat) ≠ 9 by decide)]
      exact ⟨v10, v11, v12, v13, v14, v15, v16, v17, v18, _, _, rfl, fB, f0, f1, f2, f3, f4, f5, f6, f7, f8, fun _ => rfl, fun _ => rfl⟩
  · intro L a w' hsz hall hI
    have ha : ∀ i, i < 11 → L.getD i false = true := hall
    obtain ⟨v10, v11, v12, v13, v14, v15, v16, v17, v18, v19, v2, rfl, fB, f0, f1, f2, f3, f4, f5, f6, f7, f8, f9, f10⟩ := hI
    obtain rfl := f0 (ha 0 (by decide))
    obtain rfl := f1 (ha 1 (by decide))
    obtain rfl := f2 (ha 2 (by decide))
    obtain rfl := f3 (ha 3 (by decide))
    obtain rfl := f4 (ha 4 (by decide))
    obtain rfl := f5 (ha 5 (by decide))
    obtain rfl := f6 (ha 6 (by decide))
    obtain ⟨B, rfl, cB⟩ := f7 (ha 7 (by decide))
    obtain rfl := f8 (ha 8 (by decide))
    obtain rfl := f9 (ha 9 (by decide))
    obtain rfl := f10 (ha 10 (by decide))
    refine ‹∀ (a : Act) (w : World), Code.wp Tryz.prog _ _ a w → _› _ _ ?_
    go_wp2
    go_ret
    refine ⟨?_, fB⟩
    rw [show r + 48 = 48 + r by omega]
    rfl
theorem dec_step (n : Int) (h0 : 10 ≤ n) (h1 : n ≤ 3000) : decL n = decL (n / 10) ++ [n % 10 + 48] := by
  unfold decL
  rw [if_neg (show ¬ n < 10 by omega)]
  by_cases c1 : n < 100
  · rw [if_pos c1, if_pos (show n / 10 < 10 by omega)]
    rfl
  · rw [if_neg c1, if_neg (show ¬ n / 10 < 10 by omega)]
    by_cases c2 : n < 1000
    · rw [if_pos c2, if_pos (show n / 10 < 100 by omega)]
      rw [show n / 10 / 10 = n / 100 by omega]
      rfl
    · rw [if_neg c2, if_neg (show ¬ n / 10 < 100 by omega), if_pos (show n / 10 < 1000 by omega)]
      rw [show n / 10 / 100 = n / 1000 by omega, show n / 10 / 10 % 10 = n / 100 % 10 by omega]
      rfl
theorem rdecf_any (k : Nat) : ∀ (n : Int), n ≤ k → 0 ≤ n → n ≤ 3000 → ∀ w, Calls Tryz.prog 197 #[.int .i64 n] w (SaysS (strOfNums (decL n)) w) := by
  induction k using Nat.strongRecOn with
  | _ k ih =>
  intro n hk h0 h1 w
  by_cases h : n < 10
  · have e : decL n = [n + 48] := by unfold decL; rw [if_pos h]
    rw [e]
    exact rdec_small n h0 h w
  · rw [dec_step n (by omega) h1, strNums_append]
    exact rdec_big n _ _ (by omega) h1 rfl rfl _ (by rw [strOfNums_size]; have := decL_len (n / 10); omega) (fun w => ih (n / 10).toNat (by omega) (n / 10) (by omega) (by omega) (by omega) w) w
theorem rtext_nan (w : World) : Calls Tryz.prog 177 #[.int .u64 9221120237041090561] w (SaysS ⟨#[110, 97, 110]⟩ w) := by
  have C : Hd (∀ w, Calls Tryz.prog 195 #[.int .u64 9221120237041090561] w fun e w' => e = .returned (.int .i64 1) ∧ w' = w) := ⟨fun w => class_any 9221120237041090561 (by omega) (by omega) w⟩
  go_enter Tryz.func177, Tryz.ntmps177
  go_wp2_with (go_at_call 195; (with_reducible refine (C.out _).mono ?_); rintro e w2 ⟨rfl, rfl⟩)
  go_ret
  exact ⟨rfl, up0 _⟩
theorem rtext_inf (w : World) : Calls Tryz.prog 177 #[.int .u64 9218868437227405312] w (SaysS ⟨#[105, 110, 102]⟩ w) := by
  have C : Hd (∀ w, Calls Tryz.prog 195 #[.int .u64 9218868437227405312] w fun e w' => e = .returned (.int .i64 2) ∧ w' = w) := ⟨fun w => class_any 9218868437227405312 (by omega) (by omega) w⟩
  go_enter Tryz.func177, Tryz.ntmps177
  go_wp2_with (go_at_call 195; (with_reducible refine (C.out _).mono ?_); rintro e w2 ⟨rfl, rfl⟩)
  go_ret
  exact ⟨rfl, up0 _⟩
theorem rtext_zero (w : World) : Calls Tryz.prog 177 #[.int .u64 0] w (SaysS ⟨#[48, 120, 48, 112, 43, 48]⟩ w) := by
  have C : Hd (∀ w, Calls Tryz.prog 195 #[.int .u64 0] w fun e w' => e = .returned (.int .i64 3) ∧ w' = w) := ⟨fun w => class_any 0 (by omega) (by omega) w⟩
  go_enter Tryz.func177, Tryz.ntmps177
  go_wp2_with (go_at_call 195; (with_reducible refine (C.out _).mono ?_); rintro e w2 ⟨rfl, rfl⟩)
  go_ret
  exact ⟨rfl, up0 _⟩
/-- foundryref01.Text at every right float -/
theorem rfloat_text (b : Int) (h0 : 0 ≤ b) (h1 : b ≤ 9218868437227405312 ∨ b = 9221120237041090561) (w : World) : Calls Tryz.prog 177 #[.int .u64 b] w (SaysS (strOfNums (txtL b)) w) := by
  by_cases c1 : b = 9221120237041090561
  · subst c1; exact rtext_nan w
  · by_cases c2 : b = 9218868437227405312
    · subst c2; exact rtext_inf w
    · by_cases c3 : b = 0
      · subst c3; exact rtext_zero w
      · have e : txtL b = finL (manB b) (expB b) := by unfold txtL; rw [if_neg c1, if_neg c2, if_neg c3]
        rw [e]
        exact rtext_fin b (by omega) (by omega) w fun n hn h3 w => rdecf_any n.toNat n (by omega) hn h3 w
end Go.Proofs.YtbhgpegcdiohlaaGreatDoor.Tr

namespace Go.Proofs.YtbhgpegcdiohlaaGreatDoor.Tr
open Go Go.RowKit Go.Proofs
set_option linter.unusedVariables false
set_option maxRecDepth 100000
set_option maxHeartbeats 4000000
/-- the document's text of an expression, without parentheses and at a level -/
def DocT (x : Ex) (s : ByteArray) : Prop := ∀ (w : World) (v : Value), x.Is w v → Calls Tryz.prog 111 #[v] w (SaysS s w)
def AtT (x : Ex) (a : Int) (s : ByteArray) : Prop := ∀ (w : World) (v : Value), x.Is w v → Calls Tryz.prog 54 #[v, .int .i64 a] w (SaysS s w)
theorem rlit_int (b : Int) (h0 : 0 ≤ b) (h1 : b < 9223372036854775808) (w : World) : Calls Tryz.prog 150 #[.agg #[.int .i64 1, .int .u64 b]] w (SaysS ⟨(Lib.itoa b).toArray⟩ w) := by
  have C : Hd (∀ w, Calls Tryz.prog 176 #[.int .i64 b] w (SaysS ⟨(Lib.itoa b).toArray⟩ w)) := ⟨fun w => rdecimal b h0 h1 w⟩
  have E : IntKind.i64.wrap b = b := by rw [IntKind.wrap_i64]; omega
  have E2 : wrap64 b = b := by unfold wrap64; omega
  clear h0 h1
  go_enter Tryz.func150, Tryz.ntmps150
  go_wp2_with (go_at_call 176; (try rw [E]); (refine (C.out _).mono ?_); (rintro e w' ⟨rfl, hb⟩; have HB := Hd.mk hb; clear hb))
  go_ret
  exact ⟨rfl, step (up (up0 _) _) HB.out⟩
theorem rlit_float (b : Int) (h0 : 0 ≤ b) (h1 : b ≤ 9218868437227405312 ∨ b = 9221120237041090561) (w : World) : Calls Tryz.prog 150 #[.agg #[.int .i64 2, .int .u64 b]] w (SaysS (strOfNums (txtL b)) w) := by
  have C : Hd (∀ w, Calls Tryz.prog 177 #[.int .u64 b] w (SaysS (strOfNums (txtL b)) w)) := ⟨fun w => rfloat_text b h0 h1 w⟩
  clear h0 h1
  go_enter Tryz.func150, Tryz.ntmps150
  go_wp2_with (go_at_call 177; (refine (C.out _).mono ?_); (rintro e w' ⟨rfl, hb⟩; have HB := Hd.mk hb; clear hb))
  go_ret
  exact ⟨rfl, step (up (up0 _) _) HB.out⟩
theorem rlit_true (w : World) : Calls Tryz.prog 150 #[.agg #[.int .i64 3, .int .u64 1]] w (SaysS ⟨#[116, 114, 117, 101]⟩ w) := by
  go_enter Tryz.func150, Tryz.ntmps150
  go_wp2
  go_ret
  exact ⟨rfl, up (up0 _) _⟩
theorem rlit_false (w : World) : Calls Tryz.prog 150 #[.agg #[.int .i64 3, .int .u64 0]] w (SaysS ⟨#[102, 97, 108, 115, 101]⟩ w) := by
  go_enter Tryz.func150, Tryz.ntmps150
  go_wp2
  go_ret
  exact ⟨rfl, up (up0 _) _⟩
theorem rlit_any (t b : Int) (h0 : 0 ≤ b) (hl : litB t b = true) (w : World) : Calls Tryz.prog 150 #[.agg #[.int .i64 t, .int .u64 b]] w (SaysS (vtF t b) w) := by
  unfold litB at hl
  split at hl
  · rename_i ht
    subst ht
    have h1 : b < 9223372036854775808 := of_decide_eq_true hl
    have e : vtF 1 b = ⟨(Lib.itoa b).toArray⟩ := by unfold vtF; rw [if_pos rfl, if_pos ⟨h0, h1⟩]
    rw [e]
    exact rlit_int b h0 h1 w
  · split at hl
    · rename_i _ ht
      subst ht
      have e : vtF 2 b = strOfNums (txtL b) := by unfold vtF; rw [if_neg (by decide), if_pos rfl]
      rw [e]
      simp only [Bool.or_eq_true, decide_eq_true_eq] at hl
      exact rlit_float b h0 hl w
    · split at hl
      · rename_i _ _ ht
        subst ht
        have hb : b < 2 := of_decide_eq_true hl
        have hb : b = 0 ∨ b = 1 := by omega
        rcases hb with rfl | rfl
        · exact rlit_false w
        · exact rlit_true w
      · cases hl
theorem rmark_any (o : Nat) (h1 : 1 ≤ o) (h2 : o ≤ 13) (mk : ByteArray) (hmk : mk = markB o) (w : World) : Calls Tryz.prog 152 #[.int .i64 (o : Int)] w (SaysS mk w) := by
  have hcell : (#[.string ⟨#[]⟩, .string ⟨#[43]⟩, .string ⟨#[45]⟩, .string ⟨#[42]⟩, .string ⟨#[47]⟩, .string ⟨#[37]⟩, .string ⟨#[61, 61]⟩, .string ⟨#[33, 61]⟩, .string ⟨#[60]⟩, .string ⟨#[60, 61]⟩, .string ⟨#[62]⟩, .string ⟨#[62, 61]⟩, .string ⟨#[38, 38]⟩, .string ⟨#[124, 124]⟩] : Array Value)[o]? = some (.string mk) := by
    subst hmk
    have : o = 1 ∨ o = 2 ∨ o = 3 ∨ o = 4 ∨ o = 5 ∨ o = 6 ∨ o = 7 ∨ o = 8 ∨ o = 9 ∨ o = 10 ∨ o = 11 ∨ o = 12 ∨ o = 13 := by omega
    rcases this with rfl | rfl | rfl | rfl | rfl | rfl | rfl | rfl | rfl | rfl | rfl | rfl | rfl <;> rfl
  clear hmk
  go_enter Tryz.func152, Tryz.ntmps152
  go_wp2
  go_ret
  exact ⟨rfl, up (up0 _) _⟩
/-- at a level: in parentheses, where the expression's own is below it -/
theorem at_any (x : Ex) (a : Int) (s : ByteArray) (hs : s.size ≤ 9223372036854775000) (hx : DocT x s) : AtT x a (parE (lvl x.k x.op < a) s) := by
  intro w v hv
  have hv' := hv
  cases x with
  | mk k op m n t b ks =>
  unfold Ex.Is at hv
  obtain ⟨A, l, c, rfl, g⟩ := hv
  clear g
  show Calls Tryz.prog 54 _ w (SaysS (parE (lvl k op < a) s) w)
  have z1 : (9223372036854775807 < 1 + s.size) = False := eq_false (by omega)
  have z2 : (9223372036854775807 < 1 + s.size + 1) = False := eq_false (by omega)
  have X : Hd (∀ w', Below w.heap.size w w' → Calls Tryz.prog 111 #[.agg #[.int .i64 k, .int .i64 op, .string m, .string n, .int .i64 t, .int .u64 b, .slice A l c]] w' (SaysS s w')) := ⟨fun w' hb => hx w' _ (Ex.Is_below hb hv')⟩
  obtain ⟨lv, hlv⟩ : ∃ lv, lv = lvl k op := ⟨_, rfl⟩
  rw [← hlv]
  have L := Hd.mk hlv
  by_cases hp : lv < a
  · have e : parE (lv < a) s = ⟨#[40]⟩ ++ s ++ ⟨#[41]⟩ := by unfold parE; rw [if_pos hp]
    rw [e]
    have hd : decide (lv < a) = true := decide_eq_true hp
    clear hp e hx hv' hs hlv
    go_enter Tryz.func54, Tryz.ntmps54
    go_wp2_with (first
      | (go_at_call 93; (with_reducible refine ((rlevel_any k op _ _ _ _ _ _).mono ?_)); (rw [← L.out]; rintro e w1 ⟨rfl, hb1⟩; have HB1 := Hd.mk hb1; have hc1 := bcell hb1; have hs1 := bsize1 rfl hb1; clear hb1))
      | (go_at_call 111; (with_reducible refine ((X.out _ (step (up (up0 _) _) HB1.out)).mono ?_)); (rintro e w3 ⟨rfl, hb3⟩; have HB3 := Hd.mk hb3; clear hb3)))
    go_ret
    exact ⟨rfl, step (step (up (up0 _) _) HB1.out) HB3.out⟩
  · have e : parE (lv < a) s = s := by unfold parE; rw [if_neg hp]
    rw [e]
    have hd : decide (lv < a) = false := decide_eq_false hp
    clear hp e hx hv' hs hlv
    go_enter Tryz.func54, Tryz.ntmps54
    go_wp2_with (first
      | (go_at_call 93; (with_reducible refine ((rlevel_any k op _ _ _ _ _ _).mono ?_)); (rw [← L.out]; rintro e w1 ⟨rfl, hb1⟩; have HB1 := Hd.mk hb1; have hc1 := bcell hb1; have hs1 := bsize1 rfl hb1; clear hb1))
      | (go_at_call 111; (with_reducible refine ((X.out _ (step (up (up0 _) _) HB1.out)).mono ?_)); (rintro e w3 ⟨rfl, hb3⟩; have HB3 := Hd.mk hb3; clear hb3)))
    go_ret
    exact ⟨rfl, step (step (up (up0 _) _) HB1.out) HB3.out⟩
theorem joinB_snoc {l : List ByteArray} (h : l ≠ []) (s : ByteArray) : joinB (l ++ [s]) = joinB l ++ ⟨#[44, 32]⟩ ++ s := by
  cases l with
  | nil => exact absurd rfl h
  | cons x r =>
    apply ByteArray.ext
    apply Array.ext'
    unfold joinB
    rw [ByteArray.data_append, ByteArray.data_append, Array.toList_append, Array.toList_append]
    simp only [List.map_append, List.map_cons, List.map_nil, List.cons_append, Lib.join_cons]
    simp [Lib.joinTail]
theorem joinB_one (s : ByteArray) : joinB [s] = s := by
  apply ByteArray.ext
  apply Array.ext'
  unfold joinB
  simp [Lib.join_cons, Lib.joinTail]
theorem sumB_take (l : List ByteArray) (j : Nat) : sumB (l.take j) ≤ sumB l := by
  have : sumB l = sumB (l.take j) + sumB (l.drop j) := by
    unfold sumB
    rw [← List.sum_append, ← List.map_append, List.take_append_drop]
  omega
theorem kids_any (ks : Exs) (strs : List ByteArray) (hlen : strs.length = ks.toList.length) (hK : ∀ (i : Nat) (x : Ex) (s : ByteArray), ks.toList[i]? = some x → strs[i]? = some s → AtT x 1 s) (hs : sumB strs + 2 * strs.length ≤ 100000000000000) (A : Option Addr) (l c : Nat) (w : World) (hg : Sl 7 (fun x => x.In w) ks.toList A l) : Calls Tryz.prog 151 #[.slice A l c] w (SaysS (⟨#[40]⟩ ++ joinB strs ++ ⟨#[41]⟩) w) := by
  have HLEN := Hd.mk hg.1
  have G := Hd.mk hg
  have HK := Hd.mk hK
  have HSL := Hd.mk hlen
  have HS : Hd (∀ j, (joinB (strs.take j)).size ≤ 100000000000000) := ⟨fun j => by
    have h1 := joinB_le (strs.take j)
    have h2 := sumB_take strs j
    have h3 : (strs.take j).length ≤ strs.length := by rw [List.length_take]; omega
    omega⟩
  have hl1 : l ≤ 100000000000000 := by rw [hg.1, ← hlen]; omega
  clear hg hK hlen hs
  go_enter Tryz.func151, Tryz.ntmps151
  go_wp2
  go_loopw [3, 4] (fun v i w' => ∃ (j : Nat) (S : ByteArray), j ≤ l ∧ v = .string S ∧ i = .int .i64 j ∧ S = ⟨#[40]⟩ ++ joinB (strs.take j) ∧ Below w.heap.size w w') (fun _ i _ => l - (intOf i).toNat)
  case atStart => exact ⟨0, _, by omega, rfl, rfl, rfl, up0 _⟩
  case round =>
    obtain ⟨j, S, hj, rfl, rfl, hS, hb⟩ := hrel
    have HB := Hd.mk hb
    have hSz : S.size ≤ 100000000000001 := by
      have := HS.out j
      rw [hS, ByteArray.size_append]
      have : (⟨#[40]⟩ : ByteArray).size = 1 := rfl
      omega
    have HSS := Hd.mk hS
    clear hb hS
    by_cases hlt : j < l
    · obtain ⟨x, hx⟩ : ∃ x, ks.toList[j]? = some x := ⟨_, List.getElem?_eq_getElem (by rw [← HLEN.out]; exact hlt)⟩
      obtain ⟨s, hsj⟩ : ∃ s, strs[j]? = some s := ⟨_, List.getElem?_eq_getElem (by rw [HSL.out, ← HLEN.out]; exact hlt)⟩
      obtain ⟨B, o, rfl, g1⟩ := G.out.at (by omega)
      have i1 := Ex.In_below HB.out x (g1 j x hx)
      obtain ⟨v0, v1, v2, v3, v4, v5, v6, v7, v8, a0, a1, a2, a3, a4, a5, a6, ax⟩ := Ex.In_Is i1
      have X := Hd.mk (fun w' (hb : Below wr.heap.size wr w') => HK.out j x s hx hsj w' _ (Ex.Is_below hb ax))
      have T : Hd (strs.take (j + 1) = strs.take j ++ [s]) := ⟨take_next hsj⟩
      have hsz : Hd (s.size ≤ 100000000000000) := ⟨by
        have h1 := HS.out (j + 1)
        rw [T.out] at h1
        by_cases hj0 : strs.take j = []
        · rw [hj0, List.nil_append, joinB_one] at h1; exact h1
        · rw [joinB_snoc hj0] at h1; simp only [ByteArray.size_append] at h1; omega⟩
      have hz := hsz.out
      clear g1 i1 ax hx hsj
      by_cases hj0 : j = 0
      · have hj1 : decide ((0 : Int) < (j : Int)) = false := decide_eq_false (by omega)
        have HJ := Hd.mk hj0
        have hj2 : decide (0 < j) = false := decide_eq_false (by omega)
        have hj3 : (0 < j) = False := eq_false (by omega)
        have z1 : (9223372036854775807 < S.size + s.size) = False := eq_false (by omega)
        clear hSz hz hj0
        go_wp2_with (go_at_call 54; (with_reducible refine ((X.out _ (up0 _)).mono ?_)); (rintro e w3 ⟨rfl, hb3⟩; have HB3 := Hd.mk hb3; clear hb3))
        go_roundw
        case rel =>
          refine ⟨j + 1, S ++ s, by omega, rfl, by go_num, ?_, step HB.out HB3.out⟩
          rw [T.out, HSS.out, HJ.out, List.take_zero, List.nil_append, joinB_one]
          congr 1
        case measure => simp [intOf]; omega
      · have hj1 : decide ((0 : Int) < (j : Int)) = true := decide_eq_true (by omega)
        have z1 : (9223372036854775807 < S.size + 2) = False := eq_false (by omega)
        have z2 : (9223372036854775807 < S.size + 2 + s.size) = False := eq_false (by omega)
        clear hSz hz
        go_wp2_with (go_at_call 54; (with_reducible refine ((X.out _ (up0 _)).mono ?_)); (rintro e w3 ⟨rfl, hb3⟩; have HB3 := Hd.mk hb3; clear hb3))
        go_roundw
        case rel =>
          refine ⟨j + 1, S ++ ⟨#[44, 32]⟩ ++ s, by omega, rfl, by go_num, ?_, step HB.out HB3.out⟩
          have hne : strs.take j ≠ [] := by
            intro h
            have := congrArg List.length h
            rw [List.length_take] at this
            have h1 := HSL.out
            have h2 := HLEN.out
            simp at this
            rcases this with h3 | h3
            · exact hj0 h3
            · subst h3; simp at h1; omega
          rw [T.out, joinB_snoc hne, HSS.out]
          simp only [ByteArray.append_assoc]
        case measure => simp [intOf]; omega
    · obtain rfl : j = l := by omega
      have hst : strs.take j = strs := List.take_of_length_le (by rw [HSL.out, ← HLEN.out]; omega)
      have z1 : (9223372036854775807 < S.size + 1) = False := eq_false (by omega)
      clear hSz
      go_wp2
      go_ret
      refine ⟨?_, HB.out⟩
      rw [← hst]
      rw [← HSS.out]
      rfl
end Go.Proofs.YtbhgpegcdiohlaaGreatDoor.Tr
