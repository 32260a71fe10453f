import Derived.Test.YtbhgpegcdiohlaaGreatDoorFxB
namespace Go.Proofs.YtbhgpegcdiohlaaGreatDoor.Tr
open Go Go.RowKit Go.Proofs
set_option linter.unusedVariables false
set_option maxRecDepth 100000
set_option maxHeartbeats 4000000
theorem one49 {M : Int} (h0 : 1152921504606846976 ≤ M) (h1 : M < 2305843009213693952) : bits BinOp.and IntKind.u64 (M / 1152921504606846976) 1 = 1 := by
  have e : M / 1152921504606846976 = 1 := by omega
  rw [e]
  rfl
def bytesV (l : List Int) : List Value := l.map (Value.int .u8)
/-- what is appended to a row of the call's own -/
def Apps (base : Nat) (w : World) (xs : List Int) (e : Ending) (w' : World) : Prop := ∃ (A : Option Addr) (c N : Nat), e = .returned (.slice A N c) ∧ w'.ownsRow base 5 1 (.slice A N c) N (bytesV xs) ∧ Below base w w'
theorem hexc_at (d : Int) (h0 : 0 ≤ d) (h1 : d < 16) : ∀ h, ((((⟨#[48, 49, 50, 51, 52, 53, 54, 55, 56, 57, 97, 98, 99, 100, 101, 102]⟩ : ByteArray)[d.toNat]'h).toNat : Nat) : Int) = hexc d := by
  obtain ⟨n, rfl⟩ := Int.eq_ofNat_of_zero_le h0
  intro h
  match n, h1 with
  | 0, _ => rfl
  | 1, _ => rfl
  | 2, _ => rfl
  | 3, _ => rfl
  | 4, _ => rfl
  | 5, _ => rfl
  | 6, _ => rfl
  | 7, _ => rfl
  | 8, _ => rfl
  | 9, _ => rfl
  | 10, _ => rfl
  | 11, _ => rfl
  | 12, _ => rfl
  | 13, _ => rfl
  | 14, _ => rfl
  | 15, _ => rfl
  | n + 16, h1 => omega
def lenV : Value → Nat
  | .slice _ n _ => n
  | _ => 0
theorem fmtX_pos (base : Nat) (A : Option Addr) (c : Nat) (m e : Int) (w : World) (hm : 0 < m ∧ m < 9007199254740992) (he : -2000 ≤ e ∧ e ≤ 2000) (hbs : base ≤ w.heap.size) (hown : w.ownsRow base 5 1 (.slice A 0 c) 0 []) : Calls Tryz.prog 244 #[.slice A 0 c, .int .i64 (-1), .int .u8 120, .bool false, .int .u64 m, .int .i64 e, .int .i64 52] w (Apps base w (fmtL m e)) := by
  have HO := Hd.mk hown
  have HM := Hd.mk hm
  have HE := Hd.mk he
  clear hown hm he
  have hz : (m == 0) = false := by have := HM.out; exact beq_eq_false_iff_ne.mpr (by omega)
  obtain ⟨m0, hm0⟩ : ∃ m0, m0 = m * 256 := ⟨_, rfl⟩
  have E0 : IntKind.u64.wrap (m * 256) = m0 := by have := HM.out; rw [IntKind.wrap_u64]; omega
  have H0 := Hd.mk hm0
  clear hm0
  have HW := Hd.mk hbs
  have HN : Hd (0 ≤ 0) := ⟨Nat.le_refl _⟩
  clear hbs
  go_enter Tryz.func244, Tryz.ntmps244
  go_wp2
  go_loopw [4, 5] (fun v i w' => ∃ (k : Nat) (M E : Int), v = .int .u64 M ∧ i = .int .i64 E ∧ 0 < M ∧ M < 2305843009213693952 ∧ 1152921504606846976 ≤ M * 2 ^ k ∧ k ≤ 60 ∧ -3000 + k ≤ E ∧ E ≤ 2000 ∧ nrm k M E = nrm 52 m0 e ∧ w' = w) (fun v _ _ => 2305843009213693952 - (intOf v).toNat)
  case atStart => exact ⟨52, m0, e, rfl, rfl, by have := H0.out; have := HM.out; omega, by have := H0.out; have := HM.out; omega, by have := H0.out; have := HM.out; omega, by omega, by have := HE.out; omega, HE.out.2, rfl, rfl⟩
  case round =>
    obtain ⟨k, M, E, rfl, rfl, h1, h2, h3, h4, h5, h6, h7, rfl⟩ := hrel
    have hne : decide (M = 0) = false := decide_eq_false (by omega)
    have hne1 : (M == 0) = false := beq_eq_false_iff_ne.mpr (by omega)
    have hne2 : (M != 0) = true := bne_iff_ne.mpr (by omega)
    by_cases hlo : M < 1152921504606846976
    · have hb := bit60_lo h1 hlo
      obtain ⟨q, rfl⟩ : ∃ q, k = q + 1 := ⟨k - 1, by cases k with | zero => simp at h3; omega | succ => rfl⟩
      have ew : IntKind.u64.wrap (M * 2) = M * 2 := by rw [IntKind.wrap_u64]; omega
      have ee : wrap64 (E - 1) = E - 1 := by unfold wrap64; omega
      have h3' : 1152921504606846976 ≤ M * 2 * 2 ^ q := by rw [Int.pow_succ] at h3; rw [Int.mul_assoc, Int.mul_comm 2]; exact h3
      have h7' : nrm q (M * 2) (E - 1) = nrm 52 m0 e := by rw [nrm, if_pos hlo] at h7; exact h7
      have HH := Hd.mk (And.intro h1 (And.intro hlo (And.intro h3' (And.intro h4 (And.intro h5 (And.intro h6 h7'))))))
      have EW := Hd.mk ew
      have EE := Hd.mk ee
      clear h1 h2 h3 h4 h5 h6 h7 h3' h7' hlo ew ee
      go_wp2
      go_roundw
      case rel => exact ⟨q, M * 2, E - 1, by rw [EW.out], by rw [EE.out], by have := HH.out; omega, by have := HH.out; omega, HH.out.2.2.1, by have := HH.out; omega, by have := HH.out; omega, by have := HH.out; omega, HH.out.2.2.2.2.2.2, trivial⟩
      case measure => have := HH.out; simp only [intOf, EW.out]; omega
    · have hb := bit60_hi (Int.not_lt.1 hlo) h2
      have eN : nrm 52 m0 e = (M, E) := by rw [← h7]; exact nrm_at (Int.not_lt.1 hlo)
      have hone := one49 (Int.not_lt.1 hlo) h2
      obtain ⟨X, hX⟩ : ∃ X, X = M * 16 % 18446744073709551616 := ⟨_, rfl⟩
      have EX : IntKind.u64.wrap (M * 16) = X := by rw [IntKind.wrap_u64]; omega
      have HX := Hd.mk hX
      have HH := Hd.mk (And.intro (Int.not_lt.1 hlo) (And.intro h2 (And.intro h5 (And.intro h6 eN))))
      clear h1 h2 h3 h4 h5 h6 h7 hlo eN hX
      have HB := Hd.mk (Below.refl base wr)
      by_cases hx0 : X = 0
      · have xb : (X != 0) = false := by rw [hx0]; rfl
        have xb2 : decide (X = 0) = true := decide_eq_true hx0
        by_cases hneg : E < 0
        · have hsg : decide (E < 0) = true := decide_eq_true hneg
          obtain ⟨F, hF⟩ : ∃ F, F = -E := ⟨_, rfl⟩
          have eF : wrap64 (-E) = F := by have := HH.out; unfold wrap64; omega
          have hS : fmtL m e = [48, 120, 49] ++ fracL X ++ [112] ++ [45] ++ expL F := by
            rw [fmtL, ← H0.out, HH.out.2.2.2.2]
            dsimp only
            rw [← HX.out, if_pos hneg, if_pos hneg, ← hF]
          have hF0 : ¬ F < 0 := by omega
          have hup : F < 3001 := by have := HH.out; omega
          clear hF hneg
          have HS := Hd.mk hS
          clear hS
          by_cases hc : F < 100
          · have hd : decide (F < 100) = true := decide_eq_true hc
            go_wp2_with (first
              | (at_builtin; refine app_lit rfl _ _ rfl base _ _ _ _ rfl HO.out HW.out _ _ _ _ rfl (by rfl) (by decide) (by simp [Value.oneCell']) (by have := HN.out; omega) ?_; intro A1 c1 N1 w1 hN ho hb; have HO1 := Hd.mk ho; have HN1 := Hd.mk (le_step HN.out hN); have HB1 := Hd.mk (HB.out.trans hb); have HW1 := Hd.mk (Nat.le_trans HW.out hb.size); clear HO HN HB HW hN ho hb; have HO := HO1; have HN := HN1; have HB := HB1; have HW := HW1; clear HO1 HN1 HB1 HW1)
              | (go_at_call 235; (with_reducible refine (lower120 _).mono ?_); rintro e w2 ⟨rfl, rfl⟩))
            go_ret
            refine ⟨_, _, _, rfl, ?_, HB.out⟩
            rw [HS.out, fracL, if_pos hx0, expL, if_pos hc]
            exact HO.out
          · have hd : decide (F < 100) = false := decide_eq_false hc
            by_cases hc2 : F < 1000
            · have hd2 : decide (F < 1000) = true := decide_eq_true hc2
              go_wp2_with (first
                | (at_builtin; refine app_lit rfl _ _ rfl base _ _ _ _ rfl HO.out HW.out _ _ _ _ rfl (by rfl) (by decide) (by simp [Value.oneCell']) (by have := HN.out; omega) ?_; intro A1 c1 N1 w1 hN ho hb; have HO1 := Hd.mk ho; have HN1 := Hd.mk (le_step HN.out hN); have HB1 := Hd.mk (HB.out.trans hb); have HW1 := Hd.mk (Nat.le_trans HW.out hb.size); clear HO HN HB HW hN ho hb; have HO := HO1; have HN := HN1; have HB := HB1; have HW := HW1; clear HO1 HN1 HB1 HW1)
                | (go_at_call 235; (with_reducible refine (lower120 _).mono ?_); rintro e w2 ⟨rfl, rfl⟩))
              go_ret
              refine ⟨_, _, _, rfl, ?_, HB.out⟩
              rw [HS.out, fracL, if_pos hx0, expL, if_neg (show ¬ F < 100 by omega), if_pos hc2]
              exact HO.out
            · have hd2 : decide (F < 1000) = false := decide_eq_false hc2
              go_wp2_with (first
                | (at_builtin; refine app_lit rfl _ _ rfl base _ _ _ _ rfl HO.out HW.out _ _ _ _ rfl (by rfl) (by decide) (by simp [Value.oneCell']) (by have := HN.out; omega) ?_; intro A1 c1 N1 w1 hN ho hb; have HO1 := Hd.mk ho; have HN1 := Hd.mk (le_step HN.out hN); have HB1 := Hd.mk (HB.out.trans hb); have HW1 := Hd.mk (Nat.le_trans HW.out hb.size); clear HO HN HB HW hN ho hb; have HO := HO1; have HN := HN1; have HB := HB1; have HW := HW1; clear HO1 HN1 HB1 HW1)
                | (go_at_call 235; (with_reducible refine (lower120 _).mono ?_); rintro e w2 ⟨rfl, rfl⟩))
              go_ret
              refine ⟨_, _, _, rfl, ?_, HB.out⟩
              rw [HS.out, fracL, if_pos hx0, expL, if_neg (show ¬ F < 100 by omega), if_neg (show ¬ F < 1000 by omega)]
              exact HO.out
        · have hsg : decide (E < 0) = false := decide_eq_false hneg
          have hS : fmtL m e = [48, 120, 49] ++ fracL X ++ [112] ++ [43] ++ expL E := by
            rw [fmtL, ← H0.out, HH.out.2.2.2.2]
            dsimp only
            rw [← HX.out, if_neg hneg, if_neg hneg]
          have hup : E < 3001 := by have := HH.out; omega
          have HS := Hd.mk hS
          clear hS
          by_cases hc : E < 100
          · have hd : decide (E < 100) = true := decide_eq_true hc
            go_wp2_with (first
              | (at_builtin; refine app_lit rfl _ _ rfl base _ _ _ _ rfl HO.out HW.out _ _ _ _ rfl (by rfl) (by decide) (by simp [Value.oneCell']) (by have := HN.out; omega) ?_; intro A1 c1 N1 w1 hN ho hb; have HO1 := Hd.mk ho; have HN1 := Hd.mk (le_step HN.out hN); have HB1 := Hd.mk (HB.out.trans hb); have HW1 := Hd.mk (Nat.le_trans HW.out hb.size); clear HO HN HB HW hN ho hb; have HO := HO1; have HN := HN1; have HB := HB1; have HW := HW1; clear HO1 HN1 HB1 HW1)
              | (go_at_call 235; (with_reducible refine (lower120 _).mono ?_); rintro e w2 ⟨rfl, rfl⟩))
            go_ret
            refine ⟨_, _, _, rfl, ?_, HB.out⟩
            rw [HS.out, fracL, if_pos hx0, expL, if_pos hc]
            exact HO.out
          · have hd : decide (E < 100) = false := decide_eq_false hc
            by_cases hc2 : E < 1000
            · have hd2 : decide (E < 1000) = true := decide_eq_true hc2
              go_wp2_with (first
                | (at_builtin; refine app_lit rfl _ _ rfl base _ _ _ _ rfl HO.out HW.out _ _ _ _ rfl (by rfl) (by decide) (by simp [Value.oneCell']) (by have := HN.out; omega) ?_; intro A1 c1 N1 w1 hN ho hb; have HO1 := Hd.mk ho; have HN1 := Hd.mk (le_step HN.out hN); have HB1 := Hd.mk (HB.out.trans hb); have HW1 := Hd.mk (Nat.le_trans HW.out hb.size); clear HO HN HB HW hN ho hb; have HO := HO1; have HN := HN1; have HB := HB1; have HW := HW1; clear HO1 HN1 HB1 HW1)
                | (go_at_call 235; (with_reducible refine (lower120 _).mono ?_); rintro e w2 ⟨rfl, rfl⟩))
              go_ret
              refine ⟨_, _, _, rfl, ?_, HB.out⟩
              rw [HS.out, fracL, if_pos hx0, expL, if_neg (show ¬ E < 100 by omega), if_pos hc2]
              exact HO.out
            · have hd2 : decide (E < 1000) = false := decide_eq_false hc2
              go_wp2_with (first
                | (at_builtin; refine app_lit rfl _ _ rfl base _ _ _ _ rfl HO.out HW.out _ _ _ _ rfl (by rfl) (by decide) (by simp [Value.oneCell']) (by have := HN.out; omega) ?_; intro A1 c1 N1 w1 hN ho hb; have HO1 := Hd.mk ho; have HN1 := Hd.mk (le_step HN.out hN); have HB1 := Hd.mk (HB.out.trans hb); have HW1 := Hd.mk (Nat.le_trans HW.out hb.size); clear HO HN HB HW hN ho hb; have HO := HO1; have HN := HN1; have HB := HB1; have HW := HW1; clear HO1 HN1 HB1 HW1)
                | (go_at_call 235; (with_reducible refine (lower120 _).mono ?_); rintro e w2 ⟨rfl, rfl⟩))
              go_ret
              refine ⟨_, _, _, rfl, ?_, HB.out⟩
              rw [HS.out, fracL, if_pos hx0, expL, if_neg (show ¬ E < 100 by omega), if_neg (show ¬ E < 1000 by omega)]
              exact HO.out
      · have xb : (X != 0) = true := bne_iff_ne.mpr hx0
        have xb2 : decide (X = 0) = false := decide_eq_false hx0
        go_wp2_with (first
          | (at_builtin; refine app_lit rfl _ _ rfl base _ _ _ _ rfl HO.out HW.out _ _ _ _ rfl (by rfl) (by decide) (by simp [Value.oneCell']) (by have := HN.out; omega) ?_; intro A1 c1 N1 w1 hN ho hb; have HO1 := Hd.mk ho; have HN1 := Hd.mk (le_step HN.out hN); have HB1 := Hd.mk (HB.out.trans hb); have HW1 := Hd.mk (Nat.le_trans HW.out hb.size); clear HO HN HB HW hN ho hb; have HO := HO1; have HN := HN1; have HB := HB1; have HW := HW1; clear HO1 HN1 HB1 HW1)
          | (go_at_call 235; (with_reducible refine (lower120 _).mono ?_); rintro e w2 ⟨rfl, rfl⟩))
        obtain ⟨w0, rfl⟩ : ∃ w0 : World, w0 = wr := ⟨_, rfl⟩
        have HX1 : Hd (0 ≤ X ∧ X < 18446744073709551616) := ⟨by have := HX.out; omega⟩
        go_loopw [0, 4] (fun v y w' => ∃ (j N : Nat) (A' : Option Addr) (c' : Nat) (Y : Int) (ds : List Int), v = .slice A' N c' ∧ y = .int .u64 Y ∧ 0 ≤ Y ∧ Y < 18446744073709551616 ∧ (∃ Z : Int, Y = Z * 16 ^ j) ∧ j ≤ 16 ∧ ds.length = j ∧ ds ++ hexL (16 - j) Y = hexL 16 X ∧ N = 4 + j ∧ w'.ownsRow base 5 1 (.slice A' N c') N ([] ++ [Value.int IntKind.u8 48, Value.int IntKind.u8 120, Value.int IntKind.u8 49] ++ [Value.int IntKind.u8 46] ++ bytesV ds) ∧ Below base w0 w' ∧ base ≤ w'.heap.size) (fun v _ _ => 100 - lenV v)
        case atStart => exact ⟨0, _, _, _, X, [], rfl, rfl, HX1.out.1, HX1.out.2, ⟨X, by rw [Int.pow_zero, Int.mul_one]⟩, by omega, rfl, rfl, by have := HO.out.1; simpa using this.symm, by simpa [bytesV] using HO.out, HB.out, HW.out⟩
        case round =>
          clear HO HN HB HW
          obtain ⟨j, N, A2, c2, Y, ds, rfl, rfl, y0, y1, y2, y3, y5, y4, hN, ho, hb, hw⟩ := hrel
          have HO := Hd.mk ho
          have HB := Hd.mk hb
          have HW := Hd.mk hw
          clear ho hb hw
          by_cases hY : Y = 0
          · have yb : (Y != 0) = false := by rw [hY]; rfl
            have yb2 : decide (Y = 0) = true := decide_eq_true hY
            have HN : Hd (N ≤ 20) := ⟨by omega⟩
            have HDS : Hd (hexL 16 X = ds) := ⟨by rw [← y4, hY, hexL_zero, List.append_nil]⟩
            clear y0 y1 y2 y3 y4 y5 hN
            subst hY
            by_cases hneg : E < 0
            · have hsg : decide (E < 0) = true := decide_eq_true hneg
              obtain ⟨F, hF⟩ : ∃ F, F = -E := ⟨_, rfl⟩
              have eF : wrap64 (-E) = F := by have := HH.out; unfold wrap64; omega
              have hS : fmtL m e = [48, 120, 49] ++ fracL X ++ [112] ++ [45] ++ expL F := by
                rw [fmtL, ← H0.out, HH.out.2.2.2.2]
                dsimp only
                rw [← HX.out, if_pos hneg, if_pos hneg, ← hF]
              have hF0 : ¬ F < 0 := by omega
              have hup : F < 3001 := by have := HH.out; omega
              clear hF hneg
              have HS := Hd.mk hS
              clear hS
              by_cases hc : F < 100
              · have hd : decide (F < 100) = true := decide_eq_true hc
                go_wp2_with (first
                  | (at_builtin; refine app_lit rfl _ _ rfl base _ _ _ _ rfl HO.out HW.out _ _ _ _ rfl (by rfl) (by decide) (by simp [Value.oneCell']) (by have := HN.out; omega) ?_; intro A1 c1 N1 w1 hN ho hb; have HO1 := Hd.mk ho; have HN1 := Hd.mk (le_step HN.out hN); have HB1 := Hd.mk (HB.out.trans hb); have HW1 := Hd.mk (Nat.le_trans HW.out hb.size); clear HO HN HB HW hN ho hb; have HO := HO1; have HN := HN1; have HB := HB1; have HW := HW1; clear HO1 HN1 HB1 HW1)
                  | (go_at_call 235; (with_reducible refine (lower120 _).mono ?_); rintro e w2 ⟨rfl, rfl⟩))
                go_ret
                refine ⟨_, _, _, rfl, ?_, HB.out⟩
                rw [HS.out, fracL, if_neg hx0, expL, if_pos hc]
                rw [HDS.out] at *
                simpa [bytesV] using HO.out
              · have hd : decide (F < 100) = false := decide_eq_false hc
                by_cases hc2 : F < 1000
                · have hd2 : decide (F < 1000) = true := decide_eq_true hc2
                  go_wp2_with (first
                    | (at_builtin; refine app_lit rfl _ _ rfl base _ _ _ _ rfl HO.out HW.out _ _ _ _ rfl (by rfl) (by decide) (by simp [Value.oneCell']) (by have := HN.out; omega) ?_; intro A1 c1 N1 w1 hN ho hb; have HO1 := Hd.mk ho; have HN1 := Hd.mk (le_step HN.out hN); have HB1 := Hd.mk (HB.out.trans hb); have HW1 := Hd.mk (Nat.le_trans HW.out hb.size); clear HO HN HB HW hN ho hb; have HO := HO1; have HN := HN1; have HB := HB1; have HW := HW1; clear HO1 HN1 HB1 HW1)
                    | (go_at_call 235; (with_reducible refine (lower120 _).mono ?_); rintro e w2 ⟨rfl, rfl⟩))
                  go_ret
                  refine ⟨_, _, _, rfl, ?_, HB.out⟩
                  rw [HS.out, fracL, if_neg hx0, expL, if_neg (show ¬ F < 100 by omega), if_pos hc2]
                  rw [HDS.out] at *
                  simpa [bytesV] using HO.out
                · have hd2 : decide (F < 1000) = false := decide_eq_false hc2
                  go_wp2_with (first
                    | (at_builtin; refine app_lit rfl _ _ rfl base _ _ _ _ rfl HO.out HW.out _ _ _ _ rfl (by rfl) (by decide) (by simp [Value.oneCell']) (by have := HN.out; omega) ?_; intro A1 c1 N1 w1 hN ho hb; have HO1 := Hd.mk ho; have HN1 := Hd.mk (le_step HN.out hN); have HB1 := Hd.mk (HB.out.trans hb); have HW1 := Hd.mk (Nat.le_trans HW.out hb.size); clear HO HN HB HW hN ho hb; have HO := HO1; have HN := HN1; have HB := HB1; have HW := HW1; clear HO1 HN1 HB1 HW1)
                    | (go_at_call 235; (with_reducible refine (lower120 _).mono ?_); rintro e w2 ⟨rfl, rfl⟩))
                  go_ret
                  refine ⟨_, _, _, rfl, ?_, HB.out⟩
                  rw [HS.out, fracL, if_neg hx0, expL, if_neg (show ¬ F < 100 by omega), if_neg (show ¬ F < 1000 by omega)]
                  rw [HDS.out] at *
                  simpa [bytesV] using HO.out
            · have hsg : decide (E < 0) = false := decide_eq_false hneg
              have hS : fmtL m e = [48, 120, 49] ++ fracL X ++ [112] ++ [43] ++ expL E := by
                rw [fmtL, ← H0.out, HH.out.2.2.2.2]
                dsimp only
                rw [← HX.out, if_neg hneg, if_neg hneg]
              have hup : E < 3001 := by have := HH.out; omega
              have HS := Hd.mk hS
              clear hS
              by_cases hc : E < 100
              · have hd : decide (E < 100) = true := decide_eq_true hc
                go_wp2_with (first
                  | (at_builtin; refine app_lit rfl _ _ rfl base _ _ _ _ rfl HO.out HW.out _ _ _ _ rfl (by rfl) (by decide) (by simp [Value.oneCell']) (by have := HN.out; omega) ?_; intro A1 c1 N1 w1 hN ho hb; have HO1 := Hd.mk ho; have HN1 := Hd.mk (le_step HN.out hN); have HB1 := Hd.mk (HB.out.trans hb); have HW1 := Hd.mk (Nat.le_trans HW.out hb.size); clear HO HN HB HW hN ho hb; have HO := HO1; have HN := HN1; have HB := HB1; have HW := HW1; clear HO1 HN1 HB1 HW1)
                  | (go_at_call 235; (with_reducible refine (lower120 _).mono ?_); rintro e w2 ⟨rfl, rfl⟩))
                go_ret
                refine ⟨_, _, _, rfl, ?_, HB.out⟩
                rw [HS.out, fracL, if_neg hx0, expL, if_pos hc]
                rw [HDS.out] at *
                simpa [bytesV] using HO.out
              · have hd : decide (E < 100) = false := decide_eq_false hc
                by_cases hc2 : E < 1000
                · have hd2 : decide (E < 1000) = true := decide_eq_true hc2
                  go_wp2_with (first
                    | (at_builtin; refine app_lit rfl _ _ rfl base _ _ _ _ rfl HO.out HW.out _ _ _ _ rfl (by rfl) (by decide) (by simp [Value.oneCell']) (by have := HN.out; omega) ?_; intro A1 c1 N1 w1 hN ho hb; have HO1 := Hd.mk ho; have HN1 := Hd.mk (le_step HN.out hN); have HB1 := Hd.mk (HB.out.trans hb); have HW1 := Hd.mk (Nat.le_trans HW.out hb.size); clear HO HN HB HW hN ho hb; have HO := HO1; have HN := HN1; have HB := HB1; have HW := HW1; clear HO1 HN1 HB1 HW1)
                    | (go_at_call 235; (with_reducible refine (lower120 _).mono ?_); rintro e w2 ⟨rfl, rfl⟩))
                  go_ret
                  refine ⟨_, _, _, rfl, ?_, HB.out⟩
                  rw [HS.out, fracL, if_neg hx0, expL, if_neg (show ¬ E < 100 by omega), if_pos hc2]
                  rw [HDS.out] at *
                  simpa [bytesV] using HO.out
                · have hd2 : decide (E < 1000) = false := decide_eq_false hc2
                  go_wp2_with (first
                    | (at_builtin; refine app_lit rfl _ _ rfl base _ _ _ _ rfl HO.out HW.out _ _ _ _ rfl (by rfl) (by decide) (by simp [Value.oneCell']) (by have := HN.out; omega) ?_; intro A1 c1 N1 w1 hN ho hb; have HO1 := Hd.mk ho; have HN1 := Hd.mk (le_step HN.out hN); have HB1 := Hd.mk (HB.out.trans hb); have HW1 := Hd.mk (Nat.le_trans HW.out hb.size); clear HO HN HB HW hN ho hb; have HO := HO1; have HN := HN1; have HB := HB1; have HW := HW1; clear HO1 HN1 HB1 HW1)
                    | (go_at_call 235; (with_reducible refine (lower120 _).mono ?_); rintro e w2 ⟨rfl, rfl⟩))
                  go_ret
                  refine ⟨_, _, _, rfl, ?_, HB.out⟩
                  rw [HS.out, fracL, if_neg hx0, expL, if_neg (show ¬ E < 100 by omega), if_neg (show ¬ E < 1000 by omega)]
                  rw [HDS.out] at *
                  simpa [bytesV] using HO.out
          · have yb : (Y != 0) = true := bne_iff_ne.mpr hY
            have yb2 : decide (Y = 0) = false := decide_eq_false hY
            have hj : j < 16 := by
              rcases Nat.lt_or_ge j 16 with h | h
              · exact h
              · exact absurd (hex_last y0 y1 (by have h16 : j = 16 := (by omega); subst h16; exact y2)) hY
            have HN : Hd (N ≤ 20) := ⟨by omega⟩
            obtain ⟨d, hd⟩ : ∃ d, d = Y / 1152921504606846976 := ⟨_, rfl⟩
            have hd0 : 0 ≤ d := by omega
            have hd1 : d < 16 := by omega
            have en : bits BinOp.and IntKind.u64 (Y / 1152921504606846976) 15 = d := (nib y0 y1).trans hd.symm
            have HDD := Hd.mk hd
            clear hd
            go_wp2_with (first
              | (at_builtin; refine app_lit rfl _ _ rfl base _ _ _ _ rfl HO.out HW.out _ _ _ _ rfl (by rfl) (by decide) (by simp [Value.oneCell']) (by have := HN.out; omega) ?_; intro A1 c1 N1 w1 hN ho hb; have HO1 := Hd.mk ho; have HN1 := Hd.mk (le_step HN.out hN); have HB1 := Hd.mk (HB.out.trans hb); have HW1 := Hd.mk (Nat.le_trans HW.out hb.size); clear HO HN HB HW hN ho hb; have HO := HO1; have HN := HN1; have HB := HB1; have HW := HW1; clear HO1 HN1 HB1 HW1)
              | (go_at_call 235; (with_reducible refine (lower120 _).mono ?_); rintro e w2 ⟨rfl, rfl⟩))
            have hl := HO.out.1
            simp [bytesV] at hl
            have hh := hexc_at d hd0 hd1
            refine ⟨⟨j + 1, N1, A1, c1, Y * 16 % 18446744073709551616, ds ++ [hexc d], rfl, by rw [IntKind.wrap_u64], by omega, by omega, ?_, by omega, by simp; omega, ?_, by omega, ?_, HB.out, HW.out⟩, ?_⟩
            · obtain ⟨Z, hz⟩ := hex_next y0 y1 y2
              exact ⟨Z, hz.resolve_right (by omega)⟩
            · rw [← y4, show 16 - j = (16 - (j + 1)) + 1 by omega, hexL, if_neg hY, List.append_assoc, ← HDD.out]
              rfl
            · have := HO.out
              simpa [bytesV, hh] using this
            · simp only [lenV]
              omega
end Go.Proofs.YtbhgpegcdiohlaaGreatDoor.Tr
