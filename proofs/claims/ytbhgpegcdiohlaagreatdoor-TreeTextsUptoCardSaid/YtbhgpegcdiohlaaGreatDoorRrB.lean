import Derived.Test.YtbhgpegcdiohlaaGreatDoorRtC
import Derived.Test.YtbhgpegcdiohlaaGreatDoorLvD
namespace Go.Proofs.YtbhgpegcdiohlaaGreatDoor.Tr
open Go Go.RowKit Go.Proofs
set_option linter.unusedVariables false
set_option maxRecDepth 100000
set_option maxHeartbeats 4000000
theorem rletter_any (c : Int) (w : World) : Calls Tryz.prog 82 #[.int .u8 c] w fun e w' => e = .returned (.bool (lettI c)) ∧ w = w' := by
  go_enter Tryz.func82, Tryz.ntmps82
  go_wp2
  all_goals
    go_ret
    refine retb ?_ _
    unfold lettI
    rw [Bool.eq_iff_iff]
    simp
    try omega
theorem rdigit_any (c : Int) (w : World) : Calls Tryz.prog 83 #[.int .u8 c] w fun e w' => e = .returned (.bool (digI c)) ∧ w = w' := by
  go_enter Tryz.func83, Tryz.ntmps83
  go_wp2
  all_goals
    go_ret
    refine retb ?_ _
    unfold digI
    rw [Bool.eq_iff_iff]
    simp
    try omega
theorem rvalued_any (c : Int) (w : World) : Calls Tryz.prog 87 #[.int .i64 c] w fun e w' => e = .returned (.bool (valuedB c)) ∧ w = w' := by
  go_enter Tryz.func87, Tryz.ntmps87
  go_wp2
  all_goals
    go_ret
    refine retb ?_ _
    unfold valuedB
    rw [Bool.eq_iff_iff]
    simp
    try omega
theorem rletter_b (c : Int) (b : Bool) (h : lettI c = b) (w : World) : Calls Tryz.prog 82 #[.int .u8 c] w fun e w' => e = .returned (.bool b) ∧ w = w' := h ▸ rletter_any c w
theorem rdigit_b (c : Int) (b : Bool) (h : digI c = b) (w : World) : Calls Tryz.prog 83 #[.int .u8 c] w fun e w' => e = .returned (.bool b) ∧ w = w' := h ▸ rdigit_any c w
theorem rvalued_b (c : Int) (b : Bool) (h : valuedB c = b) (w : World) : Calls Tryz.prog 87 #[.int .i64 c] w fun e w' => e = .returned (.bool b) ∧ w = w' := h ▸ rvalued_any c w
def Found (b : Bool) (w : World) (e : Ending) (w' : World) : Prop := ∃ n : Int, e = .returned (.tuple #[.int .i64 n, .bool b]) ∧ w = w'
theorem find_any (L : List ByteArray) (s : ByteArray) (w : World) (A : Option Addr) (l c : Nat) (hs : Sl 1 (strIn w) L A l) (b : Bool) (hb : b = true ↔ s ∈ L) : Calls Tryz.prog 122 #[.slice A l c, .string s] w (Found b w) := by
  have hn := hs.2.1
  have HL := Hd.mk hs.1
  have S := Hd.mk hs
  have HB := Hd.mk hb
  clear hs hb
  go_enter Tryz.func122, Tryz.ntmps122
  go_wp2
  go_loop [6] (fun i => ∃ k : Nat, k ≤ l ∧ i = .int .i64 k ∧ Hd (∀ j x, j < k → L[j]? = some x → x ≠ s)) (fun i => l - (intOf i).toNat)
  case atStart => exact ⟨0, by omega, rfl, ⟨fun j x hj => absurd hj (by omega)⟩⟩
  case round =>
    obtain ⟨k, hk, rfl, G⟩ := hrel
    by_cases hlt : k < l
    · obtain ⟨x, hx⟩ : ∃ x, L[k]? = some x := ⟨_, List.getElem?_eq_getElem (by rw [← HL.out]; exact hlt)⟩
      obtain ⟨B, o, rfl, g⟩ := S.out.at (by omega)
      have a0 := g k x hx
      unfold strIn at a0
      rw [Nat.mul_one] at a0
      have M := Hd.mk hx
      clear g hx
      by_cases he : x = s
      · subst he
        have hb1 : b = true := HB.out.2 (List.mem_of_getElem? M.out)
        subst hb1
        go_wp2
        go_ret2
        exact ⟨_, rfl, rfl⟩
      · have hne : x.toList ≠ s.toList := fun h => he (bytes_eq h)
        have hne2 : (x.toList == s.toList) = false := beq_eq_false_iff_ne.mpr hne
        have HE := Hd.mk he
        clear he
        go_wp2
        go_round
        case rel =>
          refine ⟨k + 1, by omega, by go_num, ⟨fun j y hj hy => ?_⟩⟩
          by_cases hjk : j < k
          · exact G.out j y hjk hy
          · obtain rfl : j = k := by omega
            rw [M.out] at hy
            cases hy
            exact HE.out
        case measure => simp [intOf]; omega
    · have hb0 : b = false := by
        rw [Bool.eq_false_iff]
        intro h
        obtain ⟨j, hj⟩ := List.mem_iff_getElem?.1 (HB.out.1 h)
        exact G.out j s (by have := (List.getElem?_eq_some_iff.1 hj).1; rw [← HL.out] at this; omega) hj rfl
      subst hb0
      go_wp2
      go_ret2
      exact ⟨_, rfl, rfl⟩
def wordB : List ByteArray := wordL.map fun l => ⟨l.toArray⟩
theorem wordB_mem (s : ByteArray) : resv s = true ↔ s ∈ wordB := by
  unfold resv wordB
  rw [List.contains_iff_mem, List.mem_map]
  constructor
  · intro h
    refine ⟨s.toList, h, ?_⟩
    rw [ByteArray.toList_eq]
  · rintro ⟨l, hl, rfl⟩
    rw [ByteArray.toList_eq]
    simpa using hl
def Worded (w : World) (e : Ending) (w' : World) : Prop := ∃ A c, e = .returned (.slice A 23 c) ∧ Sl 1 (strIn w') wordB A 23 ∧ Below w.heap.size w w'
theorem words_any (w : World) : Calls Tryz.prog 123 #[] w (Worded w) := by
  go_enter Tryz.func123, Tryz.ntmps123
  go_wp2
  go_ret
  refine ⟨_, _, rfl, ⟨rfl, by omega, fun _ => ⟨w.heap.size, 0, rfl, fun i x hx => ?_⟩⟩, up (up0 _) _⟩
  unfold strIn
  rw [Nat.mul_one, Nat.zero_add, new_cell]
  have h : (wordB.map Value.string)[i]? = some (.string x) := by rw [List.getElem?_map, hx]; rfl
  rw [← h, ← List.getElem?_toArray]
  rfl
theorem rresv_b (s : ByteArray) (b : Bool) (h : resv s = b) (w : World) : Calls Tryz.prog 84 #[.string s] w (Says b w) := by
  have hb : b = true ↔ s ∈ wordB := by rw [← h]; exact wordB_mem s
  have HB := Hd.mk hb
  clear h hb
  go_enter Tryz.func84, Tryz.ntmps84
  go_wp2_with (first
    | (go_at_call 123; (with_reducible refine ((words_any _).mono ?_)); (rintro e w1 ⟨A, c, rfl, hs, hb1⟩; have HS := Hd.mk hs; have HB1 := Hd.mk hb1; clear hs hb1))
    | (go_at_call 122; (with_reducible refine ((find_any wordB s _ A 23 c HS.out b HB.out).mono ?_)); (rintro e w2 ⟨n, rfl, rfl⟩)))
  go_ret
  exact ⟨rfl, HB1.out⟩
theorem rnameRight (s : ByteArray) (hs : strOk s) (w : World) : Calls Tryz.prog 38 #[.string s] w (SaysI (nameErr s) w) := by
  have hs' : s.size ≤ 9223372036854775807 := hs
  clear hs
  rcases Nat.eq_zero_or_pos s.size with hz | hp
  · rw [nameErr_0 hz]
    have he : s = ⟨#[]⟩ := ByteArray.ext (Array.eq_empty_of_size_eq_zero hz)
    subst he
    go_enter Tryz.func38, Tryz.ntmps38
    go_wp2
    go_ret
    exact ⟨rfl, up0 _⟩
  · have hne : ((s.size : Int) == 0) = false := beq_eq_false_iff_ne.mpr (by omega)
    by_cases hl : lettI (s[0].toNat : Int) = true
    · have L := Hd.mk hl
      clear hl
      go_enter Tryz.func38, Tryz.ntmps38
      go_wp2_with (go_at_call 82; (refine ((rletter_b _ _ L.out _).mono ?_)); rintro e w1 ⟨rfl, rfl⟩)
      go_loopw [3] (fun i w' => ∃ k : Nat, k ≤ s.size ∧ i = .int .i64 k ∧ Below w.heap.size w w' ∧ Hd (∀ (j : Nat) (h : j < s.size), j < k → (lettI (s[j].toNat : Int) || digI (s[j].toNat : Int)) = true)) (fun i _ => s.size - (intOf i).toNat)
      case atStart => exact ⟨0, by omega, rfl, by first | exact up0 _ | exact (up0 _).drew, ⟨fun j h hj => absurd hj (by omega)⟩⟩
      case round =>
        obtain ⟨k, hk, rfl, hb, G⟩ := hrel
        have HB := Hd.mk hb
        clear hb
        by_cases hlt : k < s.size
        · by_cases hk1 : lettI (s[k].toNat : Int) = true
          · have L1 := Hd.mk hk1
            clear hk1
            go_wp2_with (go_at_call 82; (refine ((rletter_b _ _ L1.out _).mono ?_)); rintro e w1 ⟨rfl, rfl⟩)
            go_roundw
            case rel =>
              refine ⟨k + 1, by omega, by go_num, by first | exact HB.out | exact HB.out.drew, ⟨fun j h hj => ?_⟩⟩
              by_cases hjk : j < k
              · exact G.out j h hjk
              · obtain rfl : j = k := by omega
                simp [L1.out]
            case measure => simp [intOf]; omega
          · have hk1' : lettI (s[k].toNat : Int) = false := by simpa using hk1
            have L1 := Hd.mk hk1'
            clear hk1 hk1'
            by_cases hd : digI (s[k].toNat : Int) = true
            · have D := Hd.mk hd
              clear hd
              go_wp2_with (first
                | (go_at_call 82; (refine ((rletter_b _ _ L1.out _).mono ?_)); rintro e w1 ⟨rfl, rfl⟩)
                | (go_at_call 83; (refine ((rdigit_b _ _ D.out _).mono ?_)); rintro e w1 ⟨rfl, rfl⟩))
              go_roundw
              case rel =>
                refine ⟨k + 1, by omega, by go_num, by first | exact HB.out | exact HB.out.drew, ⟨fun j h hj => ?_⟩⟩
                by_cases hjk : j < k
                · exact G.out j h hjk
                · obtain rfl : j = k := by omega
                  simp [L1.out, D.out]
              case measure => simp [intOf]; omega
            · have hd' : digI (s[k].toNat : Int) = false := by simpa using hd
              have D := Hd.mk hd'
              have E := Hd.mk (nameErr_2 k hlt L1.out hd')
              clear hd hd'
              go_wp2_with (first
                | (go_at_call 82; (refine ((rletter_b _ _ L1.out _).mono ?_)); rintro e w1 ⟨rfl, rfl⟩)
                | (go_at_call 83; (refine ((rdigit_b _ _ D.out _).mono ?_)); rintro e w1 ⟨rfl, rfl⟩))
              go_ret
              exact saysI_of (b := 12) E.out.symm ⟨rfl, by first | exact HB.out | exact HB.out.drew⟩
        · have A : Hd (allOk s) := ⟨fun j h => G.out j h (by omega)⟩
          have E := Hd.mk (nameErr_3 hp L.out A.out)
          by_cases h32 : 32 < s.size
          · go_wp2_with fail
            go_ret
            exact saysI_of (b := 3) (by rw [E.out, if_pos h32]) ⟨rfl, HB.out⟩
          · by_cases hr : resv s = true
            · have R := Hd.mk hr
              clear hr
              go_wp2_with (go_at_call 84; (with_reducible refine ((rresv_b _ _ R.out _).mono ?_)); rintro e w2 ⟨rfl, hb2⟩; have HB2 := Hd.mk hb2; clear hb2)
              go_ret
              exact saysI_of (b := 12) (by rw [E.out, if_neg h32, if_pos R.out]) ⟨rfl, step HB.out HB2.out⟩
            · have hr' : resv s = false := by simpa using hr
              have R := Hd.mk hr'
              clear hr hr'
              go_wp2_with (go_at_call 84; (with_reducible refine ((rresv_b _ _ R.out _).mono ?_)); rintro e w2 ⟨rfl, hb2⟩; have HB2 := Hd.mk hb2; clear hb2)
              go_ret
              exact saysI_of (b := 0) (by rw [E.out, if_neg h32, if_neg (by simp [R.out])]) ⟨rfl, step HB.out HB2.out⟩
    · have hl' : lettI (s[0].toNat : Int) = false := by simpa using hl
      rw [nameErr_1 hp hl']
      have L := Hd.mk hl'
      clear hl hl'
      go_enter Tryz.func38, Tryz.ntmps38
      go_wp2_with (go_at_call 82; (refine ((rletter_b _ _ L.out _).mono ?_)); rintro e w1 ⟨rfl, rfl⟩)
      go_ret
      exact ⟨rfl, by first | exact up0 _ | exact (up0 _).drew⟩
end Go.Proofs.YtbhgpegcdiohlaaGreatDoor.Tr

namespace Go.Proofs.YtbhgpegcdiohlaaGreatDoor.Tr
open Go Go.RowKit Go.Proofs
set_option linter.unusedVariables false
set_option maxRecDepth 100000
set_option maxHeartbeats 4000000
theorem rlevel_any (k op : Int) (v2 v3 v4 v5 v6 : Value) (w : World) : Calls Tryz.prog 93 #[.agg #[.int .i64 k, .int .i64 op, v2, v3, v4, v5, v6]] w (SaysI (lvl k op) w) := by
  go_enter Tryz.func93, Tryz.ntmps93
  go_wp2_with fail
  all_goals go_ret
  all_goals refine saysI_of ?_ ⟨rfl, up (up0 _) _⟩
  all_goals (unfold lvl; simp_all; try omega)
def leftI (x : Int) : Int := if x = 3 then 4 else x
theorem left_any (x : Int) (w : World) : Calls Tryz.prog 127 #[.int .i64 x] w fun e w' => e = .returned (.int .i64 (leftI x)) ∧ w = w' := by
  unfold leftI
  by_cases h : x = 3
  · subst h
    go_enter Tryz.func127, Tryz.ntmps127
    go_wp2_with fail
    go_ret
    exact ⟨rfl, rfl⟩
  · rw [if_neg h]
    have f : (x == 3) = false := beq_eq_false_iff_ne.mpr h
    clear h
    go_enter Tryz.func127, Tryz.ntmps127
    go_wp2_with fail
    go_ret
    exact ⟨rfl, rfl⟩
theorem right_one (x : Int) (h1 : 1 ≤ x) (h2 : x ≤ 7) (w : World) : Calls Tryz.prog 128 #[.int .i64 x] w fun e w' => e = .returned (.int .i64 (x + 1)) ∧ w = w' := by
  go_enter Tryz.func128, Tryz.ntmps128
  go_wp2_with fail
  go_ret
  exact ⟨rfl, rfl⟩
theorem kid_4 (op : Int)  (m n : ByteArray) (t b : Int) (A : Option Addr) (l c : Nat) (i : Int) (hi : 0 ≤ i) (w : World) : Calls Tryz.prog 94 #[.agg #[.int .i64 4, .int .i64 op, .string m, .string n, .int .i64 t, .int .u64 b, .slice A l c], .int .i64 i] w (SaysI2 (std 4 op i).1 (std 4 op i).2 w) := by
  have HX : Hd (lvl 4 op = 7) := ⟨by simp [lvl]⟩
  have HY : Hd (1 = (std 4 op i).1 ∧ 1 = (std 4 op i).2) := ⟨by simp [std]⟩
  clear hi
  go_enter Tryz.func94, Tryz.ntmps94
  go_wp2_with (first
    | (go_at_call 93; (with_reducible refine ((rlevel_any 4 op _ _ _ _ _ w2).mono ?_)); (rw [HX.out]; rintro e w3 ⟨rfl, hb3⟩; have HB3 := Hd.mk hb3; clear hb3))
    | (go_at_call 93; (with_reducible refine ((rlevel_any 4 op _ _ _ _ _ w1).mono ?_)); (rw [HX.out]; rintro e w2 ⟨rfl, hb2⟩; have HB2 := Hd.mk hb2; have hc2 := bcell hb2; have hs2 := Nat.lt_of_lt_of_le hs1 hb2.size; clear hb2))
    | (go_at_call 93; (with_reducible refine ((rlevel_any 4 op _ _ _ _ _ _).mono ?_)); (rw [HX.out]; rintro e w1 ⟨rfl, hb1⟩; have HB1 := Hd.mk hb1; have hc1 := bcell hb1; have hs1 := bsize1 rfl hb1; clear hb1))
    | (go_at_call 127; (with_reducible refine ((left_any _ _).mono ?_)); (rintro e w9 ⟨rfl, rfl⟩))
    | (go_at_call 128; (with_reducible refine ((right_one _ (by omega) (by omega) _).mono ?_)); (rintro e w9 ⟨rfl, rfl⟩)))
  all_goals
    go_ret2
    refine saysI2_of HY.out.1 HY.out.2 ⟨rfl, ?_⟩
    first | exact up (up0 _) _ | exact step (step (step (up (up0 _) _) HB1.out) HB2.out) HB3.out | exact step (step (up (up0 _) _) HB1.out) HB2.out | exact step (up (up0 _) _) HB1.out
theorem kid_5 (op : Int)  (m n : ByteArray) (t b : Int) (A : Option Addr) (l c : Nat) (i : Int) (hi : 0 ≤ i) (w : World) : Calls Tryz.prog 94 #[.agg #[.int .i64 5, .int .i64 op, .string m, .string n, .int .i64 t, .int .u64 b, .slice A l c], .int .i64 i] w (SaysI2 (std 5 op i).1 (std 5 op i).2 w) := by
  have HX : Hd (lvl 5 op = 7) := ⟨by simp [lvl]⟩
  have HY : Hd (1 = (std 5 op i).1 ∧ 1 = (std 5 op i).2) := ⟨by simp [std]⟩
  clear hi
  go_enter Tryz.func94, Tryz.ntmps94
  go_wp2_with (first
    | (go_at_call 93; (with_reducible refine ((rlevel_any 5 op _ _ _ _ _ w2).mono ?_)); (rw [HX.out]; rintro e w3 ⟨rfl, hb3⟩; have HB3 := Hd.mk hb3; clear hb3))
    | (go_at_call 93; (with_reducible refine ((rlevel_any 5 op _ _ _ _ _ w1).mono ?_)); (rw [HX.out]; rintro e w2 ⟨rfl, hb2⟩; have HB2 := Hd.mk hb2; have hc2 := bcell hb2; have hs2 := Nat.lt_of_lt_of_le hs1 hb2.size; clear hb2))
    | (go_at_call 93; (with_reducible refine ((rlevel_any 5 op _ _ _ _ _ _).mono ?_)); (rw [HX.out]; rintro e w1 ⟨rfl, hb1⟩; have HB1 := Hd.mk hb1; have hc1 := bcell hb1; have hs1 := bsize1 rfl hb1; clear hb1))
    | (go_at_call 127; (with_reducible refine ((left_any _ _).mono ?_)); (rintro e w9 ⟨rfl, rfl⟩))
    | (go_at_call 128; (with_reducible refine ((right_one _ (by omega) (by omega) _).mono ?_)); (rintro e w9 ⟨rfl, rfl⟩)))
  all_goals
    go_ret2
    refine saysI2_of HY.out.1 HY.out.2 ⟨rfl, ?_⟩
    first | exact up (up0 _) _ | exact step (step (step (up (up0 _) _) HB1.out) HB2.out) HB3.out | exact step (step (up (up0 _) _) HB1.out) HB2.out | exact step (up (up0 _) _) HB1.out
theorem kid_61 (op : Int) (h : op = 1) (m n : ByteArray) (t b : Int) (A : Option Addr) (l c : Nat) (i : Int) (hi : 0 ≤ i) (w : World) : Calls Tryz.prog 94 #[.agg #[.int .i64 6, .int .i64 op, .string m, .string n, .int .i64 t, .int .u64 b, .slice A l c], .int .i64 i] w (SaysI2 (std 6 op i).1 (std 6 op i).2 w) := by
  have HX : Hd (lvl 6 op = 6) := ⟨by subst h; simp [lvl]⟩
  have HY : Hd (6 = (std 6 op i).1 ∧ 1 = (std 6 op i).2) := ⟨by subst h; simp [std, lvl]⟩
  clear hi
  subst h
  go_enter Tryz.func94, Tryz.ntmps94
  go_wp2_with (first
    | (go_at_call 93; (with_reducible refine ((rlevel_any 6 op _ _ _ _ _ w2).mono ?_)); (rw [HX.out]; rintro e w3 ⟨rfl, hb3⟩; have HB3 := Hd.mk hb3; clear hb3))
    | (go_at_call 93; (with_reducible refine ((rlevel_any 6 op _ _ _ _ _ w1).mono ?_)); (rw [HX.out]; rintro e w2 ⟨rfl, hb2⟩; have HB2 := Hd.mk hb2; have hc2 := bcell hb2; have hs2 := Nat.lt_of_lt_of_le hs1 hb2.size; clear hb2))
    | (go_at_call 93; (with_reducible refine ((rlevel_any 6 op _ _ _ _ _ _).mono ?_)); (rw [HX.out]; rintro e w1 ⟨rfl, hb1⟩; have HB1 := Hd.mk hb1; have hc1 := bcell hb1; have hs1 := bsize1 rfl hb1; clear hb1))
    | (go_at_call 127; (with_reducible refine ((left_any _ _).mono ?_)); (rintro e w9 ⟨rfl, rfl⟩))
    | (go_at_call 128; (with_reducible refine ((right_one _ (by omega) (by omega) _).mono ?_)); (rintro e w9 ⟨rfl, rfl⟩)))
  all_goals
    go_ret2
    refine saysI2_of HY.out.1 HY.out.2 ⟨rfl, ?_⟩
    first | exact up (up0 _) _ | exact step (step (step (up (up0 _) _) HB1.out) HB2.out) HB3.out | exact step (step (up (up0 _) _) HB1.out) HB2.out | exact step (up (up0 _) _) HB1.out
theorem kid_62 (op : Int) (h : op = 2) (m n : ByteArray) (t b : Int) (A : Option Addr) (l c : Nat) (i : Int) (hi : 0 ≤ i) (w : World) : Calls Tryz.prog 94 #[.agg #[.int .i64 6, .int .i64 op, .string m, .string n, .int .i64 t, .int .u64 b, .slice A l c], .int .i64 i] w (SaysI2 (std 6 op i).1 (std 6 op i).2 w) := by
  have HX : Hd (lvl 6 op = 6) := ⟨by subst h; simp [lvl]⟩
  have HY : Hd (6 = (std 6 op i).1 ∧ 1 = (std 6 op i).2) := ⟨by subst h; simp [std, lvl]⟩
  clear hi
  subst h
  go_enter Tryz.func94, Tryz.ntmps94
  go_wp2_with (first
    | (go_at_call 93; (with_reducible refine ((rlevel_any 6 op _ _ _ _ _ w2).mono ?_)); (rw [HX.out]; rintro e w3 ⟨rfl, hb3⟩; have HB3 := Hd.mk hb3; clear hb3))
    | (go_at_call 93; (with_reducible refine ((rlevel_any 6 op _ _ _ _ _ w1).mono ?_)); (rw [HX.out]; rintro e w2 ⟨rfl, hb2⟩; have HB2 := Hd.mk hb2; have hc2 := bcell hb2; have hs2 := Nat.lt_of_lt_of_le hs1 hb2.size; clear hb2))
    | (go_at_call 93; (with_reducible refine ((rlevel_any 6 op _ _ _ _ _ _).mono ?_)); (rw [HX.out]; rintro e w1 ⟨rfl, hb1⟩; have HB1 := Hd.mk hb1; have hc1 := bcell hb1; have hs1 := bsize1 rfl hb1; clear hb1))
    | (go_at_call 127; (with_reducible refine ((left_any _ _).mono ?_)); (rintro e w9 ⟨rfl, rfl⟩))
    | (go_at_call 128; (with_reducible refine ((right_one _ (by omega) (by omega) _).mono ?_)); (rintro e w9 ⟨rfl, rfl⟩)))
  all_goals
    go_ret2
    refine saysI2_of HY.out.1 HY.out.2 ⟨rfl, ?_⟩
    first | exact up (up0 _) _ | exact step (step (step (up (up0 _) _) HB1.out) HB2.out) HB3.out | exact step (step (up (up0 _) _) HB1.out) HB2.out | exact step (up (up0 _) _) HB1.out
theorem kid_63 (op : Int) (h : op = 3) (m n : ByteArray) (t b : Int) (A : Option Addr) (l c : Nat) (i : Int) (hi : 0 ≤ i) (w : World) : Calls Tryz.prog 94 #[.agg #[.int .i64 6, .int .i64 op, .string m, .string n, .int .i64 t, .int .u64 b, .slice A l c], .int .i64 i] w (SaysI2 (std 6 op i).1 (std 6 op i).2 w) := by
  have HX : Hd (lvl 6 op = 7) := ⟨by subst h; simp [lvl]⟩
  have HY : Hd (1 = (std 6 op i).1 ∧ 1 = (std 6 op i).2) := ⟨by subst h; simp [std, lvl]⟩
  clear hi
  subst h
  go_enter Tryz.func94, Tryz.ntmps94
  go_wp2_with (first
    | (go_at_call 93; (with_reducible refine ((rlevel_any 6 op _ _ _ _ _ w2).mono ?_)); (rw [HX.out]; rintro e w3 ⟨rfl, hb3⟩; have HB3 := Hd.mk hb3; clear hb3))
    | (go_at_call 93; (with_reducible refine ((rlevel_any 6 op _ _ _ _ _ w1).mono ?_)); (rw [HX.out]; rintro e w2 ⟨rfl, hb2⟩; have HB2 := Hd.mk hb2; have hc2 := bcell hb2; have hs2 := Nat.lt_of_lt_of_le hs1 hb2.size; clear hb2))
    | (go_at_call 93; (with_reducible refine ((rlevel_any 6 op _ _ _ _ _ _).mono ?_)); (rw [HX.out]; rintro e w1 ⟨rfl, hb1⟩; have HB1 := Hd.mk hb1; have hc1 := bcell hb1; have hs1 := bsize1 rfl hb1; clear hb1))
    | (go_at_call 127; (with_reducible refine ((left_any _ _).mono ?_)); (rintro e w9 ⟨rfl, rfl⟩))
    | (go_at_call 128; (with_reducible refine ((right_one _ (by omega) (by omega) _).mono ?_)); (rintro e w9 ⟨rfl, rfl⟩)))
  all_goals
    go_ret2
    refine saysI2_of HY.out.1 HY.out.2 ⟨rfl, ?_⟩
    first | exact up (up0 _) _ | exact step (step (step (up (up0 _) _) HB1.out) HB2.out) HB3.out | exact step (step (up (up0 _) _) HB1.out) HB2.out | exact step (up (up0 _) _) HB1.out
theorem kid_64 (op : Int) (h : op = 4) (m n : ByteArray) (t b : Int) (A : Option Addr) (l c : Nat) (i : Int) (hi : 0 ≤ i) (w : World) : Calls Tryz.prog 94 #[.agg #[.int .i64 6, .int .i64 op, .string m, .string n, .int .i64 t, .int .u64 b, .slice A l c], .int .i64 i] w (SaysI2 (std 6 op i).1 (std 6 op i).2 w) := by
  have HX : Hd (lvl 6 op = 7) := ⟨by subst h; simp [lvl]⟩
  have HY : Hd (1 = (std 6 op i).1 ∧ 1 = (std 6 op i).2) := ⟨by subst h; simp [std, lvl]⟩
  clear hi
  subst h
  go_enter Tryz.func94, Tryz.ntmps94
  go_wp2_with (first
    | (go_at_call 93; (with_reducible refine ((rlevel_any 6 op _ _ _ _ _ w2).mono ?_)); (rw [HX.out]; rintro e w3 ⟨rfl, hb3⟩; have HB3 := Hd.mk hb3; clear hb3))
    | (go_at_call 93; (with_reducible refine ((rlevel_any 6 op _ _ _ _ _ w1).mono ?_)); (rw [HX.out]; rintro e w2 ⟨rfl, hb2⟩; have HB2 := Hd.mk hb2; have hc2 := bcell hb2; have hs2 := Nat.lt_of_lt_of_le hs1 hb2.size; clear hb2))
    | (go_at_call 93; (with_reducible refine ((rlevel_any 6 op _ _ _ _ _ _).mono ?_)); (rw [HX.out]; rintro e w1 ⟨rfl, hb1⟩; have HB1 := Hd.mk hb1; have hc1 := bcell hb1; have hs1 := bsize1 rfl hb1; clear hb1))
    | (go_at_call 127; (with_reducible refine ((left_any _ _).mono ?_)); (rintro e w9 ⟨rfl, rfl⟩))
    | (go_at_call 128; (with_reducible refine ((right_one _ (by omega) (by omega) _).mono ?_)); (rintro e w9 ⟨rfl, rfl⟩)))
  all_goals
    go_ret2
    refine saysI2_of HY.out.1 HY.out.2 ⟨rfl, ?_⟩
    first | exact up (up0 _) _ | exact step (step (step (up (up0 _) _) HB1.out) HB2.out) HB3.out | exact step (step (up (up0 _) _) HB1.out) HB2.out | exact step (up (up0 _) _) HB1.out
theorem kid_6c (op : Int) (h1 : op ≠ 1) (h2 : op ≠ 2) (h3 : op ≠ 3) (h4 : op ≠ 4) (m n : ByteArray) (t b : Int) (A : Option Addr) (l c : Nat) (i : Int) (hi : 0 ≤ i) (w : World) : Calls Tryz.prog 94 #[.agg #[.int .i64 6, .int .i64 op, .string m, .string n, .int .i64 t, .int .u64 b, .slice A l c], .int .i64 i] w (SaysI2 (std 6 op i).1 (std 6 op i).2 w) := by
  have HX : Hd (lvl 6 op = 7) := ⟨by simp [lvl, h1, h2]⟩
  have HY : Hd (1 = (std 6 op i).1 ∧ 0 = (std 6 op i).2) := ⟨by simp [std, lvl, h1, h2, h3, h4]⟩
  have f1 : (op == 1) = false := beq_eq_false_iff_ne.mpr h1
  have f2 : (op == 2) = false := beq_eq_false_iff_ne.mpr h2
  have f3 : (op == 3) = false := beq_eq_false_iff_ne.mpr h3
  have f4 : (op == 4) = false := beq_eq_false_iff_ne.mpr h4
  clear h1 h2 h3 h4 hi
  go_enter Tryz.func94, Tryz.ntmps94
  go_wp2_with (first
    | (go_at_call 93; (with_reducible refine ((rlevel_any 6 op _ _ _ _ _ w2).mono ?_)); (rw [HX.out]; rintro e w3 ⟨rfl, hb3⟩; have HB3 := Hd.mk hb3; clear hb3))
    | (go_at_call 93; (with_reducible refine ((rlevel_any 6 op _ _ _ _ _ w1).mono ?_)); (rw [HX.out]; rintro e w2 ⟨rfl, hb2⟩; have HB2 := Hd.mk hb2; have hc2 := bcell hb2; have hs2 := Nat.lt_of_lt_of_le hs1 hb2.size; clear hb2))
    | (go_at_call 93; (with_reducible refine ((rlevel_any 6 op _ _ _ _ _ _).mono ?_)); (rw [HX.out]; rintro e w1 ⟨rfl, hb1⟩; have HB1 := Hd.mk hb1; have hc1 := bcell hb1; have hs1 := bsize1 rfl hb1; clear hb1))
    | (go_at_call 127; (with_reducible refine ((left_any _ _).mono ?_)); (rintro e w9 ⟨rfl, rfl⟩))
    | (go_at_call 128; (with_reducible refine ((right_one _ (by omega) (by omega) _).mono ?_)); (rintro e w9 ⟨rfl, rfl⟩)))
  all_goals
    go_ret2
    refine saysI2_of HY.out.1 HY.out.2 ⟨rfl, ?_⟩
    first | exact up (up0 _) _ | exact step (step (step (up (up0 _) _) HB1.out) HB2.out) HB3.out | exact step (step (up (up0 _) _) HB1.out) HB2.out | exact step (up (up0 _) _) HB1.out
theorem kid_7a (op : Int) (x : Int) (hx : lvl 7 op = x) (hx1 : 1 ≤ x) (h7 : x < 7) (m n : ByteArray) (t b : Int) (A : Option Addr) (l c : Nat) (w : World) : Calls Tryz.prog 94 #[.agg #[.int .i64 7, .int .i64 op, .string m, .string n, .int .i64 t, .int .u64 b, .slice A l c], .int .i64 0] w (SaysI2 (std 7 op 0).1 (std 7 op 0).2 w) := by
  have HX : Hd (lvl 7 op = x) := ⟨hx⟩
  have HY : Hd (leftI x = (std 7 op 0).1 ∧ 0 = (std 7 op 0).2) := ⟨by simp [std, hx, h7, plc, leftI]; split <;> omega⟩
  clear hx
  go_enter Tryz.func94, Tryz.ntmps94
  go_wp2_with (first
    | (go_at_call 93; (with_reducible refine ((rlevel_any 7 op _ _ _ _ _ w2).mono ?_)); (rw [HX.out]; rintro e w3 ⟨rfl, hb3⟩; have HB3 := Hd.mk hb3; clear hb3))
    | (go_at_call 93; (with_reducible refine ((rlevel_any 7 op _ _ _ _ _ w1).mono ?_)); (rw [HX.out]; rintro e w2 ⟨rfl, hb2⟩; have HB2 := Hd.mk hb2; have hc2 := bcell hb2; have hs2 := Nat.lt_of_lt_of_le hs1 hb2.size; clear hb2))
    | (go_at_call 93; (with_reducible refine ((rlevel_any 7 op _ _ _ _ _ _).mono ?_)); (rw [HX.out]; rintro e w1 ⟨rfl, hb1⟩; have HB1 := Hd.mk hb1; have hc1 := bcell hb1; have hs1 := bsize1 rfl hb1; clear hb1))
    | (go_at_call 127; (with_reducible refine ((left_any _ _).mono ?_)); (rintro e w9 ⟨rfl, rfl⟩))
    | (go_at_call 128; (with_reducible refine ((right_one _ (by omega) (by omega) _).mono ?_)); (rintro e w9 ⟨rfl, rfl⟩)))
  all_goals
    go_ret2
    refine saysI2_of HY.out.1 HY.out.2 ⟨rfl, ?_⟩
    first | exact up (up0 _) _ | exact step (step (step (up (up0 _) _) HB1.out) HB2.out) HB3.out | exact step (step (up (up0 _) _) HB1.out) HB2.out | exact step (up (up0 _) _) HB1.out
theorem kid_7b (op : Int) (x : Int) (hx : lvl 7 op = x) (hx1 : 1 ≤ x) (h7 : x < 7) (m n : ByteArray) (t b : Int) (A : Option Addr) (l c : Nat) (i : Int) (hi : 0 < i) (w : World) : Calls Tryz.prog 94 #[.agg #[.int .i64 7, .int .i64 op, .string m, .string n, .int .i64 t, .int .u64 b, .slice A l c], .int .i64 i] w (SaysI2 (std 7 op i).1 (std 7 op i).2 w) := by
  have HX : Hd (lvl 7 op = x) := ⟨hx⟩
  have HY : Hd ((x + 1) = (std 7 op i).1 ∧ 0 = (std 7 op i).2) := ⟨by simp [std, hx, h7, plc]; omega⟩
  have fi : (i == 0) = false := beq_eq_false_iff_ne.mpr (by omega)
  clear hx hi
  go_enter Tryz.func94, Tryz.ntmps94
  go_wp2_with (first
    | (go_at_call 93; (with_reducible refine ((rlevel_any 7 op _ _ _ _ _ w2).mono ?_)); (rw [HX.out]; rintro e w3 ⟨rfl, hb3⟩; have HB3 := Hd.mk hb3; clear hb3))
    | (go_at_call 93; (with_reducible refine ((rlevel_any 7 op _ _ _ _ _ w1).mono ?_)); (rw [HX.out]; rintro e w2 ⟨rfl, hb2⟩; have HB2 := Hd.mk hb2; have hc2 := bcell hb2; have hs2 := Nat.lt_of_lt_of_le hs1 hb2.size; clear hb2))
    | (go_at_call 93; (with_reducible refine ((rlevel_any 7 op _ _ _ _ _ _).mono ?_)); (rw [HX.out]; rintro e w1 ⟨rfl, hb1⟩; have HB1 := Hd.mk hb1; have hc1 := bcell hb1; have hs1 := bsize1 rfl hb1; clear hb1))
    | (go_at_call 127; (with_reducible refine ((left_any _ _).mono ?_)); (rintro e w9 ⟨rfl, rfl⟩))
    | (go_at_call 128; (with_reducible refine ((right_one _ (by omega) (by omega) _).mono ?_)); (rintro e w9 ⟨rfl, rfl⟩)))
  all_goals
    go_ret2
    refine saysI2_of HY.out.1 HY.out.2 ⟨rfl, ?_⟩
    first | exact up (up0 _) _ | exact step (step (step (up (up0 _) _) HB1.out) HB2.out) HB3.out | exact step (step (up (up0 _) _) HB1.out) HB2.out | exact step (up (up0 _) _) HB1.out
theorem kid_77 (op : Int) (hx : lvl 7 op = 7) (m n : ByteArray) (t b : Int) (A : Option Addr) (l c : Nat) (i : Int) (hi : 0 ≤ i) (w : World) : Calls Tryz.prog 94 #[.agg #[.int .i64 7, .int .i64 op, .string m, .string n, .int .i64 t, .int .u64 b, .slice A l c], .int .i64 i] w (SaysI2 (std 7 op i).1 (std 7 op i).2 w) := by
  have HX : Hd (lvl 7 op = 7) := ⟨hx⟩
  have HY : Hd (1 = (std 7 op i).1 ∧ 0 = (std 7 op i).2) := ⟨by simp [std, hx]⟩
  clear hx hi
  go_enter Tryz.func94, Tryz.ntmps94
  go_wp2_with (first
    | (go_at_call 93; (with_reducible refine ((rlevel_any 7 op _ _ _ _ _ w2).mono ?_)); (rw [HX.out]; rintro e w3 ⟨rfl, hb3⟩; have HB3 := Hd.mk hb3; clear hb3))
    | (go_at_call 93; (with_reducible refine ((rlevel_any 7 op _ _ _ _ _ w1).mono ?_)); (rw [HX.out]; rintro e w2 ⟨rfl, hb2⟩; have HB2 := Hd.mk hb2; have hc2 := bcell hb2; have hs2 := Nat.lt_of_lt_of_le hs1 hb2.size; clear hb2))
    | (go_at_call 93; (with_reducible refine ((rlevel_any 7 op _ _ _ _ _ _).mono ?_)); (rw [HX.out]; rintro e w1 ⟨rfl, hb1⟩; have HB1 := Hd.mk hb1; have hc1 := bcell hb1; have hs1 := bsize1 rfl hb1; clear hb1))
    | (go_at_call 127; (with_reducible refine ((left_any _ _).mono ?_)); (rintro e w9 ⟨rfl, rfl⟩))
    | (go_at_call 128; (with_reducible refine ((right_one _ (by omega) (by omega) _).mono ?_)); (rintro e w9 ⟨rfl, rfl⟩)))
  all_goals
    go_ret2
    refine saysI2_of HY.out.1 HY.out.2 ⟨rfl, ?_⟩
    first | exact up (up0 _) _ | exact step (step (step (up (up0 _) _) HB1.out) HB2.out) HB3.out | exact step (step (up (up0 _) _) HB1.out) HB2.out | exact step (up (up0 _) _) HB1.out
theorem kid_0 (op : Int) (k : Int) (h4 : k ≠ 4) (h5 : k ≠ 5) (h6 : k ≠ 6) (h7 : k ≠ 7) (m n : ByteArray) (t b : Int) (A : Option Addr) (l c : Nat) (i : Int) (hi : 0 ≤ i) (w : World) : Calls Tryz.prog 94 #[.agg #[.int .i64 k, .int .i64 op, .string m, .string n, .int .i64 t, .int .u64 b, .slice A l c], .int .i64 i] w (SaysI2 (std k op i).1 (std k op i).2 w) := by
  have HX : Hd (lvl k op = 7) := ⟨by simp [lvl, h6, h7]⟩
  have HY : Hd (1 = (std k op i).1 ∧ 0 = (std k op i).2) := ⟨by simp [std, h4, h5, h6, h7]⟩
  have f4 : (k == 4) = false := beq_eq_false_iff_ne.mpr h4
  have f5 : (k == 5) = false := beq_eq_false_iff_ne.mpr h5
  have f6 : (k == 6) = false := beq_eq_false_iff_ne.mpr h6
  have f7 : (k == 7) = false := beq_eq_false_iff_ne.mpr h7
  clear h4 h5 h6 h7 hi
  go_enter Tryz.func94, Tryz.ntmps94
  go_wp2_with (first
    | (go_at_call 93; (with_reducible refine ((rlevel_any k op _ _ _ _ _ w2).mono ?_)); (rw [HX.out]; rintro e w3 ⟨rfl, hb3⟩; have HB3 := Hd.mk hb3; clear hb3))
    | (go_at_call 93; (with_reducible refine ((rlevel_any k op _ _ _ _ _ w1).mono ?_)); (rw [HX.out]; rintro e w2 ⟨rfl, hb2⟩; have HB2 := Hd.mk hb2; have hc2 := bcell hb2; have hs2 := Nat.lt_of_lt_of_le hs1 hb2.size; clear hb2))
    | (go_at_call 93; (with_reducible refine ((rlevel_any k op _ _ _ _ _ _).mono ?_)); (rw [HX.out]; rintro e w1 ⟨rfl, hb1⟩; have HB1 := Hd.mk hb1; have hc1 := bcell hb1; have hs1 := bsize1 rfl hb1; clear hb1))
    | (go_at_call 127; (with_reducible refine ((left_any _ _).mono ?_)); (rintro e w9 ⟨rfl, rfl⟩))
    | (go_at_call 128; (with_reducible refine ((right_one _ (by omega) (by omega) _).mono ?_)); (rintro e w9 ⟨rfl, rfl⟩)))
  all_goals
    go_ret2
    refine saysI2_of HY.out.1 HY.out.2 ⟨rfl, ?_⟩
    first | exact up (up0 _) _ | exact step (step (step (up (up0 _) _) HB1.out) HB2.out) HB3.out | exact step (step (up (up0 _) _) HB1.out) HB2.out | exact step (up (up0 _) _) HB1.out
theorem kid_any (k op : Int) (m n : ByteArray) (t b : Int) (A : Option Addr) (l c : Nat) (i : Int) (hi : 0 ≤ i) (w : World) : Calls Tryz.prog 94 #[.agg #[.int .i64 k, .int .i64 op, .string m, .string n, .int .i64 t, .int .u64 b, .slice A l c], .int .i64 i] w (SaysI2 (std k op i).1 (std k op i).2 w) := by
  by_cases h4 : k = 4
  · subst h4; exact kid_4 op m n t b A l c i hi w
  by_cases h5 : k = 5
  · subst h5; exact kid_5 op m n t b A l c i hi w
  by_cases h6 : k = 6
  · subst h6
    by_cases g1 : op = 1
    · exact kid_61 op g1 m n t b A l c i hi w
    by_cases g2 : op = 2
    · exact kid_62 op g2 m n t b A l c i hi w
    by_cases g3 : op = 3
    · exact kid_63 op g3 m n t b A l c i hi w
    by_cases g4 : op = 4
    · exact kid_64 op g4 m n t b A l c i hi w
    exact kid_6c op g1 g2 g3 g4 m n t b A l c i hi w
  by_cases h7 : k = 7
  · subst h7
    have hl := lvl_le 7 op
    by_cases g : lvl 7 op < 7
    · by_cases h0 : i = 0
      · subst h0; exact kid_7a op _ rfl hl.1 g m n t b A l c w
      · exact kid_7b op _ rfl hl.1 g m n t b A l c i (by omega) w
    · exact kid_77 op (by omega) m n t b A l c i hi w
  exact kid_0 op k h4 h5 h6 h7 m n t b A l c i hi w
end Go.Proofs.YtbhgpegcdiohlaaGreatDoor.Tr
