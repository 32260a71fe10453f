import Derived.Test.YtbhgpegcdiohlaaGreatDoorTxA
import Derived.Test.YtbhgpegcdiohlaaGreatDoorShelf
import Derived.Test.YtbhgpegcdiohlaaGreatDoorLvQ
namespace Go.Proofs.YtbhgpegcdiohlaaGreatDoor.Tr
open Go Go.RowKit Go.Proofs
set_option linter.unusedVariables false
set_option maxRecDepth 100000
set_option maxHeartbeats 8000000
set_option linter.unusedSimpArgs false
theorem infoStr : (Tryz.prog.info? 9).map (fun i => (i.zero, i.size, i.bytes)) = some (some (.string ⟨#[]⟩), 1, 16) := by kernel_rfl
theorem at_drop' {α : Type} {l r : List α} {j : Nat} {x : α} (h : x :: r = l.drop j) : l[j]? = some x ∧ r = l.drop (j + 1) := by
  constructor
  · have := congrArg List.head? h
    rw [List.head?_drop] at this
    exact this.symm
  · have := congrArg List.tail h
    rw [List.tail_drop] at this
    exact this
/-- texts, parted by a comma and a blank -/
def joinB (l : List ByteArray) : ByteArray := ⟨(Lib.join (l.map (·.data.toList)) [44, 32]).toArray⟩
/-- strings.Join of a row of the call's own -/
theorem join_own (w : World) (base : Nat) (A : Option Addr) (c : Nat) (strs : List ByteArray) (hown : w.ownsRow base 9 1 (.slice A strs.length c) strs.length (strs.map Value.string)) (hN : strs.length ≤ 140737488355328) (hlen : (joinB strs).size ≤ 140737488355328) :
    Calls Tryz.prog 99 #[.slice A strs.length c, .string ⟨#[44, 32]⟩] w (SaysS (joinB strs) w) := by
  cases strs with
  | nil =>
    refine (Tryz.strings_Join_none A c ⟨#[44, 32]⟩ w).mono ?_
    rintro e w' ⟨rfl, rfl⟩
    exact ⟨rfl, Below.refl _ _⟩
  | cons x l =>
    obtain ⟨h1, h2⟩ := hown
    rcases h2 with ⟨_, h2⟩ | ⟨g, cap, cur, hv, hb, hh, h3, h4, h5, h6⟩
    · simp at h2
    · have hown : w.ownsRow base 9 1 (.slice A (x :: l).length c) (x :: l).length ((x :: l).map Value.string) := ⟨h1, .inr ⟨g, cap, cur, hv, hb, hh, h3, h4, h5, h6⟩⟩
      injection hv with e1 e2 e3
      subst e1 e3
      refine Tryz.strings_Join g 0 c (x :: l) ⟨#[44, 32]⟩ w (fun j y hj => ?_) (Array.getElem?_eq_some_iff.1 hh).1 hN h3 hlen
      have hlt := (List.getElem?_eq_some_iff.1 hj).1
      rw [Nat.zero_add, World.ownsRow.cellAt hown j (by omega), List.getElem?_map, hj]
      rfl
theorem textL_call4 (Lw : World → Prop) (hLw : Stays Lw) (op at_ : Int) (m n : ByteArray) (t b : Int) (ks : Exs) (hat : at_ ≤ 7) (hm : m = ⟨#[]⟩) (strs : List ByteArray) (hlen : strs.length = ks.toList.length) (hK : ∀ (i : Nat) (x : Ex) (s : ByteArray), ks.toList[i]? = some x → strs[i]? = some s → TextL Lw x 1 s) (hks : ks.toList.length ≤ 1000) (hs : (joinB strs).size + n.size ≤ 140737488355000) : TextL Lw (.mk 4 op m n t b ks) at_ (n ++ ⟨#[40]⟩ ++ joinB strs ++ ⟨#[41]⟩) := by
  intro w v hL hv
  unfold Ex.Is at hv
  obtain ⟨A, l, c, rfl, g⟩ := hv
  have L : Hd (lvl 4 op = 7) := ⟨by simp [lvl]⟩
  have hd : decide ((7 : Int) < at_) = false := decide_eq_false (by omega)
  have HLEN := Hd.mk g.1
  have G := Hd.mk g
  have HK := Hd.mk hK
  have HL := Hd.mk hL
  have HS := Hd.mk hs
  have HSL := Hd.mk hlen
  have hl1000 : l ≤ 1000 := by rw [g.1]; exact hks
  have z1 : (9223372036854775807 < n.size + 1) = False := eq_false (by simp [show (⟨#[46]⟩ : ByteArray).size = 1 from rfl]; omega)
  have z2 : (9223372036854775807 < n.size + 1 + (joinB strs).size) = False := eq_false (by simp [show (⟨#[46]⟩ : ByteArray).size = 1 from rfl]; omega)
  have z3 : (9223372036854775807 < n.size + 1 + (joinB strs).size + 1) = False := eq_false (by simp [show (⟨#[46]⟩ : ByteArray).size = 1 from rfl]; omega)
  subst hm
  obtain ⟨i0, hi0, hz0, hz1, hz2⟩ := info_parts infoStr
  have I := Hd.mk (And.intro hi0 (And.intro hz0 (And.intro hz1 hz2)))
  clear hi0 hz0 hz1 hz2 hat g hK hL hs hlen hks
  go_enter Tryz.func53, Tryz.ntmps53
  go_wp2_with (first
    | (go_at_call 89; (with_reducible refine ((level_any 4 op _ _ _ _ _ _).mono ?_)); (rw [L.out]; rintro e w1 ⟨rfl, hb1⟩; have HB1 := Hd.mk hb1; have hc1 := bcell hb1; have hs1 := bsize1 rfl hb1; clear hb1)))
  go_loopw [6, 42] (fun v i w' => ∃ (j : Nat) (A' : Option Addr) (c' : Nat), j ≤ l ∧ v = .slice A' j c' ∧ i = .int .i64 j ∧ w'.ownsRow w.heap.size 9 1 (.slice A' j c') j ((strs.take j).map Value.string) ∧ Below w.heap.size w w') (fun _ i _ => l - (intOf i).toNat)
  case atStart => exact ⟨0, none, 0, by omega, rfl, rfl, World.ownsRow_nil _ _ _ _, step (up (up0 _) _) HB1.out⟩
  case round =>
    obtain ⟨j, A', c', hj, rfl, rfl, hown, hb⟩ := hrel
    have HO := Hd.mk hown
    have HB := Hd.mk hb
    clear hown hb hc1 hs1
    by_cases hlt : j < l
    · obtain ⟨x, hx⟩ : ∃ x, ks.toList[j]? = some x := ⟨_, List.getElem?_eq_getElem (by rw [← HLEN.out]; exact hlt)⟩
      obtain ⟨s, hsj⟩ : ∃ s, strs[j]? = some s := ⟨_, List.getElem?_eq_getElem (by rw [HSL.out, ← HLEN.out]; exact hlt)⟩
      obtain ⟨B, o, rfl, g1⟩ := G.out.at (by omega)
      have i1 := Ex.In_below HB.out x (g1 j x hx)
      obtain ⟨v0, v1, v2, v3, v4, v5, v6, v7, v8, a0, a1, a2, a3, a4, a5, a6, ax⟩ := Ex.In_Is i1
      have X := Hd.mk (fun w' (hb : Below wr.heap.size wr w') => HK.out j x s hx hsj w' _ (hLw _ _ (step HB.out hb) HL.out) (Ex.Is_below hb ax))
      have lt1 : B < wr.heap.size := World.block_lt_of_cell? wr _ a0
      have T : Hd ((strs.take (j + 1)).map Value.string = (strs.take j).map Value.string ++ [Value.string s]) := ⟨by
        obtain ⟨h1, h2⟩ := List.getElem?_eq_some_iff.1 hsj
        rw [List.take_succ_eq_append_getElem h1, h2, List.map_append]
        rfl⟩
      clear g1 i1 ax hx hsj
      go_wp2_with (first
        | (go_at_call 53; (with_reducible refine ((X.out _ (up (up0 _) _)).mono ?_)); (rintro e w3 ⟨rfl, hb3⟩; have HB3 := Hd.mk hb3; clear hb3))
        | (at_builtin; refine wpList_append_own _ rfl _ _ 22 rfl w.heap.size 9 i0 _ 1 16 Tryz.underlying22 I.out.1 I.out.2.1 I.out.2.2.1 I.out.2.2.2 rfl (by decide) _ _ _ rfl (own_below HO.out (up (step (up (up0 _) _) HB3.out) _)) ⟨w3.heap.size, 0, none⟩ 1 1 [.string s] rfl rfl (fun jj u hu => by rw [new_add]; exact (List.getElem?_toArray ..).trans hu) (by simp [Value.oneCell']) (by unfold maxLen; omega) (by omega) (by have := HB.out.size; have := HB3.out.size; simp at *; omega) ?_; intro v' w4 hown' hgrow _; have HO2 := Hd.mk hown'; have HG := Hd.mk hgrow; clear hown' hgrow))
      go_roundw
      case rel =>
        obtain ⟨A2, m2, c2, rfl, rfl⟩ := own_slice HO2.out (by omega)
        refine ⟨j + 1, A2, c2, by omega, rfl, by go_num, by rw [T.out]; exact HO2.out, ?_⟩
        exact (up (step (up HB.out _) HB3.out) _).grown HG.out (by have := HB.out.size; have := HB3.out.size; simp at *; omega) (fun k hk => (HO.out.lt k hk).1)
      case measure => simp [intOf]; omega
    · obtain rfl : j = l := by omega
      have hst : strs.take j = strs := List.take_of_length_le (by rw [HSL.out, ← HLEN.out]; omega)
      have HO2 := HO.out
      rw [hst] at HO2
      have hll : j = strs.length := by rw [HSL.out, ← HLEN.out]
      have J := Hd.mk (show Calls Tryz.prog 99 #[.slice A' j c', .string ⟨#[44, 32]⟩] wr (SaysS (joinB strs) wr) by
        subst hll
        exact join_own wr w.heap.size A' c' strs HO2 (by omega) (by have := HS.out; omega))
      clear hst HO2 hll
      go_wp2_with (go_at_call 99; (with_reducible refine (J.out.mono ?_)); (rintro e w3 ⟨rfl, hb3⟩; have HB3 := Hd.mk hb3; clear hb3))
      go_ret
      exact ⟨rfl, step HB.out HB3.out⟩
theorem textL_call5 (Lw : World → Prop) (hLw : Stays Lw) (op at_ : Int) (m n : ByteArray) (t b : Int) (ks : Exs) (hat : at_ ≤ 7) (hm : m.toList.isEmpty = false) (strs : List ByteArray) (hlen : strs.length = ks.toList.length) (hK : ∀ (i : Nat) (x : Ex) (s : ByteArray), ks.toList[i]? = some x → strs[i]? = some s → TextL Lw x 1 s) (hks : ks.toList.length ≤ 1000) (hs : (joinB strs).size + m.size + n.size + 1 ≤ 140737488355000) : TextL Lw (.mk 5 op m n t b ks) at_ ((m ++ ⟨#[46]⟩ ++ n) ++ ⟨#[40]⟩ ++ joinB strs ++ ⟨#[41]⟩) := by
  intro w v hL hv
  unfold Ex.Is at hv
  obtain ⟨A, l, c, rfl, g⟩ := hv
  have L : Hd (lvl 5 op = 7) := ⟨by simp [lvl]⟩
  have hd : decide ((7 : Int) < at_) = false := decide_eq_false (by omega)
  have HLEN := Hd.mk g.1
  have G := Hd.mk g
  have HK := Hd.mk hK
  have HL := Hd.mk hL
  have HS := Hd.mk hs
  have HSL := Hd.mk hlen
  have hl1000 : l ≤ 1000 := by rw [g.1]; exact hks
  have z1 : (9223372036854775807 < (m ++ ⟨#[46]⟩ ++ n).size + 1) = False := eq_false (by simp [show (⟨#[46]⟩ : ByteArray).size = 1 from rfl]; omega)
  have z2 : (9223372036854775807 < (m ++ ⟨#[46]⟩ ++ n).size + 1 + (joinB strs).size) = False := eq_false (by simp [show (⟨#[46]⟩ : ByteArray).size = 1 from rfl]; omega)
  have z3 : (9223372036854775807 < (m ++ ⟨#[46]⟩ ++ n).size + 1 + (joinB strs).size + 1) = False := eq_false (by simp [show (⟨#[46]⟩ : ByteArray).size = 1 from rfl]; omega)
  have F := Hd.mk (far_any m n (by omega))
  have y1 : (9223372036854775807 < m.size + 1 + n.size + 1) = False := eq_false (by omega)
  have y2 : (9223372036854775807 < m.size + 1 + n.size + 1 + (joinB strs).size) = False := eq_false (by omega)
  have y3 : (9223372036854775807 < m.size + 1 + n.size + 1 + (joinB strs).size + 1) = False := eq_false (by omega)
  obtain ⟨i0, hi0, hz0, hz1, hz2⟩ := info_parts infoStr
  have I := Hd.mk (And.intro hi0 (And.intro hz0 (And.intro hz1 hz2)))
  clear hi0 hz0 hz1 hz2 hat g hK hL hs hlen hks
  go_enter Tryz.func53, Tryz.ntmps53
  go_wp2_with (first
    | (go_at_call 89; (with_reducible refine ((level_any 5 op _ _ _ _ _ _).mono ?_)); (rw [L.out]; rintro e w1 ⟨rfl, hb1⟩; have HB1 := Hd.mk hb1; have hc1 := bcell hb1; have hs1 := bsize1 rfl hb1; clear hb1))
    | (go_at_call 107; (with_reducible refine ((F.out _).mono ?_)); (rintro e w9 ⟨rfl, rfl⟩)))
  go_loopw [6, 42] (fun v i w' => ∃ (j : Nat) (A' : Option Addr) (c' : Nat), j ≤ l ∧ v = .slice A' j c' ∧ i = .int .i64 j ∧ w'.ownsRow w.heap.size 9 1 (.slice A' j c') j ((strs.take j).map Value.string) ∧ Below w.heap.size w w') (fun _ i _ => l - (intOf i).toNat)
  case atStart => exact ⟨0, none, 0, by omega, rfl, rfl, World.ownsRow_nil _ _ _ _, step (up (up0 _) _) HB1.out⟩
  case round =>
    obtain ⟨j, A', c', hj, rfl, rfl, hown, hb⟩ := hrel
    have HO := Hd.mk hown
    have HB := Hd.mk hb
    clear hown hb hc1 hs1
    by_cases hlt : j < l
    · obtain ⟨x, hx⟩ : ∃ x, ks.toList[j]? = some x := ⟨_, List.getElem?_eq_getElem (by rw [← HLEN.out]; exact hlt)⟩
      obtain ⟨s, hsj⟩ : ∃ s, strs[j]? = some s := ⟨_, List.getElem?_eq_getElem (by rw [HSL.out, ← HLEN.out]; exact hlt)⟩
      obtain ⟨B, o, rfl, g1⟩ := G.out.at (by omega)
      have i1 := Ex.In_below HB.out x (g1 j x hx)
      obtain ⟨v0, v1, v2, v3, v4, v5, v6, v7, v8, a0, a1, a2, a3, a4, a5, a6, ax⟩ := Ex.In_Is i1
      have X := Hd.mk (fun w' (hb : Below wr.heap.size wr w') => HK.out j x s hx hsj w' _ (hLw _ _ (step HB.out hb) HL.out) (Ex.Is_below hb ax))
      have lt1 : B < wr.heap.size := World.block_lt_of_cell? wr _ a0
      have T : Hd ((strs.take (j + 1)).map Value.string = (strs.take j).map Value.string ++ [Value.string s]) := ⟨by
        obtain ⟨h1, h2⟩ := List.getElem?_eq_some_iff.1 hsj
        rw [List.take_succ_eq_append_getElem h1, h2, List.map_append]
        rfl⟩
      clear g1 i1 ax hx hsj
      go_wp2_with (first
        | (go_at_call 53; (with_reducible refine ((X.out _ (up (up0 _) _)).mono ?_)); (rintro e w3 ⟨rfl, hb3⟩; have HB3 := Hd.mk hb3; clear hb3))
        | (at_builtin; refine wpList_append_own _ rfl _ _ 22 rfl w.heap.size 9 i0 _ 1 16 Tryz.underlying22 I.out.1 I.out.2.1 I.out.2.2.1 I.out.2.2.2 rfl (by decide) _ _ _ rfl (own_below HO.out (up (step (up (up0 _) _) HB3.out) _)) ⟨w3.heap.size, 0, none⟩ 1 1 [.string s] rfl rfl (fun jj u hu => by rw [new_add]; exact (List.getElem?_toArray ..).trans hu) (by simp [Value.oneCell']) (by unfold maxLen; omega) (by omega) (by have := HB.out.size; have := HB3.out.size; simp at *; omega) ?_; intro v' w4 hown' hgrow _; have HO2 := Hd.mk hown'; have HG := Hd.mk hgrow; clear hown' hgrow))
      go_roundw
      case rel =>
        obtain ⟨A2, m2, c2, rfl, rfl⟩ := own_slice HO2.out (by omega)
        refine ⟨j + 1, A2, c2, by omega, rfl, by go_num, by rw [T.out]; exact HO2.out, ?_⟩
        exact (up (step (up HB.out _) HB3.out) _).grown HG.out (by have := HB.out.size; have := HB3.out.size; simp at *; omega) (fun k hk => (HO.out.lt k hk).1)
      case measure => simp [intOf]; omega
    · obtain rfl : j = l := by omega
      have hst : strs.take j = strs := List.take_of_length_le (by rw [HSL.out, ← HLEN.out]; omega)
      have HO2 := HO.out
      rw [hst] at HO2
      have hll : j = strs.length := by rw [HSL.out, ← HLEN.out]
      have J := Hd.mk (show Calls Tryz.prog 99 #[.slice A' j c', .string ⟨#[44, 32]⟩] wr (SaysS (joinB strs) wr) by
        subst hll
        exact join_own wr w.heap.size A' c' strs HO2 (by omega) (by have := HS.out; omega))
      clear hst HO2 hll
      go_wp2_with (go_at_call 99; (with_reducible refine (J.out.mono ?_)); (rintro e w3 ⟨rfl, hb3⟩; have HB3 := Hd.mk hb3; clear hb3))
      go_ret
      exact ⟨rfl, step HB.out HB3.out⟩
end Go.Proofs.YtbhgpegcdiohlaaGreatDoor.Tr
