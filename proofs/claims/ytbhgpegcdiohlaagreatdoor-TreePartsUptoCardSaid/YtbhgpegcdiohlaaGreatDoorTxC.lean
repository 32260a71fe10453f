import Derived.Test.YtbhgpegcdiohlaaGreatDoorTxA
import Derived.Test.YtbhgpegcdiohlaaGreatDoorShelf
import Derived.Test.YtbhgpegcdiohlaaGreatDoorLvQ
import Derived.Test.YtbhgpegcdiohlaaGreatDoorRtE
namespace Go.Proofs.YtbhgpegcdiohlaaGreatDoor.Tr
open Go Go.RowKit Go.Proofs
set_option linter.unusedVariables false
set_option maxRecDepth 100000
set_option maxHeartbeats 8000000
set_option linter.unusedSimpArgs false
theorem infoStr : (Tryz.prog.info? 9).map (fun i => (i.zero, i.size, i.bytes)) = some (some (.string ⟨#[]⟩), 1, 16) := by kernel_rfl
theorem at_drop' {α : Type} {l r : List α} {j : Nat} {x : α} (h : x :: r = l.drop j) : l[j]? = some x ∧ r = l.drop (j + 1) := by
  constructor
  · have := congrArg List.head? h
    rw [List.head?_drop] at this
    exact this.symm
  · have := congrArg List.tail h
    rw [List.tail_drop] at this
    exact this
/-- texts, parted by a comma and a blank -/
def joinB (l : List ByteArray) : ByteArray := ⟨(Lib.join (l.map (·.data.toList)) [44, 32]).toArray⟩
/-- strings.Join of a row of the call's own -/
theorem join_own (w : World) (base : Nat) (A : Option Addr) (c : Nat) (strs : List ByteArray) (hown : w.ownsRow base 9 1 (.slice A strs.length c) strs.length (strs.map Value.string)) (hN : strs.length ≤ 140737488355328) (hlen : (joinB strs).size ≤ 140737488355328) :
    Calls Tryz.prog 99 #[.slice A strs.length c, .string ⟨#[44, 32]⟩] w (SaysS (joinB strs) w) := by
  cases strs with
  | nil =>
    refine (Tryz.strings_Join_none A c ⟨#[44, 32]⟩ w).mono ?_
    rintro e w' ⟨rfl, rfl⟩
    exact ⟨rfl, Below.refl _ _⟩
  | cons x l =>
    obtain ⟨h1, h2⟩ := hown
    rcases h2 with ⟨_, h2⟩ | ⟨g, cap, cur, hv, hb, hh, h3, h4, h5, h6⟩
    · simp at h2
    · have hown : w.ownsRow base 9 1 (.slice A (x :: l).length c) (x :: l).length ((x :: l).map Value.string) := ⟨h1, .inr ⟨g, cap, cur, hv, hb, hh, h3, h4, h5, h6⟩⟩
      injection hv with e1 e2 e3
      subst e1 e3
      refine Tryz.strings_Join g 0 c (x :: l) ⟨#[44, 32]⟩ w (fun j y hj => ?_) (Array.getElem?_eq_some_iff.1 hh).1 hN h3 hlen
      have hlt := (List.getElem?_eq_some_iff.1 hj).1
      rw [Nat.zero_add, World.ownsRow.cellAt hown j (by omega), List.getElem?_map, hj]
      rfl
theorem textL_call4 (Lw : World → Prop) (hLw : Stays Lw) (op at_ : Int) (m n : ByteArray) (t b : Int) (ks : Exs) (hat : at_ ≤ 7) (hm : m = ⟨#[]⟩) (strs : List ByteArray) (hlen : strs.length = ks.toList.length) (hK : ∀ (i : Nat) (x : Ex) (s : ByteArray), ks.toList[i]? = some x → strs[i]? = some s → TextL Lw x 1 s) (hks : ks.toList.length ≤ 1000) (hs : (joinB strs).size + n.size ≤ 140737488355000) : TextL Lw (.mk 4 op m n t b ks) at_ (n ++ ⟨#[40]⟩ ++ joinB strs ++ ⟨#[41]⟩) := by
  intro w v hL hv
  unfold Ex.Is at hv
  obtain ⟨A, l, c, rfl, g⟩ := hv
  have L : Hd (lvl 4 op = 7) := ⟨by simp [lvl]⟩
  have hd : decide ((7 : Int) < at_) = false := decide_eq_false (by omega)
  have HLEN := Hd.mk g.1
  have G := Hd.mk g
  have HK := Hd.mk hK
  have HL := Hd.mk hL
  have HS := Hd.mk hs
  have HSL := Hd.mk hlen
  have hl1000 : l ≤ 1000 := by rw [g.1]; exact hks
  have z1 : (9223372036854775807 < n.size + 1) = False := eq_false (by simp [show (⟨#[46]⟩ : ByteArray).size = 1 from rfl]; omega)
  have z2 : (9223372036854775807 < n.size + 1 + (joinB strs).size) = False := eq_false (by simp [show (⟨#[46]⟩ : ByteArray).size = 1 from rfl]; omega)
  have z3 : (9223372036854775807 < n.size + 1 + (joinB strs).size + 1) = False := eq_false (by simp [show (⟨#[46]⟩ : ByteArray).size = 1 from rfl]; omega)
  subst hm
  obtain ⟨i0, hi0, hz0, hz1, hz2⟩ := info_parts infoStr
  have I := Hd.mk (And.intro hi0 (And.intro hz0 (And.intro hz1 hz2)))
  clear hi0 hz0 hz1 hz2 hat g hK hL hs hlen hks
  go_enter Tryz.func53, Tryz.ntmps53
  go_wp2_with (first
    | (go_at_call 89; (with_reducible refine ((level_any 4 op _ _ _ _ _ _).mono ?_)); (rw [L.out]; rintro e w1 ⟨rfl, hb1⟩; have HB1 := Hd.mk hb1; have hc1 := bcell hb1; have hs1 := bsize1 rfl hb1; clear hb1)))
  go_loopw [6, 42] (fun v i w' => ∃ (j : Nat) (A' : Option Addr) (c' : Nat), j ≤ l ∧ v = .slice A' j c' ∧ i = .int .i64 j ∧ w'.ownsRow w.heap.size 9 1 (.slice A' j c') j ((strs.take j).map Value.string) ∧ Below w.heap.size w w') (fun _ i _ => l - (intOf i).toNat)
  case atStart => exact ⟨0, none, 0, by omega, rfl, rfl, World.ownsRow_nil _ _ _ _, step (up (up0 _) _) HB1.out⟩
  case round =>
    obtain ⟨j, A', c', hj, rfl, rfl, hown, hb⟩ := hrel
    have HO := Hd.mk hown
    have HB := Hd.mk hb
    clear hown hb hc1 hs1
    by_cases hlt : j < l
    · obtain ⟨x, hx⟩ : ∃ x, ks.toList[j]? = some x := ⟨_, List.getElem?_eq_getElem (by rw [← HLEN.out]; exact hlt)⟩
      obtain ⟨s, hsj⟩ : ∃ s, strs[j]? = some s := ⟨_, List.getElem?_eq_getElem (by rw [HSL.out, ← HLEN.out]; exact hlt)⟩
      obtain ⟨B, o, rfl, g1⟩ := G.out.at (by omega)
      have i1 := Ex.In_below HB.out x (g1 j x hx)
      obtain ⟨v0, v1, v2, v3, v4, v5, v6, v7, v8, a0, a1, a2, a3, a4, a5, a6, ax⟩ := Ex.In_Is i1
      have X := Hd.mk (fun w' (hb : Below wr.heap.size wr w') => HK.out j x s hx hsj w' _ (hLw _ _ (step HB.out hb) HL.out) (Ex.Is_below hb ax))
      have lt1 : B < wr.heap.size := World.block_lt_of_cell? wr _ a0
      have T : Hd ((strs.take (j + 1)).map Value.string = (strs.take j).map Value.string ++ [Value.string s]) := ⟨by
        obtain ⟨h1, h2⟩ := List.getElem?_eq_some_iff.1 hsj
        rw [List.take_succ_eq_append_getElem h1, h2, List.map_append]
        rfl⟩
      clear g1 i1 ax hx hsj
      go_wp2_with (first
        | (go_at_call 53; (with_reducible refine ((X.out _ (up (up0 _) _)).mono ?_)); (rintro e w3 ⟨rfl, hb3⟩; have HB3 := Hd.mk hb3; clear hb3))
        | (at_builtin; refine wpList_append_own _ rfl _ _ 22 rfl w.heap.size 9 i0 _ 1 16 Tryz.underlying22 I.out.1 I.out.2.1 I.out.2.2.1 I.out.2.2.2 rfl (by decide) _ _ _ rfl (own_below HO.out (up (step (up (up0 _) _) HB3.out) _)) ⟨w3.heap.size, 0, none⟩ 1 1 [.string s] rfl rfl (fun jj u hu => by rw [new_add]; exact (List.getElem?_toArray ..).trans hu) (by simp [Value.oneCell']) (by unfold maxLen; omega) (by omega) (by have := HB.out.size; have := HB3.out.size; simp at *; omega) ?_; intro v' w4 hown' hgrow _; have HO2 := Hd.mk hown'; have HG := Hd.mk hgrow; clear hown' hgrow))
      go_roundw
      case rel =>
        obtain ⟨A2, m2, c2, rfl, rfl⟩ := own_slice HO2.out (by omega)
        refine ⟨j + 1, A2, c2, by omega, rfl, by go_num, by rw [T.out]; exact HO2.out, ?_⟩
        exact (up (step (up HB.out _) HB3.out) _).grown HG.out (by have := HB.out.size; have := HB3.out.size; simp at *; omega) (fun k hk => (HO.out.lt k hk).1)
      case measure => simp [intOf]; omega
    · obtain rfl : j = l := by omega
      have hst : strs.take j = strs := List.take_of_length_le (by rw [HSL.out, ← HLEN.out]; omega)
      have HO2 := HO.out
      rw [hst] at HO2
      have hll : j = strs.length := by rw [HSL.out, ← HLEN.out]
      have J := Hd.mk (show Calls Tryz.prog 99 #[.slice A' j c', .string ⟨#[44, 32]⟩] wr (SaysS (joinB strs) wr) by
        subst hll
        exact join_own wr w.heap.size A' c' strs HO2 (by omega) (by have := HS.out; omega))
      clear hst HO2 hll
      go_wp2_with (go_at_call 99; (with_reducible refine (J.out.mono ?_)); (rintro e w3 ⟨rfl, hb3⟩; have HB3 := Hd.mk hb3; clear hb3))
      go_ret
      exact ⟨rfl, step HB.out HB3.out⟩
theorem textL_call5 (Lw : World → Prop) (hLw : Stays Lw) (op at_ : Int) (m n : ByteArray) (t b : Int) (ks : Exs) (hat : at_ ≤ 7) (hm : m.toList.isEmpty = false) (strs : List ByteArray) (hlen : strs.length = ks.toList.length) (hK : ∀ (i : Nat) (x : Ex) (s : ByteArray), ks.toList[i]? = some x → strs[i]? = some s → TextL Lw x 1 s) (hks : ks.toList.length ≤ 1000) (hs : (joinB strs).size + m.size + n.size + 1 ≤ 140737488355000) : TextL Lw (.mk 5 op m n t b ks) at_ ((m ++ ⟨#[46]⟩ ++ n) ++ ⟨#[40]⟩ ++ joinB strs ++ ⟨#[41]⟩) := by
  intro w v hL hv
  unfold Ex.Is at hv
  obtain ⟨A, l, c, rfl, g⟩ := hv
  have L : Hd (lvl 5 op = 7) := ⟨by simp [lvl]⟩
  have hd : decide ((7 : Int) < at_) = false := decide_eq_false (by omega)
  have HLEN := Hd.mk g.1
  have G := Hd.mk g
  have HK := Hd.mk hK
  have HL := Hd.mk hL
  have HS := Hd.mk hs
  have HSL := Hd.mk hlen
  have hl1000 : l ≤ 1000 := by rw [g.1]; exact hks
  have z1 : (9223372036854775807 < (m ++ ⟨#[46]⟩ ++ n).size + 1) = False := eq_false (by simp [show (⟨#[46]⟩ : ByteArray).size = 1 from rfl]; omega)
  have z2 : (9223372036854775807 < (m ++ ⟨#[46]⟩ ++ n).size + 1 + (joinB strs).size) = False := eq_false (by simp [show (⟨#[46]⟩ : ByteArray).size = 1 from rfl]; omega)
  have z3 : (9223372036854775807 < (m ++ ⟨#[46]⟩ ++ n).size + 1 + (joinB strs).size + 1) = False := eq_false (by simp [show (⟨#[46]⟩ : ByteArray).size = 1 from rfl]; omega)
  have F := Hd.mk (far_any m n (by omega))
  have y1 : (9223372036854775807 < m.size + 1 + n.size + 1) = False := eq_false (by omega)
  have y2 : (9223372036854775807 < m.size + 1 + n.size + 1 + (joinB strs).size) = False := eq_false (by omega)
  have y3 : (9223372036854775807 < m.size + 1 + n.size + 1 + (joinB strs).size + 1) = False := eq_false (by omega)
  obtain ⟨i0, hi0, hz0, hz1, hz2⟩ := info_parts infoStr
  have I := Hd.mk (And.intro hi0 (And.intro hz0 (And.intro hz1 hz2)))
  clear hi0 hz0 hz1 hz2 hat g hK hL hs hlen hks
  go_enter Tryz.func53, Tryz.ntmps53
  go_wp2_with (first
    | (go_at_call 89; (with_reducible refine ((level_any 5 op _ _ _ _ _ _).mono ?_)); (rw [L.out]; rintro e w1 ⟨rfl, hb1⟩; have HB1 := Hd.mk hb1; have hc1 := bcell hb1; have hs1 := bsize1 rfl hb1; clear hb1))
    | (go_at_call 107; (with_reducible refine ((F.out _).mono ?_)); (rintro e w9 ⟨rfl, rfl⟩)))
  go_loopw [6, 42] (fun v i w' => ∃ (j : Nat) (A' : Option Addr) (c' : Nat), j ≤ l ∧ v = .slice A' j c' ∧ i = .int .i64 j ∧ w'.ownsRow w.heap.size 9 1 (.slice A' j c') j ((strs.take j).map Value.string) ∧ Below w.heap.size w w') (fun _ i _ => l - (intOf i).toNat)
  case atStart => exact ⟨0, none, 0, by omega, rfl, rfl, World.ownsRow_nil _ _ _ _, step (up (up0 _) _) HB1.out⟩
  case round =>
    obtain ⟨j, A', c', hj, rfl, rfl, hown, hb⟩ := hrel
    have HO := Hd.mk hown
    have HB := Hd.mk hb
    clear hown hb hc1 hs1
    by_cases hlt : j < l
    · obtain ⟨x, hx⟩ : ∃ x, ks.toList[j]? = some x := ⟨_, List.getElem?_eq_getElem (by rw [← HLEN.out]; exact hlt)⟩
      obtain ⟨s, hsj⟩ : ∃ s, strs[j]? = some s := ⟨_, List.getElem?_eq_getElem (by rw [HSL.out, ← HLEN.out]; exact hlt)⟩
      obtain ⟨B, o, rfl, g1⟩ := G.out.at (by omega)
      have i1 := Ex.In_below HB.out x (g1 j x hx)
      obtain ⟨v0, v1, v2, v3, v4, v5, v6, v7, v8, a0, a1, a2, a3, a4, a5, a6, ax⟩ := Ex.In_Is i1
      have X := Hd.mk (fun w' (hb : Below wr.heap.size wr w') => HK.out j x s hx hsj w' _ (hLw _ _ (step HB.out hb) HL.out) (Ex.Is_below hb ax))
      have lt1 : B < wr.heap.size := World.block_lt_of_cell? wr _ a0
      have T : Hd ((strs.take (j + 1)).map Value.string = (strs.take j).map Value.string ++ [Value.string s]) := ⟨by
        obtain ⟨h1, h2⟩ := List.getElem?_eq_some_iff.1 hsj
        rw [List.take_succ_eq_append_getElem h1, h2, List.map_append]
        rfl⟩
      clear g1 i1 ax hx hsj
      go_wp2_with (first
        | (go_at_call 53; (with_reducible refine ((X.out _ (up (up0 _) _)).mono ?_)); (rintro e w3 ⟨rfl, hb3⟩; have HB3 := Hd.mk hb3; clear hb3))
        | (at_builtin; refine wpList_append_own _ rfl _ _ 22 rfl w.heap.size 9 i0 _ 1 16 Tryz.underlying22 I.out.1 I.out.2.1 I.out.2.2.1 I.out.2.2.2 rfl (by decide) _ _ _ rfl (own_below HO.out (up (step (up (up0 _) _) HB3.out) _)) ⟨w3.heap.size, 0, none⟩ 1 1 [.string s] rfl rfl (fun jj u hu => by rw [new_add]; exact (List.getElem?_toArray ..).trans hu) (by simp [Value.oneCell']) (by unfold maxLen; omega) (by omega) (by have := HB.out.size; have := HB3.out.size; simp at *; omega) ?_; intro v' w4 hown' hgrow _; have HO2 := Hd.mk hown'; have HG := Hd.mk hgrow; clear hown' hgrow))
      go_roundw
      case rel =>
        obtain ⟨A2, m2, c2, rfl, rfl⟩ := own_slice HO2.out (by omega)
        refine ⟨j + 1, A2, c2, by omega, rfl, by go_num, by rw [T.out]; exact HO2.out, ?_⟩
        exact (up (step (up HB.out _) HB3.out) _).grown HG.out (by have := HB.out.size; have := HB3.out.size; simp at *; omega) (fun k hk => (HO.out.lt k hk).1)
      case measure => simp [intOf]; omega
    · obtain rfl : j = l := by omega
      have hst : strs.take j = strs := List.take_of_length_le (by rw [HSL.out, ← HLEN.out]; omega)
      have HO2 := HO.out
      rw [hst] at HO2
      have hll : j = strs.length := by rw [HSL.out, ← HLEN.out]
      have J := Hd.mk (show Calls Tryz.prog 99 #[.slice A' j c', .string ⟨#[44, 32]⟩] wr (SaysS (joinB strs) wr) by
        subst hll
        exact join_own wr w.heap.size A' c' strs HO2 (by omega) (by have := HS.out; omega))
      clear hst HO2 hll
      go_wp2_with (go_at_call 99; (with_reducible refine (J.out.mono ?_)); (rintro e w3 ⟨rfl, hb3⟩; have HB3 := Hd.mk hb3; clear hb3))
      go_ret
      exact ⟨rfl, step HB.out HB3.out⟩
end Go.Proofs.YtbhgpegcdiohlaaGreatDoor.Tr

namespace Go.Proofs.YtbhgpegcdiohlaaGreatDoor.Tr
open Go Go.RowKit Go.Proofs
set_option linter.unusedVariables false
set_option maxRecDepth 100000
set_option maxHeartbeats 1000000
def Ex.op : Ex → Int
  | .mk _ op _ _ _ _ _ => op
/-- in parentheses, if it must -/
def parE (p : Prop) [Decidable p] (s : ByteArray) : ByteArray := if p then ⟨#[40]⟩ ++ s ++ ⟨#[41]⟩ else s
section
variable (vt : Int → Int → ByteArray)
/-- the name that an expression bears, its module's ahead -/
def nameB (m n : ByteArray) : ByteArray := if m.toList.isEmpty = true then n else m ++ ⟨#[46]⟩ ++ n
mutual
/-- an expression's text without parentheses around it -/
def bareE : Ex → ByteArray
  | .mk k op m n t b ks =>
    if k = 1 then vt t b
    else if k = 8 then ⟨#[105, 110, 112, 117, 116]⟩
    else if k = 4 ∨ k = 5 then nameB m n ++ ⟨#[40]⟩ ++ joinB (textsE ks) ++ ⟨#[41]⟩
    else if k = 6 then unE op ks
    else if k = 7 then binTE op ks
    else nameB m n
def textsE : Exs → List ByteArray
  | .nil => []
  | .cons e l => parE (lvl e.k e.op < 1) (bareE e) :: textsE l
def unE (op : Int) : Exs → ByteArray
  | .nil => ⟨#[]⟩
  | .cons e _ => if op = 1 then ⟨#[45]⟩ ++ parE (lvl e.k e.op < 6) (bareE e) else if op = 2 then ⟨#[33]⟩ ++ parE (lvl e.k e.op < 6) (bareE e) else if op = 3 then ⟨#[105, 110, 116, 40]⟩ ++ parE (lvl e.k e.op < 1) (bareE e) ++ ⟨#[41]⟩ else ⟨#[102, 108, 111, 97, 116, 40]⟩ ++ parE (lvl e.k e.op < 1) (bareE e) ++ ⟨#[41]⟩
def binTE (op : Int) : Exs → ByteArray
  | .nil => ⟨#[]⟩
  | .cons e l => parE (lvl e.k e.op < plc 7 op 0) (bareE e) ++ ⟨#[32]⟩ ++ markB op ++ ⟨#[32]⟩ ++ binTL op l
def binTL (op : Int) : Exs → ByteArray
  | .nil => ⟨#[]⟩
  | .cons e _ => parE (lvl e.k e.op < plc 7 op 1) (bareE e)
end
mutual
def costE : Ex → Nat
  | .mk k op m n t b ks => 100 + m.size + n.size + costL ks
def costL : Exs → Nat
  | .nil => 0
  | .cons e l => costE e + 4 + costL l
end
theorem seqI_zero {a b : Int} (h : seqI a b = 0) : a = 0 ∧ b = 0 := by
  unfold seqI at h
  split at h
  · exact ⟨by assumption, h⟩
  · exact absurd h (by assumption)
theorem errL_all : ∀ {ks : Exs}, errL ks = 0 → ∀ x ∈ ks.toList, errE x = 0
  | .nil, _, x, hx => by simp [Exs.toList] at hx
  | .cons e l, h, x, hx => by
    rw [errL] at h
    obtain ⟨h1, h2⟩ := seqI_zero h
    simp only [Exs.toList, List.mem_cons] at hx
    rcases hx with rfl | hx
    · exact h1
    · exact errL_all h2 x hx
theorem errE_parts {k op : Int} {m n : ByteArray} {t b : Int} {ks : Exs} (h : errE (.mk k op m n t b ks) = 0) : shapedB k op m n t b ks.toList.length = true ∧ ks.toList.length ≤ 8 ∧ ∀ x ∈ ks.toList, errE x = 0 := by
  rw [errE] at h
  obtain ⟨h1, h⟩ := seqI_zero h
  obtain ⟨h2, h⟩ := seqI_zero h
  obtain ⟨h3, h⟩ := seqI_zero h
  obtain ⟨h4, h⟩ := seqI_zero h
  refine ⟨?_, ?_, errL_all h⟩
  · split at h1
    · assumption
    · cases h1
  · split at h4
    · cases h4
    · omega
theorem costL_mem : ∀ {ks : Exs} {x : Ex}, x ∈ ks.toList → costE x + 4 ≤ costL ks
  | .nil, x, hx => by simp [Exs.toList] at hx
  | .cons e l, x, hx => by
    rw [costL]
    simp only [Exs.toList, List.mem_cons] at hx
    rcases hx with rfl | hx
    · omega
    · have := costL_mem hx; omega
theorem ite_le {p : Prop} [Decidable p] {a b : ByteArray} (h : a.size ≤ 2) (g : b.size ≤ 2) : (if p then a else b).size ≤ 2 := by split <;> assumption
theorem markB_le (op : Int) : (markB op).size ≤ 2 := by
  unfold markB
  repeat (refine ite_le (by decide) ?_)
  decide
theorem parE_le (p : Prop) [Decidable p] (s : ByteArray) : (parE p s).size ≤ s.size + 2 := by
  unfold parE
  split
  · simp [show (⟨#[40]⟩ : ByteArray).size = 1 from rfl, show (⟨#[41]⟩ : ByteArray).size = 1 from rfl]; omega
  · omega
def sumB (l : List ByteArray) : Nat := (l.map (·.size)).sum
theorem lens_map (l : List ByteArray) : Lib.lens (l.map (·.data.toList)) = sumB l := by
  unfold Lib.lens sumB
  rw [List.map_map]
  rfl
theorem joinB_le (l : List ByteArray) : (joinB l).size ≤ sumB l + 2 * l.length := by
  have e : (joinB l).size = (Lib.join (l.map (·.data.toList)) [44, 32]).length := rfl
  rw [e]
  cases l with
  | nil => simp [Lib.join_nil, sumB]
  | cons x l =>
    rw [List.map_cons, Lib.join_length, ← List.map_cons (f := fun b : ByteArray => b.data.toList), lens_map]
    simp
    omega
theorem nameB_le (m n : ByteArray) : (nameB m n).size ≤ m.size + n.size + 1 := by
  unfold nameB
  split
  · omega
  · simp [show (⟨#[46]⟩ : ByteArray).size = 1 from rfl]; omega
mutual
theorem bare_le (hvt : ∀ t b, (vt t b).size ≤ 64) : ∀ x : Ex, (bareE vt x).size ≤ costE x
  | .mk k op m n t b ks => by
    rw [bareE, costE]
    have hn := nameB_le m n
    have ht := texts_le hvt ks
    have hj := joinB_le (textsE vt ks)
    have hu := un_le hvt op ks
    have hb := bin_le hvt op ks
    have hv := hvt t b
    split
    · omega
    · split
      · simp [show (⟨#[105, 110, 112, 117, 116]⟩ : ByteArray).size = 5 from rfl]; omega
      · split
        · simp [show (⟨#[40]⟩ : ByteArray).size = 1 from rfl, show (⟨#[41]⟩ : ByteArray).size = 1 from rfl]; omega
        · split
          · omega
          · split
            · omega
            · omega
theorem texts_le (hvt : ∀ t b, (vt t b).size ≤ 64) : ∀ ks : Exs, sumB (textsE vt ks) + 2 * (textsE vt ks).length ≤ costL ks
  | .nil => by simp [textsE, sumB, costL]
  | .cons e l => by
    have h1 := bare_le hvt e
    have h2 := texts_le hvt l
    have h3 := parE_le (lvl e.k e.op < 1) (bareE vt e)
    rw [textsE, costL]
    simp only [sumB, List.map_cons, List.sum_cons, List.length_cons] at *
    omega
theorem un_le (hvt : ∀ t b, (vt t b).size ≤ 64) (op : Int) : ∀ ks : Exs, (unE vt op ks).size ≤ costL ks + 10
  | .nil => by rw [unE]; simp [show (⟨#[]⟩ : ByteArray).size = 0 from rfl]
  | .cons e l => by
    have h1 := bare_le hvt e
    have h3 := parE_le (lvl e.k e.op < 1) (bareE vt e)
    have h4 := parE_le (lvl e.k e.op < 6) (bareE vt e)
    rw [unE, costL]
    repeat' split
    all_goals (simp [show (⟨#[41]⟩ : ByteArray).size = 1 from rfl, show (⟨#[45]⟩ : ByteArray).size = 1 from rfl, show (⟨#[33]⟩ : ByteArray).size = 1 from rfl, show (⟨#[105, 110, 116, 40]⟩ : ByteArray).size = 4 from rfl, show (⟨#[102, 108, 111, 97, 116, 40]⟩ : ByteArray).size = 6 from rfl]; omega)
theorem bin_le (hvt : ∀ t b, (vt t b).size ≤ 64) (op : Int) : ∀ ks : Exs, (binTE vt op ks).size ≤ costL ks + 10
  | .nil => by rw [binTE]; simp [show (⟨#[]⟩ : ByteArray).size = 0 from rfl]
  | .cons e l => by
    have h1 := bare_le hvt e
    have h3 := parE_le (lvl e.k e.op < plc 7 op 0) (bareE vt e)
    have h4 := binTL_le hvt op l
    have h5 := markB_le op
    rw [binTE, costL]
    simp [show (⟨#[32]⟩ : ByteArray).size = 1 from rfl]
    omega
theorem binTL_le (hvt : ∀ t b, (vt t b).size ≤ 64) (op : Int) : ∀ ks : Exs, (binTL vt op ks).size ≤ costL ks
  | .nil => by rw [binTL]; simp [show (⟨#[]⟩ : ByteArray).size = 0 from rfl]
  | .cons e l => by
    have h1 := bare_le hvt e
    have h3 := parE_le (lvl e.k e.op < plc 7 op 1) (bareE vt e)
    rw [binTL, costL]
    omega
end
theorem textsE_len : ∀ ks : Exs, (textsE vt ks).length = ks.toList.length
  | .nil => rfl
  | .cons e l => by rw [textsE]; simp [Exs.toList, textsE_len l]
theorem textsE_get : ∀ (ks : Exs) (i : Nat) (x : Ex), ks.toList[i]? = some x → (textsE vt ks)[i]? = some (parE (lvl x.k x.op < 1) (bareE vt x))
  | .nil, i, x, h => by simp [Exs.toList] at h
  | .cons e l, 0, x, h => by
    simp only [Exs.toList, List.getElem?_cons_zero, Option.some.injEq] at h
    subst h
    rw [textsE]
    rfl
  | .cons e l, i + 1, x, h => by
    simp only [Exs.toList, List.getElem?_cons_succ] at h
    rw [textsE, List.getElem?_cons_succ]
    exact textsE_get l i x h
theorem lvl_bin {op : Int} (h1 : 1 ≤ op) (h2 : op ≤ 13) : lvl 7 op ≤ 5 := by
  have : op = 1 ∨ op = 2 ∨ op = 3 ∨ op = 4 ∨ op = 5 ∨ op = 6 ∨ op = 7 ∨ op = 8 ∨ op = 9 ∨ op = 10 ∨ op = 11 ∨ op = 12 ∨ op = 13 := by omega
  rcases this with rfl | rfl | rfl | rfl | rfl | rfl | rfl | rfl | rfl | rfl | rfl | rfl | rfl <;> decide
theorem nameErr_full {s : ByteArray} (h : nameErr s = 0) : s.toList.isEmpty = false := by
  by_cases hz : s.toList.isEmpty = true
  · obtain rfl := empty_of hz
    rw [nameErr_0 rfl] at h
    cases h
  · simpa using hz
theorem far_full {k op : Int} {m n : ByteArray} {t b : Int} {ks : Exs} (h : errE (.mk k op m n t b ks) = 0) (hk : k = 3 ∨ k = 5) : m.toList.isEmpty = false := by
  rw [errE] at h
  obtain ⟨h1, h⟩ := seqI_zero h
  obtain ⟨h2, h⟩ := seqI_zero h
  rw [if_pos hk] at h2
  exact nameErr_full h2
/-- what the texts of literals are -/
def ValsL (Lw : World → Prop) : Prop := ∀ (t b : Int), 0 ≤ b → b < 18446744073709551616 → litB t b = true → ∀ w, Lw w → Calls Tryz.prog 108 #[.agg #[.int .i64 t, .int .u64 b]] w (SaysS (vt t b) w)
def BareIs (Lw : World → Prop) (x : Ex) : Prop := x.Wf → errE x = 0 → costE x ≤ 70368744177664 → ∀ at_ : Int, at_ ≤ 7 → TextL Lw x at_ (parE (lvl x.k x.op < at_) (bareE vt x))
theorem bare_walk (Lw : World → Prop) (hLw : Stays Lw) (hvt : ∀ t b, (vt t b).size ≤ 64) (hval : ValsL vt Lw) (k op : Int) (m n : ByteArray) (t b : Int) (ks : Exs) (hK : ∀ x ∈ ks.toList, BareIs vt Lw x) : BareIs vt Lw (.mk k op m n t b ks) := by
  intro hw he hc at_ hat
  have hsz := bare_le vt hvt (.mk k op m n t b ks)
  have hw' := hw
  unfold Ex.Wf at hw'
  obtain ⟨h0, h1, hmz, hnz, hks⟩ := hw'
  obtain ⟨hs, h8, hek⟩ := errE_parts he
  have hkid : ∀ x ∈ ks.toList, ∀ a : Int, a ≤ 7 → TextL Lw x a (parE (lvl x.k x.op < a) (bareE vt x)) := fun x hx => hK x hx (Exs.Wf_iff.1 hks x hx) (hek x hx) (by have := costL_mem hx; rw [costE] at hc; omega)
  -- at its own level first
  suffices hb : ∀ a : Int, a ≤ 7 → a ≤ lvl k op → TextL Lw (.mk k op m n t b ks) a (bareE vt (.mk k op m n t b ks)) by
    have hl := lvl_le k op
    by_cases hp : lvl k op < at_
    · have hpar : parE (lvl k op < at_) (bareE vt (.mk k op m n t b ks)) = ⟨#[40]⟩ ++ bareE vt (.mk k op m n t b ks) ++ ⟨#[41]⟩ := by unfold parE; rw [if_pos hp]
      show TextL Lw _ at_ (parE (lvl k op < at_) _)
      rw [hpar]
      exact textL_paren Lw hLw k op _ at_ m n t b ks _ rfl hp (hb 1 (by omega) hl.1) (by omega)
    · have hpar : parE (lvl k op < at_) (bareE vt (.mk k op m n t b ks)) = bareE vt (.mk k op m n t b ks) := by unfold parE; rw [if_neg hp]
      show TextL Lw _ at_ (parE (lvl k op < at_) _)
      rw [hpar]
      exact hb at_ hat (by omega)
  intro a ha7 hal
  have hk : k = 1 ∨ k = 2 ∨ k = 3 ∨ k = 4 ∨ k = 5 ∨ k = 6 ∨ k = 7 ∨ k = 8 := by
    unfold shapedB at hs
    by_cases hk : k < 1 ∨ 8 < k
    · rw [if_neg (by omega), if_neg (by omega), if_neg (by omega), if_neg (by omega), if_neg (by omega), if_neg (by omega), if_neg (by omega), if_neg (by omega)] at hs
      cases hs
    · omega
  rw [costE] at hc
  unfold strOk at hmz hnz
  have hjoin := joinB_le (textsE vt ks)
  have htx := texts_le vt hvt ks
  rcases hk with rfl | rfl | rfl | rfl | rfl | rfl | rfl | rfl
  · unfold shapedB at hs
    rw [if_pos rfl] at hs
    simp only [Bool.and_eq_true, decide_eq_true_eq] at hs
    obtain ⟨⟨⟨⟨g1, g2⟩, g3⟩, g4⟩, g5⟩ := hs
    have e : bareE vt (.mk 1 op m n t b ks) = vt t b := by rw [bareE, if_pos rfl]
    rw [e]
    exact textL_lit Lw hLw op a m n t b ks ha7 (empty_of g2) _ (hval t b h0 h1 g5)
  · unfold shapedB at hs
    rw [if_neg (by decide), if_pos rfl] at hs
    simp only [Bool.and_eq_true, decide_eq_true_eq] at hs
    obtain ⟨⟨⟨g1, g2⟩, g3⟩, g4⟩ := hs
    have e : bareE vt (.mk 2 op m n t b ks) = n := by rw [bareE, if_neg (by decide), if_neg (by decide), if_neg (by decide), if_neg (by decide), if_neg (by decide)]; unfold nameB; rw [if_pos g2]
    rw [e]
    exact textL_name Lw hLw op a m n t b ks ha7 (empty_of g2)
  · have hm := far_full he (.inl rfl)
    have e : bareE vt (.mk 3 op m n t b ks) = m ++ ⟨#[46]⟩ ++ n := by rw [bareE, if_neg (by decide), if_neg (by decide), if_neg (by decide), if_neg (by decide), if_neg (by decide)]; unfold nameB; rw [if_neg (by simp [hm])]
    rw [e]
    exact textL_far Lw hLw op a m n t b ks ha7 hm (by omega)
  · unfold shapedB at hs
    rw [if_neg (by decide), if_neg (by decide), if_neg (by decide), if_pos rfl] at hs
    simp only [Bool.and_eq_true, decide_eq_true_eq] at hs
    obtain ⟨⟨g1, g2⟩, g3⟩ := hs
    have e : bareE vt (.mk 4 op m n t b ks) = n ++ ⟨#[40]⟩ ++ joinB (textsE vt ks) ++ ⟨#[41]⟩ := by rw [bareE, if_neg (by decide), if_neg (by decide), if_pos (by decide)]; unfold nameB; rw [if_pos g2]
    rw [e]
    exact textL_call4 Lw hLw op a m n t b ks ha7 (empty_of g2) (textsE vt ks) (textsE_len vt ks) (fun i x s hx hsx => by
      have h9 := textsE_get vt ks i x hx
      rw [hsx] at h9
      cases h9
      exact hkid x (List.mem_of_getElem? hx) 1 (by decide)) (by omega) (by omega)
  · have hm := far_full he (.inr rfl)
    have e : bareE vt (.mk 5 op m n t b ks) = (m ++ ⟨#[46]⟩ ++ n) ++ ⟨#[40]⟩ ++ joinB (textsE vt ks) ++ ⟨#[41]⟩ := by rw [bareE, if_neg (by decide), if_neg (by decide), if_pos (by decide)]; unfold nameB; rw [if_neg (by simp [hm])]
    rw [e]
    exact textL_call5 Lw hLw op a m n t b ks ha7 hm (textsE vt ks) (textsE_len vt ks) (fun i x s hx hsx => by
      have h9 := textsE_get vt ks i x hx
      rw [hsx] at h9
      cases h9
      exact hkid x (List.mem_of_getElem? hx) 1 (by decide)) (by omega) (by omega)
  · unfold shapedB at hs
    rw [if_neg (by decide), if_neg (by decide), if_neg (by decide), if_neg (by decide), if_neg (by decide), if_pos rfl] at hs
    simp only [Bool.and_eq_true, decide_eq_true_eq] at hs
    obtain ⟨⟨⟨⟨g1, g2⟩, g3⟩, g4⟩, g5, g6⟩ := hs
    obtain rfl := empty_of g2
    obtain rfl := empty_of g3
    subst g5 g6
    match ks, g4 with
    | .cons x .nil, _ =>
    have hx := hkid x (by simp [Exs.toList])
    have hsx := bare_le vt hvt x
    have hcx : costE x + 4 ≤ costL (.cons x .nil) := costL_mem (by simp [Exs.toList])
    have hp1 := parE_le (lvl x.k x.op < 1) (bareE vt x)
    have hp6 := parE_le (lvl x.k x.op < 6) (bareE vt x)
    have ho : op = 1 ∨ op = 2 ∨ op = 3 ∨ op = 4 := by omega
    rcases ho with rfl | rfl | rfl | rfl
    · have e : bareE vt (.mk 6 1 ⟨#[]⟩ ⟨#[]⟩ 0 0 (.cons x .nil)) = ⟨#[45]⟩ ++ parE (lvl x.k x.op < 6) (bareE vt x) := by rw [bareE, if_neg (by decide), if_neg (by decide), if_neg (by decide), if_pos rfl, unE, if_pos rfl]
      rw [e]
      exact textL_un1 Lw hLw a x _ (by simpa [lvl] using hal) (hx 6 (by decide)) (by omega)
    · have e : bareE vt (.mk 6 2 ⟨#[]⟩ ⟨#[]⟩ 0 0 (.cons x .nil)) = ⟨#[33]⟩ ++ parE (lvl x.k x.op < 6) (bareE vt x) := by rw [bareE, if_neg (by decide), if_neg (by decide), if_neg (by decide), if_pos rfl, unE, if_neg (by decide), if_pos rfl]
      rw [e]
      exact textL_un2 Lw hLw a x _ (by simpa [lvl] using hal) (hx 6 (by decide)) (by omega)
    · have e : bareE vt (.mk 6 3 ⟨#[]⟩ ⟨#[]⟩ 0 0 (.cons x .nil)) = ⟨#[105, 110, 116, 40]⟩ ++ parE (lvl x.k x.op < 1) (bareE vt x) ++ ⟨#[41]⟩ := by rw [bareE, if_neg (by decide), if_neg (by decide), if_neg (by decide), if_pos rfl, unE, if_neg (by decide), if_neg (by decide), if_pos rfl]
      rw [e]
      exact textL_un3 Lw hLw a x _ ha7 (hx 1 (by decide)) (by omega)
    · have e : bareE vt (.mk 6 4 ⟨#[]⟩ ⟨#[]⟩ 0 0 (.cons x .nil)) = ⟨#[102, 108, 111, 97, 116, 40]⟩ ++ parE (lvl x.k x.op < 1) (bareE vt x) ++ ⟨#[41]⟩ := by rw [bareE, if_neg (by decide), if_neg (by decide), if_neg (by decide), if_pos rfl, unE, if_neg (by decide), if_neg (by decide), if_neg (by decide)]
      rw [e]
      exact textL_un4 Lw hLw a x _ ha7 (hx 1 (by decide)) (by omega)
  · unfold shapedB at hs
    rw [if_neg (by decide), if_neg (by decide), if_neg (by decide), if_neg (by decide), if_neg (by decide), if_neg (by decide), if_pos rfl] at hs
    simp only [Bool.and_eq_true, decide_eq_true_eq] at hs
    obtain ⟨⟨⟨⟨g1, g2⟩, g3⟩, g4⟩, g5, g6⟩ := hs
    obtain rfl := empty_of g2
    obtain rfl := empty_of g3
    subst g5 g6
    match ks, g4 with
    | .cons x (.cons y .nil), _ =>
    have hx := hkid x (by simp [Exs.toList])
    have hy := hkid y (by simp [Exs.toList])
    have hsx := bare_le vt hvt x
    have hsy := bare_le vt hvt y
    have hcx : costE x + 4 ≤ costL (.cons x (.cons y .nil)) := costL_mem (by simp [Exs.toList])
    have hcy : costE y + 4 ≤ costL (.cons x (.cons y .nil)) := costL_mem (by simp [Exs.toList])
    have hp1 := parE_le (lvl x.k x.op < plc 7 op 0) (bareE vt x)
    have hp2 := parE_le (lvl y.k y.op < plc 7 op 1) (bareE vt y)
    have hmk := markB_le op
    have hll := lvl_bin g1.1 g1.2
    have hp0 : plc 7 op 0 ≤ 7 := by unfold plc; split <;> omega
    have hq0 : plc 7 op 1 ≤ 7 := by unfold plc; split <;> omega
    have e : bareE vt (.mk 7 op ⟨#[]⟩ ⟨#[]⟩ 0 0 (.cons x (.cons y .nil))) = parE (lvl x.k x.op < plc 7 op 0) (bareE vt x) ++ ⟨#[32]⟩ ++ markB op ++ ⟨#[32]⟩ ++ parE (lvl y.k y.op < plc 7 op 1) (bareE vt y) := by rw [bareE, if_neg (by decide), if_neg (by decide), if_neg (by decide), if_neg (by decide), if_pos rfl, binTE, binTL]
    rw [e]
    exact textL_bin Lw hLw op _ _ _ a (markB op) _ _ x y rfl (by omega) rfl rfl (mark_any op g1.1 g1.2) (hx _ hp0) (hy _ hq0) (by omega)
  · unfold shapedB at hs
    rw [if_neg (by decide), if_neg (by decide), if_neg (by decide), if_neg (by decide), if_neg (by decide), if_neg (by decide), if_neg (by decide), if_pos rfl] at hs
    simp only [Bool.and_eq_true, decide_eq_true_eq] at hs
    obtain ⟨⟨⟨⟨g1, g2⟩, g3⟩, g4⟩, g5⟩ := hs
    have e : bareE vt (.mk 8 op m n t b ks) = ⟨#[105, 110, 112, 117, 116]⟩ := by rw [bareE, if_neg (by decide), if_pos rfl]
    rw [e]
    exact textL_input Lw hLw op a m n t b ks ha7 (empty_of g2)
end
end Go.Proofs.YtbhgpegcdiohlaaGreatDoor.Tr
