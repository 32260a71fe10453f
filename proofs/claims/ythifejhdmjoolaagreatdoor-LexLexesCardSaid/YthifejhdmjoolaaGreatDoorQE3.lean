-- WRITTEN BY A PROGRAM OF THE SESSION (wip/myprint.sh): Lean checks it.
import Derived.Test.YthifejhdmjoolaaGreatDoorQE0
import Derived.Test.YthifejhdmjoolaaGreatDoorQE2
namespace Go.Proofs.YthifejhdmjoolaaGreatDoor.QE
open Go.Proofs.YthifejhdmjoolaaGreatDoorG Go.Proofs.YthifejhdmjoolaaGreatDoor.QR
attribute [local go_sem] Instr.field asAgg ext47
open Go.RowKit Go.Proofs.YthifejhdmjoolaaGreatDoorW.PrintWords Go.Proofs.YthifejhdmjoolaaGreatDoorW.PrintLast Go.Proofs.YthifejhdmjoolaaGreatDoorW.PrintMore
attribute [local go_sem] max2_int min2_int max_two min_two max_three min_three max_four min_four   -- for this text's walks alone
set_option linter.unusedVariables false
set_option linter.unusedSimpArgs false
namespace lex_one
def l0 : Nat → ByteArray → Int → List ByteArray → Int → Int → Option (Int × ByteArray × Int × Int × Int × Int)
  | 0, _, _, _, _, _ => none
  | k + 1, x0, x1, x79, x80, x81 => if x81 < x80 then (if 0 ≤ x81 then (if x81 < (x79.length : Int) then (if 0 ≤ x1 then (if x1 ≤ (x0.size : Int) then ((strings_HasPrefix.f (x0.extract (x1 : Int).toNat x0.size) (rdOf ByteArray.empty x79 x81)).bind fun t131 => (if t131 = true then (some (5, rdOf ByteArray.empty x79 x81, 0, 0, x1, 0)) else (l0 k x0 x1 x79 x80 (wrap64 (x81 + 1))))) else (none)) else (none)) else (none)) else (none)) else (if 0 ≤ x1 then (if x1 < (x0.size : Int) then ((strings_IndexByte.f (⟨#[40, 41, 123, 125, 44, 59, 58, 46, 61, 43, 45, 42, 47, 37, 60, 62, 33]⟩ : ByteArray) (bt x0 x1)).bind fun t132 => (if t132 < 0 then (some (0, (⟨#[]⟩ : ByteArray), 0, 0, 0, 10)) else (if x1 ≤ (wrap64 (x1 + 1)) then (if (wrap64 (x1 + 1)) ≤ (x0.size : Int) then (some (5, x0.extract (x1 : Int).toNat ((wrap64 (x1 + 1)) : Int).toNat, 0, 0, x1, 0)) else (none)) else (none)))) else (none)) else (none))
def f (k : Nat) (a0 : ByteArray) (a1 : Int) : Option (Int × ByteArray × Int × Int × Int × Int) := if 0 ≤ a1 then (if a1 < (a0.size : Int) then ((lex_kind.f k (bt a0 a1)).bind fun bt109 => (if bt109.2.1 = true then ((lex_run_of_71.f k a0 a1).bind fun t114 => (if a1 ≤ (wrap64 (a1 + t114)) then (if (wrap64 (a1 + t114)) ≤ (a0.size : Int) then ((names_Reserved.f (a0.extract (a1 : Int).toNat ((wrap64 (a1 + t114)) : Int).toNat)).bind fun t116 => (if t116 = true then (if t114 > 32 then (some (2, a0.extract (a1 : Int).toNat ((wrap64 (a1 + t114)) : Int).toNat, 0, 0, a1, 12)) else (some (2, a0.extract (a1 : Int).toNat ((wrap64 (a1 + t114)) : Int).toNat, 0, 0, a1, 0))) else (if t114 > 32 then (some (1, a0.extract (a1 : Int).toNat ((wrap64 (a1 + t114)) : Int).toNat, 0, 0, a1, 12)) else (some (1, a0.extract (a1 : Int).toNat ((wrap64 (a1 + t114)) : Int).toNat, 0, 0, a1, 0))))) else (none)) else (none))) else (if a1 ≤ (a0.size : Int) then ((strings_HasPrefix.f (a0.extract (a1 : Int).toNat a0.size) (⟨#[48, 120]⟩ : ByteArray)).bind fun t117 => (if t117 = true then ((lex_run_of_73.f k a0 (wrap64 (a1 + 2))).bind fun t118 => (if a1 ≤ (wrap64 (a1 + (wrap64 (2 + t118)))) then (if (wrap64 (a1 + (wrap64 (2 + t118)))) ≤ (a0.size : Int) then ((floats_ParseV.f k (a0.extract (a1 : Int).toNat ((wrap64 (a1 + (wrap64 (2 + t118)))) : Int).toNat)).bind fun bt119 => (some (4, a0.extract (a1 : Int).toNat ((wrap64 (a1 + (wrap64 (2 + t118)))) : Int).toNat, 2, bt119.1, a1, bt119.2))) else (none)) else (none))) else (if bt109.2.2.1 = true then ((lex_number.f k a0 a1).bind fun bt121 => (some (bt121.1, bt121.2.1, bt121.2.2.1, bt121.2.2.2.1, bt121.2.2.2.2.1, bt121.2.2.2.2.2))) else ((some (([(⟨#[60, 61]⟩ : ByteArray), (⟨#[62, 61]⟩ : ByteArray), (⟨#[61, 61]⟩ : ByteArray), (⟨#[33, 61]⟩ : ByteArray), (⟨#[38, 38]⟩ : ByteArray), (⟨#[124, 124]⟩ : ByteArray)] : List ByteArray) : List ByteArray)).bind fun y127 => (l0 k a0 a1 y127 (y127.length : Int) 0))))) else (none)))) else (none)) else (none)
theorem mono_l : ∀ k, (∀ y0 y1 y2 y3 y4, LeO (l0 k y0 y1 y2 y3 y4) (l0 (k + 1) y0 y1 y2 y3 y4))
  | 0 => fun _ _ _ _ _ r h => by simp [l0] at h
  | k + 1 => by
    have ih0 := mono_l k
    · intro y0 y1 y2 y3 y4
      unfold l0
      repeat' first
      | (with_reducible first | apply ih0 | apply floats_ParseV.mono | apply lex_kind.mono | apply lex_number.mono | apply lex_run_of_71.mono | apply lex_run_of_73.mono | exact LeO.refl _ | exact LeO.none _ | refine LeO.ite ?_ ?_ | refine LeO.bind ?_ (fun _ => ?_))
      | exact LeO.none _ | refine LeO.ite ?_ ?_ | refine LeO.bind ?_ (fun _ => ?_)
theorem mono : ∀ a0 a1 k, LeO (f k a0 a1) (f (k + 1) a0 a1) := by
  intro a0 a1 k
  have ih0 := mono_l k
  unfold f
  repeat' first
      | (with_reducible first | apply ih0 | apply floats_ParseV.mono | apply lex_kind.mono | apply lex_number.mono | apply lex_run_of_71.mono | apply lex_run_of_73.mono | exact LeO.refl _ | exact LeO.none _ | refine LeO.ite ?_ ?_ | refine LeO.bind ?_ (fun _ => ?_))
      | exact LeO.none _ | refine LeO.ite ?_ ?_ | refine LeO.bind ?_ (fun _ => ?_)
set_option maxHeartbeats 8000000 in
set_option maxRecDepth 100000 in
theorem calls (k : Nat) (a0 : ByteArray) (a1 : Int) (r1 : Int) (r2 : ByteArray) (r3 : Int) (r4 : Int) (r5 : Int) (r6 : Int) (w : World) (hLaid : LaidOk w) (h : f k a0 a1 = some (r1, r2, r3, r4, r5, r6)) :
    Calls Tryz.prog 49 #[.string a0, .int .i64 a1] w fun e w' => e = .returned (.tuple #[.agg #[.int .i64 r1, .string r2, .int .i64 r3, .int .u64 r4, .int .i64 r5], .int .i64 r6]) ∧ Below w.heap.size w w' := by
 have hu44 := Tryz.underlying44
 have hu89 := Tryz.underlying89
 have hu41 := Tryz.underlying41
 have HLAID := aM hLaid
 clear hLaid
 have HB := aM (Below.refl w.heap.size w)
 have H : (if 0 ≤ a1 then (if a1 < (a0.size : Int) then ((lex_kind.f k (bt a0 a1)).bind fun bt109 => (if bt109.2.1 = true then ((lex_run_of_71.f k a0 a1).bind fun t114 => (if a1 ≤ (wrap64 (a1 + t114)) then (if (wrap64 (a1 + t114)) ≤ (a0.size : Int) then ((names_Reserved.f (a0.extract (a1 : Int).toNat ((wrap64 (a1 + t114)) : Int).toNat)).bind fun t116 => (if t116 = true then (if t114 > 32 then (some (2, a0.extract (a1 : Int).toNat ((wrap64 (a1 + t114)) : Int).toNat, 0, 0, a1, 12)) else (some (2, a0.extract (a1 : Int).toNat ((wrap64 (a1 + t114)) : Int).toNat, 0, 0, a1, 0))) else (if t114 > 32 then (some (1, a0.extract (a1 : Int).toNat ((wrap64 (a1 + t114)) : Int).toNat, 0, 0, a1, 12)) else (some (1, a0.extract (a1 : Int).toNat ((wrap64 (a1 + t114)) : Int).toNat, 0, 0, a1, 0))))) else (none)) else (none))) else (if a1 ≤ (a0.size : Int) then ((strings_HasPrefix.f (a0.extract (a1 : Int).toNat a0.size) (⟨#[48, 120]⟩ : ByteArray)).bind fun t117 => (if t117 = true then ((lex_run_of_73.f k a0 (wrap64 (a1 + 2))).bind fun t118 => (if a1 ≤ (wrap64 (a1 + (wrap64 (2 + t118)))) then (if (wrap64 (a1 + (wrap64 (2 + t118)))) ≤ (a0.size : Int) then ((floats_ParseV.f k (a0.extract (a1 : Int).toNat ((wrap64 (a1 + (wrap64 (2 + t118)))) : Int).toNat)).bind fun bt119 => (some (4, a0.extract (a1 : Int).toNat ((wrap64 (a1 + (wrap64 (2 + t118)))) : Int).toNat, 2, bt119.1, a1, bt119.2))) else (none)) else (none))) else (if bt109.2.2.1 = true then ((lex_number.f k a0 a1).bind fun bt121 => (some (bt121.1, bt121.2.1, bt121.2.2.1, bt121.2.2.2.1, bt121.2.2.2.2.1, bt121.2.2.2.2.2))) else ((some (([(⟨#[60, 61]⟩ : ByteArray), (⟨#[62, 61]⟩ : ByteArray), (⟨#[61, 61]⟩ : ByteArray), (⟨#[33, 61]⟩ : ByteArray), (⟨#[38, 38]⟩ : ByteArray), (⟨#[124, 124]⟩ : ByteArray)] : List ByteArray) : List ByteArray)).bind fun y127 => (l0 k a0 a1 y127 (y127.length : Int) 0))))) else (none)))) else (none)) else (none)) = some (r1, r2, r3, r4, r5, r6) := h
 clear h
 replace H := nI H
 obtain ⟨c3, H⟩ := H
 have c3b0 := dT c3
 clear c3
 replace H := nI H
 obtain ⟨c4, H⟩ := H
 have c4b0 := dT c4
 clear c4
 replace H := Option.bind_eq_some_iff.mp H
 obtain ⟨⟨t109, t110, t111, t112⟩, A60, H⟩ := H
 replace H : (if t110 = true then ((lex_run_of_71.f k a0 a1).bind fun t114 => (if a1 ≤ (wrap64 (a1 + t114)) then (if (wrap64 (a1 + t114)) ≤ (a0.size : Int) then ((names_Reserved.f (a0.extract (a1 : Int).toNat ((wrap64 (a1 + t114)) : Int).toNat)).bind fun t116 => (if t116 = true then (if t114 > 32 then (some (2, a0.extract (a1 : Int).toNat ((wrap64 (a1 + t114)) : Int).toNat, 0, 0, a1, 12)) else (some (2, a0.extract (a1 : Int).toNat ((wrap64 (a1 + t114)) : Int).toNat, 0, 0, a1, 0))) else (if t114 > 32 then (some (1, a0.extract (a1 : Int).toNat ((wrap64 (a1 + t114)) : Int).toNat, 0, 0, a1, 12)) else (some (1, a0.extract (a1 : Int).toNat ((wrap64 (a1 + t114)) : Int).toNat, 0, 0, a1, 0))))) else (none)) else (none))) else (if a1 ≤ (a0.size : Int) then ((strings_HasPrefix.f (a0.extract (a1 : Int).toNat a0.size) (⟨#[48, 120]⟩ : ByteArray)).bind fun t117 => (if t117 = true then ((lex_run_of_73.f k a0 (wrap64 (a1 + 2))).bind fun t118 => (if a1 ≤ (wrap64 (a1 + (wrap64 (2 + t118)))) then (if (wrap64 (a1 + (wrap64 (2 + t118)))) ≤ (a0.size : Int) then ((floats_ParseV.f k (a0.extract (a1 : Int).toNat ((wrap64 (a1 + (wrap64 (2 + t118)))) : Int).toNat)).bind fun bt119 => (some (4, a0.extract (a1 : Int).toNat ((wrap64 (a1 + (wrap64 (2 + t118)))) : Int).toNat, 2, bt119.1, a1, bt119.2))) else (none)) else (none))) else (if t111 = true then ((lex_number.f k a0 a1).bind fun bt121 => (some (bt121.1, bt121.2.1, bt121.2.2.1, bt121.2.2.2.1, bt121.2.2.2.2.1, bt121.2.2.2.2.2))) else ((some (([(⟨#[60, 61]⟩ : ByteArray), (⟨#[62, 61]⟩ : ByteArray), (⟨#[61, 61]⟩ : ByteArray), (⟨#[33, 61]⟩ : ByteArray), (⟨#[38, 38]⟩ : ByteArray), (⟨#[124, 124]⟩ : ByteArray)] : List ByteArray) : List ByteArray)).bind fun y127 => (l0 k a0 a1 y127 (y127.length : Int) 0))))) else (none))) = some (r1, r2, r3, r4, r5, r6) := H
 have A6 := aM A60
 clear A60
 by_cases c7 : t110 = true
 ·subst c7
  replace H := iT H
  replace H := Option.bind_eq_some_iff.mp H
  obtain ⟨t114, A80, H⟩ := H
  replace H : (if a1 ≤ (wrap64 (a1 + t114)) then (if (wrap64 (a1 + t114)) ≤ (a0.size : Int) then ((names_Reserved.f (a0.extract (a1 : Int).toNat ((wrap64 (a1 + t114)) : Int).toNat)).bind fun t116 => (if t116 = true then (if t114 > 32 then (some (2, a0.extract (a1 : Int).toNat ((wrap64 (a1 + t114)) : Int).toNat, 0, 0, a1, 12)) else (some (2, a0.extract (a1 : Int).toNat ((wrap64 (a1 + t114)) : Int).toNat, 0, 0, a1, 0))) else (if t114 > 32 then (some (1, a0.extract (a1 : Int).toNat ((wrap64 (a1 + t114)) : Int).toNat, 0, 0, a1, 12)) else (some (1, a0.extract (a1 : Int).toNat ((wrap64 (a1 + t114)) : Int).toNat, 0, 0, a1, 0))))) else (none)) else (none)) = some (r1, r2, r3, r4, r5, r6) := H
  have A8 := aM A80
  clear A80
  have c9b0 := eq_true (oA : 0 ≤ a1)
  replace H := nI H
  obtain ⟨c10, H⟩ := H
  have c10b0 := eq_true c10
  have c10b1 := dT c10
  replace H := nI H
  obtain ⟨c11, H⟩ := H
  have c11b0 := eq_true c11
  have c11b1 := dT c11
  replace H := Option.bind_eq_some_iff.mp H
  obtain ⟨t116, A120, H⟩ := H
  replace H : (if t116 = true then (if t114 > 32 then (some (2, a0.extract (a1 : Int).toNat ((wrap64 (a1 + t114)) : Int).toNat, 0, 0, a1, 12)) else (some (2, a0.extract (a1 : Int).toNat ((wrap64 (a1 + t114)) : Int).toNat, 0, 0, a1, 0))) else (if t114 > 32 then (some (1, a0.extract (a1 : Int).toNat ((wrap64 (a1 + t114)) : Int).toNat, 0, 0, a1, 12)) else (some (1, a0.extract (a1 : Int).toNat ((wrap64 (a1 + t114)) : Int).toNat, 0, 0, a1, 0)))) = some (r1, r2, r3, r4, r5, r6) := H
  have A12 := aM A120
  clear A120
  by_cases c13 : t116 = true
  rotate_left
  ·replace c13 := nF c13
   subst c13
   replace H := iF H
   by_cases c37 : t114 > 32
   ·rw [if_pos c37] at H
    have c37b0 : decide (32 < t114) = true := decide_eq_true c37
    clear c37
    simp only [Option.some.injEq, Prod.mk.injEq] at H
    obtain ⟨rfl, rfl, rfl, rfl, rfl, rfl⟩ := H
    go_enter Tryz.func49, Tryz.ntmps49
    go_wp2_with (first | ((with_reducible refine gate_dst (N := 4) rfl ?_); refine box_event ?hg (N := 4) ?hd (cs := #[.int .i64 0, .string (⟨#[]⟩ : ByteArray), .int .i64 0, .int .u64 0, .int .i64 0]) (t := 44) ?hr ?_; (case hd => rfl); (case hg => rfl); (case hr => first | (go_simp; done) | (go_simp; rfl)); intro gb108 hg w38 hbox hb; have n0_ := aM (below_step (hB) hb); have n1_ := aM (hbox); have n2_ := aM ((by rw [hg]; exact (below_size (hB)) : w.heap.size ≤ gb108)); have n3_ := aM ((by rw [hg]; exact (below_size (hB)) : w.heap.size ≤ gb108)); clear HB; have HB := n0_; have BK108 := n1_; have GW108 := n2_; have GE108 := n3_; clear n0_ n1_ n2_ n3_; clear hb hbox hg; have p5 : (0 ≤ a1) = True := eT; have q5 : a1 < (a0.size : Int) := oA; have hx5 := bt_at a0 a1; replace q5 := eq_true q5) | ((with_reducible refine gate_callee (f := 68) rfl ?_); refine goesL_ (some 17) rfl rfl Tryz.func68 (by kernel_rfl) rfl #[.int .u8 (bt a0 a1)] rfl gA ?_; (with_reducible refine (lex_kind.calls k (bt a0 a1) t109 true t111 t112 _ A6.out).mono ?_); rintro e w39 ⟨rfl, hb⟩; refine ⟨_, rfl, ?_⟩; have n0_ := aM (blk_below (bK BK108) hb); have n1_ := aM (below_step (hS) hb); clear BK108; clear HB; have BK108 := n0_; have HB := n1_; clear n0_ n1_) | ((with_reducible refine gate_dst (N := 6) rfl ?_); refine box_event ?hg (N := 6) ?hd (cs := #[.bool false, .bool false, .bool false, .bool false]) (t := 89) ?hr ?_; (case hd => rfl); (case hg => rfl); (case hr => first | (go_simp; done) | (go_simp; rfl)); intro gb113 hg w40 hbox hb; have n0_ := aM (blk_below (bK BK108) hb); have n1_ := aM (below_step (hS) hb); have n2_ := aM (hbox); have n3_ := aM ((by rw [hg]; exact (below_size (hS)) : w.heap.size ≤ gb113)); have n4_ := aM ((by rw [hg]; exact (below_size (hS)) : w.heap.size ≤ gb113)); have n5_ := aM ((by rw [hg]; exact Nat.ne_of_lt (blk_lt (bK BK108)) : gb108 ≠ gb113)); have n6_ := aM ((by rw [hg]; exact Nat.ne_of_gt (blk_lt (bK BK108)) : gb113 ≠ gb108)); clear BK108; clear HB; have BK108 := n0_; have HB := n1_; have BK113 := n2_; have GW113 := n3_; have GE113 := n4_; have NB108_113 := n5_; have NB113_108 := n6_; clear n0_ n1_ n2_ n3_ n4_ n5_ n6_; clear hb hbox hg; have hnb41 := NB113_108.out; have hnc41 := NB108_113.out; have hcz42_0 : w40.cell? ⟨gb113, 0, none⟩ = some (.bool false) := (zC BK113.out 0).trans rfl; have hcz42_1 : w40.cell? ⟨gb113, 1, none⟩ = some (.bool false) := (zC BK113.out 1).trans rfl; have hcz42_2 : w40.cell? ⟨gb113, 2, none⟩ = some (.bool false) := (zC BK113.out 2).trans rfl; have hcz42_3 : w40.cell? ⟨gb113, 3, none⟩ = some (.bool false) := (zC BK113.out 3).trans rfl; have hfz42_0 := zF BK113.out 0; have hfz42_1 := zF BK113.out 1; have hfz42_2 := zF BK113.out 2; have hfz42_3 := zF BK113.out 3) | ((with_reducible refine gate_callee (f := 70) rfl ?_); refine goesL_ (some 23) rfl rfl Tryz.func70 (by kernel_rfl) rfl #[.string a0, .int .i64 a1, .func (.func 71) #[] #[]] rfl gA ?_; (with_reducible refine (lex_run_of_71.calls k a0 a1  t114 _ A8.out).mono ?_); rintro e w43 ⟨rfl, hb⟩; refine ⟨_, rfl, ?_⟩; have n0_ := aM (blk_below (bK BK108) hb); have n1_ := aM (blk_below (g := gb113) (o := .cells #[.bool t109, .bool true, .bool t111, .bool t112] 89 (0, 0)) (bP BK113) hb); have n2_ := aM (below_step (hS) hb); clear BK108; clear BK113; clear HB; have BK108 := n0_; have BK113 := n1_; have HB := n2_; clear n0_ n1_ n2_) | ((with_reducible refine gate_dst (N := 8) rfl ?_); refine box_event ?hg (N := 8) ?hd (cs := #[.int .i64 0, .string (⟨#[]⟩ : ByteArray), .int .i64 0, .int .u64 0, .int .i64 0]) (t := 44) ?hr ?_; (case hd => rfl); (case hg => rfl); (case hr => first | (go_simp; done) | (go_simp; rfl)); intro gb115 hg w44 hbox hb; have n0_ := aM (blk_below (bK BK108) hb); have n1_ := aM (blk_below (bK BK113) hb); have n2_ := aM (below_step (hS) hb); have n3_ := aM (hbox); have n4_ := aM ((by rw [hg]; exact (below_size (hS)) : w.heap.size ≤ gb115)); have n5_ := aM ((by rw [hg]; exact (below_size (hS)) : w.heap.size ≤ gb115)); have n6_ := aM ((by rw [hg]; exact Nat.ne_of_lt (blk_lt (bK BK108)) : gb108 ≠ gb115)); have n7_ := aM ((by rw [hg]; exact Nat.ne_of_gt (blk_lt (bK BK108)) : gb115 ≠ gb108)); have n8_ := aM ((by rw [hg]; exact Nat.ne_of_lt (blk_lt (bK BK113)) : gb113 ≠ gb115)); have n9_ := aM ((by rw [hg]; exact Nat.ne_of_gt (blk_lt (bK BK113)) : gb115 ≠ gb113)); clear BK108; clear BK113; clear HB; have BK108 := n0_; have BK113 := n1_; have HB := n2_; have BK115 := n3_; have GW115 := n4_; have GE115 := n5_; have NB108_115 := n6_; have NB115_108 := n7_; have NB113_115 := n8_; have NB115_113 := n9_; clear n0_ n1_ n2_ n3_ n4_ n5_ n6_ n7_ n8_ n9_; clear hb hbox hg; have hnb45 := NB115_108.out; have hnc45 := NB108_115.out; have hnb46 := NB115_113.out; have hnc46 := NB113_115.out; have hcz47_0 : w44.cell? ⟨gb115, 0, none⟩ = some (.int .i64 0) := (zC BK115.out 0).trans rfl; have hcz47_1 : w44.cell? ⟨gb115, 1, none⟩ = some (.string (⟨#[]⟩ : ByteArray)) := (zC BK115.out 1).trans rfl; have hcz47_2 : w44.cell? ⟨gb115, 2, none⟩ = some (.int .i64 0) := (zC BK115.out 2).trans rfl; have hcz47_3 : w44.cell? ⟨gb115, 3, none⟩ = some (.int .u64 0) := (zC BK115.out 3).trans rfl; have hcz47_4 : w44.cell? ⟨gb115, 4, none⟩ = some (.int .i64 0) := (zC BK115.out 4).trans rfl; have hfz47_0 := zF BK115.out 0; have hfz47_1 := zF BK115.out 1; have hfz47_2 := zF BK115.out 2; have hfz47_3 := zF BK115.out 3; have hfz47_4 := zF BK115.out 4) | ((with_reducible refine gate_callee (f := 72) rfl ?_); refine goesL_ (some 34) rfl rfl Tryz.func72 (by kernel_rfl) rfl #[.string (a0.extract (a1 : Int).toNat ((wrap64 (a1 + t114)) : Int).toNat)] rfl gA ?_; (with_reducible refine (names_Reserved.calls (a0.extract (a1 : Int).toNat ((wrap64 (a1 + t114)) : Int).toNat) false _ A12.out).mono ?_); rintro e w' ⟨rfl, ⟨nd, rfl⟩⟩; refine ⟨_, rfl, ?_⟩; have hcz48_0 : w44.cell? ⟨gb108, 0, none⟩ = some (.int .i64 0) := (zC BK108.out 0).trans rfl; have hcz48_1 : w44.cell? ⟨gb108, 1, none⟩ = some (.string (⟨#[]⟩ : ByteArray)) := (zC BK108.out 1).trans rfl; have hcz48_2 : w44.cell? ⟨gb108, 2, none⟩ = some (.int .i64 0) := (zC BK108.out 2).trans rfl; have hcz48_3 : w44.cell? ⟨gb108, 3, none⟩ = some (.int .u64 0) := (zC BK108.out 3).trans rfl; have hcz48_4 : w44.cell? ⟨gb108, 4, none⟩ = some (.int .i64 0) := (zC BK108.out 4).trans rfl; have hfz48_0 := zF BK108.out 0; have hfz48_1 := zF BK108.out 1; have hfz48_2 := zF BK108.out 2; have hfz48_3 := zF BK108.out 3; have hfz48_4 := zF BK108.out 4))
    refine bodyPost_ret (results_ct rfl _ _ gb108 44 #[.int .i64 1, .string (a0.extract (a1 : Int).toNat ((wrap64 (a1 + t114)) : Int).toNat), .int .i64 0, .int .u64 0, .int .i64 a1] (0, 0) _ rfl (bP BK108) Tryz.underlying44 rfl (by kernel_rfl)) rfl ?_
    exact ⟨eR, hS⟩
   rw [if_neg c37] at H
   have c37b0 : decide (32 < t114) = false := decide_eq_false c37
   clear c37
   simp only [Option.some.injEq, Prod.mk.injEq] at H
   obtain ⟨rfl, rfl, rfl, rfl, rfl, rfl⟩ := H
   go_enter Tryz.func49, Tryz.ntmps49
   go_wp2_with (first | ((with_reducible refine gate_dst (N := 4) rfl ?_); refine box_event ?hg (N := 4) ?hd (cs := #[.int .i64 0, .string (⟨#[]⟩ : ByteArray), .int .i64 0, .int .u64 0, .int .i64 0]) (t := 44) ?hr ?_; (case hd => rfl); (case hg => rfl); (case hr => first | (go_simp; done) | (go_simp; rfl)); intro gb108 hg w49 hbox hb; have n0_ := aM (below_step (hB) hb); have n1_ := aM (hbox); have n2_ := aM ((by rw [hg]; exact (below_size (hB)) : w.heap.size ≤ gb108)); have n3_ := aM ((by rw [hg]; exact (below_size (hB)) : w.heap.size ≤ gb108)); clear HB; have HB := n0_; have BK108 := n1_; have GW108 := n2_; have GE108 := n3_; clear n0_ n1_ n2_ n3_; clear hb hbox hg; have p5 : (0 ≤ a1) = True := eT; have q5 : a1 < (a0.size : Int) := oA; have hx5 := bt_at a0 a1; replace q5 := eq_true q5) | ((with_reducible refine gate_callee (f := 68) rfl ?_); refine goesL_ (some 17) rfl rfl Tryz.func68 (by kernel_rfl) rfl #[.int .u8 (bt a0 a1)] rfl gA ?_; (with_reducible refine (lex_kind.calls k (bt a0 a1) t109 true t111 t112 _ A6.out).mono ?_); rintro e w50 ⟨rfl, hb⟩; refine ⟨_, rfl, ?_⟩; have n0_ := aM (blk_below (bK BK108) hb); have n1_ := aM (below_step (hS) hb); clear BK108; clear HB; have BK108 := n0_; have HB := n1_; clear n0_ n1_) | ((with_reducible refine gate_dst (N := 6) rfl ?_); refine box_event ?hg (N := 6) ?hd (cs := #[.bool false, .bool false, .bool false, .bool false]) (t := 89) ?hr ?_; (case hd => rfl); (case hg => rfl); (case hr => first | (go_simp; done) | (go_simp; rfl)); intro gb113 hg w51 hbox hb; have n0_ := aM (blk_below (bK BK108) hb); have n1_ := aM (below_step (hS) hb); have n2_ := aM (hbox); have n3_ := aM ((by rw [hg]; exact (below_size (hS)) : w.heap.size ≤ gb113)); have n4_ := aM ((by rw [hg]; exact (below_size (hS)) : w.heap.size ≤ gb113)); have n5_ := aM ((by rw [hg]; exact Nat.ne_of_lt (blk_lt (bK BK108)) : gb108 ≠ gb113)); have n6_ := aM ((by rw [hg]; exact Nat.ne_of_gt (blk_lt (bK BK108)) : gb113 ≠ gb108)); clear BK108; clear HB; have BK108 := n0_; have HB := n1_; have BK113 := n2_; have GW113 := n3_; have GE113 := n4_; have NB108_113 := n5_; have NB113_108 := n6_; clear n0_ n1_ n2_ n3_ n4_ n5_ n6_; clear hb hbox hg; have hnb52 := NB113_108.out; have hnc52 := NB108_113.out; have hcz53_0 : w51.cell? ⟨gb113, 0, none⟩ = some (.bool false) := (zC BK113.out 0).trans rfl; have hcz53_1 : w51.cell? ⟨gb113, 1, none⟩ = some (.bool false) := (zC BK113.out 1).trans rfl; have hcz53_2 : w51.cell? ⟨gb113, 2, none⟩ = some (.bool false) := (zC BK113.out 2).trans rfl; have hcz53_3 : w51.cell? ⟨gb113, 3, none⟩ = some (.bool false) := (zC BK113.out 3).trans rfl; have hfz53_0 := zF BK113.out 0; have hfz53_1 := zF BK113.out 1; have hfz53_2 := zF BK113.out 2; have hfz53_3 := zF BK113.out 3) | ((with_reducible refine gate_callee (f := 70) rfl ?_); refine goesL_ (some 23) rfl rfl Tryz.func70 (by kernel_rfl) rfl #[.string a0, .int .i64 a1, .func (.func 71) #[] #[]] rfl gA ?_; (with_reducible refine (lex_run_of_71.calls k a0 a1  t114 _ A8.out).mono ?_); rintro e w54 ⟨rfl, hb⟩; refine ⟨_, rfl, ?_⟩; have n0_ := aM (blk_below (bK BK108) hb); have n1_ := aM (blk_below (g := gb113) (o := .cells #[.bool t109, .bool true, .bool t111, .bool t112] 89 (0, 0)) (bP BK113) hb); have n2_ := aM (below_step (hS) hb); clear BK108; clear BK113; clear HB; have BK108 := n0_; have BK113 := n1_; have HB := n2_; clear n0_ n1_ n2_) | ((with_reducible refine gate_dst (N := 8) rfl ?_); refine box_event ?hg (N := 8) ?hd (cs := #[.int .i64 0, .string (⟨#[]⟩ : ByteArray), .int .i64 0, .int .u64 0, .int .i64 0]) (t := 44) ?hr ?_; (case hd => rfl); (case hg => rfl); (case hr => first | (go_simp; done) | (go_simp; rfl)); intro gb115 hg w55 hbox hb; have n0_ := aM (blk_below (bK BK108) hb); have n1_ := aM (blk_below (bK BK113) hb); have n2_ := aM (below_step (hS) hb); have n3_ := aM (hbox); have n4_ := aM ((by rw [hg]; exact (below_size (hS)) : w.heap.size ≤ gb115)); have n5_ := aM ((by rw [hg]; exact (below_size (hS)) : w.heap.size ≤ gb115)); have n6_ := aM ((by rw [hg]; exact Nat.ne_of_lt (blk_lt (bK BK108)) : gb108 ≠ gb115)); have n7_ := aM ((by rw [hg]; exact Nat.ne_of_gt (blk_lt (bK BK108)) : gb115 ≠ gb108)); have n8_ := aM ((by rw [hg]; exact Nat.ne_of_lt (blk_lt (bK BK113)) : gb113 ≠ gb115)); have n9_ := aM ((by rw [hg]; exact Nat.ne_of_gt (blk_lt (bK BK113)) : gb115 ≠ gb113)); clear BK108; clear BK113; clear HB; have BK108 := n0_; have BK113 := n1_; have HB := n2_; have BK115 := n3_; have GW115 := n4_; have GE115 := n5_; have NB108_115 := n6_; have NB115_108 := n7_; have NB113_115 := n8_; have NB115_113 := n9_; clear n0_ n1_ n2_ n3_ n4_ n5_ n6_ n7_ n8_ n9_; clear hb hbox hg; have hnb56 := NB115_108.out; have hnc56 := NB108_115.out; have hnb57 := NB115_113.out; have hnc57 := NB113_115.out; have hcz58_0 : w55.cell? ⟨gb115, 0, none⟩ = some (.int .i64 0) := (zC BK115.out 0).trans rfl; have hcz58_1 : w55.cell? ⟨gb115, 1, none⟩ = some (.string (⟨#[]⟩ : ByteArray)) := (zC BK115.out 1).trans rfl; have hcz58_2 : w55.cell? ⟨gb115, 2, none⟩ = some (.int .i64 0) := (zC BK115.out 2).trans rfl; have hcz58_3 : w55.cell? ⟨gb115, 3, none⟩ = some (.int .u64 0) := (zC BK115.out 3).trans rfl; have hcz58_4 : w55.cell? ⟨gb115, 4, none⟩ = some (.int .i64 0) := (zC BK115.out 4).trans rfl; have hfz58_0 := zF BK115.out 0; have hfz58_1 := zF BK115.out 1; have hfz58_2 := zF BK115.out 2; have hfz58_3 := zF BK115.out 3; have hfz58_4 := zF BK115.out 4) | ((with_reducible refine gate_callee (f := 72) rfl ?_); refine goesL_ (some 34) rfl rfl Tryz.func72 (by kernel_rfl) rfl #[.string (a0.extract (a1 : Int).toNat ((wrap64 (a1 + t114)) : Int).toNat)] rfl gA ?_; (with_reducible refine (names_Reserved.calls (a0.extract (a1 : Int).toNat ((wrap64 (a1 + t114)) : Int).toNat) false _ A12.out).mono ?_); rintro e w' ⟨rfl, ⟨nd, rfl⟩⟩; refine ⟨_, rfl, ?_⟩; have hcz59_0 : w55.cell? ⟨gb108, 0, none⟩ = some (.int .i64 0) := (zC BK108.out 0).trans rfl; have hcz59_1 : w55.cell? ⟨gb108, 1, none⟩ = some (.string (⟨#[]⟩ : ByteArray)) := (zC BK108.out 1).trans rfl; have hcz59_2 : w55.cell? ⟨gb108, 2, none⟩ = some (.int .i64 0) := (zC BK108.out 2).trans rfl; have hcz59_3 : w55.cell? ⟨gb108, 3, none⟩ = some (.int .u64 0) := (zC BK108.out 3).trans rfl; have hcz59_4 : w55.cell? ⟨gb108, 4, none⟩ = some (.int .i64 0) := (zC BK108.out 4).trans rfl; have hfz59_0 := zF BK108.out 0; have hfz59_1 := zF BK108.out 1; have hfz59_2 := zF BK108.out 2; have hfz59_3 := zF BK108.out 3; have hfz59_4 := zF BK108.out 4))
   refine bodyPost_ret (results_ct rfl _ _ gb108 44 #[.int .i64 1, .string (a0.extract (a1 : Int).toNat ((wrap64 (a1 + t114)) : Int).toNat), .int .i64 0, .int .u64 0, .int .i64 a1] (0, 0) _ rfl (bP BK108) Tryz.underlying44 rfl (by kernel_rfl)) rfl ?_
   exact ⟨eR, hS⟩
  subst c13
  replace H := iT H
  by_cases c14 : t114 > 32
  ·rw [if_pos c14] at H
   have c14b0 : decide (32 < t114) = true := decide_eq_true c14
   clear c14
   simp only [Option.some.injEq, Prod.mk.injEq] at H
   obtain ⟨rfl, rfl, rfl, rfl, rfl, rfl⟩ := H
   go_enter Tryz.func49, Tryz.ntmps49
   go_wp2_with (first | ((with_reducible refine gate_dst (N := 4) rfl ?_); refine box_event ?hg (N := 4) ?hd (cs := #[.int .i64 0, .string (⟨#[]⟩ : ByteArray), .int .i64 0, .int .u64 0, .int .i64 0]) (t := 44) ?hr ?_; (case hd => rfl); (case hg => rfl); (case hr => first | (go_simp; done) | (go_simp; rfl)); intro gb108 hg w15 hbox hb; have n0_ := aM (below_step (hB) hb); have n1_ := aM (hbox); have n2_ := aM ((by rw [hg]; exact (below_size (hB)) : w.heap.size ≤ gb108)); have n3_ := aM ((by rw [hg]; exact (below_size (hB)) : w.heap.size ≤ gb108)); clear HB; have HB := n0_; have BK108 := n1_; have GW108 := n2_; have GE108 := n3_; clear n0_ n1_ n2_ n3_; clear hb hbox hg; have p5 : (0 ≤ a1) = True := eT; have q5 : a1 < (a0.size : Int) := oA; have hx5 := bt_at a0 a1; replace q5 := eq_true q5) | ((with_reducible refine gate_callee (f := 68) rfl ?_); refine goesL_ (some 17) rfl rfl Tryz.func68 (by kernel_rfl) rfl #[.int .u8 (bt a0 a1)] rfl gA ?_; (with_reducible refine (lex_kind.calls k (bt a0 a1) t109 true t111 t112 _ A6.out).mono ?_); rintro e w16 ⟨rfl, hb⟩; refine ⟨_, rfl, ?_⟩; have n0_ := aM (blk_below (bK BK108) hb); have n1_ := aM (below_step (hS) hb); clear BK108; clear HB; have BK108 := n0_; have HB := n1_; clear n0_ n1_) | ((with_reducible refine gate_dst (N := 6) rfl ?_); refine box_event ?hg (N := 6) ?hd (cs := #[.bool false, .bool false, .bool false, .bool false]) (t := 89) ?hr ?_; (case hd => rfl); (case hg => rfl); (case hr => first | (go_simp; done) | (go_simp; rfl)); intro gb113 hg w17 hbox hb; have n0_ := aM (blk_below (bK BK108) hb); have n1_ := aM (below_step (hS) hb); have n2_ := aM (hbox); have n3_ := aM ((by rw [hg]; exact (below_size (hS)) : w.heap.size ≤ gb113)); have n4_ := aM ((by rw [hg]; exact (below_size (hS)) : w.heap.size ≤ gb113)); have n5_ := aM ((by rw [hg]; exact Nat.ne_of_lt (blk_lt (bK BK108)) : gb108 ≠ gb113)); have n6_ := aM ((by rw [hg]; exact Nat.ne_of_gt (blk_lt (bK BK108)) : gb113 ≠ gb108)); clear BK108; clear HB; have BK108 := n0_; have HB := n1_; have BK113 := n2_; have GW113 := n3_; have GE113 := n4_; have NB108_113 := n5_; have NB113_108 := n6_; clear n0_ n1_ n2_ n3_ n4_ n5_ n6_; clear hb hbox hg; have hnb18 := NB113_108.out; have hnc18 := NB108_113.out; have hcz19_0 : w17.cell? ⟨gb113, 0, none⟩ = some (.bool false) := (zC BK113.out 0).trans rfl; have hcz19_1 : w17.cell? ⟨gb113, 1, none⟩ = some (.bool false) := (zC BK113.out 1).trans rfl; have hcz19_2 : w17.cell? ⟨gb113, 2, none⟩ = some (.bool false) := (zC BK113.out 2).trans rfl; have hcz19_3 : w17.cell? ⟨gb113, 3, none⟩ = some (.bool false) := (zC BK113.out 3).trans rfl; have hfz19_0 := zF BK113.out 0; have hfz19_1 := zF BK113.out 1; have hfz19_2 := zF BK113.out 2; have hfz19_3 := zF BK113.out 3) | ((with_reducible refine gate_callee (f := 70) rfl ?_); refine goesL_ (some 23) rfl rfl Tryz.func70 (by kernel_rfl) rfl #[.string a0, .int .i64 a1, .func (.func 71) #[] #[]] rfl gA ?_; (with_reducible refine (lex_run_of_71.calls k a0 a1  t114 _ A8.out).mono ?_); rintro e w20 ⟨rfl, hb⟩; refine ⟨_, rfl, ?_⟩; have n0_ := aM (blk_below (bK BK108) hb); have n1_ := aM (blk_below (g := gb113) (o := .cells #[.bool t109, .bool true, .bool t111, .bool t112] 89 (0, 0)) (bP BK113) hb); have n2_ := aM (below_step (hS) hb); clear BK108; clear BK113; clear HB; have BK108 := n0_; have BK113 := n1_; have HB := n2_; clear n0_ n1_ n2_) | ((with_reducible refine gate_dst (N := 8) rfl ?_); refine box_event ?hg (N := 8) ?hd (cs := #[.int .i64 0, .string (⟨#[]⟩ : ByteArray), .int .i64 0, .int .u64 0, .int .i64 0]) (t := 44) ?hr ?_; (case hd => rfl); (case hg => rfl); (case hr => first | (go_simp; done) | (go_simp; rfl)); intro gb115 hg w21 hbox hb; have n0_ := aM (blk_below (bK BK108) hb); have n1_ := aM (blk_below (bK BK113) hb); have n2_ := aM (below_step (hS) hb); have n3_ := aM (hbox); have n4_ := aM ((by rw [hg]; exact (below_size (hS)) : w.heap.size ≤ gb115)); have n5_ := aM ((by rw [hg]; exact (below_size (hS)) : w.heap.size ≤ gb115)); have n6_ := aM ((by rw [hg]; exact Nat.ne_of_lt (blk_lt (bK BK108)) : gb108 ≠ gb115)); have n7_ := aM ((by rw [hg]; exact Nat.ne_of_gt (blk_lt (bK BK108)) : gb115 ≠ gb108)); have n8_ := aM ((by rw [hg]; exact Nat.ne_of_lt (blk_lt (bK BK113)) : gb113 ≠ gb115)); have n9_ := aM ((by rw [hg]; exact Nat.ne_of_gt (blk_lt (bK BK113)) : gb115 ≠ gb113)); clear BK108; clear BK113; clear HB; have BK108 := n0_; have BK113 := n1_; have HB := n2_; have BK115 := n3_; have GW115 := n4_; have GE115 := n5_; have NB108_115 := n6_; have NB115_108 := n7_; have NB113_115 := n8_; have NB115_113 := n9_; clear n0_ n1_ n2_ n3_ n4_ n5_ n6_ n7_ n8_ n9_; clear hb hbox hg; have hnb22 := NB115_108.out; have hnc22 := NB108_115.out; have hnb23 := NB115_113.out; have hnc23 := NB113_115.out; have hcz24_0 : w21.cell? ⟨gb115, 0, none⟩ = some (.int .i64 0) := (zC BK115.out 0).trans rfl; have hcz24_1 : w21.cell? ⟨gb115, 1, none⟩ = some (.string (⟨#[]⟩ : ByteArray)) := (zC BK115.out 1).trans rfl; have hcz24_2 : w21.cell? ⟨gb115, 2, none⟩ = some (.int .i64 0) := (zC BK115.out 2).trans rfl; have hcz24_3 : w21.cell? ⟨gb115, 3, none⟩ = some (.int .u64 0) := (zC BK115.out 3).trans rfl; have hcz24_4 : w21.cell? ⟨gb115, 4, none⟩ = some (.int .i64 0) := (zC BK115.out 4).trans rfl; have hfz24_0 := zF BK115.out 0; have hfz24_1 := zF BK115.out 1; have hfz24_2 := zF BK115.out 2; have hfz24_3 := zF BK115.out 3; have hfz24_4 := zF BK115.out 4) | ((with_reducible refine gate_callee (f := 72) rfl ?_); refine goesL_ (some 34) rfl rfl Tryz.func72 (by kernel_rfl) rfl #[.string (a0.extract (a1 : Int).toNat ((wrap64 (a1 + t114)) : Int).toNat)] rfl gA ?_; (with_reducible refine (names_Reserved.calls (a0.extract (a1 : Int).toNat ((wrap64 (a1 + t114)) : Int).toNat) true _ A12.out).mono ?_); rintro e w' ⟨rfl, ⟨nd, rfl⟩⟩; refine ⟨_, rfl, ?_⟩; have hcz25_0 : w21.cell? ⟨gb108, 0, none⟩ = some (.int .i64 0) := (zC BK108.out 0).trans rfl; have hcz25_1 : w21.cell? ⟨gb108, 1, none⟩ = some (.string (⟨#[]⟩ : ByteArray)) := (zC BK108.out 1).trans rfl; have hcz25_2 : w21.cell? ⟨gb108, 2, none⟩ = some (.int .i64 0) := (zC BK108.out 2).trans rfl; have hcz25_3 : w21.cell? ⟨gb108, 3, none⟩ = some (.int .u64 0) := (zC BK108.out 3).trans rfl; have hcz25_4 : w21.cell? ⟨gb108, 4, none⟩ = some (.int .i64 0) := (zC BK108.out 4).trans rfl; have hfz25_0 := zF BK108.out 0; have hfz25_1 := zF BK108.out 1; have hfz25_2 := zF BK108.out 2; have hfz25_3 := zF BK108.out 3; have hfz25_4 := zF BK108.out 4))
   refine bodyPost_ret (results_ct rfl _ _ gb108 44 #[.int .i64 2, .string (a0.extract (a1 : Int).toNat ((wrap64 (a1 + t114)) : Int).toNat), .int .i64 0, .int .u64 0, .int .i64 a1] (0, 0) _ rfl (bP BK108) Tryz.underlying44 rfl (by kernel_rfl)) rfl ?_
   exact ⟨eR, hS⟩
  rw [if_neg c14] at H
  have c14b0 : decide (32 < t114) = false := decide_eq_false c14
  clear c14
  simp only [Option.some.injEq, Prod.mk.injEq] at H
  obtain ⟨rfl, rfl, rfl, rfl, rfl, rfl⟩ := H
  go_enter Tryz.func49, Tryz.ntmps49
  go_wp2_with (first | ((with_reducible refine gate_dst (N := 4) rfl ?_); refine box_event ?hg (N := 4) ?hd (cs := #[.int .i64 0, .string (⟨#[]⟩ : ByteArray), .int .i64 0, .int .u64 0, .int .i64 0]) (t := 44) ?hr ?_; (case hd => rfl); (case hg => rfl); (case hr => first | (go_simp; done) | (go_simp; rfl)); intro gb108 hg w26 hbox hb; have n0_ := aM (below_step (hB) hb); have n1_ := aM (hbox); have n2_ := aM ((by rw [hg]; exact (below_size (hB)) : w.heap.size ≤ gb108)); have n3_ := aM ((by rw [hg]; exact (below_size (hB)) : w.heap.size ≤ gb108)); clear HB; have HB := n0_; have BK108 := n1_; have GW108 := n2_; have GE108 := n3_; clear n0_ n1_ n2_ n3_; clear hb hbox hg; have p5 : (0 ≤ a1) = True := eT; have q5 : a1 < (a0.size : Int) := oA; have hx5 := bt_at a0 a1; replace q5 := eq_true q5) | ((with_reducible refine gate_callee (f := 68) rfl ?_); refine goesL_ (some 17) rfl rfl Tryz.func68 (by kernel_rfl) rfl #[.int .u8 (bt a0 a1)] rfl gA ?_; (with_reducible refine (lex_kind.calls k (bt a0 a1) t109 true t111 t112 _ A6.out).mono ?_); rintro e w27 ⟨rfl, hb⟩; refine ⟨_, rfl, ?_⟩; have n0_ := aM (blk_below (bK BK108) hb); have n1_ := aM (below_step (hS) hb); clear BK108; clear HB; have BK108 := n0_; have HB := n1_; clear n0_ n1_) | ((with_reducible refine gate_dst (N := 6) rfl ?_); refine box_event ?hg (N := 6) ?hd (cs := #[.bool false, .bool false, .bool false, .bool false]) (t := 89) ?hr ?_; (case hd => rfl); (case hg => rfl); (case hr => first | (go_simp; done) | (go_simp; rfl)); intro gb113 hg w28 hbox hb; have n0_ := aM (blk_below (bK BK108) hb); have n1_ := aM (below_step (hS) hb); have n2_ := aM (hbox); have n3_ := aM ((by rw [hg]; exact (below_size (hS)) : w.heap.size ≤ gb113)); have n4_ := aM ((by rw [hg]; exact (below_size (hS)) : w.heap.size ≤ gb113)); have n5_ := aM ((by rw [hg]; exact Nat.ne_of_lt (blk_lt (bK BK108)) : gb108 ≠ gb113)); have n6_ := aM ((by rw [hg]; exact Nat.ne_of_gt (blk_lt (bK BK108)) : gb113 ≠ gb108)); clear BK108; clear HB; have BK108 := n0_; have HB := n1_; have BK113 := n2_; have GW113 := n3_; have GE113 := n4_; have NB108_113 := n5_; have NB113_108 := n6_; clear n0_ n1_ n2_ n3_ n4_ n5_ n6_; clear hb hbox hg; have hnb29 := NB113_108.out; have hnc29 := NB108_113.out; have hcz30_0 : w28.cell? ⟨gb113, 0, none⟩ = some (.bool false) := (zC BK113.out 0).trans rfl; have hcz30_1 : w28.cell? ⟨gb113, 1, none⟩ = some (.bool false) := (zC BK113.out 1).trans rfl; have hcz30_2 : w28.cell? ⟨gb113, 2, none⟩ = some (.bool false) := (zC BK113.out 2).trans rfl; have hcz30_3 : w28.cell? ⟨gb113, 3, none⟩ = some (.bool false) := (zC BK113.out 3).trans rfl; have hfz30_0 := zF BK113.out 0; have hfz30_1 := zF BK113.out 1; have hfz30_2 := zF BK113.out 2; have hfz30_3 := zF BK113.out 3) | ((with_reducible refine gate_callee (f := 70) rfl ?_); refine goesL_ (some 23) rfl rfl Tryz.func70 (by kernel_rfl) rfl #[.string a0, .int .i64 a1, .func (.func 71) #[] #[]] rfl gA ?_; (with_reducible refine (lex_run_of_71.calls k a0 a1  t114 _ A8.out).mono ?_); rintro e w31 ⟨rfl, hb⟩; refine ⟨_, rfl, ?_⟩; have n0_ := aM (blk_below (bK BK108) hb); have n1_ := aM (blk_below (g := gb113) (o := .cells #[.bool t109, .bool true, .bool t111, .bool t112] 89 (0, 0)) (bP BK113) hb); have n2_ := aM (below_step (hS) hb); clear BK108; clear BK113; clear HB; have BK108 := n0_; have BK113 := n1_; have HB := n2_; clear n0_ n1_ n2_) | ((with_reducible refine gate_dst (N := 8) rfl ?_); refine box_event ?hg (N := 8) ?hd (cs := #[.int .i64 0, .string (⟨#[]⟩ : ByteArray), .int .i64 0, .int .u64 0, .int .i64 0]) (t := 44) ?hr ?_; (case hd => rfl); (case hg => rfl); (case hr => first | (go_simp; done) | (go_simp; rfl)); intro gb115 hg w32 hbox hb; have n0_ := aM (blk_below (bK BK108) hb); have n1_ := aM (blk_below (bK BK113) hb); have n2_ := aM (below_step (hS) hb); have n3_ := aM (hbox); have n4_ := aM ((by rw [hg]; exact (below_size (hS)) : w.heap.size ≤ gb115)); have n5_ := aM ((by rw [hg]; exact (below_size (hS)) : w.heap.size ≤ gb115)); have n6_ := aM ((by rw [hg]; exact Nat.ne_of_lt (blk_lt (bK BK108)) : gb108 ≠ gb115)); have n7_ := aM ((by rw [hg]; exact Nat.ne_of_gt (blk_lt (bK BK108)) : gb115 ≠ gb108)); have n8_ := aM ((by rw [hg]; exact Nat.ne_of_lt (blk_lt (bK BK113)) : gb113 ≠ gb115)); have n9_ := aM ((by rw [hg]; exact Nat.ne_of_gt (blk_lt (bK BK113)) : gb115 ≠ gb113)); clear BK108; clear BK113; clear HB; have BK108 := n0_; have BK113 := n1_; have HB := n2_; have BK115 := n3_; have GW115 := n4_; have GE115 := n5_; have NB108_115 := n6_; have NB115_108 := n7_; have NB113_115 := n8_; have NB115_113 := n9_; clear n0_ n1_ n2_ n3_ n4_ n5_ n6_ n7_ n8_ n9_; clear hb hbox hg; have hnb33 := NB115_108.out; have hnc33 := NB108_115.out; have hnb34 := NB115_113.out; have hnc34 := NB113_115.out; have hcz35_0 : w32.cell? ⟨gb115, 0, none⟩ = some (.int .i64 0) := (zC BK115.out 0).trans rfl; have hcz35_1 : w32.cell? ⟨gb115, 1, none⟩ = some (.string (⟨#[]⟩ : ByteArray)) := (zC BK115.out 1).trans rfl; have hcz35_2 : w32.cell? ⟨gb115, 2, none⟩ = some (.int .i64 0) := (zC BK115.out 2).trans rfl; have hcz35_3 : w32.cell? ⟨gb115, 3, none⟩ = some (.int .u64 0) := (zC BK115.out 3).trans rfl; have hcz35_4 : w32.cell? ⟨gb115, 4, none⟩ = some (.int .i64 0) := (zC BK115.out 4).trans rfl; have hfz35_0 := zF BK115.out 0; have hfz35_1 := zF BK115.out 1; have hfz35_2 := zF BK115.out 2; have hfz35_3 := zF BK115.out 3; have hfz35_4 := zF BK115.out 4) | ((with_reducible refine gate_callee (f := 72) rfl ?_); refine goesL_ (some 34) rfl rfl Tryz.func72 (by kernel_rfl) rfl #[.string (a0.extract (a1 : Int).toNat ((wrap64 (a1 + t114)) : Int).toNat)] rfl gA ?_; (with_reducible refine (names_Reserved.calls (a0.extract (a1 : Int).toNat ((wrap64 (a1 + t114)) : Int).toNat) true _ A12.out).mono ?_); rintro e w' ⟨rfl, ⟨nd, rfl⟩⟩; refine ⟨_, rfl, ?_⟩; have hcz36_0 : w32.cell? ⟨gb108, 0, none⟩ = some (.int .i64 0) := (zC BK108.out 0).trans rfl; have hcz36_1 : w32.cell? ⟨gb108, 1, none⟩ = some (.string (⟨#[]⟩ : ByteArray)) := (zC BK108.out 1).trans rfl; have hcz36_2 : w32.cell? ⟨gb108, 2, none⟩ = some (.int .i64 0) := (zC BK108.out 2).trans rfl; have hcz36_3 : w32.cell? ⟨gb108, 3, none⟩ = some (.int .u64 0) := (zC BK108.out 3).trans rfl; have hcz36_4 : w32.cell? ⟨gb108, 4, none⟩ = some (.int .i64 0) := (zC BK108.out 4).trans rfl; have hfz36_0 := zF BK108.out 0; have hfz36_1 := zF BK108.out 1; have hfz36_2 := zF BK108.out 2; have hfz36_3 := zF BK108.out 3; have hfz36_4 := zF BK108.out 4))
  refine bodyPost_ret (results_ct rfl _ _ gb108 44 #[.int .i64 2, .string (a0.extract (a1 : Int).toNat ((wrap64 (a1 + t114)) : Int).toNat), .int .i64 0, .int .u64 0, .int .i64 a1] (0, 0) _ rfl (bP BK108) Tryz.underlying44 rfl (by kernel_rfl)) rfl ?_
  exact ⟨eR, hS⟩
 replace c7 := nF c7
 subst c7
 replace H := iF H
 have c60b0 := eq_true (oA : 0 ≤ a1)
 replace H := nI H
 obtain ⟨c61, H⟩ := H
 have c61b0 := eq_true c61
 have c61b1 := dT c61
 clear c61
 replace H := Option.bind_eq_some_iff.mp H
 obtain ⟨t117, A620, H⟩ := H
 replace H : (if t117 = true then ((lex_run_of_73.f k a0 (wrap64 (a1 + 2))).bind fun t118 => (if a1 ≤ (wrap64 (a1 + (wrap64 (2 + t118)))) then (if (wrap64 (a1 + (wrap64 (2 + t118)))) ≤ (a0.size : Int) then ((floats_ParseV.f k (a0.extract (a1 : Int).toNat ((wrap64 (a1 + (wrap64 (2 + t118)))) : Int).toNat)).bind fun bt119 => (some (4, a0.extract (a1 : Int).toNat ((wrap64 (a1 + (wrap64 (2 + t118)))) : Int).toNat, 2, bt119.1, a1, bt119.2))) else (none)) else (none))) else (if t111 = true then ((lex_number.f k a0 a1).bind fun bt121 => (some (bt121.1, bt121.2.1, bt121.2.2.1, bt121.2.2.2.1, bt121.2.2.2.2.1, bt121.2.2.2.2.2))) else ((some (([(⟨#[60, 61]⟩ : ByteArray), (⟨#[62, 61]⟩ : ByteArray), (⟨#[61, 61]⟩ : ByteArray), (⟨#[33, 61]⟩ : ByteArray), (⟨#[38, 38]⟩ : ByteArray), (⟨#[124, 124]⟩ : ByteArray)] : List ByteArray) : List ByteArray)).bind fun y127 => (l0 k a0 a1 y127 (y127.length : Int) 0)))) = some (r1, r2, r3, r4, r5, r6) := H
 have A62 := aM A620
 clear A620
 by_cases c63 : t117 = true
 ·subst c63
  replace H := iT H
  replace H := Option.bind_eq_some_iff.mp H
  obtain ⟨t118, A640, H⟩ := H
  replace H : (if a1 ≤ (wrap64 (a1 + (wrap64 (2 + t118)))) then (if (wrap64 (a1 + (wrap64 (2 + t118)))) ≤ (a0.size : Int) then ((floats_ParseV.f k (a0.extract (a1 : Int).toNat ((wrap64 (a1 + (wrap64 (2 + t118)))) : Int).toNat)).bind fun bt119 => (some (4, a0.extract (a1 : Int).toNat ((wrap64 (a1 + (wrap64 (2 + t118)))) : Int).toNat, 2, bt119.1, a1, bt119.2))) else (none)) else (none)) = some (r1, r2, r3, r4, r5, r6) := H
  have A64 := aM A640
  clear A640
  have c65b0 := eq_true (oA : 0 ≤ a1)
  replace H := nI H
  obtain ⟨c66, H⟩ := H
  have c66b0 := eq_true c66
  have c66b1 := dT c66
  replace H := nI H
  obtain ⟨c67, H⟩ := H
  have c67b0 := eq_true c67
  have c67b1 := dT c67
  replace H := Option.bind_eq_some_iff.mp H
  obtain ⟨⟨t119, t120⟩, A680, H⟩ := H
  replace H : (some (4, a0.extract (a1 : Int).toNat ((wrap64 (a1 + (wrap64 (2 + t118)))) : Int).toNat, 2, t119, a1, t120)) = some (r1, r2, r3, r4, r5, r6) := H
  have A68 := aM A680
  clear A680
  have c69b0 := eq_true (oA : 0 ≤ a1)
  have c70b0 := eq_true (oA : a1 ≤ (wrap64 (a1 + (wrap64 (2 + t118)))))
  have c71b0 := eq_true (oA : (wrap64 (a1 + (wrap64 (2 + t118)))) ≤ (a0.size : Int))
  simp only [Option.some.injEq, Prod.mk.injEq] at H
  obtain ⟨rfl, rfl, rfl, rfl, rfl, rfl⟩ := H
  go_enter Tryz.func49, Tryz.ntmps49
  go_wp2_with (first | ((with_reducible refine gate_dst (N := 4) rfl ?_); refine box_event ?hg (N := 4) ?hd (cs := #[.int .i64 0, .string (⟨#[]⟩ : ByteArray), .int .i64 0, .int .u64 0, .int .i64 0]) (t := 44) ?hr ?_; (case hd => rfl); (case hg => rfl); (case hr => first | (go_simp; done) | (go_simp; rfl)); intro gb108 hg w72 hbox hb; have n0_ := aM (below_step (hB) hb); have n1_ := aM (hbox); have n2_ := aM ((by rw [hg]; exact (below_size (hB)) : w.heap.size ≤ gb108)); have n3_ := aM ((by rw [hg]; exact (below_size (hB)) : w.heap.size ≤ gb108)); clear HB; have HB := n0_; have BK108 := n1_; have GW108 := n2_; have GE108 := n3_; clear n0_ n1_ n2_ n3_; clear hb hbox hg; have p5 : (0 ≤ a1) = True := eT; have q5 : a1 < (a0.size : Int) := oA; have hx5 := bt_at a0 a1; replace q5 := eq_true q5) | ((with_reducible refine gate_callee (f := 68) rfl ?_); refine goesL_ (some 17) rfl rfl Tryz.func68 (by kernel_rfl) rfl #[.int .u8 (bt a0 a1)] rfl gA ?_; (with_reducible refine (lex_kind.calls k (bt a0 a1) t109 false t111 t112 _ A6.out).mono ?_); rintro e w73 ⟨rfl, hb⟩; refine ⟨_, rfl, ?_⟩; have n0_ := aM (blk_below (bK BK108) hb); have n1_ := aM (below_step (hS) hb); clear BK108; clear HB; have BK108 := n0_; have HB := n1_; clear n0_ n1_) | ((with_reducible refine gate_dst (N := 6) rfl ?_); refine box_event ?hg (N := 6) ?hd (cs := #[.bool false, .bool false, .bool false, .bool false]) (t := 89) ?hr ?_; (case hd => rfl); (case hg => rfl); (case hr => first | (go_simp; done) | (go_simp; rfl)); intro gb113 hg w74 hbox hb; have n0_ := aM (blk_below (bK BK108) hb); have n1_ := aM (below_step (hS) hb); have n2_ := aM (hbox); have n3_ := aM ((by rw [hg]; exact (below_size (hS)) : w.heap.size ≤ gb113)); have n4_ := aM ((by rw [hg]; exact (below_size (hS)) : w.heap.size ≤ gb113)); have n5_ := aM ((by rw [hg]; exact Nat.ne_of_lt (blk_lt (bK BK108)) : gb108 ≠ gb113)); have n6_ := aM ((by rw [hg]; exact Nat.ne_of_gt (blk_lt (bK BK108)) : gb113 ≠ gb108)); clear BK108; clear HB; have BK108 := n0_; have HB := n1_; have BK113 := n2_; have GW113 := n3_; have GE113 := n4_; have NB108_113 := n5_; have NB113_108 := n6_; clear n0_ n1_ n2_ n3_ n4_ n5_ n6_; clear hb hbox hg; have hnb75 := NB113_108.out; have hnc75 := NB108_113.out; have hcz76_0 : w74.cell? ⟨gb113, 0, none⟩ = some (.bool false) := (zC BK113.out 0).trans rfl; have hcz76_1 : w74.cell? ⟨gb113, 1, none⟩ = some (.bool false) := (zC BK113.out 1).trans rfl; have hcz76_2 : w74.cell? ⟨gb113, 2, none⟩ = some (.bool false) := (zC BK113.out 2).trans rfl; have hcz76_3 : w74.cell? ⟨gb113, 3, none⟩ = some (.bool false) := (zC BK113.out 3).trans rfl; have hfz76_0 := zF BK113.out 0; have hfz76_1 := zF BK113.out 1; have hfz76_2 := zF BK113.out 2; have hfz76_3 := zF BK113.out 3) | ((with_reducible refine gate_callee (f := 69) rfl ?_); refine goesL_ (some 44) rfl rfl Tryz.func69 (by kernel_rfl) rfl #[.string (a0.extract (a1 : Int).toNat a0.size), .string (⟨#[48, 120]⟩ : ByteArray)] rfl gA ?_; (with_reducible refine (strings_HasPrefix.calls (a0.extract (a1 : Int).toNat a0.size) (⟨#[48, 120]⟩ : ByteArray) true _ A62.out).mono ?_); rintro e w' ⟨rfl, ⟨nd, rfl⟩⟩; refine ⟨_, rfl, ?_⟩) | ((with_reducible refine gate_callee (f := 70) rfl ?_); refine goesL_ (some 48) rfl rfl Tryz.func70 (by kernel_rfl) rfl #[.string a0, .int .i64 (wrap64 (a1 + 2)), .func (.func 73) #[] #[]] rfl gA ?_; (with_reducible refine (lex_run_of_73.calls k a0 (wrap64 (a1 + 2))  t118 _ A64.out).mono ?_); rintro e w77 ⟨rfl, hb⟩; refine ⟨_, rfl, ?_⟩; have n0_ := aM (blk_below (bK BK108) hb); have n1_ := aM (blk_below (g := gb113) (o := .cells #[.bool t109, .bool false, .bool t111, .bool t112] 89 (0, 0)) (bP BK113) hb); have n2_ := aM (below_step (hS) hb); clear BK108; clear BK113; clear HB; have BK108 := n0_; have BK113 := n1_; have HB := n2_; clear n0_ n1_ n2_) | ((with_reducible refine gate_callee (f := 11) rfl ?_); refine goesL_ (some 57) rfl rfl Tryz.func11 (by kernel_rfl) rfl #[.string (a0.extract (a1 : Int).toNat ((wrap64 (a1 + (wrap64 (2 + t118)))) : Int).toNat)] rfl gA ?_; (with_reducible refine (floats_ParseV.calls k (a0.extract (a1 : Int).toNat ((wrap64 (a1 + (wrap64 (2 + t118)))) : Int).toNat) t119 t120 _ ?side1 A68.out).mono ?_); (case side1 => exact LaidOk.below (hS) HLAID.out); rintro e w78 ⟨rfl, hb⟩; refine ⟨_, rfl, ?_⟩; have n0_ := aM (blk_below (bK BK108) hb); have n1_ := aM (blk_below (bK BK113) hb); have n2_ := aM (below_step (hS) hb); clear BK108; clear BK113; clear HB; have BK108 := n0_; have BK113 := n1_; have HB := n2_; clear n0_ n1_ n2_; have hcz79_0 : w78.cell? ⟨gb108, 0, none⟩ = some (.int .i64 0) := (zC BK108.out 0).trans rfl; have hcz79_1 : w78.cell? ⟨gb108, 1, none⟩ = some (.string (⟨#[]⟩ : ByteArray)) := (zC BK108.out 1).trans rfl; have hcz79_2 : w78.cell? ⟨gb108, 2, none⟩ = some (.int .i64 0) := (zC BK108.out 2).trans rfl; have hcz79_3 : w78.cell? ⟨gb108, 3, none⟩ = some (.int .u64 0) := (zC BK108.out 3).trans rfl; have hcz79_4 : w78.cell? ⟨gb108, 4, none⟩ = some (.int .i64 0) := (zC BK108.out 4).trans rfl; have hfz79_0 := zF BK108.out 0; have hfz79_1 := zF BK108.out 1; have hfz79_2 := zF BK108.out 2; have hfz79_3 := zF BK108.out 3; have hfz79_4 := zF BK108.out 4))
  refine bodyPost_ret (results_ct rfl _ _ gb108 44 #[.int .i64 4, .string (a0.extract (a1 : Int).toNat ((wrap64 (a1 + (wrap64 (2 + t118)))) : Int).toNat), .int .i64 2, .int .u64 t119, .int .i64 a1] (0, 0) _ rfl (bP BK108) Tryz.underlying44 rfl (by kernel_rfl)) rfl ?_
  exact ⟨eR, hS⟩
 replace c63 := nF c63
 subst c63
 replace H := iF H
 by_cases c80 : t111 = true
 ·subst c80
  replace H := iT H
  replace H := Option.bind_eq_some_iff.mp H
  obtain ⟨⟨t121, t122, t123, t124, t125, t126⟩, A810, H⟩ := H
  replace H : (some (t121, t122, t123, t124, t125, t126)) = some (r1, r2, r3, r4, r5, r6) := H
  have A81 := aM A810
  clear A810
  simp only [Option.some.injEq, Prod.mk.injEq] at H
  obtain ⟨rfl, rfl, rfl, rfl, rfl, rfl⟩ := H
  go_enter Tryz.func49, Tryz.ntmps49
  go_wp2_with (first | ((with_reducible refine gate_dst (N := 4) rfl ?_); refine box_event ?hg (N := 4) ?hd (cs := #[.int .i64 0, .string (⟨#[]⟩ : ByteArray), .int .i64 0, .int .u64 0, .int .i64 0]) (t := 44) ?hr ?_; (case hd => rfl); (case hg => rfl); (case hr => first | (go_simp; done) | (go_simp; rfl)); intro gb108 hg w82 hbox hb; have n0_ := aM (below_step (hB) hb); have n1_ := aM (hbox); have n2_ := aM ((by rw [hg]; exact (below_size (hB)) : w.heap.size ≤ gb108)); have n3_ := aM ((by rw [hg]; exact (below_size (hB)) : w.heap.size ≤ gb108)); clear HB; have HB := n0_; have BK108 := n1_; have GW108 := n2_; have GE108 := n3_; clear n0_ n1_ n2_ n3_; clear hb hbox hg; have p5 : (0 ≤ a1) = True := eT; have q5 : a1 < (a0.size : Int) := oA; have hx5 := bt_at a0 a1; replace q5 := eq_true q5) | ((with_reducible refine gate_callee (f := 68) rfl ?_); refine goesL_ (some 17) rfl rfl Tryz.func68 (by kernel_rfl) rfl #[.int .u8 (bt a0 a1)] rfl gA ?_; (with_reducible refine (lex_kind.calls k (bt a0 a1) t109 false true t112 _ A6.out).mono ?_); rintro e w83 ⟨rfl, hb⟩; refine ⟨_, rfl, ?_⟩; have n0_ := aM (blk_below (bK BK108) hb); have n1_ := aM (below_step (hS) hb); clear BK108; clear HB; have BK108 := n0_; have HB := n1_; clear n0_ n1_) | ((with_reducible refine gate_dst (N := 6) rfl ?_); refine box_event ?hg (N := 6) ?hd (cs := #[.bool false, .bool false, .bool false, .bool false]) (t := 89) ?hr ?_; (case hd => rfl); (case hg => rfl); (case hr => first | (go_simp; done) | (go_simp; rfl)); intro gb113 hg w84 hbox hb; have n0_ := aM (blk_below (bK BK108) hb); have n1_ := aM (below_step (hS) hb); have n2_ := aM (hbox); have n3_ := aM ((by rw [hg]; exact (below_size (hS)) : w.heap.size ≤ gb113)); have n4_ := aM ((by rw [hg]; exact (below_size (hS)) : w.heap.size ≤ gb113)); have n5_ := aM ((by rw [hg]; exact Nat.ne_of_lt (blk_lt (bK BK108)) : gb108 ≠ gb113)); have n6_ := aM ((by rw [hg]; exact Nat.ne_of_gt (blk_lt (bK BK108)) : gb113 ≠ gb108)); clear BK108; clear HB; have BK108 := n0_; have HB := n1_; have BK113 := n2_; have GW113 := n3_; have GE113 := n4_; have NB108_113 := n5_; have NB113_108 := n6_; clear n0_ n1_ n2_ n3_ n4_ n5_ n6_; clear hb hbox hg; have hnb85 := NB113_108.out; have hnc85 := NB108_113.out; have hcz86_0 : w84.cell? ⟨gb113, 0, none⟩ = some (.bool false) := (zC BK113.out 0).trans rfl; have hcz86_1 : w84.cell? ⟨gb113, 1, none⟩ = some (.bool false) := (zC BK113.out 1).trans rfl; have hcz86_2 : w84.cell? ⟨gb113, 2, none⟩ = some (.bool false) := (zC BK113.out 2).trans rfl; have hcz86_3 : w84.cell? ⟨gb113, 3, none⟩ = some (.bool false) := (zC BK113.out 3).trans rfl; have hfz86_0 := zF BK113.out 0; have hfz86_1 := zF BK113.out 1; have hfz86_2 := zF BK113.out 2; have hfz86_3 := zF BK113.out 3) | ((with_reducible refine gate_callee (f := 69) rfl ?_); refine goesL_ (some 44) rfl rfl Tryz.func69 (by kernel_rfl) rfl #[.string (a0.extract (a1 : Int).toNat a0.size), .string (⟨#[48, 120]⟩ : ByteArray)] rfl gA ?_; (with_reducible refine (strings_HasPrefix.calls (a0.extract (a1 : Int).toNat a0.size) (⟨#[48, 120]⟩ : ByteArray) false _ A62.out).mono ?_); rintro e w' ⟨rfl, ⟨nd, rfl⟩⟩; refine ⟨_, rfl, ?_⟩) | ((with_reducible refine gate_callee (f := 74) rfl ?_); refine goesL_ (some 76) rfl rfl Tryz.func74 (by kernel_rfl) rfl #[.string a0, .int .i64 a1] rfl gA ?_; (with_reducible refine (lex_number.calls k a0 a1 t121 t122 t123 t124 t125 t126 _ ?side1 A81.out).mono ?_); (case side1 => exact LaidOk.below (hS) HLAID.out); rintro e w87 ⟨rfl, hb⟩; refine ⟨_, rfl, ?_⟩; have n0_ := aM (blk_below (bK BK108) hb); have n1_ := aM (blk_below (g := gb113) (o := .cells #[.bool t109, .bool false, .bool true, .bool t112] 89 (0, 0)) (bP BK113) hb); have n2_ := aM (below_step (hS) hb); clear BK108; clear BK113; clear HB; have BK108 := n0_; have BK113 := n1_; have HB := n2_; clear n0_ n1_ n2_; have hcz88_0 : w87.cell? ⟨gb108, 0, none⟩ = some (.int .i64 0) := (zC BK108.out 0).trans rfl; have hcz88_1 : w87.cell? ⟨gb108, 1, none⟩ = some (.string (⟨#[]⟩ : ByteArray)) := (zC BK108.out 1).trans rfl; have hcz88_2 : w87.cell? ⟨gb108, 2, none⟩ = some (.int .i64 0) := (zC BK108.out 2).trans rfl; have hcz88_3 : w87.cell? ⟨gb108, 3, none⟩ = some (.int .u64 0) := (zC BK108.out 3).trans rfl; have hcz88_4 : w87.cell? ⟨gb108, 4, none⟩ = some (.int .i64 0) := (zC BK108.out 4).trans rfl; have hfz88_0 := zF BK108.out 0; have hfz88_1 := zF BK108.out 1; have hfz88_2 := zF BK108.out 2; have hfz88_3 := zF BK108.out 3; have hfz88_4 := zF BK108.out 4))
  refine bodyPost_ret (results_ct rfl _ _ gb108 44 #[.int .i64 t121, .string t122, .int .i64 t123, .int .u64 t124, .int .i64 t125] (0, 0) _ rfl (bP BK108) Tryz.underlying44 rfl (by kernel_rfl)) rfl ?_
  exact ⟨eR, hS⟩
 replace c80 := nF c80
 subst c80
 replace H := iF H
 obtain ⟨y127, hy127⟩ : ∃ y_ : List ByteArray, y_ = (([(⟨#[60, 61]⟩ : ByteArray), (⟨#[62, 61]⟩ : ByteArray), (⟨#[61, 61]⟩ : ByteArray), (⟨#[33, 61]⟩ : ByteArray), (⟨#[38, 38]⟩ : ByteArray), (⟨#[124, 124]⟩ : ByteArray)] : List ByteArray)) := ⟨_, rfl⟩
 replace H : (l0 k a0 a1 y127 (y127.length : Int) 0) = some (r1, r2, r3, r4, r5, r6) := by first | (rw [hy127]; with_reducible exact H) | (have H2_ := (Option.bind_some _ _).symm.trans H; rw [hy127]; with_reducible exact H2_) | (have H2_ := (Option.bind_some _ _).symm.trans H; with_reducible exact H2_) | with_reducible exact H | (rw [hy127]; exact H) | exact H
 have Ny127 := aM hy127
 clear hy127
 have H' := aM H
 clear H
 go_enter Tryz.func49, Tryz.ntmps49
 go_wp2_with (first | ((with_reducible refine gate_dst (N := 4) rfl ?_); refine box_event ?hg (N := 4) ?hd (cs := #[.int .i64 0, .string (⟨#[]⟩ : ByteArray), .int .i64 0, .int .u64 0, .int .i64 0]) (t := 44) ?hr ?_; (case hd => rfl); (case hg => rfl); (case hr => first | (go_simp; done) | (go_simp; rfl)); intro gb108 hg w89 hbox hb; have n0_ := aM (below_step (hB) hb); have n1_ := aM (hbox); have n2_ := aM ((by rw [hg]; exact (below_size (hB)) : w.heap.size ≤ gb108)); have n3_ := aM ((by rw [hg]; exact (below_size (hB)) : w.heap.size ≤ gb108)); clear HB; have HB := n0_; have BK108 := n1_; have GW108 := n2_; have GE108 := n3_; clear n0_ n1_ n2_ n3_; clear hb hbox hg; have p5 : (0 ≤ a1) = True := eT; have q5 : a1 < (a0.size : Int) := oA; have hx5 := bt_at a0 a1; replace q5 := eq_true q5) | ((with_reducible refine gate_callee (f := 68) rfl ?_); refine goesL_ (some 17) rfl rfl Tryz.func68 (by kernel_rfl) rfl #[.int .u8 (bt a0 a1)] rfl gA ?_; (with_reducible refine (lex_kind.calls k (bt a0 a1) t109 false false t112 _ A6.out).mono ?_); rintro e w90 ⟨rfl, hb⟩; refine ⟨_, rfl, ?_⟩; have n0_ := aM (blk_below (bK BK108) hb); have n1_ := aM (below_step (hS) hb); clear BK108; clear HB; have BK108 := n0_; have HB := n1_; clear n0_ n1_) | ((with_reducible refine gate_dst (N := 6) rfl ?_); refine box_event ?hg (N := 6) ?hd (cs := #[.bool false, .bool false, .bool false, .bool false]) (t := 89) ?hr ?_; (case hd => rfl); (case hg => rfl); (case hr => first | (go_simp; done) | (go_simp; rfl)); intro gb113 hg w91 hbox hb; have n0_ := aM (blk_below (bK BK108) hb); have n1_ := aM (below_step (hS) hb); have n2_ := aM (hbox); have n3_ := aM ((by rw [hg]; exact (below_size (hS)) : w.heap.size ≤ gb113)); have n4_ := aM ((by rw [hg]; exact (below_size (hS)) : w.heap.size ≤ gb113)); have n5_ := aM ((by rw [hg]; exact Nat.ne_of_lt (blk_lt (bK BK108)) : gb108 ≠ gb113)); have n6_ := aM ((by rw [hg]; exact Nat.ne_of_gt (blk_lt (bK BK108)) : gb113 ≠ gb108)); clear BK108; clear HB; have BK108 := n0_; have HB := n1_; have BK113 := n2_; have GW113 := n3_; have GE113 := n4_; have NB108_113 := n5_; have NB113_108 := n6_; clear n0_ n1_ n2_ n3_ n4_ n5_ n6_; clear hb hbox hg; have hnb92 := NB113_108.out; have hnc92 := NB108_113.out; have hcz93_0 : w91.cell? ⟨gb113, 0, none⟩ = some (.bool false) := (zC BK113.out 0).trans rfl; have hcz93_1 : w91.cell? ⟨gb113, 1, none⟩ = some (.bool false) := (zC BK113.out 1).trans rfl; have hcz93_2 : w91.cell? ⟨gb113, 2, none⟩ = some (.bool false) := (zC BK113.out 2).trans rfl; have hcz93_3 : w91.cell? ⟨gb113, 3, none⟩ = some (.bool false) := (zC BK113.out 3).trans rfl; have hfz93_0 := zF BK113.out 0; have hfz93_1 := zF BK113.out 1; have hfz93_2 := zF BK113.out 2; have hfz93_3 := zF BK113.out 3) | ((with_reducible refine gate_callee (f := 69) rfl ?_); refine goesL_ (some 44) rfl rfl Tryz.func69 (by kernel_rfl) rfl #[.string (a0.extract (a1 : Int).toNat a0.size), .string (⟨#[48, 120]⟩ : ByteArray)] rfl gA ?_; (with_reducible refine (strings_HasPrefix.calls (a0.extract (a1 : Int).toNat a0.size) (⟨#[48, 120]⟩ : ByteArray) false _ A62.out).mono ?_); rintro e w' ⟨rfl, ⟨nd, rfl⟩⟩; refine ⟨_, rfl, ?_⟩) | ((with_reducible refine gate_dst (N := 79) rfl ?_); refine Kd.R_lit Kd.string _ 9 ?hg (N := 79) ?hd (xs := ([(⟨#[60, 61]⟩ : ByteArray), (⟨#[62, 61]⟩ : ByteArray), (⟨#[61, 61]⟩ : ByteArray), (⟨#[33, 61]⟩ : ByteArray), (⟨#[38, 38]⟩ : ByteArray), (⟨#[124, 124]⟩ : ByteArray)] : List ByteArray)) (inner := [.string (⟨#[60, 61]⟩ : ByteArray), .string (⟨#[62, 61]⟩ : ByteArray), .string (⟨#[61, 61]⟩ : ByteArray), .string (⟨#[33, 61]⟩ : ByteArray), .string (⟨#[38, 38]⟩ : ByteArray), .string (⟨#[124, 124]⟩ : ByteArray)]) (ok := fun _ => True) (okp := fun _ => True) ?hr ?hp (fun _ hk => hk) trivial (Below.refl _ _) (Nat.le_refl _) (by simp) ?_; (case hd => rfl); (case hg => rfl); (case hr => first | (go_simp; done) | (go_simp; rfl)); (case hp => exact (Reps.one (show Kd.M Kd.string _ _ _ (⟨#[60, 61]⟩ : ByteArray) [.string (⟨#[60, 61]⟩ : ByteArray)] from rfl) (Reps.one (show Kd.M Kd.string _ _ _ (⟨#[62, 61]⟩ : ByteArray) [.string (⟨#[62, 61]⟩ : ByteArray)] from rfl) (Reps.one (show Kd.M Kd.string _ _ _ (⟨#[61, 61]⟩ : ByteArray) [.string (⟨#[61, 61]⟩ : ByteArray)] from rfl) (Reps.one (show Kd.M Kd.string _ _ _ (⟨#[33, 61]⟩ : ByteArray) [.string (⟨#[33, 61]⟩ : ByteArray)] from rfl) (Reps.one (show Kd.M Kd.string _ _ _ (⟨#[38, 38]⟩ : ByteArray) [.string (⟨#[38, 38]⟩ : ByteArray)] from rfl) (Reps.one (show Kd.M Kd.string _ _ _ (⟨#[124, 124]⟩ : ByteArray) [.string (⟨#[124, 124]⟩ : ByteArray)] from rfl) (Reps.none _ _)))))))); intro v128 w94 ho95 hb hg_ hnew_; clear hg_ hnew_; (first | rw [← Ny127.out] at ho95 | (simp only [Int.reduceToNat] at ho95; rw [← Ny127.out] at ho95)); have n0_ := aM (Kd.R_lower ho95 (below_size (hS))); have n1_ := aM (blk_below (bK BK108) hb); have n2_ := aM (blk_below (g := gb113) (o := .cells #[.bool t109, .bool false, .bool false, .bool t112] 89 (0, 0)) (bP BK113) hb); have n3_ := aM (below_step (hS) hb); clear BK108; clear BK113; clear HB; have HO129 := n0_; have BK108 := n1_; have BK113 := n2_; have HB := n3_; clear n0_ n1_ n2_ n3_; clear hb ho95; obtain ⟨Ao96, co96, eo96⟩ := Kd.R_slice HO129.out; subst eo96))
 go_loopg [81] k (fun kq v81 w' => ∃ (x81_1 : Int) (x109000_1 : Int) (x109001_1 : ByteArray) (x109002_1 : Int) (x109003_1 : Int) (x109004_1 : Int), v81 = .int .i64 x81_1 ∧ Aside0 (l0 kq a0 a1 y127 (y127.length : Int) x81_1 = some (r1, r2, r3, r4, r5, r6)) ∧ Aside0 (kq ≤ k) ∧ Aside0 (Kd.R Kd.string 9 w' w.heap.size (fun _ => True) (.slice Ao96 y127.length co96) y127) ∧ Aside0 (w'.heap[gb108]? = some (.cells #[.int .i64 x109000_1, .string x109001_1, .int .i64 x109002_1, .int .u64 x109003_1, .int .i64 x109004_1] 44 (0, 0))) ∧ Aside0 (w'.heap[gb113]? = some (.cells #[.bool t109, .bool false, .bool false, .bool t112] 89 (0, 0))) ∧ Aside0 (Below w.heap.size w w'))
 case atStart => exact ⟨(0), (0), ((⟨#[]⟩ : ByteArray)), (0), (0), (0), xR, H', ⟨Nat.le_refl _⟩, ⟨rO HO129⟩, ⟨bK BK108⟩, ⟨bK BK113⟩, ⟨hS⟩⟩
 case round =>
  clear H'
  obtain ⟨x81_1, x109000_1, x109001_1, x109002_1, x109003_1, x109004_1, rfl, HA, HK1, HO_79, BK108, BK113, HB⟩ := hrel
  cases gk with
  | zero => exact absurd HA.out (by simp [l0])
  | succ k1 =>
   have H := HA.out
   clear HA
   simp only [l0] at H
   by_cases c97 : x81_1 < (y127.length : Int)
   ·rw [if_pos c97] at H
    have c97b0 := dT c97
    clear c97
    replace H := nI H
    obtain ⟨c98, H⟩ := H
    have c98b0 := dT c98
    clear c98
    replace H := nI H
    obtain ⟨c99, H⟩ := H
    have c99b0 := dT c99
    clear c99
    replace H := nI H
    obtain ⟨c100, H⟩ := H
    have c100b0 := eq_true c100
    have c100b1 := dT c100
    clear c100
    replace H := nI H
    obtain ⟨c101, H⟩ := H
    have c101b0 := eq_true c101
    have c101b1 := dT c101
    clear c101
    replace H := Option.bind_eq_some_iff.mp H
    obtain ⟨t131, A1020, H⟩ := H
    replace H : (if t131 = true then (some (5, rdOf ByteArray.empty y127 x81_1, 0, 0, a1, 0)) else (l0 k1 a0 a1 y127 (y127.length : Int) (wrap64 (x81_1 + 1)))) = some (r1, r2, r3, r4, r5, r6) := H
    have A102 := aM A1020
    clear A1020
    by_cases c103 : t131 = true
    rotate_left
    ·replace c103 := nF c103
     subst c103
     replace H := iF H
     have H' := aM H
     clear H
     have p130 : 0 ≤ (x81_1 : Int) := oA
     have q130 : x81_1 < (y127.length : Int) := oA
     obtain ⟨ad130, e130, hx130_0⟩ := Kd.at_string (Kd.R_reads' HO_79.out).2.2 x81_1 p130 q130
     cases e130
     replace p130 := eq_true p130
     replace q130 := eq_true q130
     go_wp2_with (first | ((with_reducible refine gate_callee (f := 69) rfl ?_); refine goesL_ (some 89) rfl rfl Tryz.func69 (by kernel_rfl) rfl #[.string (a0.extract (a1 : Int).toNat a0.size), .string (rdOf ByteArray.empty y127 x81_1)] rfl gA ?_; (with_reducible refine (strings_HasPrefix.calls (a0.extract (a1 : Int).toNat a0.size) (rdOf ByteArray.empty y127 x81_1) false _ A102.out).mono ?_); rintro e w' ⟨rfl, ⟨nd, rfl⟩⟩; refine ⟨_, rfl, ?_⟩))
     go_roundg k1
     case measure => exact jC
     case rel => exact ⟨(wrap64 (x81_1 + 1)), x109000_1, x109001_1, x109002_1, x109003_1, x109004_1, xR, H', ⟨jC⟩, ⟨rO HO_79⟩, ⟨bK BK108⟩, ⟨bK BK113⟩, ⟨hS⟩⟩
    subst c103
    replace H := iT H
    simp only [Option.some.injEq, Prod.mk.injEq] at H
    obtain ⟨rfl, rfl, rfl, rfl, rfl, rfl⟩ := H
    have p130 : 0 ≤ (x81_1 : Int) := oA
    have q130 : x81_1 < (y127.length : Int) := oA
    obtain ⟨ad130, e130, hx130_0⟩ := Kd.at_string (Kd.R_reads' HO_79.out).2.2 x81_1 p130 q130
    cases e130
    replace p130 := eq_true p130
    replace q130 := eq_true q130
    go_wp2_with (first | ((with_reducible refine gate_callee (f := 69) rfl ?_); refine goesL_ (some 89) rfl rfl Tryz.func69 (by kernel_rfl) rfl #[.string (a0.extract (a1 : Int).toNat a0.size), .string (rdOf ByteArray.empty y127 x81_1)] rfl gA ?_; (with_reducible refine (strings_HasPrefix.calls (a0.extract (a1 : Int).toNat a0.size) (rdOf ByteArray.empty y127 x81_1) true _ A102.out).mono ?_); rintro e w' ⟨rfl, ⟨nd, rfl⟩⟩; refine ⟨_, rfl, ?_⟩; (try (rw [drewN_self wr]; generalize hq_ : World.drewN wr _ = wr; have n0_ : Aside0 (Kd.R Kd.string 9 wr w.heap.size (fun _ => True) (.slice (some ad130) y127.length co96) y127) := ⟨by rw [← hq_]; exact (rO HO_79)⟩; have n1_ : Aside0 (wr.heap[gb108]? = some (.cells #[.int .i64 x109000_1, .string x109001_1, .int .i64 x109002_1, .int .u64 x109003_1, .int .i64 x109004_1] 44 (0, 0))) := ⟨by rw [← hq_]; exact (bK BK108)⟩; have n2_ : Aside0 (wr.heap[gb113]? = some (.cells #[.bool t109, .bool false, .bool false, .bool t112] 89 (0, 0))) := ⟨by rw [← hq_]; exact (bK BK113)⟩; have n3_ : Aside0 (Below w.heap.size w wr) := ⟨by rw [← hq_]; exact hS⟩; clear HO_79 BK108 BK113 HB hq_; have HO_79 := n0_; have BK108 := n1_; have BK113 := n2_; have HB := n3_; clear n0_ n1_ n2_ n3_)); have hnb104 := NB108_113.out; have hnc104 := NB113_108.out; have hcz105_0 : wr.cell? ⟨gb108, 0, none⟩ = some (.int .i64 x109000_1) := (zC BK108.out 0).trans rfl; have hcz105_1 : wr.cell? ⟨gb108, 1, none⟩ = some (.string x109001_1) := (zC BK108.out 1).trans rfl; have hcz105_2 : wr.cell? ⟨gb108, 2, none⟩ = some (.int .i64 x109002_1) := (zC BK108.out 2).trans rfl; have hcz105_3 : wr.cell? ⟨gb108, 3, none⟩ = some (.int .u64 x109003_1) := (zC BK108.out 3).trans rfl; have hcz105_4 : wr.cell? ⟨gb108, 4, none⟩ = some (.int .i64 x109004_1) := (zC BK108.out 4).trans rfl; have hfz105_0 := zF BK108.out 0; have hfz105_1 := zF BK108.out 1; have hfz105_2 := zF BK108.out 2; have hfz105_3 := zF BK108.out 3; have hfz105_4 := zF BK108.out 4))
    refine bodyPost_ret (results_ct rfl _ _ gb108 44 #[.int .i64 5, .string (rdOf ByteArray.empty y127 x81_1), .int .i64 0, .int .u64 0, .int .i64 a1] (0, 0) _ rfl (bP BK108) Tryz.underlying44 rfl (by kernel_rfl)) rfl ?_
    exact ⟨eR, hS⟩
   rw [if_neg c97] at H
   have c97b0 := dF c97
   clear c97
   replace H := nI H
   obtain ⟨c106, H⟩ := H
   have c106b0 := dT c106
   clear c106
   replace H := nI H
   obtain ⟨c107, H⟩ := H
   have c107b0 := dT c107
   clear c107
   replace H := Option.bind_eq_some_iff.mp H
   obtain ⟨t132, A1090, H⟩ := H
   replace H : (if t132 < 0 then (some (0, (⟨#[]⟩ : ByteArray), 0, 0, 0, 10)) else (if a1 ≤ (wrap64 (a1 + 1)) then (if (wrap64 (a1 + 1)) ≤ (a0.size : Int) then (some (5, a0.extract (a1 : Int).toNat ((wrap64 (a1 + 1)) : Int).toNat, 0, 0, a1, 0)) else (none)) else (none))) = some (r1, r2, r3, r4, r5, r6) := H
   have A109 := aM A1090
   clear A1090
   by_cases c110 : t132 < 0
   ·rw [if_pos c110] at H
    have c110b0 := dT c110
    clear c110
    simp only [Option.some.injEq, Prod.mk.injEq] at H
    obtain ⟨rfl, rfl, rfl, rfl, rfl, rfl⟩ := H
    have p108 : (0 ≤ a1) = True := eT
    have q108 : (a1 < (a0.size : Int)) = True := eT
    have hx108 := bt_at a0 a1
    go_wp2_with (first | ((with_reducible refine gate_callee (f := 37) rfl ?_); refine goesL_ (some 97) rfl rfl Tryz.func37 (by kernel_rfl) rfl #[.string (⟨#[40, 41, 123, 125, 44, 59, 58, 46, 61, 43, 45, 42, 47, 37, 60, 62, 33]⟩ : ByteArray), .int .u8 (bt a0 a1)] rfl gA ?_; (with_reducible refine (strings_IndexByte.calls (⟨#[40, 41, 123, 125, 44, 59, 58, 46, 61, 43, 45, 42, 47, 37, 60, 62, 33]⟩ : ByteArray) (bt a0 a1) t132 _ A109.out).mono ?_); rintro e w111 ⟨rfl, hb⟩; refine ⟨_, rfl, ?_⟩; have n0_ := aM (Kd.R_below (rO HO_79) hb); have n1_ := aM (blk_below (bK BK108) hb); have n2_ := aM (blk_below (bK BK113) hb); have n3_ := aM (below_step (hS) hb); clear HO_79; clear BK108; clear BK113; clear HB; have HO_79 := n0_; have BK108 := n1_; have BK113 := n2_; have HB := n3_; clear n0_ n1_ n2_ n3_; have hnb112 := NB108_113.out; have hnc112 := NB113_108.out; have hcz113_0 : w111.cell? ⟨gb108, 0, none⟩ = some (.int .i64 x109000_1) := (zC BK108.out 0).trans rfl; have hcz113_1 : w111.cell? ⟨gb108, 1, none⟩ = some (.string x109001_1) := (zC BK108.out 1).trans rfl; have hcz113_2 : w111.cell? ⟨gb108, 2, none⟩ = some (.int .i64 x109002_1) := (zC BK108.out 2).trans rfl; have hcz113_3 : w111.cell? ⟨gb108, 3, none⟩ = some (.int .u64 x109003_1) := (zC BK108.out 3).trans rfl; have hcz113_4 : w111.cell? ⟨gb108, 4, none⟩ = some (.int .i64 x109004_1) := (zC BK108.out 4).trans rfl; have hfz113_0 := zF BK108.out 0; have hfz113_1 := zF BK108.out 1; have hfz113_2 := zF BK108.out 2; have hfz113_3 := zF BK108.out 3; have hfz113_4 := zF BK108.out 4))
    refine bodyPost_ret (results_ct rfl _ _ gb108 44 #[.int .i64 0, .string (⟨#[]⟩ : ByteArray), .int .i64 0, .int .u64 0, .int .i64 0] (0, 0) _ rfl (bP BK108) Tryz.underlying44 rfl (by kernel_rfl)) rfl ?_
    exact ⟨eR, hS⟩
   rw [if_neg c110] at H
   have c110b0 := dF c110
   clear c110
   have c114b0 := eq_true (oA : 0 ≤ a1)
   replace H := nI H
   obtain ⟨c115, H⟩ := H
   have c115b0 := eq_true c115
   have c115b1 := dT c115
   replace H := nI H
   obtain ⟨c116, H⟩ := H
   have c116b0 := eq_true c116
   have c116b1 := dT c116
   simp only [Option.some.injEq, Prod.mk.injEq] at H
   obtain ⟨rfl, rfl, rfl, rfl, rfl, rfl⟩ := H
   have p108 : (0 ≤ a1) = True := eT
   have q108 : (a1 < (a0.size : Int)) = True := eT
   have hx108 := bt_at a0 a1
   go_wp2_with (first | ((with_reducible refine gate_callee (f := 37) rfl ?_); refine goesL_ (some 97) rfl rfl Tryz.func37 (by kernel_rfl) rfl #[.string (⟨#[40, 41, 123, 125, 44, 59, 58, 46, 61, 43, 45, 42, 47, 37, 60, 62, 33]⟩ : ByteArray), .int .u8 (bt a0 a1)] rfl gA ?_; (with_reducible refine (strings_IndexByte.calls (⟨#[40, 41, 123, 125, 44, 59, 58, 46, 61, 43, 45, 42, 47, 37, 60, 62, 33]⟩ : ByteArray) (bt a0 a1) t132 _ A109.out).mono ?_); rintro e w117 ⟨rfl, hb⟩; refine ⟨_, rfl, ?_⟩; have n0_ := aM (Kd.R_below (rO HO_79) hb); have n1_ := aM (blk_below (bK BK108) hb); have n2_ := aM (blk_below (bK BK113) hb); have n3_ := aM (below_step (hS) hb); clear HO_79; clear BK108; clear BK113; clear HB; have HO_79 := n0_; have BK108 := n1_; have BK113 := n2_; have HB := n3_; clear n0_ n1_ n2_ n3_; have hnb118 := NB108_113.out; have hnc118 := NB113_108.out; have hcz119_0 : w117.cell? ⟨gb108, 0, none⟩ = some (.int .i64 x109000_1) := (zC BK108.out 0).trans rfl; have hcz119_1 : w117.cell? ⟨gb108, 1, none⟩ = some (.string x109001_1) := (zC BK108.out 1).trans rfl; have hcz119_2 : w117.cell? ⟨gb108, 2, none⟩ = some (.int .i64 x109002_1) := (zC BK108.out 2).trans rfl; have hcz119_3 : w117.cell? ⟨gb108, 3, none⟩ = some (.int .u64 x109003_1) := (zC BK108.out 3).trans rfl; have hcz119_4 : w117.cell? ⟨gb108, 4, none⟩ = some (.int .i64 x109004_1) := (zC BK108.out 4).trans rfl; have hfz119_0 := zF BK108.out 0; have hfz119_1 := zF BK108.out 1; have hfz119_2 := zF BK108.out 2; have hfz119_3 := zF BK108.out 3; have hfz119_4 := zF BK108.out 4))
   refine bodyPost_ret (results_ct rfl _ _ gb108 44 #[.int .i64 5, .string (a0.extract (a1 : Int).toNat ((wrap64 (a1 + 1)) : Int).toNat), .int .i64 0, .int .u64 0, .int .i64 a1] (0, 0) _ rfl (bP BK108) Tryz.underlying44 rfl (by kernel_rfl)) rfl ?_
   exact ⟨eR, hS⟩
end lex_one
namespace lex_Lex
mutual
def l0 : Nat → ByteArray → List (S44) → Int → Option ((List (S44)) × Int × Int)
  | 0, _, _, _ => none
  | k + 1, x0, x5, x6 => if x6 < (x0.size : Int) then ((lex_one.f k x0 x6).bind fun bt134 => (if bt134.2.2.2.2.2 = 0 then (j1 k x0 x5 x6 bt134.2.2.2.2.2 ((x5.length : Int) == 1024) bt134.1 bt134.2.1 bt134.2.2.1 bt134.2.2.2.1 bt134.2.2.2.2.1) else (j1 k x0 x5 x6 bt134.2.2.2.2.2 false bt134.1 bt134.2.1 bt134.2.2.1 bt134.2.2.2.1 bt134.2.2.2.2.1))) else (some (x5, 0, 0))
def j1 : Nat → ByteArray → List (S44) → Int → Int → Bool → Int → ByteArray → Int → Int → Int → Option ((List (S44)) × Int × Int)
  | 0, _, _, _, _, _, _, _, _, _, _ => none
  | k + 1, x0, x5, x6, x8, x33, x141000, x141001, x141002, x141003, x141004 => if x33 = true then (some (([] : List (S44)), x6, 3)) else (if x8 = 0 then (if x5.length < 2932031007402 then ((lex_skipped.f k x0 (wrap64 (x6 + (x141001.size : Int)))).bind fun t144 => (l0 k x0 (x5 ++ [(⟨x141000, x141001, (⟨x141002, x141003⟩ : S41), x141004⟩ : S44)]) t144)) else (none)) else (some (([] : List (S44)), x6, x8)))
end
def f (k : Nat) (a0 : ByteArray) : Option ((List (S44)) × Int × Int) := if (a0.size : Int) > 4096 then (some (([] : List (S44)), 0, 3)) else ((lex_skipped.f k a0 0).bind fun t133 => (l0 k a0 ([] : List (S44)) t133))
theorem mono_l : ∀ k, (∀ y0 y1 y2, LeO (l0 k y0 y1 y2) (l0 (k + 1) y0 y1 y2)) ∧ (∀ y0 y1 y2 y3 y4 y5 y6 y7 y8 y9, LeO (j1 k y0 y1 y2 y3 y4 y5 y6 y7 y8 y9) (j1 (k + 1) y0 y1 y2 y3 y4 y5 y6 y7 y8 y9))
  | 0 => by refine ⟨?_, ?_⟩ <;> (intros; exact LeO.none _)
  | k + 1 => by
    obtain ⟨ih0, ih1⟩ := mono_l k
    refine ⟨?_, ?_⟩ <;> intros <;> first | unfold l0 | unfold j1
    all_goals repeat' first
    | (with_reducible first | apply ih0 | apply ih1 | apply lex_one.mono | apply lex_skipped.mono | exact LeO.refl _ | exact LeO.none _ | refine LeO.ite ?_ ?_ | refine LeO.bind ?_ (fun _ => ?_))
    | exact LeO.none _ | refine LeO.ite ?_ ?_ | refine LeO.bind ?_ (fun _ => ?_)
theorem mono : ∀ a0 k, LeO (f k a0) (f (k + 1) a0) := by
  intro a0 k
  obtain ⟨ih0, ih1⟩ := mono_l k
  unfold f
  repeat' first
      | (with_reducible first | apply ih0 | apply ih1 | apply lex_one.mono | apply lex_skipped.mono | exact LeO.refl _ | exact LeO.none _ | refine LeO.ite ?_ ?_ | refine LeO.bind ?_ (fun _ => ?_))
      | exact LeO.none _ | refine LeO.ite ?_ ?_ | refine LeO.bind ?_ (fun _ => ?_)
set_option maxHeartbeats 8000000 in
set_option maxRecDepth 100000 in
theorem calls (k : Nat) (a0 : ByteArray) (r1 : List (S44)) (r2 : Int) (r3 : Int) (w : World) (hLaid : LaidOk w) (h : f k a0 = some (r1, r2, r3)) :
    Calls Tryz.prog 21 #[.string a0] w fun e w' => ∃ v0_ : Value, e = .returned (.tuple #[v0_, .int .i64 r2, .int .i64 r3]) ∧ Kd.R k44 44 w' w.heap.size (fun _ => True) v0_ r1 ∧ Below w.heap.size w w' := by
 have hu44 := Tryz.underlying44
 have HLAID := aM hLaid
 clear hLaid
 have HB := aM (Below.refl w.heap.size w)
 have H : (if (a0.size : Int) > 4096 then (some (([] : List (S44)), 0, 3)) else ((lex_skipped.f k a0 0).bind fun t133 => (l0 k a0 ([] : List (S44)) t133))) = some (r1, r2, r3) := h
 clear h
 by_cases c2 : (a0.size : Int) > 4096
 ·rw [if_pos c2] at H
  have c2b0 : decide (4096 < (a0.size : Int)) = true := decide_eq_true c2
  have c2b1 : decide (4096 < a0.size) = true := decide_eq_true (by omega)
  clear c2
  simp only [Option.some.injEq, Prod.mk.injEq] at H
  obtain ⟨rfl, rfl, rfl⟩ := H
  go_enter Tryz.func21, Tryz.ntmps21
  go_wp2
  go_ret3
  exact ⟨_, eR, by first | exact Kd.R_nil _ _ _ _ _ | exact Kd.N_nil _ _ _ _ _ | exact Kd.V_nil _ _ _ _ _ | exact Kd.Q_nil _ _ _ _ _ | exact Kd.S_nil _ _ _ _ _, hB⟩
 rw [if_neg c2] at H
 have c2b0 : decide (4096 < (a0.size : Int)) = false := decide_eq_false c2
 have c2b1 : decide (4096 < a0.size) = false := decide_eq_false (by omega)
 clear c2
 replace H := Option.bind_eq_some_iff.mp H
 obtain ⟨t133, A30, H⟩ := H
 replace H : (l0 k a0 ([] : List (S44)) t133) = some (r1, r2, r3) := H
 have A3 := aM A30
 clear A30
 have H' := aM H
 clear H
 go_enter Tryz.func21, Tryz.ntmps21
 go_wp2_with (first | ((with_reducible refine gate_callee (f := 48) rfl ?_); refine goesL_ (some 13) rfl rfl Tryz.func48 (by kernel_rfl) rfl #[.string a0, .int .i64 0] rfl gA ?_; (with_reducible refine (lex_skipped.calls k a0 0 t133 _ A3.out).mono ?_); rintro e w4 ⟨rfl, hb⟩; refine ⟨_, rfl, ?_⟩; have n0_ := aM (below_step (hB) hb); clear HB; have HB := n0_; clear n0_))
 go_loopg [5, 6] k (fun kq v5 v6 w' => ∃ (x5_1 : List (S44)) (x6_1 : Int), v6 = .int .i64 x6_1 ∧ Aside0 (l0 kq a0 x5_1 x6_1 = some (r1, r2, r3)) ∧ Aside0 (kq ≤ k) ∧ Aside0 (Kd.R k44 44 w' w.heap.size (fun _ => True) v5 x5_1) ∧ Aside0 (Below w.heap.size w w'))
 case atStart => exact ⟨(([] : List (S44))), t133, xR, H', ⟨Nat.le_refl _⟩, ⟨by first | exact Kd.R_nil _ _ _ _ _ | exact Kd.N_nil _ _ _ _ _ | exact Kd.V_nil _ _ _ _ _ | exact Kd.Q_nil _ _ _ _ _ | exact Kd.S_nil _ _ _ _ _⟩, ⟨hB⟩⟩
 case round =>
  clear H'
  obtain ⟨x5_1, x6_1, rfl, HA, HK1, HO_5, HB⟩ := hrel
  cases gk with
  | zero => exact absurd HA.out (by simp [l0])
  | succ k1 =>
   have H := HA.out
   clear HA
   simp only [l0] at H
   by_cases c5 : x6_1 < (a0.size : Int)
   rotate_left
   ·rw [if_neg c5] at H
    have c5b0 := dF c5
    clear c5
    simp only [Option.some.injEq, Prod.mk.injEq] at H
    obtain ⟨rfl, rfl, rfl⟩ := H
    go_wp2
    go_ret3
    exact ⟨_, eR, by (with_reducible repeat (first | apply Kd.R_alloc | apply Kd.R_drewN | apply Kd.R_drew)); exact HO_5.out, hB⟩
   rw [if_pos c5] at H
   have c5b0 := dT c5
   clear c5
   replace H := Option.bind_eq_some_iff.mp H
   obtain ⟨⟨t134, t135, t136, t137, t138, t139⟩, A60, H⟩ := H
   replace H : (if t139 = 0 then (j1 k1 a0 x5_1 x6_1 t139 ((x5_1.length : Int) == 1024) t134 t135 t136 t137 t138) else (j1 k1 a0 x5_1 x6_1 t139 false t134 t135 t136 t137 t138)) = some (r1, r2, r3) := H
   have A6 := aM A60
   clear A60
   have HC7 := aM H
   clear H
   go_upto_region 8 with (first | ((with_reducible refine gate_callee (f := 49) rfl ?_); refine goesL_ (some 24) rfl rfl Tryz.func49 (by kernel_rfl) rfl #[.string a0, .int .i64 x6_1] rfl gA ?_; (with_reducible refine (lex_one.calls k1 a0 x6_1 t134 t135 t136 t137 t138 t139 _ ?side1 A6.out).mono ?_); (case side1 => exact LaidOk.below (hB) HLAID.out); rintro e w8 ⟨rfl, hb⟩; refine ⟨_, rfl, ?_⟩; have n0_ := aM (Kd.R_below (rO HO_5) hb); have n1_ := aM (below_step (hB) hb); clear HO_5; clear HB; have HO_5 := n0_; have HB := n1_; clear n0_ n1_) | ((with_reducible refine gate_dst (N := 7) rfl ?_); (try (refine gate_guard (by rfl) ?_; dsimp only)); refine box_event ?hg (N := 7) ?hd (cs := #[.int .i64 0, .string (⟨#[]⟩ : ByteArray), .int .i64 0, .int .u64 0, .int .i64 0]) (t := 44) ?hr ?_; (case hd => rfl); (case hg => rfl); (case hr => first | (go_simp; done) | (go_simp; rfl)); intro gb140 hg w9 hbox hb; have n0_ := aM (Kd.R_below (Kd.R_elderB (rO HO_5) gb140 (Nat.le_of_eq hg.symm)) hb); have n1_ := aM (below_step (hB) hb); have n2_ := aM (hbox); have n3_ := aM ((by rw [hg]; exact (below_size (hB)) : w.heap.size ≤ gb140)); have n4_ := aM ((by rw [hg]; exact (below_size (hB)) : w.heap.size ≤ gb140)); clear HO_5; clear HB; have HO_5 := n0_; have HB := n1_; have BK140 := n2_; have GW140 := n3_; have GE140 := n4_; clear n0_ n1_ n2_ n3_ n4_; clear hb hbox hg; have hcz10_0 : w9.cell? ⟨gb140, 0, none⟩ = some (.int .i64 0) := (zC BK140.out 0).trans rfl; have hcz10_1 : w9.cell? ⟨gb140, 1, none⟩ = some (.string (⟨#[]⟩ : ByteArray)) := (zC BK140.out 1).trans rfl; have hcz10_2 : w9.cell? ⟨gb140, 2, none⟩ = some (.int .i64 0) := (zC BK140.out 2).trans rfl; have hcz10_3 : w9.cell? ⟨gb140, 3, none⟩ = some (.int .u64 0) := (zC BK140.out 3).trans rfl; have hcz10_4 : w9.cell? ⟨gb140, 4, none⟩ = some (.int .i64 0) := (zC BK140.out 4).trans rfl; have hfz10_0 := zF BK140.out 0; have hfz10_1 := zF BK140.out 1; have hfz10_2 := zF BK140.out 2; have hfz10_3 := zF BK140.out 3; have hfz10_4 := zF BK140.out 4))
   (try simp only [Act.put, List.setIfInBounds_toArray, List.set_cons_zero, List.set_cons_succ])
   go_cut [33] (fun v33 wc => ∃ (kq : Nat) (x33_6 : Bool), v33 = .bool x33_6 ∧ Aside0 (j1 kq a0 x5_1 x6_1 t139 x33_6 t134 t135 t136 t137 t138 = some (r1, r2, r3)) ∧ Aside0 (kq ≤ k1) ∧ Aside0 (Kd.R k44 44 wc w.heap.size (fun k_ => k_ ≠ gb140) u5 x5_1) ∧ Aside0 (wc.heap[gb140]? = some (.cells #[.int .i64 t134, .string t135, .int .i64 t136, .int .u64 t137, .int .i64 t138] 44 (0, 0))) ∧ Aside0 (Below w.heap.size w wc))
   case first =>
    have H := HC7.out
    clear HC7
    by_cases c11 : t139 = 0
    rotate_left
    ·rw [if_neg c11] at H
     have c11b0 := bF c11
     have c11b1 := mT c11
     (first | rw [c11b0] | (simp only [i64_w, i32_w]; rw [c11b0]) | skip)
     have H' := aM H
     clear H
     go_wp2
     go_meet
     case rel => exact ⟨_, false, xR, H', ⟨jC⟩, ⟨by (with_reducible repeat (first | apply Kd.R_alloc | apply Kd.R_drewN | apply Kd.R_drew)); exact Kd.R_mono (Kd.R_far (p := ⟨gb140, 4, none⟩) (Kd.R_far (p := ⟨gb140, 3, none⟩) (Kd.R_far (p := ⟨gb140, 2, none⟩) (Kd.R_far (p := ⟨gb140, 1, none⟩) (Kd.R_far (p := ⟨gb140, 0, none⟩) (Kd.R_mono HO_5.out (fun k_ hk => (⟨hk, hk.2⟩ : _ ∧ k_ ≠ gb140))) (fun _ hk => hk.2) (.int .i64 t134)) (fun _ hk => hk.2) (.string t135)) (fun _ hk => hk.2) (.int .i64 t136)) (fun _ hk => hk.2) (.int .u64 t137)) (fun _ hk => hk.2) (.int .i64 t138)) (fun _ hk => hk.1.2)⟩, ⟨bP BK140⟩, ⟨hS⟩⟩
    rw [if_pos c11] at H
    have c11b0 := bT c11
    have c11b1 := mF c11
    clear c11
    (first | rw [c11b0] | (simp only [i64_w, i32_w]; rw [c11b0]) | skip)
    have H' := aM H
    clear H
    obtain ⟨Ao12, co12, eo12⟩ := Kd.R_slice HO_5.out
    subst eo12
    go_wp2
    go_meet
    case rel => exact ⟨_, (((x5_1.length : Int) == 1024)), xR, H', ⟨jC⟩, ⟨by (with_reducible repeat (first | apply Kd.R_alloc | apply Kd.R_drewN | apply Kd.R_drew)); exact Kd.R_mono (Kd.R_far (p := ⟨gb140, 4, none⟩) (Kd.R_far (p := ⟨gb140, 3, none⟩) (Kd.R_far (p := ⟨gb140, 2, none⟩) (Kd.R_far (p := ⟨gb140, 1, none⟩) (Kd.R_far (p := ⟨gb140, 0, none⟩) (Kd.R_mono HO_5.out (fun k_ hk => (⟨hk, hk.2⟩ : _ ∧ k_ ≠ gb140))) (fun _ hk => hk.2) (.int .i64 t134)) (fun _ hk => hk.2) (.string t135)) (fun _ hk => hk.2) (.int .i64 t136)) (fun _ hk => hk.2) (.int .u64 t137)) (fun _ hk => hk.2) (.int .i64 t138)) (fun _ hk => hk.1.2)⟩, ⟨bP BK140⟩, ⟨hS⟩⟩
   case rest =>
    clear HC7
    obtain ⟨kq, x33_6, rfl, HA, HJ6, HO_5, BK140, HB⟩ := hcut
    cases kq with
    | zero => exact absurd HA.out (by simp [j1])
    | succ kj6 =>
     have H := HA.out
     clear HA
     simp only [j1] at H
     by_cases c13 : x33_6 = true
     ·subst c13
      replace H := iT H
      simp only [Option.some.injEq, Prod.mk.injEq] at H
      obtain ⟨rfl, rfl, rfl⟩ := H
      go_wp2
      go_ret3
      exact ⟨_, eR, by first | exact Kd.R_nil _ _ _ _ _ | exact Kd.N_nil _ _ _ _ _ | exact Kd.V_nil _ _ _ _ _ | exact Kd.Q_nil _ _ _ _ _ | exact Kd.S_nil _ _ _ _ _, hS⟩
     replace c13 := nF c13
     subst c13
     replace H := iF H
     by_cases c14 : t139 = 0
     rotate_left
     ·rw [if_neg c14] at H
      have c14b0 := bF c14
      have c14b1 := mT c14
      simp only [Option.some.injEq, Prod.mk.injEq] at H
      obtain ⟨rfl, rfl, rfl⟩ := H
      go_wp2
      go_ret3
      exact ⟨_, eR, by first | exact Kd.R_nil _ _ _ _ _ | exact Kd.N_nil _ _ _ _ _ | exact Kd.V_nil _ _ _ _ _ | exact Kd.Q_nil _ _ _ _ _ | exact Kd.S_nil _ _ _ _ _, hS⟩
     rw [if_pos c14] at H
     have c14b0 := bT c14
     have c14b1 := mF c14
     clear c14
     replace H := nI H
     obtain ⟨c15, H⟩ := H
     have LMc15 := aM c15
     clear c15
     obtain ⟨y141, hy141⟩ : ∃ y_ : List (S44), y_ = (x5_1 ++ [(⟨t134, t135, (⟨t136, t137⟩ : S41), t138⟩ : S44)]) := ⟨_, rfl⟩
     replace H : ((lex_skipped.f kj6 a0 (wrap64 (x6_1 + (t135.size : Int)))).bind fun t144 => (l0 kj6 a0 y141 t144)) = some (r1, r2, r3) := by first | (rw [hy141]; with_reducible exact H) | (have H2_ := (Option.bind_some _ _).symm.trans H; rw [hy141]; with_reducible exact H2_) | (have H2_ := (Option.bind_some _ _).symm.trans H; with_reducible exact H2_) | with_reducible exact H | (rw [hy141]; exact H) | exact H
     have Ny141 := aM hy141
     clear hy141
     replace H := Option.bind_eq_some_iff.mp H
     obtain ⟨t144, A160, H⟩ := H
     replace H : (l0 kj6 a0 y141 t144) = some (r1, r2, r3) := H
     have A16 := aM A160
     clear A160
     have H' := aM H
     clear H
     have hcz17_0 : wc.cell? ⟨gb140, 0, none⟩ = some (.int .i64 t134) := (zC BK140.out 0).trans rfl
     have hcz17_1 : wc.cell? ⟨gb140, 1, none⟩ = some (.string t135) := (zC BK140.out 1).trans rfl
     have hcz17_2 : wc.cell? ⟨gb140, 2, none⟩ = some (.int .i64 t136) := (zC BK140.out 2).trans rfl
     have hcz17_3 : wc.cell? ⟨gb140, 3, none⟩ = some (.int .u64 t137) := (zC BK140.out 3).trans rfl
     have hcz17_4 : wc.cell? ⟨gb140, 4, none⟩ = some (.int .i64 t138) := (zC BK140.out 4).trans rfl
     have hfz17_0 := zF BK140.out 0
     have hfz17_1 := zF BK140.out 1
     have hfz17_2 := zF BK140.out 2
     have hfz17_3 := zF BK140.out 3
     have hfz17_4 := zF BK140.out 4
     go_wp2_with (first | ((with_reducible refine gate_builtin (b := .append) (xs := #[.tmp 38, .tmp 40]) rfl ?_); (try (refine gate_guard (by rfl) ?_; dsimp only)); at_builtin; refine Kd.R_append k44 (w0 := w) w.heap.size rfl (.tmp 38) (.tmp 40) 33 44 (.agg #[(.int .i64 0), (.string ⟨#[]⟩), (.int .i64 0), (.int .u64 0), (.int .i64 0)]) 48 rfl Tryz.underlying33 info44 rfl (by decide) (by omega) u5 x5_1 (⟨t134, t135, (⟨t136, t137⟩ : S41), t138⟩ : S44) [.int .i64 t134, .string t135, .int .i64 t136, .int .u64 t137, .int .i64 t138] (fun k_ => k_ ≠ gb140) (fun _ => False) rfl rfl ?aP (fun _ hk => hk.elim) ?aF ?aO ?aB ?aS ?aL ?_; (case aP => exact k44_mkM _ _ _ (⟨t134, t135, (⟨t136, t137⟩ : S41), t138⟩ : S44)); (case aB => exact (hS)); (case aF => exact (fun k_ hk => Kd.freshB (g := gb140) (o := .cells #[.int .i64 t134, .string t135, .int .i64 t136, .int .u64 t137, .int .i64 t138] 44 (0, 0)) (bK BK140) k_ hk)); (case aO => exact (rO HO_5)); (case aS => exact (below_size (hS))); (case aL => have := LMc15.out; omega); intro v142 w18 ho hb hg hat; rw [← Ny141.out] at ho; have n0_ := aM (blk_grown (g := gb140) (o := .cells #[.int .i64 t134, .string t135, .int .i64 t136, .int .u64 t137, .int .i64 t138] 44 (0, 0)) (bK BK140) hg (Kd.R_away HO_5.out (fun _ hk => hk))); have n1_ := aM (hb); have n2_ := aM (ho); clear BK140; clear HB; clear HO_5; have BK140 := n0_; have HB := n1_; have HO143 := n2_; clear n0_ n1_ n2_; clear ho hb hg hat; have hcz19_0 : w18.cell? ⟨gb140, 0, none⟩ = some (.int .i64 t134) := (zC BK140.out 0).trans rfl; have hcz19_1 : w18.cell? ⟨gb140, 1, none⟩ = some (.string t135) := (zC BK140.out 1).trans rfl; have hcz19_2 : w18.cell? ⟨gb140, 2, none⟩ = some (.int .i64 t136) := (zC BK140.out 2).trans rfl; have hcz19_3 : w18.cell? ⟨gb140, 3, none⟩ = some (.int .u64 t137) := (zC BK140.out 3).trans rfl; have hcz19_4 : w18.cell? ⟨gb140, 4, none⟩ = some (.int .i64 t138) := (zC BK140.out 4).trans rfl; have hfz19_0 := zF BK140.out 0; have hfz19_1 := zF BK140.out 1; have hfz19_2 := zF BK140.out 2; have hfz19_3 := zF BK140.out 3; have hfz19_4 := zF BK140.out 4) | ((with_reducible refine gate_callee (f := 48) rfl ?_); refine goesL_ (some 20) rfl rfl Tryz.func48 (by kernel_rfl) rfl #[.string a0, .int .i64 (wrap64 (x6_1 + (t135.size : Int)))] rfl gA ?_; (with_reducible refine (lex_skipped.calls kj6 a0 (wrap64 (x6_1 + (t135.size : Int))) t144 _ A16.out).mono ?_); rintro e w20 ⟨rfl, hb⟩; refine ⟨_, rfl, ?_⟩; have n0_ := aM (Kd.R_below (rO HO143) hb); have n1_ := aM (blk_below (bK BK140) hb); have n2_ := aM (below_step (hS) hb); clear HO143; clear BK140; clear HB; have HO143 := n0_; have BK140 := n1_; have HB := n2_; clear n0_ n1_ n2_))
     go_roundg kj6
     case measure => exact jC
     case rel => exact ⟨(y141), t144, xR, H', ⟨jC⟩, ⟨by (with_reducible repeat (first | apply Kd.R_alloc | apply Kd.R_drewN | apply Kd.R_drew)); exact Kd.R_mono HO143.out (fun _ hk => trivial)⟩, ⟨hS⟩⟩
end lex_Lex
end Go.Proofs.YthifejhdmjoolaaGreatDoor.QE
