import Derived.Test.YtbhgpegcdiohlaaGreatDoorCpH
namespace Go.Proofs.YtbhgpegcdiohlaaGreatDoor.Tr
open Go Go.RowKit Go.Proofs
set_option linter.unusedVariables false
set_option maxRecDepth 100000
set_option maxHeartbeats 4000000
def SpPost (lo hi : Nat) (w : World) (e : Ending) (w' : World) : Prop := e = .returned (.tuple #[]) ∧ Sp lo hi w w'
def SpoE (lo hi : Nat) (w0 : World) (B o : Nat) : Prop := ∀ w, Sp lo hi w0 w → ∀ A l c, w.cell? ⟨B, o + 6, none⟩ = some (.slice A l c) → Calls Tryz.prog 69 #[.slice A l c] w (SpPost lo hi w)
theorem OwE.cells {lo hi : Nat} {w : World} {B o : Nat} (h : OwE lo hi w B o) : lo ≤ B ∧ B < hi ∧ (∀ r, w.frozen? ⟨B, r, none⟩ = false) ∧ (∃ n, w.cell? ⟨B, o, none⟩ = some (.int .i64 n)) ∧ (∃ s, w.cell? ⟨B, o + 3, none⟩ = some (.string s)) ∧ ∃ A l c, w.cell? ⟨B, o + 6, none⟩ = some (.slice A l c) := by
  cases h with
  | mk _ _ n s A l c B' o' h1 h2 h3 h4 h5 h6 h7 h8 h9 => exact ⟨h1, h2, h3, ⟨n, h4⟩, ⟨s, h5⟩, A, l, c, h6⟩
theorem spoil69 (lo hi : Nat) (w0 : World) (A : Option Addr) (l c B o : Nat) (hl : l ≤ 9223372036854775807) (hA : 0 < l → A = some ⟨B, o, none⟩) (h : ∀ i, i < l → OwE lo hi w0 B (o + i * 7) ∧ SpoE lo hi w0 B (o + i * 7)) (w : World) (hw : Sp lo hi w0 w) : Calls Tryz.prog 69 #[.slice A l c] w (SpPost lo hi w) := by
  have H := Hd.mk h
  have HA := Hd.mk hA
  have HW := Hd.mk hw
  clear h hA hw
  go_enter Tryz.func69, Tryz.ntmps69
  go_wp2
  go_loopw [2] (fun i w' => ∃ j : Nat, j ≤ l ∧ i = .int .i64 j ∧ Sp lo hi w w') (fun i _ => l - (intOf i).toNat)
  case atStart => exact ⟨0, by omega, rfl, Sp.refl _ _ _⟩
  case round =>
    obtain ⟨j, hj, rfl, hs⟩ := hrel
    have HS := Hd.mk hs
    clear hs
    by_cases hlt : j < l
    · obtain rfl := HA.out (by omega)
      obtain ⟨o1, o2⟩ := H.out j hlt
      obtain ⟨b1, b2, b3, ⟨n, b4⟩, ⟨s, b5⟩, A1, l1, c1, b6⟩ := (o1.sp (HW.out.trans HS.out)).cells
      have X := Hd.mk (o2 wr (HW.out.trans HS.out) A1 l1 c1 b6)
      have O1 := Hd.mk (o1.sp (HW.out.trans HS.out))
      have B12 := Hd.mk (And.intro b1 b2)
      clear o1 o2 b1 b2 b4 b5
      go_wp2_with (go_at_call 69; (with_reducible refine (X.out.mono ?_)); rintro e w3 ⟨rfl, hs3⟩; obtain ⟨_, _, d3, ⟨n3, d4⟩, ⟨s3, d5⟩, _, _, _, d6⟩ := (O1.out.sp hs3).cells; have HS3 := Hd.mk hs3; clear hs3 d6)
      go_roundw
      case rel =>
        refine ⟨j + 1, by omega, by go_num, (HS.out.trans HS3.out).trans ?_⟩
        refine (Sp.cell_kind B12.out.1 B12.out.2 d5 (.inr ⟨_, _, rfl, rfl⟩)).trans (Sp.cell_kind B12.out.1 B12.out.2 (u := .int .i64 n3) ?_ (.inl ⟨_, _, rfl, rfl⟩))
        rw [World.cell?_setCell_other _ _ _ _ (by intro e; injection e with e1 e2; omega)]
        exact d4
      case measure => simp [intOf]; omega
    · obtain rfl : j = l := by omega
      go_wp2_with fail
      go_end0
      exact ⟨rfl, HS.out⟩
theorem spoE {lo hi : Nat} {w0 : World} {B o : Nat} (h : OwE lo hi w0 B o) : SpoE lo hi w0 B o := by
  induction h with
  | mk B o n s A l c B' o' h1 h2 h3 h4 h5 h6 h7 h8 h9 ih =>
    intro w hw A' l' c' hc
    rw [hw.sl B _ A l c h1 h2 h6] at hc
    simp only [Option.some.injEq, Value.slice.injEq] at hc
    obtain ⟨rfl, rfl, rfl⟩ := hc
    exact spoil69 lo hi w0 A l c B' o' h7 h8 (fun i hi => ⟨h9 i hi, ih i hi⟩) w hw
/-- a whole slice of expressions -/
theorem spoil69_any {lo hi : Nat} {w : World} {A : Option Addr} {l c : Nat} (hl : l ≤ 9223372036854775807) (h : SlO 7 (OwE lo hi w) A l) : Calls Tryz.prog 69 #[.slice A l c] w (SpPost lo hi w) := by
  obtain ⟨B, o, h1, h2⟩ := slO_split h
  exact spoil69 lo hi w A l c B o hl h1 (fun i hi => ⟨h2 i hi, spoE (h2 i hi)⟩) w (Sp.refl _ _ _)
def SpoS (lo hi : Nat) (w0 : World) (B o : Nat) : Prop := ∀ w, Sp lo hi w0 w → (∀ A l c, w.cell? ⟨B, o + 3, none⟩ = some (.slice A l c) → Calls Tryz.prog 70 #[.slice A l c] w (SpPost lo hi w)) ∧ ∀ A l c, w.cell? ⟨B, o + 4, none⟩ = some (.slice A l c) → Calls Tryz.prog 70 #[.slice A l c] w (SpPost lo hi w)
theorem OwS.cells {lo hi : Nat} {w : World} {B o : Nat} (h : OwS lo hi w B o) : lo ≤ B ∧ B < hi ∧ (∀ r, w.frozen? ⟨B, r, none⟩ = false) ∧ (∃ n, w.cell? ⟨B, o, none⟩ = some (.int .i64 n)) ∧ (∃ s, w.cell? ⟨B, o + 1, none⟩ = some (.string s)) ∧ (∃ A l c, w.cell? ⟨B, o + 2, none⟩ = some (.slice A l c) ∧ l ≤ 9223372036854775807 ∧ SlO 7 (OwE lo hi w) A l) ∧ (∃ A l c, w.cell? ⟨B, o + 3, none⟩ = some (.slice A l c)) ∧ ∃ A l c, w.cell? ⟨B, o + 4, none⟩ = some (.slice A l c) := by
  cases h with
  | mk _ _ n s A l c A1 l1 c1 B1 o1 A2 l2 c2 B2 o2 h1 h2 h3 h4 h5 h6 h7 h8 g6 g7 g8 g9 k6 k7 k8 k9 => exact ⟨h1, h2, h3, ⟨n, h4⟩, ⟨s, h5⟩, ⟨A, l, c, h6, h7, h8⟩, ⟨A1, l1, c1, g6⟩, A2, l2, c2, k6⟩
theorem spoil70 (lo hi : Nat) (w0 : World) (A : Option Addr) (l c B o : Nat) (hl : l ≤ 9223372036854775807) (hA : 0 < l → A = some ⟨B, o, none⟩) (h : ∀ i, i < l → OwS lo hi w0 B (o + i * 5) ∧ SpoS lo hi w0 B (o + i * 5)) (w : World) (hw : Sp lo hi w0 w) : Calls Tryz.prog 70 #[.slice A l c] w (SpPost lo hi w) := by
  have H := Hd.mk h
  have HA := Hd.mk hA
  have HW := Hd.mk hw
  clear h hA hw
  go_enter Tryz.func70, Tryz.ntmps70
  go_wp2
  go_loopw [2] (fun i w' => ∃ j : Nat, j ≤ l ∧ i = .int .i64 j ∧ Sp lo hi w w') (fun i _ => l - (intOf i).toNat)
  case atStart => exact ⟨0, by omega, rfl, Sp.refl _ _ _⟩
  case round =>
    obtain ⟨j, hj, rfl, hs⟩ := hrel
    have HS := Hd.mk hs
    clear hs
    by_cases hlt : j < l
    · obtain rfl := HA.out (by omega)
      obtain ⟨o1, o2⟩ := H.out j hlt
      have O0 := Hd.mk (o1.sp (HW.out.trans HS.out))
      obtain ⟨b1, b2, b3, _, _, ⟨A1, l1, c1, b6, b7, b8⟩, _, _⟩ := O0.out.cells
      have X := Hd.mk (spoil69_any (c := c1) b7 b8)
      have O2 := Hd.mk (fun w' (h : Sp lo hi w w') => o2 w' (HW.out.trans h))
      have B12 := Hd.mk (And.intro b1 b2)
      clear o1 o2 b1 b2 b7 b8
      go_wp2_with fail
      with_reducible refine (X.out.mono ?_)
      rintro e w3 ⟨rfl, hs3⟩
      have O3 := Hd.mk (O0.out.sp hs3)
      obtain ⟨_, _, d3, _, _, _, ⟨A2, l2, c2, d6⟩, _⟩ := O3.out.cells
      have X3 := Hd.mk ((O2.out w3 (HS.out.trans hs3)).1 A2 l2 c2 d6)
      have HS3 := Hd.mk (HS.out.trans hs3)
      clear hs3 b3 b6
      go_wp2_with fail
      with_reducible refine (X3.out.mono ?_)
      rintro e w4 ⟨rfl, hs4⟩
      have O4 := Hd.mk (O3.out.sp hs4)
      obtain ⟨_, _, f3, _, _, _, _, A3, l3, c3, f6⟩ := O4.out.cells
      have X4 := Hd.mk ((O2.out w4 (HS3.out.trans hs4)).2 A3 l3 c3 f6)
      have HS4 := Hd.mk (HS3.out.trans hs4)
      clear hs4 d3 d6
      go_wp2_with fail
      with_reducible refine (X4.out.mono ?_)
      rintro e w5 ⟨rfl, hs5⟩
      have O5 := Hd.mk (O4.out.sp hs5)
      obtain ⟨_, _, g3, ⟨n3, g4⟩, ⟨s3, g5⟩, _, _, _⟩ := O5.out.cells
      have HS5 := Hd.mk (HS4.out.trans hs5)
      clear hs5 f3 f6
      go_wp2_with fail
      go_roundw
      case rel =>
        refine ⟨j + 1, by omega, by go_num, HS5.out.trans ?_⟩
        refine (Sp.cell_kind B12.out.1 B12.out.2 g5 (.inr ⟨_, _, rfl, rfl⟩)).trans (Sp.cell_kind B12.out.1 B12.out.2 (u := .int .i64 n3) ?_ (.inl ⟨_, _, rfl, rfl⟩))
        rw [World.cell?_setCell_other _ _ _ _ (by intro e; injection e with e1 e2; omega)]
        exact g4
      case measure => simp [intOf]; omega
    · obtain rfl : j = l := by omega
      go_wp2_with fail
      go_end0
      exact ⟨rfl, HS.out⟩
theorem spoS {lo hi : Nat} {w0 : World} {B o : Nat} (h : OwS lo hi w0 B o) : SpoS lo hi w0 B o := by
  induction h with
  | mk B o n s A l c A1 l1 c1 B1 o1 A2 l2 c2 B2 o2 h1 h2 h3 h4 h5 h6 h7 h8 g6 g7 g8 g9 k6 k7 k8 k9 ih1 ih2 =>
    intro w hw
    constructor
    · intro A' l' c' hc
      rw [hw.sl B _ A1 l1 c1 h1 h2 g6] at hc
      simp only [Option.some.injEq, Value.slice.injEq] at hc
      obtain ⟨rfl, rfl, rfl⟩ := hc
      exact spoil70 lo hi w0 A1 l1 c1 B1 o1 g7 g8 (fun i hi => ⟨g9 i hi, ih1 i hi⟩) w hw
    · intro A' l' c' hc
      rw [hw.sl B _ A2 l2 c2 h1 h2 k6] at hc
      simp only [Option.some.injEq, Value.slice.injEq] at hc
      obtain ⟨rfl, rfl, rfl⟩ := hc
      exact spoil70 lo hi w0 A2 l2 c2 B2 o2 k7 k8 (fun i hi => ⟨k9 i hi, ih2 i hi⟩) w hw
theorem spoil70_any {lo hi : Nat} {w : World} {A : Option Addr} {l c : Nat} (hl : l ≤ 9223372036854775807) (h : SlO 5 (OwS lo hi w) A l) : Calls Tryz.prog 70 #[.slice A l c] w (SpPost lo hi w) := by
  obtain ⟨B, o, h1, h2⟩ := slO_split h
  exact spoil70 lo hi w A l c B o hl h1 (fun i hi => ⟨h2 i hi, spoS (h2 i hi)⟩) w (Sp.refl _ _ _)
end Go.Proofs.YtbhgpegcdiohlaaGreatDoor.Tr
