import Derived.Test.YtbhgpegcdiohlaaGreatDoorCpJ
namespace Go.Proofs.YtbhgpegcdiohlaaGreatDoor.Tr
open Go Go.RowKit Go.Proofs
set_option linter.unusedVariables false
set_option maxRecDepth 100000
set_option maxHeartbeats 4000000
theorem Sp.box {lo hi : Nat} {w w' : World} (h : Sp lo hi w w') {B r : Nat} (hB : hi ≤ B) {v : Value} (hc : w.cell? ⟨B, r, none⟩ = some v) : w'.cell? ⟨B, r, none⟩ = some v := by
  have := h.far B (World.block_lt_of_cell? w _ hc) (.inr hB)
  rw [World.cell?_of_block (w := w) (a := ⟨B, r, none⟩) this]
  exact hc
theorem OwD.cells {lo hi : Nat} {w : World} {B o : Nat} (h : OwD lo hi w B o) : lo ≤ B ∧ B < hi ∧ (∀ r, w.frozen? ⟨B, r, none⟩ = false) ∧ (∃ n, w.cell? ⟨B, o, none⟩ = some (.int .i64 n)) ∧ (∃ A l c B' o', w.cell? ⟨B, o + 4, none⟩ = some (.slice A l c) ∧ l ≤ 9223372036854775807 ∧ (0 < l → A = some ⟨B', o', none⟩) ∧ ∀ i, i < l → OwP lo hi w B' (o' + i * 2)) ∧ (∃ A l c, w.cell? ⟨B, o + 5, none⟩ = some (.slice A l c) ∧ l ≤ 9223372036854775807 ∧ SlO 7 (OwE lo hi w) A l) ∧ ∃ A l c, w.cell? ⟨B, o + 6, none⟩ = some (.slice A l c) ∧ l ≤ 9223372036854775807 ∧ SlO 5 (OwS lo hi w) A l := by
  obtain ⟨h1, h2, h3, h4, ⟨A, l, c, h5, h6, h7⟩, g, k⟩ := h
  obtain ⟨B', o', q1, q2⟩ := slO_split h7
  exact ⟨h1, h2, h3, h4, ⟨A, l, c, B', o', h5, h6, q1, q2⟩, g, k⟩
theorem spoil28 {lo hi : Nat} {m : Mo} {v : Value} {w : World} (h : ResM lo hi m v w) (hh : hi ≤ w.heap.size) : Calls Tryz.prog 28 #[v] w (SpPost lo hi w) := by
  obtain ⟨A, l, c, A1, l1, c1, rfl, h1, h2, h3, h4⟩ := h
  obtain ⟨B, o, hA, hP⟩ := slO_split h2
  obtain ⟨B1, o1, hA1, hD⟩ := slO_split h4
  have hl := h1.2.1
  have hl1 := h3.2.1
  have HP := Hd.mk hP
  have HA := Hd.mk hA
  have HD := Hd.mk hD
  have HA1 := Hd.mk hA1
  obtain ⟨nm, im, ds⟩ := m
  clear h1 h2 h3 h4 hP hA hD hA1
  go_enter Tryz.func28, Tryz.ntmps28
  go_wp2_with fail
  obtain ⟨w1, hw1⟩ : ∃ w1, w1 = w.alloc (.cells #[.string nm, .slice A l c, .slice A1 l1 c1] 25 (0, 0)) := ⟨_, rfl⟩
  rw [← hw1]
  have x1 : w1.cell? ⟨w.heap.size, 1, none⟩ = some (.slice A l c) := by rw [hw1, new_cell]; rfl
  have x2 : w1.cell? ⟨w.heap.size, 2, none⟩ = some (.slice A1 l1 c1) := by rw [hw1, new_cell]; rfl
  have S0 : Hd (Sp lo hi w w1) := ⟨by rw [hw1]; exact Sp.of_below (up (up0 w) _) hh⟩
  clear hw1
  go_loopw [2] (fun i w' => ∃ j : Nat, j ≤ l ∧ i = .int .i64 j ∧ Sp lo hi w1 w') (fun i _ => l - (intOf i).toNat)
  case atStart => exact ⟨0, by omega, rfl, Sp.refl _ _ _⟩
  case round =>
    obtain ⟨j, hj, rfl, hs⟩ := hrel
    have HS := Hd.mk hs
    have y1 := hs.box hh x1
    have y2 := hs.box hh x2
    clear hs x1 x2
    by_cases hlt : j < l
    · obtain rfl := HA.out (by omega)
      obtain ⟨b1, b2, b3, s, b5⟩ := (HP.out j hlt).sp (S0.out.trans HS.out)
      rw [Nat.mul_one] at b5
      have B12 := Hd.mk (And.intro b1 b2)
      have B5 := Hd.mk b5
      clear b1 b2
      go_wp2_with fail
      go_roundw
      case rel => exact ⟨j + 1, by omega, by go_num, HS.out.trans (Sp.cell_kind B12.out.1 B12.out.2 B5.out (.inr ⟨_, _, rfl, rfl⟩))⟩
      case measure => simp [intOf]; omega
    · obtain rfl : j = l := by omega
      go_wp2_with fail
      obtain ⟨w2, rfl⟩ : ∃ w2 : World, w2 = wr := ⟨_, rfl⟩
      go_loopw [3] (fun i w' => ∃ q : Nat, q ≤ l1 ∧ i = .int .i64 q ∧ Sp lo hi w2 w') (fun i _ => l1 - (intOf i).toNat)
      case atStart => exact ⟨0, by omega, rfl, Sp.refl _ _ _⟩
      case round =>
        obtain ⟨q, hq, rfl, hs⟩ := hrel
        have HS2 := Hd.mk hs
        have z2 := hs.box hh y2
        clear hs y1 y2
        by_cases hlt : q < l1
        · obtain rfl := HA1.out (by omega)
          obtain ⟨w3, rfl⟩ : ∃ w3 : World, w3 = wr := ⟨_, rfl⟩
          have OD := Hd.mk (fun w' (h : Sp lo hi w3 w') => (HD.out q hlt).sp ((S0.out.trans HS.out).trans (HS2.out.trans h)))
          obtain ⟨b1, b2, b3, _, ⟨A5, l5, c5, B5, o5, b6, b7, b8, b9⟩, _, _⟩ := (OD.out w3 (Sp.refl _ _ _)).cells
          have B12 := Hd.mk (And.intro b1 b2)
          have B8 := Hd.mk b8
          have B9 := Hd.mk b9
          clear b8 b9
          go_wp2_with fail
          go_loopw [4] (fun i w' => ∃ r : Nat, r ≤ l5 ∧ i = .int .i64 r ∧ Sp lo hi w3 w') (fun i _ => l5 - (intOf i).toNat)
          case atStart => exact ⟨0, by omega, rfl, Sp.refl _ _ _⟩
          case round =>
            obtain ⟨r, hr, rfl, hs⟩ := hrel
            have HS3 := Hd.mk hs
            have z3 := hs.box hh z2
            have d6 := hs.sl B1 _ A5 l5 c5 b1 b2 b6
            clear hs z2 b6 b1 b2
            by_cases hlt2 : r < l5
            · obtain rfl := B8.out (by omega)
              obtain ⟨e1, e2, e3, s, e5⟩ := (B9.out r hlt2).sp HS3.out
              have E12 := Hd.mk (And.intro e1 e2)
              have E5 := Hd.mk e5
              clear e1 e2
              go_wp2_with fail
              go_roundw
              case rel => exact ⟨r + 1, by omega, by go_num, HS3.out.trans (Sp.cell_kind E12.out.1 E12.out.2 E5.out (.inr ⟨_, _, rfl, rfl⟩))⟩
              case measure => simp [intOf]; omega
            · obtain rfl : r = l5 := by omega
              obtain ⟨_, _, _, _, _, ⟨A6, l6, c6, f6, f7, f8⟩, _⟩ := (OD.out _ HS3.out).cells
              have X := Hd.mk (spoil69_any (c := c6) f7 f8)
              clear f7 f8 b3
              go_wp2_with fail
              with_reducible refine (X.out.mono ?_)
              rintro e w4 ⟨rfl, hs4⟩
              have HS4 := Hd.mk (HS3.out.trans hs4)
              have z4 := hs4.box hh z3
              obtain ⟨_, _, _, _, _, _, A7, l7, c7, g6, g7, g8⟩ := (OD.out _ HS4.out).cells
              have X4 := Hd.mk (spoil70_any (c := c7) g7 g8)
              clear hs4 z3 g7 g8 f6
              go_wp2_with fail
              with_reducible refine (X4.out.mono ?_)
              rintro e w5 ⟨rfl, hs5⟩
              have HS5 := Hd.mk (HS4.out.trans hs5)
              have z5 := hs5.box hh z4
              obtain ⟨_, _, k3, ⟨n, k4⟩, _, _, _⟩ := (OD.out _ HS5.out).cells
              have K4 := Hd.mk k4
              clear hs5 z4 g6 d6
              go_wp2_with fail
              go_roundw
              case rel => exact ⟨q + 1, by omega, by go_num, HS2.out.trans (HS5.out.trans (Sp.cell_kind B12.out.1 B12.out.2 K4.out (.inl ⟨_, _, rfl, rfl⟩)))⟩
              case measure => simp [intOf]; omega
        · obtain rfl : q = l1 := by omega
          go_wp2_with fail
          go_end0
          exact ⟨rfl, S0.out.trans (HS.out.trans HS2.out)⟩
end Go.Proofs.YtbhgpegcdiohlaaGreatDoor.Tr
