import Derived.Test.YtbhgpegcdiohlaaGreatDoorPaD
import Derived.Test.YtbhgpegcdiohlaaGreatDoorTxC
import Derived.Laws.AppendOwnNone
import Derived.Deep.AppendLies
import Derived.Test.YtbhgpegcdiohlaaGreatDoorTrP
namespace Go.Proofs.YtbhgpegcdiohlaaGreatDoor.Tr
open Go Go.RowKit Go.Proofs
set_option linter.unusedVariables false
set_option maxRecDepth 100000
set_option maxHeartbeats 8000000
theorem own_slice0 {w : World} {base : Nat} {e : TypeId} {size n : Nat} {v : Value} {xs : List Value} (h : w.ownsRow base e size v n xs) : ∃ A c, v = .slice A n c := by
  rcases h.2 with ⟨h1, h0⟩ | ⟨g, cap, cur, rfl, _⟩
  · subst h0; exact ⟨_, _, h1⟩
  · exact ⟨_, _, rfl⟩
theorem own_mono {w : World} {b1 b2 : Nat} {e : TypeId} {size n : Nat} {v : Value} {xs : List Value} (h : w.ownsRow b1 e size v n xs) (hb : b2 ≤ b1) : w.ownsRow b2 e size v n xs := by
  refine ⟨h.1, ?_⟩
  rcases h.2 with h | ⟨g, cap, cur, hv, hg, h3⟩
  · exact .inl h
  · exact .inr ⟨g, cap, cur, hv, Nat.le_trans hb hg, h3⟩
/-- a row of texts appended to a row of the call's own -/
theorem wp_app_row {o : Oper} {a : Act} {K : Act → World → Prop} {Q : Exit → Act → World → Prop} {w : World} (s x : Operand)
    (ho : o.op = .call { callee := .builtin .append, args := #[s, x], argTypes := #[22, 22] }) (base n : Nat) (A : Option Addr) (c : Nat) (xs : List ByteArray) (hs : a.eval s = .slice A n c)
    (hown : w.ownsRow base 9 1 (.slice A n c) n (xs.map Value.string)) (hz1 : n = 0 → A = none ∧ c = 0) (hb : base ≤ w.heap.size) (base2 m : Nat) (A2 : Option Addr) (c2 : Nat) (ys : List ByteArray) (hx : a.eval x = .slice A2 m c2)
    (hown2 : w.ownsRow base2 9 1 (.slice A2 m c2) m (ys.map Value.string)) (hz2 : m = 0 → A2 = none ∧ c2 = 0) (hmax : n + m ≤ 1000000000000)
    (h : ∀ (A' : Option Addr) (c' N : Nat) (w' : World), N = n + m → w'.ownsRow base 9 1 (.slice A' N c') N ((xs ++ ys).map Value.string) → (N = 0 → A' = none ∧ c' = 0) → (∀ k, k < w.heap.size → (Value.slice A n c).ownBlock ≠ some k → (Value.slice A' N c').ownBlock ≠ some k) →
      (∀ p : Addr, p.block < w.heap.size → (Value.slice A n c).ownBlock ≠ some p.block → w'.cell? p = w.cell? p) → Below base w w' → K (a.put o.dst (.slice A' N c')) w') : o.wp Tryz.prog a w K Q := by
  obtain ⟨i0, hi0, hz0, hz1', hz2'⟩ := info_parts infoStr
  rcases Nat.eq_zero_or_pos m with hm | hm
  · subst hm
    obtain ⟨rfl, rfl⟩ := hz2 rfl
    have hy : ys = [] := by
      have := hown2.1
      simp at this
      exact this
    subst hy
    have hrun := run_append_owned_none (P := Tryz.prog) (w := w) base 22 o.type 9 i0 1 Tryz.underlying22 hi0 _ n _ hown
    unfold Oper.wp
    simp [execOp, ho, resolve, invoke, builtin, hs, hx, hrun, Result.andThen]
    exact h A c n w rfl (by simpa using hown) hz1 (fun k _ h => h) (fun p _ _ => rfl) (Below.refl _ _)
  · rcases hown2.2 with ⟨hv, hm0⟩ | ⟨g, cap, cur, hv, hbg, hh, h3, h4, h5, h6⟩
    · omega
    · injection hv with e1 _ e2
      subst e1 e2
      refine wp_append_lies _ s x 22 ho base 9 i0 _ 1 16 Tryz.underlying22 hi0 hz0 hz1' hz2' rfl (by decide) _ n _ hs hown ⟨g, 0, none⟩ m c2 (ys.map Value.string) hx hown2.1 (hown2.cells (g := g) rfl) (by intro u hu; obtain ⟨s, _, rfl⟩ := List.mem_map.1 hu; rfl) hm (by unfold maxLen; omega) (by omega) hb _ rfl ?_
      intro g' cap' w' ho' hg hat hlt
      refine h (some ⟨g', 0, none⟩) cap' _ w' rfl (by rw [List.map_append]; exact ho') (fun h0 => by omega) (fun k hk hne => ?_) (fun p hp hne => hg.cell_far p hp (fun h => hne (by rw [h]))) ((Below.refl base w).grown hg hb (fun k hk => (hown.lt k hk).1))
      simp only [Value.ownBlock]
      rcases hat with h1 | h1
      · intro h2
        cases h2
        exact hne h1
      · intro h2
        cases h2
        omega
theorem app_row {ops : Array Oper} {rest : List Oper} {o : Oper} {a : Act} {Q : Exit → Act → World → Prop} {w : World} (hgd : o.guard = none) (s x : Operand)
    (ho : o.op = .call { callee := .builtin .append, args := #[s, x], argTypes := #[22, 22] }) (base n : Nat) (A : Option Addr) (c : Nat) (xs : List ByteArray) (hs : a.eval s = .slice A n c)
    (hown : w.ownsRow base 9 1 (.slice A n c) n (xs.map Value.string)) (hz1 : n = 0 → A = none ∧ c = 0) (hb : base ≤ w.heap.size) (base2 m : Nat) (A2 : Option Addr) (c2 : Nat) (ys : List ByteArray) (hx : a.eval x = .slice A2 m c2)
    (hown2 : w.ownsRow base2 9 1 (.slice A2 m c2) m (ys.map Value.string)) (hz2 : m = 0 → A2 = none ∧ c2 = 0) (hmax : n + m ≤ 1000000000000)
    (h : ∀ (A' : Option Addr) (c' N : Nat) (w' : World), N = n + m → w'.ownsRow base 9 1 (.slice A' N c') N ((xs ++ ys).map Value.string) → (N = 0 → A' = none ∧ c' = 0) → (∀ k, k < w.heap.size → (Value.slice A n c).ownBlock ≠ some k → (Value.slice A' N c').ownBlock ≠ some k) →
      (∀ p : Addr, p.block < w.heap.size → (Value.slice A n c).ownBlock ≠ some p.block → w'.cell? p = w.cell? p) → Below base w w' → wpList Tryz.prog ops Q rest (a.put o.dst (.slice A' N c')) w') :
    wpList Tryz.prog ops Q (o :: rest) a w :=
  wpList_plain hgd fun _ hK => wp_app_row s x ho base n A c xs hs hown hz1 hb base2 m A2 c2 ys hx hown2 hz2 hmax fun A' c' N w' h1 h2 h3 h4 h5 h6 => hK _ _ (h A' c' N w' h1 h2 h3 h4 h5 h6)
/-- a row of texts of the call's own, in memory that it made -/
def Rows' (l : List ByteArray) (w : World) (e : Ending) (w' : World) : Prop := ∃ (A : Option Addr) (c N : Nat), e = .returned (.slice A N c) ∧ N = l.length ∧ (N = 0 → A = none ∧ c = 0) ∧ w'.ownsRow w.heap.size 9 1 (.slice A N c) N (l.map Value.string) ∧ Below w.heap.size w w'
mutual
/-- the modules that are named -/
def usE : Ex → List ByteArray
  | .mk k _ m _ _ _ ks => (if k = 3 ∨ k = 5 then [m] else []) ++ usL ks
def usL : Exs → List ByteArray
  | .nil => []
  | .cons e l => usE e ++ usL l
end
theorem usL_flat : ∀ ks : Exs, usL ks = ks.toList.flatMap usE
  | .nil => rfl
  | .cons e l => by rw [usL, Exs.toList, List.flatMap_cons, usL_flat l]
theorem flat_take {α β : Type} (f : α → List β) {l : List α} {k : Nat} {x : α} (h : l[k]? = some x) : (l.take (k + 1)).flatMap f = (l.take k).flatMap f ++ f x := by
  rw [take_next h, List.flatMap_append]
  simp
mutual
theorem usE_le : ∀ x : Ex, (usE x).length ≤ cntE x
  | .mk k _ m _ _ _ ks => by
    rw [usE, cntE, List.length_append]
    have := usL_le ks
    split <;> simp <;> omega
theorem usL_le : ∀ ks : Exs, (usL ks).length ≤ cntL ks
  | .nil => by simp [usL, cntL]
  | .cons e l => by
    rw [usL, cntL, List.length_append]
    have := usE_le e
    have := usL_le l
    omega
end
theorem flat_le (l : List Ex) (k : Nat) : ((l.take k).flatMap usE).length ≤ sumN cntE l := by
  induction l generalizing k with
  | nil => simp [sumN]
  | cons a l ih =>
    cases k with
    | zero => simp
    | succ k =>
      rw [List.take_succ_cons, List.flatMap_cons, List.length_append, sumN]
      have := ih k
      have := usE_le a
      omega
def UsIs (x : Ex) : Prop := ∀ (w : World) (v : Value), x.Is w v → cntE x ≤ 100000000000 → Calls Tryz.prog 74 #[v] w (Rows' (usE x) w)
theorem us_walk (k op : Int) (m n : ByteArray) (t b : Int) (ks : Exs) (hK : ∀ x ∈ ks.toList, UsIs x) : UsIs (.mk k op m n t b ks) := by
  intro w v hv hN
  unfold Ex.Is at hv
  obtain ⟨A, l, c, rfl, g⟩ := hv
  rw [cntE, cntL_sum] at hN
  rw [usE, usL_flat]
  have HLEN := Hd.mk g.1
  have hl63 := g.2.1
  have G := Hd.mk g
  have HK := Hd.mk hK
  have HN := Hd.mk hN
  obtain ⟨i0, hi0, hz0, hz1, hz2⟩ := info_parts infoStr
  have I := Hd.mk (And.intro hi0 (And.intro hz0 (And.intro hz1 hz2)))
  clear g hK hN hi0 hz0 hz1 hz2
  obtain ⟨hd, hhd⟩ : ∃ hd : List ByteArray, hd = if k = 3 ∨ k = 5 then [m] else [] := ⟨_, rfl⟩
  rw [← hhd]
  have hdl : hd.length ≤ 1 := by rw [hhd]; split <;> simp
  have HDL := Hd.mk hdl
  obtain ⟨W1, hW1⟩ : ∃ W1 : World, W1 = w.alloc (.cells #[.int .i64 k, .int .i64 op, .string m, .string n, .int .i64 t, .int .u64 b, .slice A l c] 31 (0, 0)) := ⟨_, rfl⟩
  have HW1 : Hd (W1.heap.size = w.heap.size + 1) := ⟨by rw [hW1]; simp⟩
  have HBW : Hd (Below w.heap.size w W1) := ⟨by rw [hW1]; exact up (up0 _) _⟩
  have HC6 : Hd (∀ w', Below W1.heap.size W1 w' → w'.cell? ⟨w.heap.size, 6, none⟩ = some (.slice A l c)) := ⟨fun w' hb => keep hb (by rw [hW1]; exact new_cell w _ _ 6)⟩
  have HWE := Hd.mk hW1
  clear hW1 hdl
  by_cases hk : k = 3 ∨ k = 5
  · have e : hd = [m] := by rw [hhd, if_pos hk]
    have hkk : ((k == 3) = true) ∨ ((k == 3) = false ∧ (k == 5) = true) := by
      by_cases h3 : k = 3
      · exact .inl (by rw [h3]; rfl)
      · exact .inr ⟨beq_eq_false_iff_ne.mpr h3, by rcases hk with h | h; exact absurd h h3; rw [h]; rfl⟩
    have HE := Hd.mk e
    clear hk hhd e
    rcases hkk with hk1 | ⟨hk1, hk2⟩
    all_goals
      go_enter Tryz.func74, Tryz.ntmps74
      go_wp2_with (at_builtin; rw [← HWE.out]; refine wpList_append_own _ rfl _ _ 22 rfl W1.heap.size 9 i0 _ 1 16 Tryz.underlying22 I.out.1 I.out.2.1 I.out.2.2.1 I.out.2.2.2 rfl (by decide) _ 0 [] rfl (World.ownsRow_nil _ _ _ _) ⟨w.heap.size + 1, 0, none⟩ 1 1 [.string m] rfl rfl (fun jj u hu => by rw [← HW1.out, new_add]; exact (List.getElem?_toArray ..).trans hu) (by simp [Value.oneCell']) (by unfold maxLen; omega) (by omega) (by simp) ?_; intro v' w4 hown' hgrow _; obtain ⟨A2, c2, rfl⟩ := own_slice0 hown'; have HO2 := Hd.mk hown'; have HB4 := Hd.mk ((up (up0 W1) _).grown hgrow (by simp) (fun k hk => by cases hk)); have hc6 := HC6.out _ HB4.out; clear hown' hgrow)
      go_loopw [3, 22] (fun v i w' => ∃ (j : Nat) (A' : Option Addr) (c' N : Nat), j ≤ l ∧ v = .slice A' N c' ∧ i = .int .i64 j ∧ (N = 0 → A' = none ∧ c' = 0) ∧ N = (hd ++ (ks.toList.take j).flatMap usE).length ∧ w'.ownsRow W1.heap.size 9 1 (.slice A' N c') N ((hd ++ (ks.toList.take j).flatMap usE).map Value.string) ∧ Below W1.heap.size W1 w') (fun _ i _ => l - (intOf i).toNat)
      case atStart => exact ⟨0, A2, c2, _, by omega, rfl, rfl, fun h => by omega, by rw [HE.out]; rfl, by rw [HE.out]; exact HO2.out, HB4.out⟩
      case round =>
        obtain ⟨j, A', c', N, hj, rfl, rfl, hz, hN, ho, hb⟩ := hrel
        have HZN := Hd.mk hz
        clear hz
        have HNN := Hd.mk hN
        have HO := Hd.mk ho
        have HB := Hd.mk hb
        clear hN ho hb
        by_cases hlt : j < l
        · obtain ⟨x, hx⟩ : ∃ x, ks.toList[j]? = some x := ⟨_, List.getElem?_eq_getElem (by rw [← HLEN.out]; exact hlt)⟩
          obtain ⟨B, o, rfl, g1⟩ := G.out.at (by omega)
          have i1 := Ex.In_below (step HBW.out HB.out) x (g1 j x hx)
          obtain ⟨v0, v1, v2, v3, v4, v5, v6, v7, v8, a0, a1, a2, a3, a4, a5, a6, ax⟩ := Ex.In_Is i1
          have hT := sumN_take cntE hx
          have hle := sumN_le cntE ks.toList (j + 1)
          have hfl := flat_le ks.toList j
          have hfx := usE_le x
          have X := Hd.mk (fun w' (hb : Below wr.heap.size wr w') => HK.out x (List.mem_of_getElem? hx) w' _ (Ex.Is_below hb ax) (by have := HN.out; omega))
          have lt1 : B < wr.heap.size := World.block_lt_of_cell? wr _ a0
          obtain ⟨ux, hux⟩ : ∃ ux, ux = usE x := ⟨_, rfl⟩
          have hF : Hd (hd ++ (ks.toList.take (j + 1)).flatMap usE = (hd ++ (ks.toList.take j).flatMap usE) ++ ux) := ⟨by rw [flat_take usE hx, hux, List.append_assoc]⟩
          have hZ : Hd (N + ux.length ≤ 1000000000000) := ⟨by have := HNN.out; have := HN.out; have := HDL.out; rw [hux]; rw [List.length_append] at *; omega⟩
          rw [← hux] at X
          clear g1 i1 ax hx hT hle hfl hfx hux
          go_wp2_with (first
            | (go_at_call 74; (with_reducible refine ((X.out _ (up (up0 _) _)).mono ?_)); (rintro e w5 ⟨A3, c3, N3, rfl, hN3, hz3, ho3, hb3⟩; have HB3 := Hd.mk hb3; have HZ3 := Hd.mk hz3; clear hz3; have HO3 := Hd.mk ho3; have HN3 := Hd.mk hN3; clear hb3 ho3 hN3))
            | (at_builtin; refine app_row rfl _ _ rfl W1.heap.size _ _ _ _ rfl (own_below HO.out (step (up (up0 _) _) HB3.out)) HZN.out (by have := HB.out.size; have := HB3.out.size; simp at *; omega) _ _ _ _ _ rfl HO3.out HZ3.out (by have := hZ.out; have := HN3.out; omega) ?_; intro A4 c4 N4 w6 hN4 ho4 hz4 _ _ hb4; have HN4 := Hd.mk hN4; have HZ4 := Hd.mk hz4; clear hz4; have HO4 := Hd.mk ho4; have HB4 := Hd.mk hb4; clear hN4 ho4 hb4))
          go_roundw
          case rel =>
            refine ⟨j + 1, A4, c4, N4, by omega, rfl, by go_num, HZ4.out, ?_, by rw [hF.out]; exact HO4.out, ?_⟩
            · rw [hF.out, List.length_append, ← HNN.out, HN4.out, HN3.out]
            · exact (step (up HB.out _) HB3.out).trans HB4.out
          case measure => simp [intOf]; omega
        · obtain rfl : j = l := by omega
          have ht : ks.toList.take j = ks.toList := List.take_of_length_le (by rw [← HLEN.out]; omega)
          have ho := HO.out
          have hn := HNN.out
          rw [ht] at ho hn
          have HO5 := Hd.mk ho
          have HN5 := Hd.mk hn
          clear ht ho hn
          go_wp2_with fail
          go_ret
          exact ⟨_, _, _, rfl, HN5.out, HZN.out, own_mono HO5.out HBW.out.size, step HBW.out HB.out⟩
  · have e : hd = [] := by rw [hhd, if_neg hk]
    have HE := Hd.mk e
    have hk1 : (k == 3) = false := beq_eq_false_iff_ne.mpr (fun h => hk (.inl h))
    have hk2 : (k == 5) = false := beq_eq_false_iff_ne.mpr (fun h => hk (.inr h))
    clear hk hhd e
    go_enter Tryz.func74, Tryz.ntmps74
    go_wp2
    rw [← HWE.out]
    go_loopw [3, 22] (fun v i w' => ∃ (j : Nat) (A' : Option Addr) (c' N : Nat), j ≤ l ∧ v = .slice A' N c' ∧ i = .int .i64 j ∧ (N = 0 → A' = none ∧ c' = 0) ∧ N = (hd ++ (ks.toList.take j).flatMap usE).length ∧ w'.ownsRow W1.heap.size 9 1 (.slice A' N c') N ((hd ++ (ks.toList.take j).flatMap usE).map Value.string) ∧ Below W1.heap.size W1 w') (fun _ i _ => l - (intOf i).toNat)
    case atStart => exact ⟨0, none, 0, 0, by omega, rfl, rfl, fun _ => ⟨rfl, rfl⟩, by rw [HE.out]; rfl, by rw [HE.out]; exact World.ownsRow_nil _ _ _ _, Below.refl _ _⟩
    case round =>
      obtain ⟨j, A', c', N, hj, rfl, rfl, hz, hN, ho, hb⟩ := hrel
      have HZN := Hd.mk hz
      clear hz
      have HNN := Hd.mk hN
      have HO := Hd.mk ho
      have HB := Hd.mk hb
      clear hN ho hb
      by_cases hlt : j < l
      · obtain ⟨x, hx⟩ : ∃ x, ks.toList[j]? = some x := ⟨_, List.getElem?_eq_getElem (by rw [← HLEN.out]; exact hlt)⟩
        obtain ⟨B, o, rfl, g1⟩ := G.out.at (by omega)
        have i1 := Ex.In_below (step HBW.out HB.out) x (g1 j x hx)
        obtain ⟨v0, v1, v2, v3, v4, v5, v6, v7, v8, a0, a1, a2, a3, a4, a5, a6, ax⟩ := Ex.In_Is i1
        have hT := sumN_take cntE hx
        have hle := sumN_le cntE ks.toList (j + 1)
        have hfl := flat_le ks.toList j
        have hfx := usE_le x
        have X := Hd.mk (fun w' (hb : Below wr.heap.size wr w') => HK.out x (List.mem_of_getElem? hx) w' _ (Ex.Is_below hb ax) (by have := HN.out; omega))
        have lt1 : B < wr.heap.size := World.block_lt_of_cell? wr _ a0
        obtain ⟨ux, hux⟩ : ∃ ux, ux = usE x := ⟨_, rfl⟩
        have hF : Hd (hd ++ (ks.toList.take (j + 1)).flatMap usE = (hd ++ (ks.toList.take j).flatMap usE) ++ ux) := ⟨by rw [flat_take usE hx, hux, List.append_assoc]⟩
        have hZ : Hd (N + ux.length ≤ 1000000000000) := ⟨by have := HNN.out; have := HN.out; have := HDL.out; rw [hux]; rw [List.length_append] at *; omega⟩
        rw [← hux] at X
        clear g1 i1 ax hx hT hle hfl hfx hux
        go_wp2_with (first
          | (go_at_call 74; (with_reducible refine ((X.out _ (up (up0 _) _)).mono ?_)); (rintro e w5 ⟨A3, c3, N3, rfl, hN3, hz3, ho3, hb3⟩; have HB3 := Hd.mk hb3; have HZ3 := Hd.mk hz3; clear hz3; have HO3 := Hd.mk ho3; have HN3 := Hd.mk hN3; clear hb3 ho3 hN3))
          | (at_builtin; refine app_row rfl _ _ rfl W1.heap.size _ _ _ _ rfl (own_below HO.out (step (up (up0 _) _) HB3.out)) HZN.out (by have := HB.out.size; have := HB3.out.size; simp at *; omega) _ _ _ _ _ rfl HO3.out HZ3.out (by have := hZ.out; have := HN3.out; omega) ?_; intro A4 c4 N4 w6 hN4 ho4 hz4 _ _ hb4; have HN4 := Hd.mk hN4; have HZ4 := Hd.mk hz4; clear hz4; have HO4 := Hd.mk ho4; have HB4 := Hd.mk hb4; clear hN4 ho4 hb4))
        go_roundw
        case rel =>
          refine ⟨j + 1, A4, c4, N4, by omega, rfl, by go_num, HZ4.out, ?_, by rw [hF.out]; exact HO4.out, ?_⟩
          · rw [hF.out, List.length_append, ← HNN.out, HN4.out, HN3.out]
          · exact (step (up HB.out _) HB3.out).trans HB4.out
        case measure => simp [intOf]; omega
      · obtain rfl : j = l := by omega
        have ht : ks.toList.take j = ks.toList := List.take_of_length_le (by rw [← HLEN.out]; omega)
        have ho := HO.out
        have hn := HNN.out
        rw [ht] at ho hn
        have HO5 := Hd.mk ho
        have HN5 := Hd.mk hn
        clear ht ho hn
        go_wp2_with fail
        go_ret
        exact ⟨_, _, _, rfl, HN5.out, HZN.out, own_mono HO5.out HBW.out.size, step HBW.out HB.out⟩
theorem us_any : ∀ x, UsIs x := Ex.byKids us_walk
end Go.Proofs.YtbhgpegcdiohlaaGreatDoor.Tr

namespace Go.Proofs.YtbhgpegcdiohlaaGreatDoor.Tr
open Go Go.RowKit Go.Proofs
set_option linter.unusedVariables false
set_option maxRecDepth 100000
set_option maxHeartbeats 8000000
mutual
def usS : St → List ByteArray
  | .mk _ _ e bd el => usL e ++ (usSs bd ++ usSs el)
def usSs : Sts → List ByteArray
  | .nil => []
  | .cons s l => usS s ++ usSs l
end
theorem usSs_flat : ∀ ks : Sts, usSs ks = ks.toList.flatMap usS
  | .nil => rfl
  | .cons e l => by rw [usSs, Sts.toList, List.flatMap_cons, usSs_flat l]
mutual
theorem usS_le : ∀ s : St, (usS s).length ≤ cntS s
  | .mk _ _ e bd el => by
    rw [usS, cntS, List.length_append, List.length_append]
    have := usL_le e
    have := usSs_le bd
    have := usSs_le el
    omega
theorem usSs_le : ∀ ks : Sts, (usSs ks).length ≤ cntSs ks
  | .nil => by simp [usSs, cntSs]
  | .cons s l => by
    rw [usSs, cntSs, List.length_append]
    have := usS_le s
    have := usSs_le l
    omega
end
theorem flatS_le (l : List St) (k : Nat) : ((l.take k).flatMap usS).length ≤ sumN (fun s => 1 + cntS s) l := by
  induction l generalizing k with
  | nil => simp [sumN]
  | cons a l ih =>
    cases k with
    | zero => simp
    | succ k =>
      rw [List.take_succ_cons, List.flatMap_cons, List.length_append, sumN]
      have := ih k
      have := usS_le a
      omega
theorem S2f {w w' : World} (hb : Below w.heap.size w w') {a0 a1 : Addr} {v0 v1 : Value} (h : w.cell? a0 = some v0 ∧ w.cell? a1 = some v1) : w'.cell? a0 = some v0 ∧ w'.cell? a1 = some v1 := ⟨keep hb h.1, keep hb h.2⟩
def UsSs (ks : Sts) : Prop := ∀ (w : World) (A : Option Addr) (l c : Nat), Sl 5 (fun x => x.In w) ks.toList A l → cntSs ks ≤ 100000000000 → Calls Tryz.prog 75 #[.slice A l c] w (Rows' (usSs ks) w)
theorem usSs_walk (ks : Sts) (hK : ∀ x ∈ ks.toList, UsSs x.bd ∧ UsSs x.el) : UsSs ks := by
  intro w A l c hs hN
  rw [cntSs_sum] at hN
  rw [usSs_flat]
  have hn := hs.2.1
  have HLEN := Hd.mk hs.1
  have G := Hd.mk hs
  have HK := Hd.mk hK
  have HN := Hd.mk hN
  clear hs hK hN
  go_enter Tryz.func75, Tryz.ntmps75
  go_wp2_with fail
  go_loopw [3, 10] (fun v i w' => ∃ (j : Nat) (A' : Option Addr) (c' N : Nat), j ≤ l ∧ v = .slice A' N c' ∧ i = .int .i64 j ∧ (N = 0 → A' = none ∧ c' = 0) ∧ N = ((ks.toList.take j).flatMap usS).length ∧ w'.ownsRow w.heap.size 9 1 (.slice A' N c') N (((ks.toList.take j).flatMap usS).map Value.string) ∧ Below w.heap.size w w') (fun _ i _ => l - (intOf i).toNat)
  case atStart => exact ⟨0, none, 0, 0, by omega, rfl, rfl, fun _ => ⟨rfl, rfl⟩, rfl, World.ownsRow_nil _ _ _ _, Below.refl _ _⟩
  case round =>
    obtain ⟨j, A', c', N, hj, rfl, rfl, hz, hN, ho, hb⟩ := hrel
    have HZN := Hd.mk hz
    have HNN := Hd.mk hN
    have HO := Hd.mk ho
    have HB := Hd.mk hb
    clear hz hN ho hb
    by_cases hlt : j < l
    · obtain ⟨x, hx⟩ : ∃ x, ks.toList[j]? = some x := ⟨_, List.getElem?_eq_getElem (by rw [← HLEN.out]; exact hlt)⟩
      obtain ⟨B, o, rfl, g1⟩ := G.out.at (by omega)
      have i0 := g1 j x hx
      have hk1 := HK.out x (List.mem_of_getElem? hx)
      have hfx := flat_take usS hx
      have hle := flatS_le ks.toList (j + 1)
      have hone := sumN_le (fun s => 1 + cntS s) ks.toList (j + 1)
      have hone2 := sumN_take (fun s => 1 + cntS s) hx
      cases x with
      | mk k n e bd el =>
      obtain ⟨A1, l1, c1, A2, l2, c2, A3, l3, c3, b0, b1, b2, b3, b4, s1, s2, s3⟩ := St.In_mk i0
      have a0 := keep HB.out b0
      have a1 := keep HB.out b1
      have a2 := keep HB.out b2
      have a3 := keep HB.out b3
      have a4 := keep HB.out b4
      have S1 := Hd.mk s1
      have S2 := Hd.mk s2
      have S3 := Hd.mk s3
      have lt1 : B < wr.heap.size := World.block_lt_of_cell? wr _ a0
      rw [usS, usL_flat] at hfx
      rw [cntS, cntL_sum] at hone2
      obtain ⟨u1, hu1⟩ : ∃ u, u = usSs bd := ⟨_, rfl⟩
      obtain ⟨u2, hu2⟩ : ∃ u, u = usSs el := ⟨_, rfl⟩
      obtain ⟨xs, hxs⟩ : ∃ u, u = (ks.toList.take j).flatMap usS := ⟨_, rfl⟩
      have K3 := Hd.mk (fun w (h : Sl 5 (fun x => x.In w) bd.toList A2 l2) => hu1 ▸ hk1.1 w A2 l2 c2 h (by have := HN.out; show cntSs bd ≤ _; omega))
      have K4 := Hd.mk (fun w (h : Sl 5 (fun x => x.In w) el.toList A3 l3) => hu2 ▸ hk1.2 w A3 l3 c3 h (by have := HN.out; show cntSs el ≤ _; omega))
      rw [← hu1, ← hu2, ← hxs] at hfx
      rw [← hxs] at HNN HO
      have HF := Hd.mk hfx
      have HZ : Hd (xs.length + (e.toList.flatMap usE).length + u1.length + u2.length ≤ 100000000000 ∧ sumN cntE e.toList ≤ 100000000000) := ⟨by
        have := HN.out
        rw [hfx] at hle
        simp only [List.length_append] at hle
        omega⟩
      clear b0 b1 b2 b3 b4 g1 i0 hk1 s1 s2 s3 hx hle hone hone2 hu1 hu2 hxs hfx
      obtain ⟨wo, rfl⟩ : ∃ wo : World, wo = wr := ⟨_, rfl⟩
      obtain ⟨K, hK⟩ : ∃ K, K = wo.heap.size := ⟨_, rfl⟩
      have HKK := Hd.mk hK
      clear hK
      go_wp2_with fail
      go_loopw [3, 17] (fun v i w' => ∃ (j2 : Nat) (A' : Option Addr) (c' N : Nat), j2 ≤ l1 ∧ v = .slice A' N c' ∧ i = .int .i64 j2 ∧ (N = 0 → A' = none ∧ c' = 0) ∧ N = (xs ++ (e.toList.take j2).flatMap usE).length ∧ w'.ownsRow w.heap.size 9 1 (.slice A' N c') N ((xs ++ (e.toList.take j2).flatMap usE).map Value.string) ∧ Below w.heap.size w w' ∧ K < w'.heap.size ∧ (Value.slice A' N c').ownBlock ≠ some K ∧ w'.cell? ⟨K, 3, none⟩ = some (.slice A2 l2 c2) ∧ w'.cell? ⟨K, 4, none⟩ = some (.slice A3 l3 c3)) (fun _ i _ => l1 - (intOf i).toNat)
      case atStart =>
        refine ⟨0, A', c', N, by omega, rfl, rfl, HZN.out, by simpa using HNN.out, by simpa using own_below HO.out (up (up0 _) _), up HB.out _, by rw [HKK.out]; simp, fun h => ?_, by rw [HKK.out]; exact new_cell wo _ _ 3, by rw [HKK.out]; exact new_cell wo _ _ 4⟩
        have := (HO.out.lt K h).2
        rw [HKK.out] at this
        omega
      case round =>
        obtain ⟨j2, A', c', N, hj2, rfl, rfl, hz, hN, ho, hb, hk1, hk2, hk3, hk4⟩ := hrel
        have HZN := Hd.mk hz
        have HNN := Hd.mk hN
        have HO := Hd.mk ho
        have HB := Hd.mk hb
        have HK1 := Hd.mk hk1
        have HK2 := Hd.mk hk2
        have HK3 := Hd.mk hk3
        have HK4 := Hd.mk hk4
        have hn1 := S1.out.2.1
        clear hz hN ho hb hk1 hk2 hk3 hk4
        by_cases hlt2 : j2 < l1
        · obtain ⟨x, hx⟩ : ∃ x, e.toList[j2]? = some x := ⟨_, List.getElem?_eq_getElem (by rw [← S1.out.1]; exact hlt2)⟩
          obtain ⟨B', o', rfl, g1⟩ := S1.out.at (by omega)
          have i1 := Ex.In_below HB.out x (g1 j2 x hx)
          obtain ⟨v0, v1, v2, v3, v4, v5, v6, v7, v8, a0, a1, a2, a3, a4, a5, a6, ax⟩ := Ex.In_Is i1
          have hT := sumN_take cntE hx
          have hle := sumN_le cntE e.toList (j2 + 1)
          have hfl := flat_le e.toList (j2 + 1)
          have X := Hd.mk (fun w' (hb : Below wr.heap.size wr w') => us_any x w' _ (Ex.Is_below hb ax) (by have := HZ.out; omega))
          have lt2 : B' < wr.heap.size := World.block_lt_of_cell? wr _ a0
          obtain ⟨ux, hux⟩ : ∃ ux, ux = usE x := ⟨_, rfl⟩
          have hF : Hd (xs ++ (e.toList.take (j2 + 1)).flatMap usE = (xs ++ (e.toList.take j2).flatMap usE) ++ ux) := ⟨by rw [flat_take usE hx, hux, List.append_assoc]⟩
          have hZ : Hd (N + ux.length ≤ 1000000000000) := ⟨by
            have h1 := congrArg List.length hF.out
            have h2 := HZ.out
            have h3 := HNN.out
            rw [List.length_append, List.length_append] at h1
            omega⟩
          rw [← hux] at X
          clear g1 i1 ax hx hT hle hfl hux
          go_wp2_with (first
            | (go_at_call 74; (with_reducible refine ((X.out _ (up (up0 _) _)).mono ?_)); (rintro e w5 ⟨A5, c5, N5, rfl, hN3, hz3, ho3, hb3⟩; have HB3 := Hd.mk hb3; have HZ3 := Hd.mk hz3; have HO3 := Hd.mk ho3; have HN3 := Hd.mk hN3; clear hz3 hb3 ho3 hN3))
            | (at_builtin; refine app_row rfl _ _ rfl w.heap.size _ _ _ _ rfl (own_below HO.out (step (up (up0 _) _) HB3.out)) HZN.out (by have := HB.out.size; have := HB3.out.size; simp at *; omega) _ _ _ _ _ rfl HO3.out HZ3.out (by have := hZ.out; have := HN3.out; omega) ?_; intro A4 c4 N4 w6 hN4 ho4 hz4 hne4 hce4 hb4; have HN4 := Hd.mk hN4; have HZ4 := Hd.mk hz4; have HO4 := Hd.mk ho4; have HB4 := Hd.mk hb4; have HNE := Hd.mk hne4; have HCE := Hd.mk hce4; clear hN4 hz4 ho4 hb4 hne4 hce4))
          go_roundw
          case rel =>
            have hk5 : K < w5.heap.size := by have := HK1.out; have := HB3.out.size; simp at *; omega
            refine ⟨j2 + 1, A4, c4, N4, by omega, rfl, by go_num, HZ4.out, ?_, by rw [hF.out]; exact HO4.out, (step (up HB.out _) HB3.out).trans HB4.out, by have := HB4.out.size; omega, HNE.out K hk5 HK2.out, (HCE.out ⟨K, 3, none⟩ hk5 HK2.out).trans (keep HB3.out (keep (up (up0 _) _) HK3.out)), (HCE.out ⟨K, 4, none⟩ hk5 HK2.out).trans (keep HB3.out (keep (up (up0 _) _) HK4.out))⟩
            rw [hF.out, List.length_append, ← HNN.out, HN4.out, HN3.out]
          case measure => simp [intOf]; omega
        · obtain rfl : j2 = l1 := by omega
          have ht : e.toList.take j2 = e.toList := List.take_of_length_le (by rw [← S1.out.1]; omega)
          have ho := HO.out
          have hn := HNN.out
          rw [ht] at ho hn
          clear ht
          have HO7 := Hd.mk ho
          have HN7 := Hd.mk hn
          clear ho hn HO HNN
          have H3 := Hd.mk (HKK.out ▸ HK3.out)
          have H4 := Hd.mk (HKK.out ▸ HK4.out)
          go_wp2_with fail
          go_region_held3 (fun w' => w'.cell? ⟨wo.heap.size, 3, none⟩ = some (.slice A2 l2 c2) ∧ w'.cell? ⟨wo.heap.size, 4, none⟩ = some (.slice A3 l3 c3)) (first | exact ⟨H3.out, H4.out⟩ | exact S2f HB5.out ⟨H3.out, H4.out⟩ | exact S2f HB9.out (by assumption) | exact ⟨(HCE10.out ⟨wo.heap.size, 3, none⟩ (by have h1 := HK1.out; have h0 := HKK.out; have h2 := HB5.out.size; have h3 := (up0 wr).drew.size; have h4 := HB8.out.size; have h5 := HB9.out.size; show wo.heap.size < w9.heap.size; omega) (HKK.out ▸ HNE8.out K (by have h1 := HK1.out; have h2 := HB5.out.size; have h3 := (up0 wr).drew.size; omega) HK2.out)).trans (And.left (by assumption)), (HCE10.out ⟨wo.heap.size, 4, none⟩ (by have h1 := HK1.out; have h0 := HKK.out; have h2 := HB5.out.size; have h3 := (up0 wr).drew.size; have h4 := HB8.out.size; have h5 := HB9.out.size; show wo.heap.size < w9.heap.size; omega) (HKK.out ▸ HNE8.out K (by have h1 := HK1.out; have h2 := HB5.out.size; have h3 := (up0 wr).drew.size; omega) HK2.out)).trans (And.right (by assumption))⟩ | exact ⟨(HCE8.out ⟨wo.heap.size, 3, none⟩ (by have h1 := HK1.out; have h0 := HKK.out; have h2 := HB5.out.size; have h3 := (up0 wr).drew.size; show wo.heap.size < w5.heap.size; omega) (HKK.out ▸ HK2.out)).trans (And.left (by assumption)), (HCE8.out ⟨wo.heap.size, 4, none⟩ (by have h1 := HK1.out; have h0 := HKK.out; have h2 := HB5.out.size; have h3 := (up0 wr).drew.size; show wo.heap.size < w5.heap.size; omega) (HKK.out ▸ HK2.out)).trans (And.right (by assumption))⟩ | (trace_state; fail))
            (first
              | (go_at_call 75; (with_reducible refine ((K3.out _ (SlS_up HB.out.drew S2.out)).mono ?_)); (rintro e w5 ⟨A5, c5, N5, rfl, hN5, hz5, ho5, hb5⟩; have HB5 := Hd.mk hb5; have HN5 := Hd.mk hN5; have HO5 := Hd.mk ho5; have HZ5 := Hd.mk hz5; clear hb5 hN5 ho5 hz5))
              | (rw [if_pos (by rfl)]; refine wp_app_row _ _ rfl w.heap.size _ _ _ _ rfl (own_below HO7.out (step ((up0 wr).drew) HB5.out)) HZN.out (by have h1 := HB.out.size; have h2 := HB5.out.size; have h3 := (up0 wr).drew.size; omega) _ _ _ _ _ rfl HO5.out HZ5.out (by have h1 := HZ.out; have h2 := HN7.out; have h3 := HN5.out; rw [List.length_append] at h2; omega) ?_; intro A8 c8 N8 w8 hN8 ho8 hz8 hne8 hce8 hb8; have HN8 := Hd.mk hN8; have HO8 := Hd.mk ho8; have HZ8 := Hd.mk hz8; have HNE8 := Hd.mk hne8; have HCE8 := Hd.mk hce8; have HB8 := Hd.mk hb8; clear hN8 ho8 hz8 hne8 hce8 hb8)
              | (go_at_call 75; (with_reducible refine ((K4.out _ (SlS_up (((step HB.out.drew HB5.out)).trans HB8.out) S3.out)).mono ?_)); (rintro e w9 ⟨A9, c9, N9, rfl, hN9, hz9, ho9, hb9⟩; have HB9 := Hd.mk hb9; have HN9 := Hd.mk hN9; have HO9 := Hd.mk ho9; have HZ9 := Hd.mk hz9; clear hb9 hN9 ho9 hz9))
              | (rw [if_pos (by rfl)]; refine wp_app_row _ _ rfl w.heap.size _ _ _ _ rfl (own_below HO8.out HB9.out) HZ8.out (by have h1 := HB.out.size; have h2 := HB5.out.size; have h3 := (up0 wr).drew.size; have h4 := HB8.out.size; have h5 := HB9.out.size; omega) _ _ _ _ _ rfl HO9.out HZ9.out (by have h1 := HZ.out; have h2 := HN7.out; have h3 := HN5.out; have h4 := HN8.out; have h5 := HN9.out; rw [List.length_append] at h2; omega) ?_; intro A10 c10 N10 w10 hN10 ho10 hz10 hne10 hce10 hb10; have HN10 := Hd.mk hN10; have HO10 := Hd.mk ho10; have HZ10 := Hd.mk hz10; have HNE10 := Hd.mk hne10; have HCE10 := Hd.mk hce10; have HB10 := Hd.mk hb10; clear hN10 ho10 hz10 hne10 hce10 hb10))
          have HW10 := Hd.mk ((step ((step HB.out.drew HB5.out).trans HB8.out) HB9.out).trans HB10.out)
          have HL : Hd ((ks.toList.take (j + 1)).flatMap usS = xs ++ e.toList.flatMap usE ++ u1 ++ u2) := ⟨by rw [HF.out]; simp only [List.append_assoc]⟩
          have HLN : Hd (N10 = ((ks.toList.take (j + 1)).flatMap usS).length) := ⟨by
            have h2 := HN7.out
            have h3 := HN5.out
            have h4 := HN8.out
            have h5 := HN9.out
            have h6 := HN10.out
            rw [HL.out]
            simp only [List.length_append] at *
            omega⟩
          clear HCE8 HCE10 HNE8 HNE10
          go_wp2_with fail
          go_roundw
          case rel => exact ⟨j + 1, A10, c10, N10, by omega, rfl, by go_num, HZ10.out, HLN.out, by rw [HL.out]; exact HO10.out, HW10.out⟩
          case measure => simp [intOf]; omega
    · obtain rfl : j = l := by omega
      have ht : ks.toList.take j = ks.toList := List.take_of_length_le (by rw [← HLEN.out]; omega)
      have ho := HO.out
      have hn := HNN.out
      rw [ht] at ho hn
      have HO5 := Hd.mk ho
      have HN5 := Hd.mk hn
      clear ht ho hn
      go_wp2_with fail
      go_ret
      exact ⟨_, _, _, rfl, HN5.out, HZN.out, HO5.out, HB.out⟩
theorem usSs_any : ∀ ks, UsSs ks := Sts.ind usSs_walk
end Go.Proofs.YtbhgpegcdiohlaaGreatDoor.Tr
