import Derived.Test.YtbhgpegcdiohlaaGreatDoorLvP
namespace Go.Proofs.YtbhgpegcdiohlaaGreatDoor.Tr
open Go Go.RowKit Go.Proofs
set_option linter.unusedVariables false
set_option maxRecDepth 100000
set_option maxHeartbeats 4000000
theorem infoTok : (Tryz.prog.info? 130).map (fun i => (i.zero, i.size, i.bytes)) = some (some (.agg #[.int .i64 0, .string ⟨#[]⟩, .int .i64 0, .int .u64 0, .int .i64 0]), 5, 48) := by kernel_rfl
theorem new_add (w : World) (cs : Array Value) (t : TypeId) (j : Nat) : (w.alloc (.cells cs t (0, 0))).cell? ((⟨w.heap.size, 0, none⟩ : Addr).add j) = cs[j]? := by
  have h := new_cell w cs t j
  unfold Addr.add
  split
  · rename_i e; subst e; exact h
  · simp [h]
theorem new_add2 (w : World) (o : Obj) (cs : Array Value) (t : TypeId) (l : List Value) (hl : cs = l.toArray) : ∀ j u, l[j]? = some u → ((w.alloc o).alloc (.cells cs t (0, 0))).cell? ((⟨w.heap.size + 1, 0, none⟩ : Addr).add j) = some u := by
  intro j u hu
  have h := new_add (w.alloc o) cs t j
  have e : (w.alloc o).heap.size = w.heap.size + 1 := by simp
  rw [e] at h
  rw [h, hl]
  simpa using hu
theorem own_below {w w' : World} {base : Nat} {e : TypeId} {size n : Nat} {v : Value} {xs : List Value} (h : w.ownsRow base e size v n xs) (hb : Below w.heap.size w w') : w'.ownsRow base e size v n xs := by
  refine ⟨h.1, ?_⟩
  rcases h.2 with hn | ⟨g, cap, cur, rfl, h1, h2, rest⟩
  · exact .inl hn
  · exact .inr ⟨g, cap, cur, rfl, h1, (hb.block g (Array.getElem?_eq_some_iff.1 h2).1).trans h2, rest⟩
/-- a token that was put into a variable of its own lies there still behind the append -/
theorem tok_kept {wr W W2 : World} {base n : Nat} {v : Value} {xs : List Value} (h : wr.ownsRow base 130 5 v n xs) (hb : Below wr.heap.size wr W) (o : Obj) (cs : Array Value) (hg : ((W.alloc (.cells cs 130 (0, 0))).alloc o).grownBy W2 v.ownBlock) : ∀ i, W2.cell? ⟨W.heap.size, i, none⟩ = cs[i]? := by
  intro i
  have hn : ((W.alloc (.cells cs 130 (0, 0))).alloc o).heap[W.heap.size]? = some (.cells cs 130 (0, 0)) := by
    rw [Below.heap_alloc _ _ _ (by simp)]
    exact heap_alloc_new W _
  have hl := (Array.getElem?_eq_some_iff.1 hn).1
  refine cell_of_row _ _ _ _ _ _ ((hg.block _ hl ?_).trans hn)
  intro he
  have := (h.lt _ he.symm).2
  have := hb.size
  omega
theorem own_slice {w : World} {base : Nat} {e : TypeId} {size n : Nat} {v : Value} {xs : List Value} (h : w.ownsRow base e size v n xs) (hn : 0 < n) : ∃ A m c, v = .slice A m c ∧ m = n := by
  rcases h.2 with ⟨_, h0⟩ | ⟨g, cap, cur, rfl, _⟩
  · omega
  · exact ⟨_, _, _, rfl, rfl⟩
def posn : Nat → Int
  | 0 => 0
  | 1 => 7
  | 2 => 8
  | 3 => 10
  | 4 => 17
  | 5 => 18
  | 6 => 20
  | _ => 20
def Six (w : World) (e : Ending) (w' : World) : Prop := ∃ v, e = .returned (.tuple #[v, .int .i64 0, .int .i64 0]) ∧ Below w.heap.size w w'
theorem lex_src (w : World) : Calls Tryz.prog 48 #[.string ⟨#[109, 111, 100, 117, 108, 101, 32, 109, 59, 10, 105, 109, 112, 111, 114, 116, 32, 107, 59, 10]⟩] w (Six w) := by
  obtain ⟨i0, hi, hz0, hz1, hz2⟩ := info_parts infoTok
  have I := Hd.mk (And.intro hi (And.intro hz0 (And.intro hz1 hz2)))
  clear hi hz0 hz1 hz2
  go_enter Tryz.func48, Tryz.ntmps48
  go_wp2_with (go_at_call 101; (with_reducible refine ((skip0 _).mono ?_)); (rintro e w0 ⟨rfl, hb0⟩; have HB0 := Hd.mk hb0; clear hb0))
  go_loopw [5, 6] (fun v i w' => ∃ (j : Nat) (xs : List Value), j ≤ 6 ∧ i = .int .i64 (posn j) ∧ w'.ownsRow w.heap.size 130 5 v j xs ∧ (∃ A n c, v = .slice A n c ∧ n = j) ∧ Below w.heap.size w w') (fun _ i _ => 20 - (intOf i).toNat)
  case atStart => exact ⟨0, [], by omega, rfl, World.ownsRow_nil _ _ _ _, ⟨_, _, _, rfl, rfl⟩, HB0.out⟩
  case round =>
    obtain ⟨j, xs, hj, rfl, hown, ⟨A, n, c, rfl, rfl⟩, hb⟩ := hrel
    rename_i wr
    have HB := Hd.mk hb
    have HO := Hd.mk hown
    clear hb hown
    rcases (by omega : n = 0 ∨ n = 1 ∨ n = 2 ∨ n = 3 ∨ n = 4 ∨ n = 5 ∨ n = 6) with rfl | rfl | rfl | rfl | rfl | rfl | rfl
    · simp only [posn]
      go_wp2_with (first
        | (go_at_call 102; (with_reducible refine ((one0 _).mono ?_)); (rintro e w1 ⟨rfl, hb1⟩; have HB1 := Hd.mk hb1; clear hb1))
        | (go_at_call 101; (with_reducible refine ((skip6 _).mono ?_)); (rintro e w3 ⟨rfl, hb3⟩; have HB3 := Hd.mk hb3; clear hb3))
        | (at_builtin; refine wpList_append_own _ rfl _ _ 74 rfl w.heap.size 130 i0 _ 5 48 Tryz.underlying74 I.out.1 I.out.2.1 I.out.2.2.1 I.out.2.2.2 rfl (by decide) _ _ _ rfl (own_below HO.out (up (up HB1.out _) _)) ⟨w1.heap.size + 1, 0, none⟩ 1 1 [.int .i64 2, .string ⟨#[109, 111, 100, 117, 108, 101]⟩, .int .i64 0, .int .u64 0, .int .i64 0] rfl rfl (new_add2 w1 _ _ 130 _ rfl) (by simp [Value.oneCell']) (by unfold maxLen; omega) (by omega) (by have := HB.out.size; have := HB1.out.size; simp; omega) ?_; intro v' w2 hown' hgrow _; have ht := tok_kept HO.out HB1.out _ _ hgrow; have HO2 := Hd.mk hown'; have HG := Hd.mk hgrow; clear hown' hgrow))
      refine ⟨⟨1, _, by omega, rfl, own_below HO2.out HB3.out, own_slice HO2.out (by omega), step ((up (up (step HB.out HB1.out) _) _).grown HG.out (by have := HB.out.size; have := HB1.out.size; simp; omega) (fun k hk => (HO.out.lt k hk).1)) HB3.out⟩, by decide⟩
    · simp only [posn]
      go_wp2_with (first
        | (go_at_call 102; (with_reducible refine ((one7 _).mono ?_)); (rintro e w1 ⟨rfl, hb1⟩; have HB1 := Hd.mk hb1; clear hb1))
        | (go_at_call 101; (with_reducible refine ((skip8 _).mono ?_)); (rintro e w3 ⟨rfl, hb3⟩; have HB3 := Hd.mk hb3; clear hb3))
        | (at_builtin; refine wpList_append_own _ rfl _ _ 74 rfl w.heap.size 130 i0 _ 5 48 Tryz.underlying74 I.out.1 I.out.2.1 I.out.2.2.1 I.out.2.2.2 rfl (by decide) _ _ _ rfl (own_below HO.out (up (up HB1.out _) _)) ⟨w1.heap.size + 1, 0, none⟩ 1 1 [.int .i64 1, .string ⟨#[109]⟩, .int .i64 0, .int .u64 0, .int .i64 7] rfl rfl (new_add2 w1 _ _ 130 _ rfl) (by simp [Value.oneCell']) (by unfold maxLen; omega) (by omega) (by have := HB.out.size; have := HB1.out.size; simp; omega) ?_; intro v' w2 hown' hgrow _; have ht := tok_kept HO.out HB1.out _ _ hgrow; have HO2 := Hd.mk hown'; have HG := Hd.mk hgrow; clear hown' hgrow))
      refine ⟨⟨2, _, by omega, rfl, own_below HO2.out HB3.out, own_slice HO2.out (by omega), step ((up (up (step HB.out HB1.out) _) _).grown HG.out (by have := HB.out.size; have := HB1.out.size; simp; omega) (fun k hk => (HO.out.lt k hk).1)) HB3.out⟩, by decide⟩
    · simp only [posn]
      go_wp2_with (first
        | (go_at_call 102; (with_reducible refine ((one8 _).mono ?_)); (rintro e w1 ⟨rfl, hb1⟩; have HB1 := Hd.mk hb1; clear hb1))
        | (go_at_call 101; (with_reducible refine ((skip9 _).mono ?_)); (rintro e w3 ⟨rfl, hb3⟩; have HB3 := Hd.mk hb3; clear hb3))
        | (at_builtin; refine wpList_append_own _ rfl _ _ 74 rfl w.heap.size 130 i0 _ 5 48 Tryz.underlying74 I.out.1 I.out.2.1 I.out.2.2.1 I.out.2.2.2 rfl (by decide) _ _ _ rfl (own_below HO.out (up (up HB1.out _) _)) ⟨w1.heap.size + 1, 0, none⟩ 1 1 [.int .i64 5, .string ⟨#[59]⟩, .int .i64 0, .int .u64 0, .int .i64 8] rfl rfl (new_add2 w1 _ _ 130 _ rfl) (by simp [Value.oneCell']) (by unfold maxLen; omega) (by omega) (by have := HB.out.size; have := HB1.out.size; simp; omega) ?_; intro v' w2 hown' hgrow _; have ht := tok_kept HO.out HB1.out _ _ hgrow; have HO2 := Hd.mk hown'; have HG := Hd.mk hgrow; clear hown' hgrow))
      refine ⟨⟨3, _, by omega, rfl, own_below HO2.out HB3.out, own_slice HO2.out (by omega), step ((up (up (step HB.out HB1.out) _) _).grown HG.out (by have := HB.out.size; have := HB1.out.size; simp; omega) (fun k hk => (HO.out.lt k hk).1)) HB3.out⟩, by decide⟩
    · simp only [posn]
      go_wp2_with (first
        | (go_at_call 102; (with_reducible refine ((one10 _).mono ?_)); (rintro e w1 ⟨rfl, hb1⟩; have HB1 := Hd.mk hb1; clear hb1))
        | (go_at_call 101; (with_reducible refine ((skip16 _).mono ?_)); (rintro e w3 ⟨rfl, hb3⟩; have HB3 := Hd.mk hb3; clear hb3))
        | (at_builtin; refine wpList_append_own _ rfl _ _ 74 rfl w.heap.size 130 i0 _ 5 48 Tryz.underlying74 I.out.1 I.out.2.1 I.out.2.2.1 I.out.2.2.2 rfl (by decide) _ _ _ rfl (own_below HO.out (up (up HB1.out _) _)) ⟨w1.heap.size + 1, 0, none⟩ 1 1 [.int .i64 2, .string ⟨#[105, 109, 112, 111, 114, 116]⟩, .int .i64 0, .int .u64 0, .int .i64 10] rfl rfl (new_add2 w1 _ _ 130 _ rfl) (by simp [Value.oneCell']) (by unfold maxLen; omega) (by omega) (by have := HB.out.size; have := HB1.out.size; simp; omega) ?_; intro v' w2 hown' hgrow _; have ht := tok_kept HO.out HB1.out _ _ hgrow; have HO2 := Hd.mk hown'; have HG := Hd.mk hgrow; clear hown' hgrow))
      refine ⟨⟨4, _, by omega, rfl, own_below HO2.out HB3.out, own_slice HO2.out (by omega), step ((up (up (step HB.out HB1.out) _) _).grown HG.out (by have := HB.out.size; have := HB1.out.size; simp; omega) (fun k hk => (HO.out.lt k hk).1)) HB3.out⟩, by decide⟩
    · simp only [posn]
      go_wp2_with (first
        | (go_at_call 102; (with_reducible refine ((one17 _).mono ?_)); (rintro e w1 ⟨rfl, hb1⟩; have HB1 := Hd.mk hb1; clear hb1))
        | (go_at_call 101; (with_reducible refine ((skip18 _).mono ?_)); (rintro e w3 ⟨rfl, hb3⟩; have HB3 := Hd.mk hb3; clear hb3))
        | (at_builtin; refine wpList_append_own _ rfl _ _ 74 rfl w.heap.size 130 i0 _ 5 48 Tryz.underlying74 I.out.1 I.out.2.1 I.out.2.2.1 I.out.2.2.2 rfl (by decide) _ _ _ rfl (own_below HO.out (up (up HB1.out _) _)) ⟨w1.heap.size + 1, 0, none⟩ 1 1 [.int .i64 1, .string ⟨#[107]⟩, .int .i64 0, .int .u64 0, .int .i64 17] rfl rfl (new_add2 w1 _ _ 130 _ rfl) (by simp [Value.oneCell']) (by unfold maxLen; omega) (by omega) (by have := HB.out.size; have := HB1.out.size; simp; omega) ?_; intro v' w2 hown' hgrow _; have ht := tok_kept HO.out HB1.out _ _ hgrow; have HO2 := Hd.mk hown'; have HG := Hd.mk hgrow; clear hown' hgrow))
      refine ⟨⟨5, _, by omega, rfl, own_below HO2.out HB3.out, own_slice HO2.out (by omega), step ((up (up (step HB.out HB1.out) _) _).grown HG.out (by have := HB.out.size; have := HB1.out.size; simp; omega) (fun k hk => (HO.out.lt k hk).1)) HB3.out⟩, by decide⟩
    · simp only [posn]
      go_wp2_with (first
        | (go_at_call 102; (with_reducible refine ((one18 _).mono ?_)); (rintro e w1 ⟨rfl, hb1⟩; have HB1 := Hd.mk hb1; clear hb1))
        | (go_at_call 101; (with_reducible refine ((skip19 _).mono ?_)); (rintro e w3 ⟨rfl, hb3⟩; have HB3 := Hd.mk hb3; clear hb3))
        | (at_builtin; refine wpList_append_own _ rfl _ _ 74 rfl w.heap.size 130 i0 _ 5 48 Tryz.underlying74 I.out.1 I.out.2.1 I.out.2.2.1 I.out.2.2.2 rfl (by decide) _ _ _ rfl (own_below HO.out (up (up HB1.out _) _)) ⟨w1.heap.size + 1, 0, none⟩ 1 1 [.int .i64 5, .string ⟨#[59]⟩, .int .i64 0, .int .u64 0, .int .i64 18] rfl rfl (new_add2 w1 _ _ 130 _ rfl) (by simp [Value.oneCell']) (by unfold maxLen; omega) (by omega) (by have := HB.out.size; have := HB1.out.size; simp; omega) ?_; intro v' w2 hown' hgrow _; have ht := tok_kept HO.out HB1.out _ _ hgrow; have HO2 := Hd.mk hown'; have HG := Hd.mk hgrow; clear hown' hgrow))
      refine ⟨⟨6, _, by omega, rfl, own_below HO2.out HB3.out, own_slice HO2.out (by omega), step ((up (up (step HB.out HB1.out) _) _).grown HG.out (by have := HB.out.size; have := HB1.out.size; simp; omega) (fun k hk => (HO.out.lt k hk).1)) HB3.out⟩, by decide⟩
    · simp only [posn]
      go_wp2_with fail

      refine bodyPost_ret (v := .tuple #[.slice A 6 c, .int .i64 0, .int .i64 0]) (by simp [results, Tryz.results48, go_sem]) rfl ⟨_, rfl, HB.out⟩
end Go.Proofs.YtbhgpegcdiohlaaGreatDoor.Tr
