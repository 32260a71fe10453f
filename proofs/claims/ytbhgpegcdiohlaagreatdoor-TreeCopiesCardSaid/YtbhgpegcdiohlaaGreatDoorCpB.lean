import Derived.Test.YtbhgpegcdiohlaaGreatDoorTrL
import Derived.Deep.AppendLies
import Derived.Laws.AppendOwnNone
import Derived.Lib.SliceRun
import Derived.Lib.Walk
import Derived.Shelf.RegionOpenPlain
namespace Go.Proofs.YtbhgpegcdiohlaaGreatDoor.Tr
open Go Go.RowKit Go.Proofs
set_option linter.unusedVariables false
set_option maxRecDepth 100000
set_option maxHeartbeats 2000000
/-- what slices.Clone answers: as many elements, in new memory that may be written -/
def Cloned (sz : Nat) (news : List Value) (l : Nat) (w : World) (e : Ending) (w' : World) : Prop := ∃ (A' : Option Addr) (c' : Nat), e = .returned (.slice A' l c') ∧ Below w.heap.size w w' ∧ (0 < l → ∃ g, A' = some ⟨g, 0, none⟩ ∧ w.heap.size ≤ g ∧ g < w'.heap.size ∧ (∀ j, j < l * sz → w'.cell? ⟨g, j, none⟩ = news[j]?) ∧ ∀ r, w'.frozen? ⟨g, r, none⟩ = false)
theorem cloned_of {sz l : Nat} {e : TypeId} {news : List Value} {w w' : World} {v : Value} (hsz : 0 < sz) (hown : w'.ownsRow w.heap.size e sz v l news) (hb : Below w.heap.size w w') : Cloned sz news l w (.returned v) w' := by
  have hown' := hown
  obtain ⟨h1, h2⟩ := hown
  rcases h2 with ⟨rfl, rfl⟩ | ⟨g, cap, cur, rfl, hbase, hg, hnc, hcm, hcs, ht⟩
  · exact ⟨none, 0, rfl, hb, fun h => by omega⟩
  · refine ⟨_, cap, rfl, hb, fun h => ⟨g, rfl, hbase, (Array.getElem?_eq_some_iff.1 hg).1, fun j hj => World.ownsRow.cellAt hown' j hj, fun r => World.ownsRow.frozenAt hown' r⟩⟩
theorem infoC31 : (Tryz.prog.info? 31).map (fun i => (i.zero, i.size, i.bytes)) = some (some (.agg #[.int .i64 0, .int .i64 0, .string ⟨#[]⟩, .string ⟨#[]⟩, .int .i64 0, .int .u64 0, .slice none 0 0]), 7, 88) := by kernel_rfl
theorem clone117 (w : World) (A : Option Addr) (l c : Nat) (news : List Value) (hl : news.length = l * 7) (h1 : ∀ u ∈ news, u.oneCell' = true) (hs : 0 < l → ∃ B o, A = some ⟨B, o, none⟩ ∧ ∀ (j : Nat) (u : Value), news[j]? = some u → w.cell? ((⟨B, o, none⟩ : Addr).add j) = some u) (hr : l * 88 ≤ 140737488351232) : Calls Tryz.prog 117 #[.slice A l c] w (Cloned 7 news l w) := by
  have q : ∀ (w : World) (a : Option Addr) (n c n' c' : Nat), (binOp .eql 29 (.slice a n c) (.slice none n' c')).run Tryz.prog w = .ok (.bool a.isNone) w := fun w a n c n' c' => Lib.run_eql_slice_nil w _ _ a n c n' c' Tryz.underlying29
  cases A with
  | none =>
    have hl0 : l = 0 := by
      rcases Nat.eq_zero_or_pos l with h | h
      · exact h
      · obtain ⟨B, o, h2, _⟩ := hs h
        cases h2
    subst hl0
    clear hs
    go_enter Tryz.func117, Tryz.ntmps117
    go_wp2_with fail
    go_ret
    exact ⟨none, 0, rfl, up0 _, fun h => by omega⟩
  | some a =>
    obtain ⟨i0, hi, hz0, hz1, hz2⟩ := info_parts infoC31
    have hs' : ∀ (j : Nat) (u : Value), news[j]? = some u → w.cell? (a.add j) = some u := fun j u hj => by
      have hp : 0 < l := by
        rcases Nat.eq_zero_or_pos l with h | h
        · subst h
          obtain rfl : news = [] := List.length_eq_zero_iff.1 (by omega)
          simp at hj
        · exact h
      obtain ⟨B, o, h2, h3⟩ := hs hp
      injection h2 with h2
      subst h2
      exact h3 j u hj
    have HS := Hd.mk hs'
    clear hs hs'
    go_enter Tryz.func117, Tryz.ntmps117
    go_wp2_with (at_builtin; refine wpList_append_own _ rfl _ _ 29 rfl w.heap.size 31 i0 _ 7 88 Tryz.underlying29 hi hz0 hz1 hz2 rfl (by decide) _ _ _ rfl (World.ownsRow_made w #[] 0 (Nat.le_refl _) (Nat.zero_le _) rfl) a l c news rfl ?qc1 ?qc2 ?qc3 ?qc4 ?qc5 ?qc6 ?_)
    case qc1 => exact hl
    case qc2 =>
      intro j u hj
      have := HS.out j u hj
      exact keep ((up0 w).alloc (Nat.le_refl _) _) this
    case qc3 => exact h1
    case qc4 => unfold maxLen; omega
    case qc5 => omega
    case qc6 => simp
    intro v' w1 hown hgrow hnil
    go_wp2
    go_ret
    exact cloned_of (by decide) (by simpa using hown) (((Below.refl _ w).alloc (Nat.le_refl _) _).grown hgrow (by simp) (by intro k hk; simp [Value.ownBlock] at hk; omega))
theorem infoC98 : (Tryz.prog.info? 98).map (fun i => (i.zero, i.size, i.bytes)) = some (some (.agg #[.int .i64 0, .string ⟨#[]⟩, .slice none 0 0, .slice none 0 0, .slice none 0 0]), 5, 96) := by kernel_rfl
theorem clone118 (w : World) (A : Option Addr) (l c : Nat) (news : List Value) (hl : news.length = l * 5) (h1 : ∀ u ∈ news, u.oneCell' = true) (hs : 0 < l → ∃ B o, A = some ⟨B, o, none⟩ ∧ ∀ (j : Nat) (u : Value), news[j]? = some u → w.cell? ((⟨B, o, none⟩ : Addr).add j) = some u) (hr : l * 96 ≤ 140737488351232) : Calls Tryz.prog 118 #[.slice A l c] w (Cloned 5 news l w) := by
  have q : ∀ (w : World) (a : Option Addr) (n c n' c' : Nat), (binOp .eql 45 (.slice a n c) (.slice none n' c')).run Tryz.prog w = .ok (.bool a.isNone) w := fun w a n c n' c' => Lib.run_eql_slice_nil w _ _ a n c n' c' Tryz.underlying45
  cases A with
  | none =>
    have hl0 : l = 0 := by
      rcases Nat.eq_zero_or_pos l with h | h
      · exact h
      · obtain ⟨B, o, h2, _⟩ := hs h
        cases h2
    subst hl0
    clear hs
    go_enter Tryz.func118, Tryz.ntmps118
    go_wp2_with fail
    go_ret
    exact ⟨none, 0, rfl, up0 _, fun h => by omega⟩
  | some a =>
    obtain ⟨i0, hi, hz0, hz1, hz2⟩ := info_parts infoC98
    have hs' : ∀ (j : Nat) (u : Value), news[j]? = some u → w.cell? (a.add j) = some u := fun j u hj => by
      have hp : 0 < l := by
        rcases Nat.eq_zero_or_pos l with h | h
        · subst h
          obtain rfl : news = [] := List.length_eq_zero_iff.1 (by omega)
          simp at hj
        · exact h
      obtain ⟨B, o, h2, h3⟩ := hs hp
      injection h2 with h2
      subst h2
      exact h3 j u hj
    have HS := Hd.mk hs'
    clear hs hs'
    go_enter Tryz.func118, Tryz.ntmps118
    go_wp2_with (at_builtin; refine wpList_append_own _ rfl _ _ 45 rfl w.heap.size 98 i0 _ 5 96 Tryz.underlying45 hi hz0 hz1 hz2 rfl (by decide) _ _ _ rfl (World.ownsRow_made w #[] 0 (Nat.le_refl _) (Nat.zero_le _) rfl) a l c news rfl ?qc1 ?qc2 ?qc3 ?qc4 ?qc5 ?qc6 ?_)
    case qc1 => exact hl
    case qc2 =>
      intro j u hj
      have := HS.out j u hj
      exact keep ((up0 w).alloc (Nat.le_refl _) _) this
    case qc3 => exact h1
    case qc4 => unfold maxLen; omega
    case qc5 => omega
    case qc6 => simp
    intro v' w1 hown hgrow hnil
    go_wp2
    go_ret
    exact cloned_of (by decide) (by simpa using hown) (((Below.refl _ w).alloc (Nat.le_refl _) _).grown hgrow (by simp) (by intro k hk; simp [Value.ownBlock] at hk; omega))
theorem infoC47 : (Tryz.prog.info? 47).map (fun i => (i.zero, i.size, i.bytes)) = some (some (.agg #[.int .i64 0, .bool false, .string ⟨#[]⟩, .int .i64 0, .slice none 0 0, .slice none 0 0, .slice none 0 0]), 7, 112) := by kernel_rfl
theorem clone116 (w : World) (A : Option Addr) (l c : Nat) (news : List Value) (hl : news.length = l * 7) (h1 : ∀ u ∈ news, u.oneCell' = true) (hs : 0 < l → ∃ B o, A = some ⟨B, o, none⟩ ∧ ∀ (j : Nat) (u : Value), news[j]? = some u → w.cell? ((⟨B, o, none⟩ : Addr).add j) = some u) (hr : l * 112 ≤ 140737488351232) : Calls Tryz.prog 116 #[.slice A l c] w (Cloned 7 news l w) := by
  have q : ∀ (w : World) (a : Option Addr) (n c n' c' : Nat), (binOp .eql 23 (.slice a n c) (.slice none n' c')).run Tryz.prog w = .ok (.bool a.isNone) w := fun w a n c n' c' => Lib.run_eql_slice_nil w _ _ a n c n' c' Tryz.underlying23
  cases A with
  | none =>
    have hl0 : l = 0 := by
      rcases Nat.eq_zero_or_pos l with h | h
      · exact h
      · obtain ⟨B, o, h2, _⟩ := hs h
        cases h2
    subst hl0
    clear hs
    go_enter Tryz.func116, Tryz.ntmps116
    go_wp2_with fail
    go_ret
    exact ⟨none, 0, rfl, up0 _, fun h => by omega⟩
  | some a =>
    obtain ⟨i0, hi, hz0, hz1, hz2⟩ := info_parts infoC47
    have hs' : ∀ (j : Nat) (u : Value), news[j]? = some u → w.cell? (a.add j) = some u := fun j u hj => by
      have hp : 0 < l := by
        rcases Nat.eq_zero_or_pos l with h | h
        · subst h
          obtain rfl : news = [] := List.length_eq_zero_iff.1 (by omega)
          simp at hj
        · exact h
      obtain ⟨B, o, h2, h3⟩ := hs hp
      injection h2 with h2
      subst h2
      exact h3 j u hj
    have HS := Hd.mk hs'
    clear hs hs'
    go_enter Tryz.func116, Tryz.ntmps116
    go_wp2_with (at_builtin; refine wpList_append_own _ rfl _ _ 23 rfl w.heap.size 47 i0 _ 7 112 Tryz.underlying23 hi hz0 hz1 hz2 rfl (by decide) _ _ _ rfl (World.ownsRow_made w #[] 0 (Nat.le_refl _) (Nat.zero_le _) rfl) a l c news rfl ?qc1 ?qc2 ?qc3 ?qc4 ?qc5 ?qc6 ?_)
    case qc1 => exact hl
    case qc2 =>
      intro j u hj
      have := HS.out j u hj
      exact keep ((up0 w).alloc (Nat.le_refl _) _) this
    case qc3 => exact h1
    case qc4 => unfold maxLen; omega
    case qc5 => omega
    case qc6 => simp
    intro v' w1 hown hgrow hnil
    go_wp2
    go_ret
    exact cloned_of (by decide) (by simpa using hown) (((Below.refl _ w).alloc (Nat.le_refl _) _).grown hgrow (by simp) (by intro k hk; simp [Value.ownBlock] at hk; omega))
theorem infoC93 : (Tryz.prog.info? 93).map (fun i => (i.zero, i.size, i.bytes)) = some (some (.agg #[.string ⟨#[]⟩, .int .i64 0]), 2, 24) := by kernel_rfl
theorem clone64 (w : World) (A : Option Addr) (l c : Nat) (news : List Value) (hl : news.length = l * 2) (h1 : ∀ u ∈ news, u.oneCell' = true) (hs : 0 < l → ∃ B o, A = some ⟨B, o, none⟩ ∧ ∀ (j : Nat) (u : Value), news[j]? = some u → w.cell? ((⟨B, o, none⟩ : Addr).add j) = some u) (hr : l * 24 ≤ 140737488351232) : Calls Tryz.prog 64 #[.slice A l c] w (Cloned 2 news l w) := by
  have q : ∀ (w : World) (a : Option Addr) (n c n' c' : Nat), (binOp .eql 44 (.slice a n c) (.slice none n' c')).run Tryz.prog w = .ok (.bool a.isNone) w := fun w a n c n' c' => Lib.run_eql_slice_nil w _ _ a n c n' c' Tryz.underlying44
  cases A with
  | none =>
    have hl0 : l = 0 := by
      rcases Nat.eq_zero_or_pos l with h | h
      · exact h
      · obtain ⟨B, o, h2, _⟩ := hs h
        cases h2
    subst hl0
    clear hs
    go_enter Tryz.func64, Tryz.ntmps64
    go_wp2_with fail
    go_ret
    exact ⟨none, 0, rfl, up0 _, fun h => by omega⟩
  | some a =>
    obtain ⟨i0, hi, hz0, hz1, hz2⟩ := info_parts infoC93
    have hs' : ∀ (j : Nat) (u : Value), news[j]? = some u → w.cell? (a.add j) = some u := fun j u hj => by
      have hp : 0 < l := by
        rcases Nat.eq_zero_or_pos l with h | h
        · subst h
          obtain rfl : news = [] := List.length_eq_zero_iff.1 (by omega)
          simp at hj
        · exact h
      obtain ⟨B, o, h2, h3⟩ := hs hp
      injection h2 with h2
      subst h2
      exact h3 j u hj
    have HS := Hd.mk hs'
    clear hs hs'
    go_enter Tryz.func64, Tryz.ntmps64
    go_wp2_with (at_builtin; refine wpList_append_own _ rfl _ _ 44 rfl w.heap.size 93 i0 _ 2 24 Tryz.underlying44 hi hz0 hz1 hz2 rfl (by decide) _ _ _ rfl (World.ownsRow_made w #[] 0 (Nat.le_refl _) (Nat.zero_le _) rfl) a l c news rfl ?qc1 ?qc2 ?qc3 ?qc4 ?qc5 ?qc6 ?_)
    case qc1 => exact hl
    case qc2 =>
      intro j u hj
      have := HS.out j u hj
      exact keep ((up0 w).alloc (Nat.le_refl _) _) this
    case qc3 => exact h1
    case qc4 => unfold maxLen; omega
    case qc5 => omega
    case qc6 => simp
    intro v' w1 hown hgrow hnil
    go_wp2
    go_ret
    exact cloned_of (by decide) (by simpa using hown) (((Below.refl _ w).alloc (Nat.le_refl _) _).grown hgrow (by simp) (by intro k hk; simp [Value.ownBlock] at hk; omega))
theorem infoC9 : (Tryz.prog.info? 9).map (fun i => (i.zero, i.size, i.bytes)) = some (some (.string ⟨#[]⟩), 1, 16) := by kernel_rfl
theorem clone61 (w : World) (A : Option Addr) (l c : Nat) (news : List Value) (hl : news.length = l * 1) (h1 : ∀ u ∈ news, u.oneCell' = true) (hs : 0 < l → ∃ B o, A = some ⟨B, o, none⟩ ∧ ∀ (j : Nat) (u : Value), news[j]? = some u → w.cell? ((⟨B, o, none⟩ : Addr).add j) = some u) (hr : l * 16 ≤ 140737488351232) : Calls Tryz.prog 61 #[.slice A l c] w (Cloned 1 news l w) := by
  have q : ∀ (w : World) (a : Option Addr) (n c n' c' : Nat), (binOp .eql 22 (.slice a n c) (.slice none n' c')).run Tryz.prog w = .ok (.bool a.isNone) w := fun w a n c n' c' => Lib.run_eql_slice_nil w _ _ a n c n' c' Tryz.underlying22
  cases A with
  | none =>
    have hl0 : l = 0 := by
      rcases Nat.eq_zero_or_pos l with h | h
      · exact h
      · obtain ⟨B, o, h2, _⟩ := hs h
        cases h2
    subst hl0
    clear hs
    go_enter Tryz.func61, Tryz.ntmps61
    go_wp2_with fail
    go_ret
    exact ⟨none, 0, rfl, up0 _, fun h => by omega⟩
  | some a =>
    obtain ⟨i0, hi, hz0, hz1, hz2⟩ := info_parts infoC9
    have hs' : ∀ (j : Nat) (u : Value), news[j]? = some u → w.cell? (a.add j) = some u := fun j u hj => by
      have hp : 0 < l := by
        rcases Nat.eq_zero_or_pos l with h | h
        · subst h
          obtain rfl : news = [] := List.length_eq_zero_iff.1 (by omega)
          simp at hj
        · exact h
      obtain ⟨B, o, h2, h3⟩ := hs hp
      injection h2 with h2
      subst h2
      exact h3 j u hj
    have HS := Hd.mk hs'
    clear hs hs'
    go_enter Tryz.func61, Tryz.ntmps61
    go_wp2_with (at_builtin; refine wpList_append_own _ rfl _ _ 22 rfl w.heap.size 9 i0 _ 1 16 Tryz.underlying22 hi hz0 hz1 hz2 rfl (by decide) _ _ _ rfl (World.ownsRow_made w #[] 0 (Nat.le_refl _) (Nat.zero_le _) rfl) a l c news rfl ?qc1 ?qc2 ?qc3 ?qc4 ?qc5 ?qc6 ?_)
    case qc1 => exact hl
    case qc2 =>
      intro j u hj
      have := HS.out j u hj
      exact keep ((up0 w).alloc (Nat.le_refl _) _) this
    case qc3 => exact h1
    case qc4 => unfold maxLen; omega
    case qc5 => omega
    case qc6 => simp
    intro v' w1 hown hgrow hnil
    go_wp2
    go_ret
    exact cloned_of (by decide) (by simpa using hown) (((Below.refl _ w).alloc (Nat.le_refl _) _).grown hgrow (by simp) (by intro k hk; simp [Value.ownBlock] at hk; omega))
end Go.Proofs.YtbhgpegcdiohlaaGreatDoor.Tr
