/-
  The leaves that are walked by hand: ints.Decimal, ints.digits, bits.Mul64: each comes to a plain function of its arguments; the premise LaidOk is what the rows' listed variables give.
-/
import Derived.Test.YtjgccgjdonjlaaaDoorShelf
import Derived.Test.YtjgccgjdonjlaaaDoorRows
import Derived.WalkKit
import Derived.WalkSpells
import Derived.WalkSmall
import Derived.Laws.RangeAny
import Derived.Lib.ParseIntB
import Derived.BigQuiet
import Derived.Deep.QuietTactic
namespace Go.Proofs.YtjgccgjdonjlaaaDoorG
open Go Go.RowKit Go.Shelf
set_option linter.unusedVariables false
set_option linter.unusedSimpArgs false

/-- What the listed variables hold, as far as the walks ask. -/
structure LaidOk (w : World) : Prop where
  pow : Lib.TabIs Tryd.prog w "internal/strconv.uint64pow10" .u64 Lib.pow10Tab
  syn : ∃ tp p, w.var? Tryd.prog "strconv.ErrSyntax" = some #[.iface tp p]
  rng : ∃ tp p, w.var? Tryd.prog "strconv.ErrRange" = some #[.iface tp p]

theorem below_grow (w : World) (k : Nat) (os : Array Obj) : Below w.heap.size w (Go.Sort.grow (w.drewN k) os) :=
  (below_drewN (Below.refl _ _) k).trans ⟨rfl, rfl, rfl, by simp [Go.Sort.grow], fun i hi => by simp [Go.Sort.grow, Array.getElem?_append, hi]⟩

theorem gpow : Tryd.prog.globalNamed "internal/strconv.uint64pow10" = some 0 := by kernel_rfl
theorem gsyn : Tryd.prog.globalNamed "strconv.ErrSyntax" = some 1 := by kernel_rfl
theorem grng : Tryd.prog.globalNamed "strconv.ErrRange" = some 2 := by kernel_rfl

theorem var_lt {P : Program} {W : World} {n : String} {g : Nat} {cs : Array Value} (hg : P.globalNamed n = some g) (h : W.var? P n = some cs) : g < W.heap.size := by
  unfold World.var? at h
  simp only [hg, Option.bind_some] at h
  rcases Nat.lt_or_ge g W.heap.size with h' | h'
  · exact h'
  · simp [Array.getElem?_eq_none h'] at h

theorem LaidOk.below {w w' : World} (h : Below w.heap.size w w') (L : LaidOk w) : LaidOk w' := by
  obtain ⟨h1, ⟨t2, p2, h2⟩, ⟨t3, p3, h3⟩⟩ := L
  exact ⟨var?_below h gpow (var_lt gpow h1) h1, ⟨t2, p2, var?_below h gsyn (var_lt gsyn h2) h2⟩, ⟨t3, p3, var?_below h grng (var_lt grng h3) h3⟩⟩

def ints_Decimal.f (a0 : Int) : Option ByteArray := if -9223372036854775808 ≤ a0 ∧ a0 ≤ 9223372036854775807 then some ⟨(Lib.itoa a0).toArray⟩ else none

set_option maxHeartbeats 400000 in
theorem ints_Decimal.calls (a0 : Int) (r : ByteArray) (w : World) (hLaid : LaidOk w) (h : ints_Decimal.f a0 = some r) :
    Calls Tryd.prog 16 #[.int .i64 a0] w fun e w' => e = .returned (.string r) ∧ Below w.heap.size w w' := by
  unfold ints_Decimal.f at h
  split at h
  · rename_i hb
    obtain rfl := Option.some.inj h
    clear h
    obtain ⟨h0, h1⟩ := hb
    have C := Tryd.strconv_FormatInt_10 a0 h0 h1 w hLaid.pow
    clear hLaid
    go_enter Tryd.func16, Tryd.ntmps16
    go_wp2_with (go_at_call 39; refine C.mono ?_; rintro e w' ⟨rfl, k, os, rfl⟩)
    go_ret
    exact ⟨rfl, below_grow w k os⟩
  · cases h

def bits_Mul64.f (a0 a1 : Int) : Option (Int × Int) := if 0 ≤ a0 ∧ a0 < 18446744073709551616 ∧ 0 ≤ a1 ∧ a1 < 18446744073709551616 then some (a0 * a1 / 18446744073709551616, a0 * a1 % 18446744073709551616) else none

theorem bits_Mul64.calls (a0 a1 r1 r2 : Int) (w : World) (h : bits_Mul64.f a0 a1 = some (r1, r2)) :
    Calls Tryd.prog 40 #[.int .u64 a0, .int .u64 a1] w fun e w' => e = .returned (.tuple #[.int .u64 r1, .int .u64 r2]) ∧ Below w.heap.size w w' := by
  unfold bits_Mul64.f at h
  split at h
  · rename_i hb
    obtain ⟨h0, h1, h2, h3⟩ := hb
    simp only [Option.some.injEq, Prod.mk.injEq] at h
    obtain ⟨rfl, rfl⟩ := h
    obtain ⟨x, rfl⟩ := Int.eq_ofNat_of_zero_le h0
    obtain ⟨y, rfl⟩ := Int.eq_ofNat_of_zero_le h2
    refine (Tryd.bits_Mul64 x y (by omega) (by omega) w).mono ?_
    rintro e w' ⟨rfl, rfl⟩
    exact ⟨by simp, Below.refl _ _⟩
  · cases h

end Go.Proofs.YtjgccgjdonjlaaaDoorG
