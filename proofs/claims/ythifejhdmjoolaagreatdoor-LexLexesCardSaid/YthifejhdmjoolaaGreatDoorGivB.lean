/-
  The comparisons, whole numbers to floats and back, strings.IndexByte: walked by hand.
-/
import Derived.Test.YthifejhdmjoolaaGreatDoorGivA
namespace Go.Proofs.YthifejhdmjoolaaGreatDoorG
open Go Go.RowKit
set_option linter.unusedVariables false
set_option linter.unusedSimpArgs false

/-- How two floats stand, by their bits. -/
def ordI (a b : Int) : Option Ordering := FloatKind.f64.format.order a.toNat b.toNat

def floats_Equal.f (a0 a1 : Int) : Option Bool := some (ordI a0 a1 == some .eq)
def floats_Less.f (a0 a1 : Int) : Option Bool := some (ordI a0 a1 == some .lt)
def floats_LessEq.f (a0 a1 : Int) : Option Bool := some (ordI a0 a1 == some .lt || ordI a0 a1 == some .eq)

theorem floats_Less.calls (a0 a1 : Int) (r : Bool) (w : World) (h : floats_Less.f a0 a1 = some r) :
    Calls Tryz.prog 40 #[.int .u64 a0, .int .u64 a1] w fun e w' => e = .returned (.bool r) ∧ Below w.heap.size w w' := by
  obtain rfl := Option.some.inj h
  clear h
  go_enter Tryz.func40, Tryz.ntmps40
  go_wp2_with (go_at_call 36; refine Calls.mono (to_any _ _) ?_; rintro e w' ⟨rfl, rfl⟩)
  go_ret
  exact ⟨rfl, Below.refl _ _⟩
theorem fromInt_lt (n : Int) : floatOfInt .f64 n < 18446744073709551616 := by
  have := floatOfInt_wf .f64 n
  simpa [Lit.wf] using this

def floats_FromInt.f (a0 : Int) : Option Int := some (canonN (floatOfInt .f64 a0) : Nat)
def foundryref01_FromInt.f (a0 : Int) : Option Int := some (floatOfInt .f64 a0 : Nat)

def strings_IndexByte.f (a0 : ByteArray) (a1 : Int) : Option Int := some (Lib.indexByte a0.data.toList a1.toNat.toUInt8)
theorem index_lite (a0 : ByteArray) (a1 : Int) (w : World) :
    Calls Tryz.prog 62 #[.string a0, .int .u8 a1] w fun e w' => e = .returned (.int .i64 (Lib.indexByte a0.data.toList a1.toNat.toUInt8)) ∧ w' = w := by
  go_enter Tryz.func62, Tryz.ntmps62
  go_wp2_with (rw [ext94, Oper.upon_value])
  go_ret
  exact ⟨rfl, rfl⟩
theorem strings_IndexByte.calls (a0 : ByteArray) (a1 r : Int) (w : World) (h : strings_IndexByte.f a0 a1 = some r) :
    Calls Tryz.prog 37 #[.string a0, .int .u8 a1] w fun e w' => e = .returned (.int .i64 r) ∧ Below w.heap.size w w' := by
  obtain rfl := Option.some.inj h
  clear h
  go_enter Tryz.func37, Tryz.ntmps37
  go_wp2_with (go_at_call 62; refine Calls.mono (index_lite _ _ _) ?_; rintro e w' ⟨rfl, rfl⟩)
  go_ret
  exact ⟨rfl, Below.refl _ _⟩

def floats_to.f (a0 : Int) : Option Nat := some a0.toNat
theorem floats_to.calls (a0 : Int) (r : Nat) (w : World) (h : floats_to.f a0 = some r) :
    Calls Tryz.prog 36 #[.int .u64 a0] w fun e w' => e = .returned (.float .f64 r) ∧ Below w.heap.size w w' := by
  obtain rfl := Option.some.inj h
  clear h
  exact (to_any a0 w).mono fun e w' ⟨h1, h2⟩ => ⟨h1, by subst h2; exact Below.refl _ _⟩
end Go.Proofs.YthifejhdmjoolaaGreatDoorG
