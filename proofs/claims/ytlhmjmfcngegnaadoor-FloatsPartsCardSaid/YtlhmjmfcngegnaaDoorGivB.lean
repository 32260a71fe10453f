/-
  The comparisons, whole numbers to floats and back, strings.IndexByte: walked by hand.
-/
import Derived.Test.YtlhmjmfcngegnaaDoorGivA
namespace Go.Proofs.YtlhmjmfcngegnaaDoorG
open Go Go.RowKit
set_option linter.unusedVariables false
set_option linter.unusedSimpArgs false

/-- How two floats stand, by their bits. -/
def ordI (a b : Int) : Option Ordering := FloatKind.f64.format.order a.toNat b.toNat

def floats_Equal.f (a0 a1 : Int) : Option Bool := some (ordI a0 a1 == some .eq)
def floats_Less.f (a0 a1 : Int) : Option Bool := some (ordI a0 a1 == some .lt)
def floats_LessEq.f (a0 a1 : Int) : Option Bool := some (ordI a0 a1 == some .lt || ordI a0 a1 == some .eq)

theorem floats_Equal.calls (a0 a1 : Int) (r : Bool) (w : World) (h : floats_Equal.f a0 a1 = some r) :
    Calls Tryd.prog 10 #[.int .u64 a0, .int .u64 a1] w fun e w' => e = .returned (.bool r) ∧ Below w.heap.size w w' := by
  obtain rfl := Option.some.inj h
  clear h
  go_enter Tryd.func10, Tryd.ntmps10
  go_wp2_with (go_at_call 43; refine Calls.mono (to_any _ _) ?_; rintro e w' ⟨rfl, rfl⟩)
  go_ret
  exact ⟨rfl, Below.refl _ _⟩
theorem floats_Less.calls (a0 a1 : Int) (r : Bool) (w : World) (h : floats_Less.f a0 a1 = some r) :
    Calls Tryd.prog 12 #[.int .u64 a0, .int .u64 a1] w fun e w' => e = .returned (.bool r) ∧ Below w.heap.size w w' := by
  obtain rfl := Option.some.inj h
  clear h
  go_enter Tryd.func12, Tryd.ntmps12
  go_wp2_with (go_at_call 43; refine Calls.mono (to_any _ _) ?_; rintro e w' ⟨rfl, rfl⟩)
  go_ret
  exact ⟨rfl, Below.refl _ _⟩
theorem floats_LessEq.calls (a0 a1 : Int) (r : Bool) (w : World) (h : floats_LessEq.f a0 a1 = some r) :
    Calls Tryd.prog 14 #[.int .u64 a0, .int .u64 a1] w fun e w' => e = .returned (.bool r) ∧ Below w.heap.size w w' := by
  obtain rfl := Option.some.inj h
  clear h
  go_enter Tryd.func14, Tryd.ntmps14
  go_wp2_with (go_at_call 43; refine Calls.mono (to_any _ _) ?_; rintro e w' ⟨rfl, rfl⟩)
  go_ret
  exact ⟨rfl, Below.refl _ _⟩

theorem fromInt_lt (n : Int) : floatOfInt .f64 n < 18446744073709551616 := by
  have := floatOfInt_wf .f64 n
  simpa [Lit.wf] using this

def floats_FromInt.f (a0 : Int) : Option Int := some (canonN (floatOfInt .f64 a0) : Nat)
def foundryref01_FromInt.f (a0 : Int) : Option Int := some (floatOfInt .f64 a0 : Nat)

theorem floats_FromInt.calls (a0 r : Int) (w : World) (h : floats_FromInt.f a0 = some r) :
    Calls Tryd.prog 32 #[.int .i64 a0] w fun e w' => e = .returned (.int .u64 r) ∧ Below w.heap.size w w' := by
  obtain rfl := Option.some.inj h
  clear h
  go_enter Tryd.func32, Tryd.ntmps32
  go_wp2_with (go_at_call 47; refine Calls.mono (from_any _ _) ?_; rintro e w' ⟨rfl, rfl⟩)
  go_ret
  refine ⟨?_, Below.refl _ _⟩
  rw [canonI_nat _ (fromInt_lt _)]
  rfl
theorem foundryref01_FromInt.calls (a0 r : Int) (w : World) (h : foundryref01_FromInt.f a0 = some r) :
    Calls Tryd.prog 33 #[.int .i64 a0] w fun e w' => e = .returned (.int .u64 r) ∧ Below w.heap.size w w' := by
  obtain rfl := Option.some.inj h
  clear h
  go_enter Tryd.func33, Tryd.ntmps33
  go_wp2_with (rw [ext50, Oper.upon_value])
  go_ret
  exact ⟨rfl, Below.refl _ _⟩

def strings_IndexByte.f (a0 : ByteArray) (a1 : Int) : Option Int := some (Lib.indexByte a0.data.toList a1.toNat.toUInt8)
theorem index_lite (a0 : ByteArray) (a1 : Int) (w : World) :
    Calls Tryd.prog 59 #[.string a0, .int .u8 a1] w fun e w' => e = .returned (.int .i64 (Lib.indexByte a0.data.toList a1.toNat.toUInt8)) ∧ w' = w := by
  go_enter Tryd.func59, Tryd.ntmps59
  go_wp2_with (rw [ext64, Oper.upon_value])
  go_ret
  exact ⟨rfl, rfl⟩
theorem strings_IndexByte.calls (a0 : ByteArray) (a1 r : Int) (w : World) (h : strings_IndexByte.f a0 a1 = some r) :
    Calls Tryd.prog 53 #[.string a0, .int .u8 a1] w fun e w' => e = .returned (.int .i64 r) ∧ Below w.heap.size w w' := by
  obtain rfl := Option.some.inj h
  clear h
  go_enter Tryd.func53, Tryd.ntmps53
  go_wp2_with (go_at_call 59; refine Calls.mono (index_lite _ _ _) ?_; rintro e w' ⟨rfl, rfl⟩)
  go_ret
  exact ⟨rfl, Below.refl _ _⟩

def floats_to.f (a0 : Int) : Option Nat := some a0.toNat
theorem floats_to.calls (a0 : Int) (r : Nat) (w : World) (h : floats_to.f a0 = some r) :
    Calls Tryd.prog 43 #[.int .u64 a0] w fun e w' => e = .returned (.float .f64 r) ∧ Below w.heap.size w w' := by
  obtain rfl := Option.some.inj h
  clear h
  exact (to_any a0 w).mono fun e w' ⟨h1, h2⟩ => ⟨h1, by subst h2; exact Below.refl _ _⟩
end Go.Proofs.YtlhmjmfcngegnaaDoorG
