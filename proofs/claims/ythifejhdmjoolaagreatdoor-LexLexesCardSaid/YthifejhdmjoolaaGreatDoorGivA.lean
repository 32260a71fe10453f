/-
  The sums of the program and of the document: each is the model's arithmetic on the bits; where it names no bits, the tape's NaN comes out as the one NaN.
-/
import Derived.Test.YthifejhdmjoolaaGreatDoorGiv
import Derived.Laws.BitsAllLaws
import Derived.Below
import Derived.Deep.Draws
namespace Go.Proofs.YthifejhdmjoolaaGreatDoorG
open Go Go.RowKit
set_option linter.unusedVariables false
set_option linter.unusedSimpArgs false

theorem andNot_sign (a : Nat) (h : a < 18446744073709551616) : Go.bits .andNot .u64 (a : Int) 9223372036854775808 = ((a % 9223372036854775808 : Nat) : Int) := by
  have e := u64_andNot_nat a 9223372036854775808 h (by omega)
  rw [show ((9223372036854775808 : Nat) : Int) = 9223372036854775808 from rfl] at e
  rw [e, show 18446744073709551615 - 9223372036854775808 = 2 ^ 63 - 1 from rfl, Nat.and_two_pow_sub_one_eq_mod]
theorem and_frac (a : Nat) (h : a < 18446744073709551616) : Go.bits .and .u64 (a : Int) 4503599627370495 = ((a % 4503599627370496 : Nat) : Int) := by
  have e := u64_and_nat a 4503599627370495 h (by omega)
  rw [show ((4503599627370495 : Nat) : Int) = 4503599627370495 from rfl] at e
  rw [e, show 4503599627370495 = 2 ^ 52 - 1 from rfl, Nat.and_two_pow_sub_one_eq_mod]
theorem and_exp (a : Nat) (h : a < 18446744073709551616) : Go.bits .and .u64 (a : Int) 2047 = ((a % 2048 : Nat) : Int) := by
  have e := u64_and_nat a 2047 h (by omega)
  rw [show ((2047 : Nat) : Int) = 2047 from rfl] at e
  rw [e, show 2047 = 2 ^ 11 - 1 from rfl, Nat.and_two_pow_sub_one_eq_mod]

/-- The one NaN for every NaN. -/
def canonN (a : Nat) : Nat := if 9218868437227405312 < a % 9223372036854775808 then 9221120237041090561 else a
theorem canonI_nat (a : Nat) (h : a < 18446744073709551616) : canonI (a : Int) = (canonN a : Nat) := by
  unfold canonI canonN
  rw [andNot_sign a h]
  split <;> rename_i c
  · rw [if_pos (by omega)]; rfl
  · rw [if_neg (by omega)]

def refCanonI (a : Int) : Int := if Go.bits .and .u64 (a / 4503599627370496) 2047 = 2047 ∧ ¬ IntKind.u64.wrap (a * 4096) = 0 then 9221120237041090561 else a
theorem refCanonI_nat (a : Nat) (h : a < 18446744073709551616) : refCanonI (a : Int) = (canonN a : Nat) := by
  unfold refCanonI canonN
  have e : ((a : Int) / 4503599627370496) = ((a / 4503599627370496 : Nat) : Int) := by omega
  rw [e, and_exp _ (by omega), IntKind.wrap_u64]
  split <;> rename_i c
  · rw [if_pos (by omega)]; rfl
  · rw [if_neg (by omega)]

/-- A NaN that the tape names. -/
def nanOf (t : Nat) : Nat := (t % 2) * 9223372036854775808 + 9218868437227405312 + 1 + (t / 2) % 4503599627370495
theorem nanOf_lt (t : Nat) : nanOf t < 18446744073709551616 := by unfold nanOf; omega
theorem canonN_nanOf (t : Nat) : canonN (nanOf t) = 9221120237041090561 := by
  unfold canonN nanOf
  have h1 : t / 2 % 4503599627370495 < 4503599627370495 := Nat.mod_lt _ (by omega)
  generalize t / 2 % 4503599627370495 = f at h1 ⊢
  have h2 : t % 2 = 0 ∨ t % 2 = 1 := by omega
  rw [if_pos]
  rcases h2 with h2 | h2 <;> rw [h2]
  · rw [Nat.mod_eq_of_lt] <;> omega
  · rw [show 1 * 9223372036854775808 + 9218868437227405312 + 1 + f = (9218868437227405312 + 1 + f) + 9223372036854775808 by omega, Nat.add_mod_right, Nat.mod_eq_of_lt] <;> omega

def floatsOp (op : BinOp) (a b : Int) : Int :=
  match floatBits op .f64 a.toNat b.toNat with
  | some r => (canonN r : Nat)
  | none => 9221120237041090561

theorem run_float_nan (P : Program) (w : World) (op : BinOp) (hop : op = .add ∨ op = .sub ∨ op = .mul ∨ op = .quo) (t : TypeId) (x y : Nat) (h : floatBits op .f64 x y = none) :
    (binOp op t (.float .f64 x) (.float .f64 y)).run P w = .ok (.float .f64 (nanOf (w.tape w.drawn (.nanBits .f64 x y)))) w.drew := by
  rcases hop with rfl | rfl | rfl | rfl <;> simp only [floatBits] at h <;> simp [binOp, Op.floatArith, h] <;> rfl

theorem f64_lt {op : BinOp} {x y r : Nat} (h : floatBits op .f64 x y = some r) : r < 18446744073709551616 := by
  have := floatBits_wf h
  simpa [Lit.wf] using this

def floats_Add.f (a0 a1 : Int) : Option Int := some (floatsOp .add a0 a1)

theorem floats_Add.calls (a0 a1 r : Int) (w : World) (h : floats_Add.f a0 a1 = some r) :
    Calls Tryz.prog 39 #[.int .u64 a0, .int .u64 a1] w fun e w' => e = .returned (.int .u64 r) ∧ Below w.heap.size w w' := by
  obtain rfl := Option.some.inj h
  clear h
  unfold floatsOp
  rcases hf : floatBits .add .f64 a0.toNat a1.toNat with _ | z
  · have hop : ∀ t w, (binOp .add t (.float .f64 a0.toNat) (.float .f64 a1.toNat)).run Tryz.prog w = .ok (.float .f64 (nanOf (w.tape w.drawn (.nanBits .f64 a0.toNat a1.toNat)))) w.drew := fun t w => run_float_nan _ w .add (by simp) t _ _ hf
    clear hf
    go_enter Tryz.func39, Tryz.ntmps39
    go_wp2_with (first | (go_at_call 36; refine Calls.mono (to_any _ _) ?_; rintro e w' ⟨rfl, rfl⟩) | (go_at_call 34; refine Calls.mono (from_any _ _) ?_; rintro e w' ⟨rfl, rfl⟩) | simp only [hop])
    go_ret
    refine ⟨?_, below_drewN (Below.refl _ _) 1⟩
    rw [canonI_nat _ (nanOf_lt _), canonN_nanOf]
    rfl
  · have hop : ∀ t w, (binOp .add t (.float .f64 a0.toNat) (.float .f64 a1.toNat)).run Tryz.prog w = .ok (.float .f64 z) w := fun t w => run_float_arith w .add t .f64 _ _ z hf
    have hz := f64_lt hf
    clear hf
    go_enter Tryz.func39, Tryz.ntmps39
    go_wp2_with (first | (go_at_call 36; refine Calls.mono (to_any _ _) ?_; rintro e w' ⟨rfl, rfl⟩) | (go_at_call 34; refine Calls.mono (from_any _ _) ?_; rintro e w' ⟨rfl, rfl⟩) | simp only [hop])
    go_ret
    refine ⟨?_, Below.refl _ _⟩
    rw [canonI_nat _ hz]
    rfl

def foundryref01_Add.f (a0 a1 : Int) : Option Int := some (floatsOp .add a0 a1)

def floats_Sub.f (a0 a1 : Int) : Option Int := some (floatsOp .sub a0 a1)

def foundryref01_Sub.f (a0 a1 : Int) : Option Int := some (floatsOp .sub a0 a1)

def floats_Mul.f (a0 a1 : Int) : Option Int := some (floatsOp .mul a0 a1)

def foundryref01_Mul.f (a0 a1 : Int) : Option Int := some (floatsOp .mul a0 a1)

def floats_Div.f (a0 a1 : Int) : Option Int := some (floatsOp .quo a0 a1)

def foundryref01_Div.f (a0 a1 : Int) : Option Int := some (floatsOp .quo a0 a1)

end Go.Proofs.YthifejhdmjoolaaGreatDoorG