/-
  The leaves that are walked by hand: what turns bits into floats and back, the sums, the comparisons: each comes to a plain function of its arguments.
-/
import Derived.Test.YthifejhdmjoolaaGreatDoorRows
import Derived.Test.YthifejhdmjoolaaGreatDoorProg
import Derived.WalkKit
import Derived.WalkSpells
import Derived.WalkSmall
import Derived.WalkLawsBesides
import Derived.Laws.Externs
import Derived.Laws.RangeAny
import Derived.Lib.Bytealg
import Derived.RowKit
import Derived.BigQuiet
import Derived.Deep.QuietTactic
namespace Go.Proofs.YthifejhdmjoolaaGreatDoorG
open Go Go.RowKit
set_option linter.unusedVariables false
set_option linter.unusedSimpArgs false

theorem ext61 (a : Int) (w : World) : (callFunc 61 #[.int .u64 a]).run Tryz.prog w = .ok (.value (.float .f64 a.toNat)) w := by
  rw [run_callFunc_extern Tryz.func61 (by kernel_rfl) (by kernel_rfl) (by kernel_rfl) (e := Extern.MathFloatBits.float64frombits) (by kernel_rfl)]
  rfl
theorem ext47 (x : Nat) (w : World) : (callFunc 47 #[.float .f64 x]).run Tryz.prog w = .ok (.value (.int .u64 x)) w := by
  rw [run_callFunc_extern Tryz.func47 (by kernel_rfl) (by kernel_rfl) (by kernel_rfl) (e := Extern.MathFloatBits.float64bits) (by kernel_rfl)]
  rfl
theorem ext113 (x : Nat) (w : World) : (callFunc 113 #[.float .f64 x]).run Tryz.prog w = .ok (.value (.int .u64 x)) w := by
  rw [run_callFunc_extern Tryz.func113 (by kernel_rfl) (by kernel_rfl) (by kernel_rfl) (e := Extern.MathFloatBits.float64bits) (by kernel_rfl)]
  rfl
theorem ext94 (s : ByteArray) (c : Int) (w : World) : (callFunc 94 #[.string s, .int .u8 c]).run Tryz.prog w = .ok (.value (.int .i64 (Lib.indexByte s.data.toList c.toNat.toUInt8))) w := by
  rw [run_callFunc_extern Tryz.func94 (by kernel_rfl) (by kernel_rfl) (by kernel_rfl) (e := Extern.BytealgIndexByte.indexByte) (by kernel_rfl), Lib.run_indexByteString]
  rfl

theorem to_any (a : Int) (w : World) :
    Calls Tryz.prog 36 #[.int .u64 a] w fun e w' => e = .returned (.float .f64 a.toNat) ∧ w' = w := by
  go_enter Tryz.func36, Tryz.ntmps36
  go_wp2_with (rw [ext61, Oper.upon_value])
  go_ret
  exact ⟨rfl, rfl⟩

def canonI (a : Int) : Int := if 9218868437227405312 < Go.bits .andNot .u64 a 9223372036854775808 then 9221120237041090561 else a

theorem canon_any (a : Int) (w : World) :
    Calls Tryz.prog 13 #[.int .u64 a] w fun e w' => e = .returned (.int .u64 (canonI a)) ∧ w' = w := by
  unfold canonI
  by_cases c : 9218868437227405312 < Go.bits .andNot .u64 a 9223372036854775808
  · have d := decide_eq_true c
    rw [if_pos c]
    go_enter Tryz.func13, Tryz.ntmps13
    go_wp2
    go_ret
    exact ⟨rfl, rfl⟩
  · have d := decide_eq_false c
    rw [if_neg c]
    go_enter Tryz.func13, Tryz.ntmps13
    go_wp2
    go_ret
    exact ⟨rfl, rfl⟩

theorem from_any (x : Nat) (w : World) :
    Calls Tryz.prog 34 #[.float .f64 x] w fun e w' => e = .returned (.int .u64 (canonI x)) ∧ w' = w := by
  go_enter Tryz.func34, Tryz.ntmps34
  go_wp2_with (first | rw [ext47, Oper.upon_value] | (go_at_call 13; refine Calls.mono (canon_any _ _) ?_; rintro e w' ⟨rfl, rfl⟩))
  go_ret
  exact ⟨rfl, rfl⟩
end Go.Proofs.YthifejhdmjoolaaGreatDoorG
