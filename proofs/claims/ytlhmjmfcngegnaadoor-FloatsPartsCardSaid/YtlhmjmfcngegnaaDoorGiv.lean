/-
  The leaves that are walked by hand: what turns bits into floats and back, the sums, the comparisons: each comes to a plain function of its arguments.
-/
import Derived.Test.YtlhmjmfcngegnaaDoorRows
import Derived.Test.YtlhmjmfcngegnaaDoorProg
import Derived.WalkKit
import Derived.WalkSpells
import Derived.WalkSmall
import Derived.WalkLawsBesides
import Derived.Laws.Externs
import Derived.Laws.RangeAny
import Derived.Lib.Bytealg
import Derived.RowKit
import Derived.BigQuiet
import Derived.Deep.QuietTactic
namespace Go.Proofs.YtlhmjmfcngegnaaDoorG
open Go Go.RowKit
set_option linter.unusedVariables false
set_option linter.unusedSimpArgs false

theorem ext55 (a : Int) (w : World) : (callFunc 55 #[.int .u64 a]).run Tryd.prog w = .ok (.value (.float .f64 a.toNat)) w := by
  rw [run_callFunc_extern Tryd.func55 (by kernel_rfl) (by kernel_rfl) (by kernel_rfl) (e := Extern.MathFloatBits.float64frombits) (by kernel_rfl)]
  rfl
theorem ext50 (x : Nat) (w : World) : (callFunc 50 #[.float .f64 x]).run Tryd.prog w = .ok (.value (.int .u64 x)) w := by
  rw [run_callFunc_extern Tryd.func50 (by kernel_rfl) (by kernel_rfl) (by kernel_rfl) (e := Extern.MathFloatBits.float64bits) (by kernel_rfl)]
  rfl
theorem ext66 (x : Nat) (w : World) : (callFunc 66 #[.float .f64 x]).run Tryd.prog w = .ok (.value (.int .u64 x)) w := by
  rw [run_callFunc_extern Tryd.func66 (by kernel_rfl) (by kernel_rfl) (by kernel_rfl) (e := Extern.MathFloatBits.float64bits) (by kernel_rfl)]
  rfl
theorem ext64 (s : ByteArray) (c : Int) (w : World) : (callFunc 64 #[.string s, .int .u8 c]).run Tryd.prog w = .ok (.value (.int .i64 (Lib.indexByte s.data.toList c.toNat.toUInt8))) w := by
  rw [run_callFunc_extern Tryd.func64 (by kernel_rfl) (by kernel_rfl) (by kernel_rfl) (e := Extern.BytealgIndexByte.indexByte) (by kernel_rfl), Lib.run_indexByteString]
  rfl

theorem to_any (a : Int) (w : World) :
    Calls Tryd.prog 43 #[.int .u64 a] w fun e w' => e = .returned (.float .f64 a.toNat) ∧ w' = w := by
  go_enter Tryd.func43, Tryd.ntmps43
  go_wp2_with (rw [ext55, Oper.upon_value])
  go_ret
  exact ⟨rfl, rfl⟩

def canonI (a : Int) : Int := if 9218868437227405312 < Go.bits .andNot .u64 a 9223372036854775808 then 9221120237041090561 else a

theorem canon_any (a : Int) (w : World) :
    Calls Tryd.prog 29 #[.int .u64 a] w fun e w' => e = .returned (.int .u64 (canonI a)) ∧ w' = w := by
  unfold canonI
  by_cases c : 9218868437227405312 < Go.bits .andNot .u64 a 9223372036854775808
  · have d := decide_eq_true c
    rw [if_pos c]
    go_enter Tryd.func29, Tryd.ntmps29
    go_wp2
    go_ret
    exact ⟨rfl, rfl⟩
  · have d := decide_eq_false c
    rw [if_neg c]
    go_enter Tryd.func29, Tryd.ntmps29
    go_wp2
    go_ret
    exact ⟨rfl, rfl⟩

theorem from_any (x : Nat) (w : World) :
    Calls Tryd.prog 47 #[.float .f64 x] w fun e w' => e = .returned (.int .u64 (canonI x)) ∧ w' = w := by
  go_enter Tryd.func47, Tryd.ntmps47
  go_wp2_with (first | rw [ext50, Oper.upon_value] | (go_at_call 29; refine Calls.mono (canon_any _ _) ?_; rintro e w' ⟨rfl, rfl⟩))
  go_ret
  exact ⟨rfl, rfl⟩
end Go.Proofs.YtlhmjmfcngegnaaDoorG
