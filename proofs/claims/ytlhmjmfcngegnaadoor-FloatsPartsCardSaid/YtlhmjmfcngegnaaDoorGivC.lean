/-
  floats.ToInt walked by hand: the float cut towards zero, within the range of an int64 or ErrConv.
-/
import Derived.Test.YtlhmjmfcngegnaaDoorGivB
import Derived.Test.YtlhmjmfcngegnaaDoorFloOps
import Derived.ProofKit
namespace Go.Proofs.YtlhmjmfcngegnaaDoorG
open Go Go.RowKit
set_option linter.unusedVariables false
set_option linter.unusedSimpArgs false

/-- A float cut towards zero, its bits. -/
def truncN (x : Nat) : Nat := FloatKind.f64.encode ((FloatKind.f64.decode x).integral .zero)

/-- The model's own entry, as a function of what the float stands for. -/
def integralOf (d : Ieee.Datum) (x : Nat) : Sem Value :=
  match d with
  | .nan s t =>
    if FloatKind.f64.format.quiet t = t then pure (.float .f64 x) else do
    let kept ← choose (.extern "math.Floor,Ceil,Trunc,RoundToEven.signallingNaN kept" 2)
    pure (.float .f64 (if kept == 1 then x else FloatKind.f64.encode (.nan s (FloatKind.f64.format.quiet t))))
  | d => pure (.float .f64 (FloatKind.f64.encode (d.integral .zero)))
theorem integral_is (x : Nat) : Extern.MathFloor.toIntegral "math.archTrunc" .zero #[.float .f64 x] = integralOf (FloatKind.f64.decode x) x := rfl

theorem ext56 (x : Nat) (n : ¬ Flo.nan x) (w : World) : (callFunc 56 #[.float .f64 x]).run Tryd.prog w = .ok (.value (.float .f64 (truncN x))) w := by
  rw [run_callFunc_extern Tryd.func56 (by kernel_rfl) (by kernel_rfl) (by kernel_rfl) (e := Extern.MathFloor.toIntegral "math.archTrunc" .zero) (by kernel_rfl), integral_is]
  unfold Flo.nan at n
  unfold truncN
  by_cases c : Flo.rung x < 9218868437227405312
  · have e : FloatKind.f64.decode x = _ := Flo.read_finite c
    rw [e]
    rfl
  · have e : FloatKind.f64.decode x = _ := Flo.read_inf (w := x) (by omega)
    rw [e]
    rfl

theorem nan_word (s : Bool) (f : Nat) (h0 : 0 < f % 4503599627370496) : Flo.nan (FloatKind.f64.encode (.nan s f)) := by
  have e : FloatKind.f64.encode (.nan s f) = Flo.D.word s (Flo.D.infRung + f % Flo.D.binade) := rfl
  rw [e, Flo.D_inf, Flo.D_binade]
  unfold Flo.nan
  rw [(Flo.word_rung s (r := 9218868437227405312 + f % 4503599627370496) (by omega)).1]
  omega

theorem quiet_pos (f : Nat) : 0 < FloatKind.f64.format.quiet f % 4503599627370496 := by
  have e : FloatKind.f64.format.quiet f = f ||| 2 ^ 51 := rfl
  rw [e, show 4503599627370496 = 2 ^ 52 from rfl, Nat.or_mod_two_pow, show 2 ^ 51 % 2 ^ 52 = 2 ^ 51 from rfl]
  exact Nat.lt_of_lt_of_le (Nat.two_pow_pos 51) Nat.right_le_or

def keptN (x f : Nat) (w : World) : Nat := if ((Question.extern "math.Floor,Ceil,Trunc,RoundToEven.signallingNaN kept" 2).cut (w.tape w.drawn (.extern "math.Floor,Ceil,Trunc,RoundToEven.signallingNaN kept" 2)) == 1) = true then x else FloatKind.f64.encode (.nan (Flo.isNeg x) (FloatKind.f64.format.quiet f))
theorem kept_nan (x f : Nat) (w : World) (n : Flo.nan x) : Flo.nan (keptN x f w) := by
  unfold keptN
  split
  · exact n
  · exact nan_word _ _ (quiet_pos f)
theorem ext56_nan (x : Nat) (n : Flo.nan x) : (∀ w, (callFunc 56 #[.float .f64 x]).run Tryd.prog w = .ok (.value (.float .f64 x)) w) ∨ ∃ f, ∀ w, (callFunc 56 #[.float .f64 x]).run Tryd.prog w = .ok (.value (.float .f64 (keptN x f w))) w.drew := by
  obtain ⟨f, e⟩ := Flo.read_nan n
  have e' : FloatKind.f64.decode x = .nan (Flo.isNeg x) f := e
  by_cases q : FloatKind.f64.format.quiet f = f
  · left
    intro w
    rw [run_callFunc_extern Tryd.func56 (by kernel_rfl) (by kernel_rfl) (by kernel_rfl) (e := Extern.MathFloor.toIntegral "math.archTrunc" .zero) (by kernel_rfl), integral_is, e']
    unfold integralOf
    dsimp only
    rw [if_pos q]
    rfl
  · right
    refine ⟨f, fun w => ?_⟩
    rw [run_callFunc_extern Tryd.func56 (by kernel_rfl) (by kernel_rfl) (by kernel_rfl) (e := Extern.MathFloor.toIntegral "math.archTrunc" .zero) (by kernel_rfl), integral_is, e']
    unfold integralOf
    dsimp only
    rw [if_neg q]
    rfl

/-- math.Trunc of a float that is no NaN. -/
theorem trunc_any (x : Nat) (n : ¬ Flo.nan x) (w : World) :
    Calls Tryd.prog 51 #[.float .f64 x] w fun e w' => e = .returned (.float .f64 (truncN x)) ∧ w' = w := by
  have H : Hid _ := fun w => ext56 x n w
  clear n
  go_enter Tryd.func51, Tryd.ntmps51
  go_wp2_with (rw [H.out, Oper.upon_value])
  go_ret
  exact ⟨rfl, rfl⟩
/-- .. of a NaN: a NaN. -/
theorem trunc_nan (x : Nat) (n : Flo.nan x) (w : World) :
    Calls Tryd.prog 51 #[.float .f64 x] w fun e w' => ∃ y, e = .returned (.float .f64 y) ∧ Flo.nan y ∧ Below w.heap.size w w' := by
  rcases ext56_nan x n with h | ⟨f, h⟩
  · have H : Hid _ := h
    have N : Hid _ := n
    clear h n
    go_enter Tryd.func51, Tryd.ntmps51
    go_wp2_with (rw [H.out, Oper.upon_value])
    go_ret
    exact ⟨x, rfl, N.out, Below.refl _ _⟩
  · have H : Hid _ := h
    have N : Hid _ := kept_nan x f w n
    clear h n
    go_enter Tryd.func51, Tryd.ntmps51
    go_wp2_with (rw [H.out, Oper.upon_value])
    go_ret
    exact ⟨keptN x f w, rfl, N.out, below_drewN (Below.refl _ _) 1⟩

def geN (y c : Nat) : Bool := FloatKind.f64.format.order y c == some .gt || FloatKind.f64.format.order y c == some .eq
def ltB (y c : Nat) : Bool := FloatKind.f64.format.order y c == some .lt
def toIntN (a : Nat) : Option (Int × Int) :=
  if Flo.nan a then some (0, 82) else
  if geN (truncN a) 14114281232179134464 = true then
    (if ltB (truncN a) 4890909195324358656 = true then (floatToIntVal .f64 (truncN a) .i64).map fun n => (n, 0) else some (0, 82))
  else some (0, 82)

def floats_ToInt.f (a0 : Int) : Option (Int × Int) := toIntN a0.toNat
theorem floats_ToInt.calls (a0 r1 r2 : Int) (w : World) (h : floats_ToInt.f a0 = some (r1, r2)) :
    Calls Tryd.prog 34 #[.int .u64 a0] w fun e w' => e = .returned (.tuple #[.int .i64 r1, .int .i64 r2]) ∧ Below w.heap.size w w' := by
  unfold floats_ToInt.f toIntN at h
  by_cases n : Flo.nan a0.toNat
  · rw [if_pos n] at h
    simp only [Option.some.injEq, Prod.mk.injEq] at h
    obtain ⟨rfl, rfl⟩ := h
    have HT : Hid _ := fun w => trunc_nan _ n w
    clear n
    go_enter Tryd.func34, Tryd.ntmps34
    go_wp2_with (first | (go_at_call 43; refine Calls.mono (to_any _ _) ?_; rintro e w' ⟨rfl, rfl⟩) | (go_at_call 51; refine Calls.mono (HT.out _) ?_; rintro e w1 ⟨y, rfl, hy, hB⟩; have o1 : FloatKind.f64.format.order y 14114281232179134464 = none := Flo.order_nan (.inl hy)))
    go_ret2
    exact ⟨rfl, hB⟩
  · rw [if_neg n] at h
    have HT : Hid _ := fun w => trunc_any _ n w
    clear n
    generalize truncN a0.toNat = y at h HT
    by_cases c1 : geN y 14114281232179134464 = true
    · rw [if_pos c1] at h
      unfold geN at c1
      by_cases c2 : ltB y 4890909195324358656 = true
      · rw [if_pos c2] at h
        unfold ltB at c2
        obtain ⟨m, hm, hr⟩ := Option.map_eq_some_iff.mp h
        simp only [Prod.mk.injEq] at hr
        obtain ⟨rfl, rfl⟩ := hr
        have hc : ∀ w, (convert 39 2 (.float .f64 y)).run Tryd.prog w = .ok (.int .i64 m) w := fun w => run_convert_float_int w 39 2 .f64 .i64 y m (by rw [Tryd.underlying39]; rfl) Tryd.underlying2 hm
        clear h hm
        go_enter Tryd.func34, Tryd.ntmps34
        go_wp2_with (first | (go_at_call 43; refine Calls.mono (to_any _ _) ?_; rintro e w' ⟨rfl, rfl⟩) | (go_at_call 51; refine Calls.mono (HT.out _) ?_; rintro e w1 ⟨rfl, rfl⟩) | simp only [hc])
        go_ret2
        exact ⟨rfl, Below.refl _ _⟩
      · rw [if_neg c2] at h
        have c3 : ltB y 4890909195324358656 = false := by simpa using c2
        unfold ltB at c3
        simp only [Option.some.injEq, Prod.mk.injEq] at h
        obtain ⟨rfl, rfl⟩ := h
        clear c2
        go_enter Tryd.func34, Tryd.ntmps34
        go_wp2_with (first | (go_at_call 43; refine Calls.mono (to_any _ _) ?_; rintro e w' ⟨rfl, rfl⟩) | (go_at_call 51; refine Calls.mono (HT.out _) ?_; rintro e w1 ⟨rfl, rfl⟩))
        go_ret2
        exact ⟨rfl, Below.refl _ _⟩
    · rw [if_neg c1] at h
      have c3 : geN y 14114281232179134464 = false := by simpa using c1
      unfold geN at c3
      simp only [Option.some.injEq, Prod.mk.injEq] at h
      obtain ⟨rfl, rfl⟩ := h
      clear c1
      go_enter Tryd.func34, Tryd.ntmps34
      go_wp2_with (first | (go_at_call 43; refine Calls.mono (to_any _ _) ?_; rintro e w' ⟨rfl, rfl⟩) | (go_at_call 51; refine Calls.mono (HT.out _) ?_; rintro e w1 ⟨rfl, rfl⟩))
      go_ret2
      exact ⟨rfl, Below.refl _ _⟩
end Go.Proofs.YtlhmjmfcngegnaaDoorG
