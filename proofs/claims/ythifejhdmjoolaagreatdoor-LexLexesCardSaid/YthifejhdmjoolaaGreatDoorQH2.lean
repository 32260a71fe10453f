-- WRITTEN BY A PROGRAM OF THE SESSION (wip/myprint.sh): Lean checks it.
import Derived.WalkMore
import Derived.Test.YthifejhdmjoolaaGreatDoorQH0
import Derived.Test.YthifejhdmjoolaaGreatDoorQH1
namespace Go.Proofs.YthifejhdmjoolaaGreatDoor.QH
open Go.Proofs.YthifejhdmjoolaaGreatDoorG
attribute [local go_sem] Instr.field asAgg
open Go.RowKit Go.Proofs.YthifejhdmjoolaaGreatDoorW.PrintWords Go.Proofs.YthifejhdmjoolaaGreatDoorW.PrintLast Go.Proofs.YthifejhdmjoolaaGreatDoorW.PrintMore
attribute [local go_sem] max2_int min2_int max_two min_two max_three min_three max_four min_four   -- for this text's walks alone
set_option linter.unusedVariables false
set_option linter.unusedSimpArgs false
namespace strconv_readFloat
mutual
def j0 : Nat → ByteArray → Int → Int → Bool → Bool → Bool → Int → Bool → Bool → Option (Int × Int × Bool × Bool × Bool × Int × Bool)
  | 0, _, _, _, _, _, _, _, _, _ => none
  | k + 1, x0, x2, x3, x4, x5, x6, x7, x8, x9 => if (wrap64 (x7 + 2)) < (x0.size : Int) then (if 0 ≤ x7 then (if x7 < (x0.size : Int) then (if (bt x0 x7) = 48 then (if 0 ≤ (wrap64 (x7 + 1)) then (if (wrap64 (x7 + 1)) < (x0.size : Int) then ((strconv_lower.f (bt x0 (wrap64 (x7 + 1)))).bind fun t101 => (j1 k x0 x2 x3 x4 x5 x6 x7 x8 x9 10 19 101 (t101 == 120))) else (none)) else (none)) else (j1 k x0 x2 x3 x4 x5 x6 x7 x8 x9 10 19 101 false)) else (none)) else (none)) else (j1 k x0 x2 x3 x4 x5 x6 x7 x8 x9 10 19 101 false)
def j1 : Nat → ByteArray → Int → Int → Bool → Bool → Bool → Int → Bool → Bool → Int → Int → Int → Bool → Option (Int × Int × Bool × Bool × Bool × Int × Bool)
  | 0, _, _, _, _, _, _, _, _, _, _, _, _, _ => none
  | k + 1, x0, x2, x3, x4, x5, x6, x7, x8, x9, x10, x11, x12, x54 => if x54 = true then (j2 k x0 x2 x3 x4 x5 true (wrap64 (x7 + 2)) x8 x9 16 16 112) else (j2 k x0 x2 x3 x4 x5 x6 x7 x8 x9 x10 x11 x12)
def j2 : Nat → ByteArray → Int → Int → Bool → Bool → Bool → Int → Bool → Bool → Int → Int → Int → Option (Int × Int × Bool × Bool × Bool × Int × Bool)
  | 0, _, _, _, _, _, _, _, _, _, _, _, _ => none
  | k + 1, x0, x2, x3, x4, x5, x6, x7, x8, x9, x10, x11, x12 => l0 k x0 x2 x3 x4 x5 x6 x7 x8 x9 x10 x11 x12 false false 0 0 0
def j9 : Nat → ByteArray → Int → Int → Bool → Bool → Bool → Int → Bool → Bool → Int → Int → Bool → Bool → Int → Int → Int → Option (Int × Int × Bool × Bool × Bool × Int × Bool)
  | 0, _, _, _, _, _, _, _, _, _, _, _, _, _, _, _, _ => none
  | k + 1, x0, x2, x3, x4, x5, x6, x7, x8, x9, x10, x12, x13, x14, x15, x16, x17 => if x14 = true then (if x13 = true then (j10 k x0 x2 x3 x4 x5 x6 x7 x8 x9 x10 x12 x16 x17) else (j10 k x0 x2 x3 x4 x5 x6 x7 x8 x9 x10 x12 x16 x15)) else (some (x2, x3, x4, x5, x6, x7, x8))
def j10 : Nat → ByteArray → Int → Int → Bool → Bool → Bool → Int → Bool → Bool → Int → Int → Int → Int → Option (Int × Int × Bool × Bool × Bool × Int × Bool)
  | 0, _, _, _, _, _, _, _, _, _, _, _, _, _ => none
  | k + 1, x0, x2, x3, x4, x5, x6, x7, x8, x9, x10, x12, x16, x17 => if x10 = 16 then (j11 k x0 x2 x3 x4 x5 x6 x7 x8 x9 x10 x12 (wrap64 (x16 * 4)) (wrap64 (x17 * 4))) else (j11 k x0 x2 x3 x4 x5 x6 x7 x8 x9 x10 x12 x16 x17)
def j11 : Nat → ByteArray → Int → Int → Bool → Bool → Bool → Int → Bool → Bool → Int → Int → Int → Int → Option (Int × Int × Bool × Bool × Bool × Int × Bool)
  | 0, _, _, _, _, _, _, _, _, _, _, _, _, _ => none
  | k + 1, x0, x2, x3, x4, x5, x6, x7, x8, x9, x10, x12, x16, x17 => if x7 < (x0.size : Int) then (if 0 ≤ x7 then ((strconv_lower.f (bt x0 x7)).bind fun t105 => (j12 k x0 x2 x3 x4 x5 x6 x7 x8 x9 x10 x16 x17 (t105 == x12))) else (none)) else (j12 k x0 x2 x3 x4 x5 x6 x7 x8 x9 x10 x16 x17 false)
def j12 : Nat → ByteArray → Int → Int → Bool → Bool → Bool → Int → Bool → Bool → Int → Int → Int → Bool → Option (Int × Int × Bool × Bool × Bool × Int × Bool)
  | 0, _, _, _, _, _, _, _, _, _, _, _, _, _ => none
  | k + 1, x0, x2, x3, x4, x5, x6, x7, x8, x9, x10, x16, x17, x161 => if x161 = true then (if (wrap64 (x7 + 1)) ≥ (x0.size : Int) then (some (x2, x3, x4, x5, x6, wrap64 (x7 + 1), x8)) else (if 0 ≤ (wrap64 (x7 + 1)) then (if (wrap64 (x7 + 1)) < (x0.size : Int) then (if (bt x0 (wrap64 (x7 + 1))) = 43 then (j13 k x0 x2 x3 x4 x5 x6 (wrap64 ((wrap64 (x7 + 1)) + 1)) x8 x9 x16 x17 1) else (if (bt x0 (wrap64 (x7 + 1))) = 45 then (j13 k x0 x2 x3 x4 x5 x6 (wrap64 ((wrap64 (x7 + 1)) + 1)) x8 x9 x16 x17 (-1)) else (j13 k x0 x2 x3 x4 x5 x6 (wrap64 (x7 + 1)) x8 x9 x16 x17 1))) else (none)) else (none))) else (if x10 = 16 then (some (x2, x3, x4, x5, x6, x7, x8)) else (j17 k x0 x2 x3 x4 x5 x6 x7 x8 x9 x16 x17))
def j17 : Nat → ByteArray → Int → Int → Bool → Bool → Bool → Int → Bool → Bool → Int → Int → Option (Int × Int × Bool × Bool × Bool × Int × Bool)
  | 0, _, _, _, _, _, _, _, _, _, _, _ => none
  | k + 1, x0, x2, x3, x4, x5, x6, x7, x8, x9, x16, x17 => if x2 = 0 then (if x9 = true then (if 0 ≤ x7 then (if x7 ≤ (x0.size : Int) then ((strconv_underscoreOK.f (x0.extract 0 (x7 : Int).toNat)).bind fun t106 => (if t106 = true then (some (x2, x3, x4, x5, x6, x7, true)) else (some (x2, x3, x4, x5, x6, x7, x8)))) else (none)) else (none)) else (some (x2, x3, x4, x5, x6, x7, true))) else (if x9 = true then (if 0 ≤ x7 then (if x7 ≤ (x0.size : Int) then ((strconv_underscoreOK.f (x0.extract 0 (x7 : Int).toNat)).bind fun t107 => (if t107 = true then (some (x2, wrap64 (x17 - x16), x4, x5, x6, x7, true)) else (some (x2, wrap64 (x17 - x16), x4, x5, x6, x7, x8)))) else (none)) else (none)) else (some (x2, wrap64 (x17 - x16), x4, x5, x6, x7, true)))
def j13 : Nat → ByteArray → Int → Int → Bool → Bool → Bool → Int → Bool → Bool → Int → Int → Int → Option (Int × Int × Bool × Bool × Bool × Int × Bool)
  | 0, _, _, _, _, _, _, _, _, _, _, _, _ => none
  | k + 1, x0, x2, x3, x4, x5, x6, x7, x8, x9, x16, x17, x19 => if x7 ≥ (x0.size : Int) then (j14 k x0 x2 x3 x4 x5 x6 x7 x8 x9 x16 x17 x19 true) else (if 0 ≤ x7 then (if x7 < (x0.size : Int) then (if (bt x0 x7) < 48 then (j14 k x0 x2 x3 x4 x5 x6 x7 x8 x9 x16 x17 x19 true) else (j14 k x0 x2 x3 x4 x5 x6 x7 x8 x9 x16 x17 x19 (decide ((bt x0 x7) > 57)))) else (none)) else (none))
def j14 : Nat → ByteArray → Int → Int → Bool → Bool → Bool → Int → Bool → Bool → Int → Int → Int → Bool → Option (Int × Int × Bool × Bool × Bool × Int × Bool)
  | 0, _, _, _, _, _, _, _, _, _, _, _, _, _ => none
  | k + 1, x0, x2, x3, x4, x5, x6, x7, x8, x9, x16, x17, x19, x194 => if x194 = true then (some (x2, x3, x4, x5, x6, x7, x8)) else (l1 k x0 x2 x3 x4 x5 x6 x7 x8 x9 x16 x17 x19 0)
def l1 : Nat → ByteArray → Int → Int → Bool → Bool → Bool → Int → Bool → Bool → Int → Int → Int → Int → Option (Int × Int × Bool × Bool × Bool × Int × Bool)
  | 0, _, _, _, _, _, _, _, _, _, _, _, _, _ => none
  | k + 1, x0, x2, x3, x4, x5, x6, x7, x8, x9, x16, x17, x19, x20 => if x7 < (x0.size : Int) then (if 0 ≤ x7 then (if 48 ≤ (bt x0 x7) then (if (bt x0 x7) ≤ 57 then (j16 k x0 x2 x3 x4 x5 x6 x7 x8 x9 x16 x17 x19 x20 true) else (j16 k x0 x2 x3 x4 x5 x6 x7 x8 x9 x16 x17 x19 x20 ((bt x0 x7) == 95))) else (j16 k x0 x2 x3 x4 x5 x6 x7 x8 x9 x16 x17 x19 x20 ((bt x0 x7) == 95))) else (none)) else (j16 k x0 x2 x3 x4 x5 x6 x7 x8 x9 x16 x17 x19 x20 false)
def j16 : Nat → ByteArray → Int → Int → Bool → Bool → Bool → Int → Bool → Bool → Int → Int → Int → Int → Bool → Option (Int × Int × Bool × Bool × Bool × Int × Bool)
  | 0, _, _, _, _, _, _, _, _, _, _, _, _, _, _ => none
  | k + 1, x0, x2, x3, x4, x5, x6, x7, x8, x9, x16, x17, x19, x20, x216 => if x216 = true then (if 0 ≤ x7 then (if x7 < (x0.size : Int) then (if (bt x0 x7) = 95 then (l1 k x0 x2 x3 x4 x5 x6 (wrap64 (x7 + 1)) x8 true x16 x17 x19 x20) else (if x20 < 10000 then (l1 k x0 x2 x3 x4 x5 x6 (wrap64 (x7 + 1)) x8 x9 x16 x17 x19 (wrap64 ((wrap64 ((wrap64 (x20 * 10)) + (wrap64 (bt x0 x7)))) - 48))) else (l1 k x0 x2 x3 x4 x5 x6 (wrap64 (x7 + 1)) x8 x9 x16 x17 x19 x20))) else (none)) else (none)) else (j17 k x0 x2 x3 x4 x5 x6 x7 x8 x9 x16 (wrap64 (x17 + (wrap64 (x20 * x19)))))
def l0 : Nat → ByteArray → Int → Int → Bool → Bool → Bool → Int → Bool → Bool → Int → Int → Int → Bool → Bool → Int → Int → Int → Option (Int × Int × Bool × Bool × Bool × Int × Bool)
  | 0, _, _, _, _, _, _, _, _, _, _, _, _, _, _, _, _, _ => none
  | k + 1, x0, x2, x3, x4, x5, x6, x7, x8, x9, x10, x11, x12, x13, x14, x15, x16, x17 => if x7 < (x0.size : Int) then (if 0 ≤ x7 then (if (bt x0 x7) = 95 then (j4 k x0 x2 x3 x4 x5 x6 x7 x8 x9 x10 x11 x12 x13 x14 x15 x16 x17 (bt x0 x7) true) else (j4 k x0 x2 x3 x4 x5 x6 x7 x8 x9 x10 x11 x12 x13 x14 x15 x16 x17 (bt x0 x7) false)) else (none)) else (j9 k x0 x2 x3 x4 x5 x6 x7 x8 x9 x10 x12 x13 x14 x15 x16 x17)
def j4 : Nat → ByteArray → Int → Int → Bool → Bool → Bool → Int → Bool → Bool → Int → Int → Int → Bool → Bool → Int → Int → Int → Int → Bool → Option (Int × Int × Bool × Bool × Bool × Int × Bool)
  | 0, _, _, _, _, _, _, _, _, _, _, _, _, _, _, _, _, _, _, _ => none
  | k + 1, x0, x2, x3, x4, x5, x6, x7, x8, x9, x10, x11, x12, x13, x14, x15, x16, x17, x18, x66 => if x66 = true then (l0 k x0 x2 x3 x4 x5 x6 (wrap64 (x7 + 1)) x8 true x10 x11 x12 x13 x14 x15 x16 x17) else (if x18 = 46 then (j5 k x0 x2 x3 x4 x5 x6 x7 x8 x9 x10 x11 x12 x13 x14 x15 x16 x17 x18 true) else (j5 k x0 x2 x3 x4 x5 x6 x7 x8 x9 x10 x11 x12 x13 x14 x15 x16 x17 x18 false))
def j5 : Nat → ByteArray → Int → Int → Bool → Bool → Bool → Int → Bool → Bool → Int → Int → Int → Bool → Bool → Int → Int → Int → Int → Bool → Option (Int × Int × Bool × Bool × Bool × Int × Bool)
  | 0, _, _, _, _, _, _, _, _, _, _, _, _, _, _, _, _, _, _, _ => none
  | k + 1, x0, x2, x3, x4, x5, x6, x7, x8, x9, x10, x11, x12, x13, x14, x15, x16, x17, x18, x70 => if x70 = true then (if x13 = true then (j9 k x0 x2 x3 x4 x5 x6 x7 x8 x9 x10 x12 x13 x14 x15 x16 x17) else (l0 k x0 x2 x3 x4 x5 x6 (wrap64 (x7 + 1)) x8 x9 x10 x11 x12 true x14 x15 x16 x15)) else (if 48 ≤ x18 then (if x18 ≤ 57 then (j6 k x0 x2 x3 x4 x5 x6 x7 x8 x9 x10 x11 x12 x13 x14 x15 x16 x17 x18 true) else (j6 k x0 x2 x3 x4 x5 x6 x7 x8 x9 x10 x11 x12 x13 x14 x15 x16 x17 x18 false)) else (j6 k x0 x2 x3 x4 x5 x6 x7 x8 x9 x10 x11 x12 x13 x14 x15 x16 x17 x18 false))
def j6 : Nat → ByteArray → Int → Int → Bool → Bool → Bool → Int → Bool → Bool → Int → Int → Int → Bool → Bool → Int → Int → Int → Int → Bool → Option (Int × Int × Bool × Bool × Bool × Int × Bool)
  | 0, _, _, _, _, _, _, _, _, _, _, _, _, _, _, _, _, _, _, _ => none
  | k + 1, x0, x2, x3, x4, x5, x6, x7, x8, x9, x10, x11, x12, x13, x14, x15, x16, x17, x18, x76 => if x76 = true then (if x18 = 48 then (j7 k x0 x2 x3 x4 x5 x6 x7 x8 x9 x10 x11 x12 x13 true x15 x16 x17 x18 (x15 == 0)) else (j7 k x0 x2 x3 x4 x5 x6 x7 x8 x9 x10 x11 x12 x13 true x15 x16 x17 x18 false)) else (if x10 = 16 then ((strconv_lower.f x18).bind fun t102 => (if 97 ≤ t102 then ((strconv_lower.f x18).bind fun t103 => (if t103 ≤ 102 then (j8 k x0 x2 x3 x4 x5 x6 x7 x8 x9 x10 x11 x12 x13 x14 x15 x16 x17 x18 true) else (j8 k x0 x2 x3 x4 x5 x6 x7 x8 x9 x10 x11 x12 x13 x14 x15 x16 x17 x18 false))) else (j8 k x0 x2 x3 x4 x5 x6 x7 x8 x9 x10 x11 x12 x13 x14 x15 x16 x17 x18 false))) else (j8 k x0 x2 x3 x4 x5 x6 x7 x8 x9 x10 x11 x12 x13 x14 x15 x16 x17 x18 false))
def j7 : Nat → ByteArray → Int → Int → Bool → Bool → Bool → Int → Bool → Bool → Int → Int → Int → Bool → Bool → Int → Int → Int → Int → Bool → Option (Int × Int × Bool × Bool × Bool × Int × Bool)
  | 0, _, _, _, _, _, _, _, _, _, _, _, _, _, _, _, _, _, _, _ => none
  | k + 1, x0, x2, x3, x4, x5, x6, x7, x8, x9, x10, x11, x12, x13, x14, x15, x16, x17, x18, x89 => if x89 = true then (l0 k x0 x2 x3 x4 x5 x6 (wrap64 (x7 + 1)) x8 x9 x10 x11 x12 x13 x14 x15 x16 (wrap64 (x17 - 1))) else (if x16 < x11 then (l0 k x0 (IntKind.u64.wrap ((IntKind.u64.wrap (x2 * x10)) + ((x18 - 48) % 256))) x3 x4 x5 x6 (wrap64 (x7 + 1)) x8 x9 x10 x11 x12 x13 x14 (wrap64 (x15 + 1)) (wrap64 (x16 + 1)) x17) else (if x18 = 48 then (l0 k x0 x2 x3 x4 x5 x6 (wrap64 (x7 + 1)) x8 x9 x10 x11 x12 x13 x14 (wrap64 (x15 + 1)) x16 x17) else (l0 k x0 x2 x3 x4 true x6 (wrap64 (x7 + 1)) x8 x9 x10 x11 x12 x13 x14 (wrap64 (x15 + 1)) x16 x17)))
def j8 : Nat → ByteArray → Int → Int → Bool → Bool → Bool → Int → Bool → Bool → Int → Int → Int → Bool → Bool → Int → Int → Int → Int → Bool → Option (Int × Int × Bool × Bool × Bool × Int × Bool)
  | 0, _, _, _, _, _, _, _, _, _, _, _, _, _, _, _, _, _, _, _ => none
  | k + 1, x0, x2, x3, x4, x5, x6, x7, x8, x9, x10, x11, x12, x13, x14, x15, x16, x17, x18, x109 => if x109 = true then (if x16 < x11 then ((strconv_lower.f x18).bind fun t104 => (l0 k x0 (IntKind.u64.wrap ((IntKind.u64.wrap (x2 * 16)) + ((((t104 - 97) % 256) + 10) % 256))) x3 x4 x5 x6 (wrap64 (x7 + 1)) x8 x9 x10 x11 x12 x13 true (wrap64 (x15 + 1)) (wrap64 (x16 + 1)) x17)) else (l0 k x0 x2 x3 x4 true x6 (wrap64 (x7 + 1)) x8 x9 x10 x11 x12 x13 true (wrap64 (x15 + 1)) x16 x17)) else (j9 k x0 x2 x3 x4 x5 x6 x7 x8 x9 x10 x12 x13 x14 x15 x16 x17)
end
def f (k : Nat) (a0 : ByteArray) : Option (Int × Int × Bool × Bool × Bool × Int × Bool) := if 0 ≥ (a0.size : Int) then (some (0, 0, false, false, false, 0, false)) else (if 0 < (a0.size : Int) then (if (bt a0 0) = 43 then (j0 k a0 0 0 false false false 1 false false) else (if (bt a0 0) = 45 then (j0 k a0 0 0 true false false 1 false false) else (j0 k a0 0 0 false false false 0 false false))) else (none))
theorem mono_l : ∀ k, (∀ y0 y1 y2 y3 y4 y5 y6 y7 y8, LeO (j0 k y0 y1 y2 y3 y4 y5 y6 y7 y8) (j0 (k + 1) y0 y1 y2 y3 y4 y5 y6 y7 y8)) ∧ (∀ y0 y1 y2 y3 y4 y5 y6 y7 y8 y9 y10 y11 y12, LeO (j1 k y0 y1 y2 y3 y4 y5 y6 y7 y8 y9 y10 y11 y12) (j1 (k + 1) y0 y1 y2 y3 y4 y5 y6 y7 y8 y9 y10 y11 y12)) ∧ (∀ y0 y1 y2 y3 y4 y5 y6 y7 y8 y9 y10 y11, LeO (j2 k y0 y1 y2 y3 y4 y5 y6 y7 y8 y9 y10 y11) (j2 (k + 1) y0 y1 y2 y3 y4 y5 y6 y7 y8 y9 y10 y11)) ∧ (∀ y0 y1 y2 y3 y4 y5 y6 y7 y8 y9 y10 y11 y12 y13 y14 y15, LeO (j9 k y0 y1 y2 y3 y4 y5 y6 y7 y8 y9 y10 y11 y12 y13 y14 y15) (j9 (k + 1) y0 y1 y2 y3 y4 y5 y6 y7 y8 y9 y10 y11 y12 y13 y14 y15)) ∧ (∀ y0 y1 y2 y3 y4 y5 y6 y7 y8 y9 y10 y11 y12, LeO (j10 k y0 y1 y2 y3 y4 y5 y6 y7 y8 y9 y10 y11 y12) (j10 (k + 1) y0 y1 y2 y3 y4 y5 y6 y7 y8 y9 y10 y11 y12)) ∧ (∀ y0 y1 y2 y3 y4 y5 y6 y7 y8 y9 y10 y11 y12, LeO (j11 k y0 y1 y2 y3 y4 y5 y6 y7 y8 y9 y10 y11 y12) (j11 (k + 1) y0 y1 y2 y3 y4 y5 y6 y7 y8 y9 y10 y11 y12)) ∧ (∀ y0 y1 y2 y3 y4 y5 y6 y7 y8 y9 y10 y11 y12, LeO (j12 k y0 y1 y2 y3 y4 y5 y6 y7 y8 y9 y10 y11 y12) (j12 (k + 1) y0 y1 y2 y3 y4 y5 y6 y7 y8 y9 y10 y11 y12)) ∧ (∀ y0 y1 y2 y3 y4 y5 y6 y7 y8 y9 y10, LeO (j17 k y0 y1 y2 y3 y4 y5 y6 y7 y8 y9 y10) (j17 (k + 1) y0 y1 y2 y3 y4 y5 y6 y7 y8 y9 y10)) ∧ (∀ y0 y1 y2 y3 y4 y5 y6 y7 y8 y9 y10 y11, LeO (j13 k y0 y1 y2 y3 y4 y5 y6 y7 y8 y9 y10 y11) (j13 (k + 1) y0 y1 y2 y3 y4 y5 y6 y7 y8 y9 y10 y11)) ∧ (∀ y0 y1 y2 y3 y4 y5 y6 y7 y8 y9 y10 y11 y12, LeO (j14 k y0 y1 y2 y3 y4 y5 y6 y7 y8 y9 y10 y11 y12) (j14 (k + 1) y0 y1 y2 y3 y4 y5 y6 y7 y8 y9 y10 y11 y12)) ∧ (∀ y0 y1 y2 y3 y4 y5 y6 y7 y8 y9 y10 y11 y12, LeO (l1 k y0 y1 y2 y3 y4 y5 y6 y7 y8 y9 y10 y11 y12) (l1 (k + 1) y0 y1 y2 y3 y4 y5 y6 y7 y8 y9 y10 y11 y12)) ∧ (∀ y0 y1 y2 y3 y4 y5 y6 y7 y8 y9 y10 y11 y12 y13, LeO (j16 k y0 y1 y2 y3 y4 y5 y6 y7 y8 y9 y10 y11 y12 y13) (j16 (k + 1) y0 y1 y2 y3 y4 y5 y6 y7 y8 y9 y10 y11 y12 y13)) ∧ (∀ y0 y1 y2 y3 y4 y5 y6 y7 y8 y9 y10 y11 y12 y13 y14 y15 y16, LeO (l0 k y0 y1 y2 y3 y4 y5 y6 y7 y8 y9 y10 y11 y12 y13 y14 y15 y16) (l0 (k + 1) y0 y1 y2 y3 y4 y5 y6 y7 y8 y9 y10 y11 y12 y13 y14 y15 y16)) ∧ (∀ y0 y1 y2 y3 y4 y5 y6 y7 y8 y9 y10 y11 y12 y13 y14 y15 y16 y17 y18, LeO (j4 k y0 y1 y2 y3 y4 y5 y6 y7 y8 y9 y10 y11 y12 y13 y14 y15 y16 y17 y18) (j4 (k + 1) y0 y1 y2 y3 y4 y5 y6 y7 y8 y9 y10 y11 y12 y13 y14 y15 y16 y17 y18)) ∧ (∀ y0 y1 y2 y3 y4 y5 y6 y7 y8 y9 y10 y11 y12 y13 y14 y15 y16 y17 y18, LeO (j5 k y0 y1 y2 y3 y4 y5 y6 y7 y8 y9 y10 y11 y12 y13 y14 y15 y16 y17 y18) (j5 (k + 1) y0 y1 y2 y3 y4 y5 y6 y7 y8 y9 y10 y11 y12 y13 y14 y15 y16 y17 y18)) ∧ (∀ y0 y1 y2 y3 y4 y5 y6 y7 y8 y9 y10 y11 y12 y13 y14 y15 y16 y17 y18, LeO (j6 k y0 y1 y2 y3 y4 y5 y6 y7 y8 y9 y10 y11 y12 y13 y14 y15 y16 y17 y18) (j6 (k + 1) y0 y1 y2 y3 y4 y5 y6 y7 y8 y9 y10 y11 y12 y13 y14 y15 y16 y17 y18)) ∧ (∀ y0 y1 y2 y3 y4 y5 y6 y7 y8 y9 y10 y11 y12 y13 y14 y15 y16 y17 y18, LeO (j7 k y0 y1 y2 y3 y4 y5 y6 y7 y8 y9 y10 y11 y12 y13 y14 y15 y16 y17 y18) (j7 (k + 1) y0 y1 y2 y3 y4 y5 y6 y7 y8 y9 y10 y11 y12 y13 y14 y15 y16 y17 y18)) ∧ (∀ y0 y1 y2 y3 y4 y5 y6 y7 y8 y9 y10 y11 y12 y13 y14 y15 y16 y17 y18, LeO (j8 k y0 y1 y2 y3 y4 y5 y6 y7 y8 y9 y10 y11 y12 y13 y14 y15 y16 y17 y18) (j8 (k + 1) y0 y1 y2 y3 y4 y5 y6 y7 y8 y9 y10 y11 y12 y13 y14 y15 y16 y17 y18))
  | 0 => by refine ⟨?_, ?_, ?_, ?_, ?_, ?_, ?_, ?_, ?_, ?_, ?_, ?_, ?_, ?_, ?_, ?_, ?_, ?_⟩ <;> (intros; exact LeO.none _)
  | k + 1 => by
    obtain ⟨ih0, ih1, ih2, ih3, ih4, ih5, ih6, ih7, ih8, ih9, ih10, ih11, ih12, ih13, ih14, ih15, ih16, ih17⟩ := mono_l k
    refine ⟨?_, ?_, ?_, ?_, ?_, ?_, ?_, ?_, ?_, ?_, ?_, ?_, ?_, ?_, ?_, ?_, ?_, ?_⟩ <;> intros <;> first | unfold j0 | unfold j1 | unfold j2 | unfold j9 | unfold j10 | unfold j11 | unfold j12 | unfold j17 | unfold j13 | unfold j14 | unfold l1 | unfold j16 | unfold l0 | unfold j4 | unfold j5 | unfold j6 | unfold j7 | unfold j8
    all_goals repeat' first
    | (with_reducible first | apply ih0 | apply ih1 | apply ih2 | apply ih3 | apply ih4 | apply ih5 | apply ih6 | apply ih7 | apply ih8 | apply ih9 | apply ih10 | apply ih11 | apply ih12 | apply ih13 | apply ih14 | apply ih15 | apply ih16 | apply ih17 | exact LeO.refl _ | exact LeO.none _ | refine LeO.ite ?_ ?_ | refine LeO.bind ?_ (fun _ => ?_))
    | exact LeO.none _ | refine LeO.ite ?_ ?_ | refine LeO.bind ?_ (fun _ => ?_)
theorem mono : ∀ a0 k, LeO (f k a0) (f (k + 1) a0) := by
  intro a0 k
  obtain ⟨ih0, ih1, ih2, ih3, ih4, ih5, ih6, ih7, ih8, ih9, ih10, ih11, ih12, ih13, ih14, ih15, ih16, ih17⟩ := mono_l k
  unfold f
  repeat' first
      | (with_reducible first | apply ih0 | apply ih1 | apply ih2 | apply ih3 | apply ih4 | apply ih5 | apply ih6 | apply ih7 | apply ih8 | apply ih9 | apply ih10 | apply ih11 | apply ih12 | apply ih13 | apply ih14 | apply ih15 | apply ih16 | apply ih17 | exact LeO.refl _ | exact LeO.none _ | refine LeO.ite ?_ ?_ | refine LeO.bind ?_ (fun _ => ?_))
      | exact LeO.none _ | refine LeO.ite ?_ ?_ | refine LeO.bind ?_ (fun _ => ?_)
set_option maxHeartbeats 8000000 in
set_option maxRecDepth 100000 in
theorem calls (k : Nat) (a0 : ByteArray) (r1 : Int) (r2 : Int) (r3 : Bool) (r4 : Bool) (r5 : Bool) (r6 : Int) (r7 : Bool) (w : World) (h : f k a0 = some (r1, r2, r3, r4, r5, r6, r7)) :
  Calls Tryz.prog 134 #[.string a0] w fun e w' => e = .returned (.tuple #[.int .u64 r1, .int .i64 r2, .bool r3, .bool r4, .bool r5, .int .i64 r6, .bool r7]) ∧ Below w.heap.size w w' := by
 have HB := aM (Below.refl w.heap.size w)
 have H : (if 0 ≥ (a0.size : Int) then (some (0, 0, false, false, false, 0, false)) else (if 0 < (a0.size : Int) then (if (bt a0 0) = 43 then (j0 k a0 0 0 false false false 1 false false) else (if (bt a0 0) = 45 then (j0 k a0 0 0 true false false 1 false false) else (j0 k a0 0 0 false false false 0 false false))) else (none))) = some (r1, r2, r3, r4, r5, r6, r7) := h
 clear h
 by_cases c2 : 0 ≥ (a0.size : Int)
 ·rw [if_pos c2] at H
  have c2b0 : decide ((a0.size : Int) ≤ 0) = true := decide_eq_true c2
  have c2b1 : decide (a0.size ≤ 0) = true := decide_eq_true (by omega)
  have c2b2 : (a0 = ByteArray.empty) = True := eq_true ((empty_iff a0).2 (by omega))
  clear c2
  as_aux_lemma =>
   simp only [Option.some.injEq, Prod.mk.injEq] at H
   obtain ⟨rfl, rfl, rfl, rfl, rfl, rfl, rfl⟩ := H
   go_enter Tryz.func134, Tryz.ntmps134
   go_wp2
   apply wp_scope_straight
   go_wp2
   (try simp only [Exit.noGoto_ret])
   refine bodyPost_ret (results_list (rs := [.tmp 2, .tmp 3, .tmp 4, .tmp 5, .tmp 6, .tmp 7, .tmp 8]) rfl (by simp) (.tmp (.tmp (.tmp (.tmp (.tmp (.tmp (.tmp .nil)))))))) rfl ?_
   exact ⟨eR, hB⟩
 rw [if_neg c2] at H
 have c2b0 : decide ((a0.size : Int) ≤ 0) = false := decide_eq_false c2
 have c2b1 : decide (a0.size ≤ 0) = false := decide_eq_false (by omega)
 have c2b2 : (a0 = ByteArray.empty) = False := eq_false (fun h_ => by have := (empty_iff a0).1 h_; omega)
 clear c2
 replace H := nI H
 obtain ⟨c3, H⟩ := H
 have c3b0 := dT c3
 have c3b1 : decide (0 < a0.size) = true := decide_eq_true (by omega)
 clear c3
 have HC5 := aM H
 clear H
 have p4 : 0 ≤ (0 : Int) := (by omega)
 have q4 : 0 < a0.size := (by have : (0 : Int) < (a0.size : Int) := oA; omega)
 have hx4 : ∀ h : 0 < a0.size, ((a0[0]'h).toNat : Int) = bt a0 0 := bt_at a0 0
 clear p4
 have qi4 : (0 < (a0.size : Int)) = True := eq_true (oA)
 replace q4 := eq_true q4
 go_enter Tryz.func134, Tryz.ntmps134
 go_wp2
 apply wp_scope_straight
 go_upto_block 0 with (fail)
 go_cut [4, 7] (fun v4 v7 wc => ∃ (kq : Nat) (x4_4 : Bool) (x7_4 : Int), v4 = .bool x4_4 ∧ v7 = .int .i64 x7_4 ∧ Aside0 (j0 kq a0 0 0 x4_4 false false x7_4 false false = some (r1, r2, r3, r4, r5, r6, r7)) ∧ Aside0 (kq ≤ k) ∧ Aside0 (Below w.heap.size w wc))
 case first =>
  have H := HC5.out
  clear HC5
  by_cases c6 : (bt a0 0) = 43
  ·rw [if_pos c6] at H
   have c6b0 := bT c6
   have c6b1 := mF c6
   clear c6
   (first | rw [c6b0] | (simp only [i64_w, i32_w]; rw [c6b0]) | skip)
   as_aux_lemma =>
    have H' := aM H
    clear H
    go_wp2
    go_meet
    case rel => exact ⟨_, false, (1), xR, xR, H', ⟨jO⟩, ⟨hB⟩⟩
  rw [if_neg c6] at H
  have c6b0 := bF c6
  have c6b1 := mT c6
  (first | rw [c6b0] | (simp only [i64_w, i32_w]; rw [c6b0]) | skip)
  by_cases c7 : (bt a0 0) = 45
  rotate_left
  ·rw [if_neg c7] at H
   have c7b0 := bF c7
   have c7b1 := mT c7
   as_aux_lemma =>
    have H' := aM H
    clear H
    go_wp2
    go_meet
    case rel => exact ⟨_, false, (0), xR, xR, H', ⟨jO⟩, ⟨hB⟩⟩
  rw [if_pos c7] at H
  have c7b0 := bT c7
  have c7b1 := mF c7
  clear c7
  as_aux_lemma =>
   have H' := aM H
   clear H
   go_wp2
   go_meet
   case rel => exact ⟨_, true, (1), xR, xR, H', ⟨jO⟩, ⟨hB⟩⟩
 case rest => as_aux_lemma =>
  clear HC5
  obtain ⟨kq, x4_4, x7_4, rfl, rfl, HA, HJ4, HB⟩ := hcut
  cases kq with
  | zero => exact absurd HA.out (by simp [j0])
  | succ kj4 =>
   have H := HA.out
   clear HA
   simp only [j0] at H
   have HC8 := aM H
   clear H
   go_upto_region 12 with (fail)
   go_cut [54] (fun v54 wc => ∃ (kq : Nat) (x54_7 : Bool), v54 = .bool x54_7 ∧ Aside0 (j1 kq a0 0 0 x4_4 false false x7_4 false false 10 19 101 x54_7 = some (r1, r2, r3, r4, r5, r6, r7)) ∧ Aside0 (kq ≤ kj4) ∧ Aside0 (Below w.heap.size w wc))
   case first =>
    have H := HC8.out
    clear HC8
    by_cases c9 : (wrap64 (x7_4 + 2)) < (a0.size : Int)
    rotate_left
    ·rw [if_neg c9] at H
     have c9b0 := dF c9
     clear c9
     (first | rw [c9b0] | (simp only [i64_w, i32_w]; rw [c9b0]) | skip)
     as_aux_lemma =>
      have H' := aM H
      clear H
      go_wp2
      go_meet
      case rel => exact ⟨_, false, xR, H', ⟨jC⟩, ⟨hB⟩⟩
    rw [if_pos c9] at H
    have c9b0 := dT c9
    clear c9
    (first | rw [c9b0] | (simp only [i64_w, i32_w]; rw [c9b0]) | skip)
    replace H := nI H
    obtain ⟨c10, H⟩ := H
    have c10b0 := dT c10
    clear c10
    replace H := nI H
    obtain ⟨c11, H⟩ := H
    have c11b0 := dT c11
    clear c11
    by_cases c13 : (bt a0 x7_4) = 48
    rotate_left
    ·rw [if_neg c13] at H
     have c13b0 := bF c13
     have c13b1 := mT c13
     as_aux_lemma =>
      have H' := aM H
      clear H
      have p12 : (0 ≤ x7_4) = True := eT
      have q12 : (x7_4 < (a0.size : Int)) = True := eT
      have hx12 := bt_at a0 x7_4
      go_wp2
      go_meet
      case rel => exact ⟨_, false, xR, H', ⟨jC⟩, ⟨hB⟩⟩
    rw [if_pos c13] at H
    have c13b0 := bT c13
    have c13b1 := mF c13
    clear c13
    obtain ⟨ji14, hji14⟩ : ∃ j_ : Int, (wrap64 (x7_4 + 1)) = j_ := ⟨_, rfl⟩
    replace H : (if 0 ≤ (ji14) then (if (ji14) < (a0.size : Int) then ((strconv_lower.f (bt a0 (ji14))).bind fun t101 => (j1 kj4 a0 0 0 x4_4 false false x7_4 false false 10 19 101 (t101 == 120))) else (none)) else (none)) = some (r1, r2, r3, r4, r5, r6, r7) := by first | (rw [hji14] at H; exact H) | (simp only [hji14] at H ⊢; exact H)
    have hji14w : (IntKind.i64.wrap (x7_4 + 1)) = ji14 := (i64_w _).trans hji14
    replace H := nI H
    obtain ⟨c15, H⟩ := H
    have c15b0 := dT c15
    clear c15
    replace H := nI H
    obtain ⟨c16, H⟩ := H
    have c16b0 := dT c16
    clear c16
    replace H := Option.bind_eq_some_iff.mp H
    obtain ⟨t101, A180, H⟩ := H
    replace H : (j1 kj4 a0 0 0 x4_4 false false x7_4 false false 10 19 101 (t101 == 120)) = some (r1, r2, r3, r4, r5, r6, r7) := H
    have A18 := aM A180
    clear A180
    as_aux_lemma =>
     have H' := aM H
     clear H
     have p12 : (0 ≤ x7_4) = True := eT
     have q12 : (x7_4 < (a0.size : Int)) = True := eT
     have hx12 := bt_at a0 x7_4
     have p17 : (0 ≤ ji14) = True := eT
     have q17 : ((ji14) < (a0.size : Int)) = True := eT
     have hx17 := bt_at a0 (ji14)
     go_wp2_with (first | (go_at_call 96; (with_reducible refine (strconv_lower.calls (bt a0 (ji14)) t101 _ A18.out).mono ?_); rintro e w' ⟨rfl, ⟨nd, rfl⟩⟩))
     go_meet
     case rel => exact ⟨_, ((t101 == 120)), xR, H', ⟨jC⟩, ⟨hB⟩⟩
   case rest => as_aux_lemma =>
    clear HC8
    obtain ⟨kq, x54_7, rfl, HA, HJ7, HB⟩ := hcut
    cases kq with
    | zero => exact absurd HA.out (by simp [j1])
    | succ kj7 =>
     have H := HA.out
     clear HA
     simp only [j1] at H
     have HC19 := aM H
     clear H
     go_upto_if 54 with (fail)
     go_cut [6, 7, 10, 11, 12] (fun v6 v7 v10 v11 v12 wc => ∃ (kq : Nat) (x6_18 : Bool) (x7_18 : Int) (x10_18 : Int) (x11_18 : Int) (x12_18 : Int), v6 = .bool x6_18 ∧ v7 = .int .i64 x7_18 ∧ v10 = .int .u64 x10_18 ∧ v11 = .int .i64 x11_18 ∧ v12 = .int .u8 x12_18 ∧ Aside0 (j2 kq a0 0 0 x4_4 false x6_18 x7_18 false false x10_18 x11_18 x12_18 = some (r1, r2, r3, r4, r5, r6, r7)) ∧ Aside0 (kq ≤ kj7) ∧ Aside0 (Below w.heap.size w wc))
     case first =>
      have H := HC19.out
      clear HC19
      by_cases c20 : x54_7 = true
      ·subst c20
       replace H := iT H
       as_aux_lemma =>
        have H' := aM H
        clear H
        go_wp2
        go_meet
        case rel => exact ⟨_, true, (wrap64 (x7_4 + 2)), (16), (16), (112), xR, xR, xR, xR, xR, H', ⟨jC⟩, ⟨hB⟩⟩
      replace c20 := nF c20
      subst c20
      replace H := iF H
      as_aux_lemma =>
       have H' := aM H
       clear H
       go_wp2
       go_meet
       case rel => exact ⟨_, false, x7_4, (10), (19), (101), xR, xR, xR, xR, xR, H', ⟨jC⟩, ⟨hB⟩⟩
     case rest => as_aux_lemma =>
      clear HC19
      obtain ⟨kq, x6_18, x7_18, x10_18, x11_18, x12_18, rfl, rfl, rfl, rfl, rfl, HA, HJ18, HB⟩ := hcut
      cases kq with
      | zero => exact absurd HA.out (by simp [j2])
      | succ kj18 =>
       have H := HA.out
       clear HA
       simp only [j2] at H
       have HC21 := aM H
       clear H
       go_wp2
       go_step3
       go_upto_block 1 with (fail)
       go_cut [2, 5, 7, 9, 13, 14, 15, 16, 17] (fun v2 v5 v7 v9 v13 v14 v15 v16 v17 wc => ∃ (kq : Nat) (x2_20 : Int) (x5_20 : Bool) (x7_20 : Int) (x9_20 : Bool) (x13_20 : Bool) (x14_20 : Bool) (x15_20 : Int) (x16_20 : Int) (x17_20 : Int), v2 = .int .u64 x2_20 ∧ v5 = .bool x5_20 ∧ v7 = .int .i64 x7_20 ∧ v9 = .bool x9_20 ∧ v13 = .bool x13_20 ∧ v14 = .bool x14_20 ∧ v15 = .int .i64 x15_20 ∧ v16 = .int .i64 x16_20 ∧ v17 = .int .i64 x17_20 ∧ Aside0 (j9 kq a0 x2_20 0 x4_4 x5_20 x6_18 x7_20 false x9_20 x10_18 x12_18 x13_20 x14_20 x15_20 x16_20 x17_20 = some (r1, r2, r3, r4, r5, r6, r7)) ∧ Aside0 (kq ≤ kj18) ∧ Aside0 (Below w.heap.size w wc))
       case first =>
        have H := HC21.out
        clear HC21
        have H' := aM H
        clear H
        go_wp2
        go_loopg [2, 5, 7, 9, 13, 14, 15, 16, 17] kj18 (fun kq v2 v5 v7 v9 v13 v14 v15 v16 v17 w' => ∃ (x2_4 : Int) (x5_4 : Bool) (x7_4 : Int) (x9_4 : Bool) (x13_4 : Bool) (x14_4 : Bool) (x15_4 : Int) (x16_4 : Int) (x17_4 : Int), v2 = .int .u64 x2_4 ∧ v5 = .bool x5_4 ∧ v7 = .int .i64 x7_4 ∧ v9 = .bool x9_4 ∧ v13 = .bool x13_4 ∧ v14 = .bool x14_4 ∧ v15 = .int .i64 x15_4 ∧ v16 = .int .i64 x16_4 ∧ v17 = .int .i64 x17_4 ∧ Aside0 (l0 kq a0 x2_4 0 x4_4 x5_4 x6_18 x7_4 false x9_4 x10_18 x11_18 x12_18 x13_4 x14_4 x15_4 x16_4 x17_4 = some (r1, r2, r3, r4, r5, r6, r7)) ∧ Aside0 (kq ≤ kj18) ∧ Aside0 (Below w.heap.size w w'))
        case atStart => exact ⟨(0), false, x7_18, false, false, false, (0), (0), (0), xR, xR, xR, xR, xR, xR, xR, xR, xR, H', ⟨Nat.le_refl _⟩, ⟨hB⟩⟩
        case round => as_aux_lemma =>
         clear H'
         obtain ⟨x2_4, x5_4, x7_4, x9_4, x13_4, x14_4, x15_4, x16_4, x17_4, rfl, rfl, rfl, rfl, rfl, rfl, rfl, rfl, rfl, HA, HK4, HB⟩ := hrel
         cases gk with
         | zero => exact absurd HA.out (by simp [l0])
         | succ k4 =>
          have H := HA.out
          clear HA
          simp only [l0] at H
          by_cases c22 : x7_4 < (a0.size : Int)
          rotate_left
          ·rw [if_neg c22] at H
           have c22b0 := dF c22
           clear c22
           (first | rw [c22b0] | (simp only [i64_w, i32_w]; rw [c22b0]) | skip)
           as_aux_lemma =>
            have H' := aM H
            clear H
            go_wp2
            go_meet
            case rel => exact ⟨_, x2_4, x5_4, x7_4, x9_4, x13_4, x14_4, x15_4, x16_4, x17_4, xR, xR, xR, xR, xR, xR, xR, xR, xR, H', ⟨jC⟩, ⟨hB⟩⟩
          rw [if_pos c22] at H
          have c22b0 := dT c22
          clear c22
          (first | rw [c22b0] | (simp only [i64_w, i32_w]; rw [c22b0]) | skip)
          replace H := nI H
          obtain ⟨c23, H⟩ := H
          have c23b0 := dT c23
          clear c23
          have HC25 := aM H
          clear H
          have p24 : (0 ≤ x7_4) = True := eT
          have q24 : (x7_4 < (a0.size : Int)) = True := eT
          have hx24 := bt_at a0 x7_4
          go_upto_region 26 with (fail)
          go_cut [66] (fun v66 wc => ∃ (kq : Nat) (x66_24 : Bool), v66 = .bool x66_24 ∧ Aside0 (j4 kq a0 x2_4 0 x4_4 x5_4 x6_18 x7_4 false x9_4 x10_18 x11_18 x12_18 x13_4 x14_4 x15_4 x16_4 x17_4 (bt a0 x7_4) x66_24 = some (r1, r2, r3, r4, r5, r6, r7)) ∧ Aside0 (kq ≤ k4) ∧ Aside0 (Below w.heap.size w wc))
          case first =>
           have H := HC25.out
           clear HC25
           by_cases c26 : (bt a0 x7_4) = 95
           rotate_left
           ·rw [if_neg c26] at H
            have c26b0 := bF c26
            have c26b1 := mT c26
            (first | rw [c26b0] | (simp only [i64_w, i32_w]; rw [c26b0]) | skip)
            as_aux_lemma =>
             have H' := aM H
             clear H
             go_wp2
             go_meet
             case rel => exact ⟨_, false, xR, H', ⟨jC⟩, ⟨hB⟩⟩
           rw [if_pos c26] at H
           have c26b0 := bT c26
           have c26b1 := mF c26
           clear c26
           (first | rw [c26b0] | (simp only [i64_w, i32_w]; rw [c26b0]) | skip)
           as_aux_lemma =>
            have H' := aM H
            clear H
            go_wp2
            go_meet
            case rel => exact ⟨_, true, xR, H', ⟨jC⟩, ⟨hB⟩⟩
          case rest => as_aux_lemma =>
           clear HC25
           obtain ⟨kq, x66_24, rfl, HA, HJ24, HB⟩ := hcut
           cases kq with
           | zero => exact absurd HA.out (by simp [j4])
           | succ kj24 =>
            have H := HA.out
            clear HA
            simp only [j4] at H
            by_cases c27 : x66_24 = true
            ·subst c27
             replace H := iT H
             as_aux_lemma =>
              have H' := aM H
              clear H
              go_wp2
              go_roundg kj24
              case measure => exact jC
              case rel => exact ⟨x2_4, x5_4, (wrap64 (x7_4 + 1)), true, x13_4, x14_4, x15_4, x16_4, x17_4, xR, xR, xR, xR, xR, xR, xR, xR, xR, H', ⟨jC⟩, ⟨hB⟩⟩
            replace c27 := nF c27
            subst c27
            replace H := iF H
            have HC28 := aM H
            clear H
            go_upto_region 28 with (fail)
            go_cut [70] (fun v70 wc => ∃ (kq : Nat) (x70_27 : Bool), v70 = .bool x70_27 ∧ Aside0 (j5 kq a0 x2_4 0 x4_4 x5_4 x6_18 x7_4 false x9_4 x10_18 x11_18 x12_18 x13_4 x14_4 x15_4 x16_4 x17_4 (bt a0 x7_4) x70_27 = some (r1, r2, r3, r4, r5, r6, r7)) ∧ Aside0 (kq ≤ kj24) ∧ Aside0 (Below w.heap.size w wc))
            case first =>
             have H := HC28.out
             clear HC28
             by_cases c29 : (bt a0 x7_4) = 46
             rotate_left
             ·rw [if_neg c29] at H
              have c29b0 := bF c29
              have c29b1 := mT c29
              (first | rw [c29b0] | (simp only [i64_w, i32_w]; rw [c29b0]) | skip)
              as_aux_lemma =>
               have H' := aM H
               clear H
               go_wp2
               go_meet
               case rel => exact ⟨_, false, xR, H', ⟨jC⟩, ⟨hB⟩⟩
             rw [if_pos c29] at H
             have c29b0 := bT c29
             have c29b1 := mF c29
             clear c29
             (first | rw [c29b0] | (simp only [i64_w, i32_w]; rw [c29b0]) | skip)
             as_aux_lemma =>
              have H' := aM H
              clear H
              go_wp2
              go_meet
              case rel => exact ⟨_, true, xR, H', ⟨jC⟩, ⟨hB⟩⟩
            case rest => as_aux_lemma =>
             clear HC28
             obtain ⟨kq, x70_27, rfl, HA, HJ27, HB⟩ := hcut
             cases kq with
             | zero => exact absurd HA.out (by simp [j5])
             | succ kj27 =>
              have H := HA.out
              clear HA
              simp only [j5] at H
              by_cases c30 : x70_27 = true
              ·subst c30
               replace H := iT H
               by_cases c31 : x13_4 = true
               ·subst c31
                replace H := iT H
                as_aux_lemma =>
                 have H' := aM H
                 clear H
                 go_wp2
                 go_meet
                 case rel => exact ⟨_, x2_4, x5_4, x7_4, x9_4, true, x14_4, x15_4, x16_4, x17_4, xR, xR, xR, xR, xR, xR, xR, xR, xR, H', ⟨jC⟩, ⟨hB⟩⟩
               replace c31 := nF c31
               subst c31
               replace H := iF H
               as_aux_lemma =>
                have H' := aM H
                clear H
                go_wp2
                go_roundg kj27
                case measure => exact jC
                case rel => exact ⟨x2_4, x5_4, (wrap64 (x7_4 + 1)), x9_4, true, x14_4, x15_4, x16_4, x15_4, xR, xR, xR, xR, xR, xR, xR, xR, xR, H', ⟨jC⟩, ⟨hB⟩⟩
              replace c30 := nF c30
              subst c30
              replace H := iF H
              have HC32 := aM H
              clear H
              go_upto_region 32 with (fail)
              go_cut [76] (fun v76 wc => ∃ (kq : Nat) (x76_31 : Bool), v76 = .bool x76_31 ∧ Aside0 (j6 kq a0 x2_4 0 x4_4 x5_4 x6_18 x7_4 false x9_4 x10_18 x11_18 x12_18 x13_4 x14_4 x15_4 x16_4 x17_4 (bt a0 x7_4) x76_31 = some (r1, r2, r3, r4, r5, r6, r7)) ∧ Aside0 (kq ≤ kj27) ∧ Aside0 (Below w.heap.size w wc))
              case first =>
               have H := HC32.out
               clear HC32
               by_cases c33 : 48 ≤ (bt a0 x7_4)
               rotate_left
               ·rw [if_neg c33] at H
                have c33b0 := dF c33
                clear c33
                (first | rw [c33b0] | (simp only [i64_w, i32_w]; rw [c33b0]) | skip)
                as_aux_lemma =>
                 have H' := aM H
                 clear H
                 go_wp2
                 go_meet
                 case rel => exact ⟨_, false, xR, H', ⟨jC⟩, ⟨hB⟩⟩
               rw [if_pos c33] at H
               have c33b0 := dT c33
               clear c33
               (first | rw [c33b0] | (simp only [i64_w, i32_w]; rw [c33b0]) | skip)
               by_cases c34 : (bt a0 x7_4) ≤ 57
               ·rw [if_pos c34] at H
                have c34b0 := dT c34
                clear c34
                as_aux_lemma =>
                 have H' := aM H
                 clear H
                 go_wp2
                 go_meet
                 case rel => exact ⟨_, true, xR, H', ⟨jC⟩, ⟨hB⟩⟩
               rw [if_neg c34] at H
               have c34b0 := dF c34
               clear c34
               as_aux_lemma =>
                have H' := aM H
                clear H
                go_wp2
                go_meet
                case rel => exact ⟨_, false, xR, H', ⟨jC⟩, ⟨hB⟩⟩
              case rest => as_aux_lemma =>
               clear HC32
               obtain ⟨kq, x76_31, rfl, HA, HJ31, HB⟩ := hcut
               cases kq with
               | zero => exact absurd HA.out (by simp [j6])
               | succ kj31 =>
                have H := HA.out
                clear HA
                simp only [j6] at H
                by_cases c35 : x76_31 = true
                ·subst c35
                 replace H := iT H
                 have HC36 := aM H
                 clear H
                 go_upto_region 34 with (fail)
                 go_cut [89] (fun v89 wc => ∃ (kq : Nat) (x89_35 : Bool), v89 = .bool x89_35 ∧ Aside0 (j7 kq a0 x2_4 0 x4_4 x5_4 x6_18 x7_4 false x9_4 x10_18 x11_18 x12_18 x13_4 true x15_4 x16_4 x17_4 (bt a0 x7_4) x89_35 = some (r1, r2, r3, r4, r5, r6, r7)) ∧ Aside0 (kq ≤ kj31) ∧ Aside0 (Below w.heap.size w wc))
                 case first =>
                  have H := HC36.out
                  clear HC36
                  by_cases c37 : (bt a0 x7_4) = 48
                  rotate_left
                  ·rw [if_neg c37] at H
                   have c37b0 := bF c37
                   have c37b1 := mT c37
                   (first | rw [c37b0] | (simp only [i64_w, i32_w]; rw [c37b0]) | skip)
                   as_aux_lemma =>
                    have H' := aM H
                    clear H
                    go_wp2
                    go_meet
                    case rel => exact ⟨_, false, xR, H', ⟨jC⟩, ⟨hB⟩⟩
                  rw [if_pos c37] at H
                  have c37b0 := bT c37
                  have c37b1 := mF c37
                  clear c37
                  (first | rw [c37b0] | (simp only [i64_w, i32_w]; rw [c37b0]) | skip)
                  as_aux_lemma =>
                   have H' := aM H
                   clear H
                   go_wp2
                   go_meet
                   case rel => exact ⟨_, ((x15_4 == 0)), xR, H', ⟨jC⟩, ⟨hB⟩⟩
                 case rest => as_aux_lemma =>
                  clear HC36
                  obtain ⟨kq, x89_35, rfl, HA, HJ35, HB⟩ := hcut
                  cases kq with
                  | zero => exact absurd HA.out (by simp [j7])
                  | succ kj35 =>
                   have H := HA.out
                   clear HA
                   simp only [j7] at H
                   by_cases c38 : x89_35 = true
                   ·subst c38
                    replace H := iT H
                    as_aux_lemma =>
                     have H' := aM H
                     clear H
                     go_wp2
                     go_roundg kj35
                     case measure => exact jC
                     case rel => exact ⟨x2_4, x5_4, (wrap64 (x7_4 + 1)), x9_4, x13_4, true, x15_4, x16_4, (wrap64 (x17_4 - 1)), xR, xR, xR, xR, xR, xR, xR, xR, xR, H', ⟨jC⟩, ⟨hB⟩⟩
                   replace c38 := nF c38
                   subst c38
                   replace H := iF H
                   by_cases c39 : x16_4 < x11_18
                   ·rw [if_pos c39] at H
                    have c39b0 := dT c39
                    clear c39
                    as_aux_lemma =>
                     have H' := aM H
                     clear H
                     go_wp2
                     go_roundg kj35
                     case measure => exact jC
                     case rel => exact ⟨(IntKind.u64.wrap ((IntKind.u64.wrap (x2_4 * x10_18)) + (((bt a0 x7_4) - 48) % 256))), x5_4, (wrap64 (x7_4 + 1)), x9_4, x13_4, true, (wrap64 (x15_4 + 1)), (wrap64 (x16_4 + 1)), x17_4, xR, xR, xR, xR, xR, xR, xR, xR, xR, H', ⟨jC⟩, ⟨hB⟩⟩
                   rw [if_neg c39] at H
                   have c39b0 := dF c39
                   clear c39
                   by_cases c40 : (bt a0 x7_4) = 48
                   rotate_left
                   ·rw [if_neg c40] at H
                    have c40b0 := bF c40
                    have c40b1 := mT c40
                    as_aux_lemma =>
                     have H' := aM H
                     clear H
                     go_wp2
                     go_roundg kj35
                     case measure => exact jC
                     case rel => exact ⟨x2_4, true, (wrap64 (x7_4 + 1)), x9_4, x13_4, true, (wrap64 (x15_4 + 1)), x16_4, x17_4, xR, xR, xR, xR, xR, xR, xR, xR, xR, H', ⟨jC⟩, ⟨hB⟩⟩
                   rw [if_pos c40] at H
                   have c40b0 := bT c40
                   have c40b1 := mF c40
                   clear c40
                   as_aux_lemma =>
                    have H' := aM H
                    clear H
                    go_wp2
                    go_roundg kj35
                    case measure => exact jC
                    case rel => exact ⟨x2_4, x5_4, (wrap64 (x7_4 + 1)), x9_4, x13_4, true, (wrap64 (x15_4 + 1)), x16_4, x17_4, xR, xR, xR, xR, xR, xR, xR, xR, xR, H', ⟨jC⟩, ⟨hB⟩⟩
                replace c35 := nF c35
                subst c35
                replace H := iF H
                have HC41 := aM H
                clear H
                go_upto_region 43 with (fail)
                go_cut [109] (fun v109 wc => ∃ (kq : Nat) (x109_40 : Bool), v109 = .bool x109_40 ∧ Aside0 (j8 kq a0 x2_4 0 x4_4 x5_4 x6_18 x7_4 false x9_4 x10_18 x11_18 x12_18 x13_4 x14_4 x15_4 x16_4 x17_4 (bt a0 x7_4) x109_40 = some (r1, r2, r3, r4, r5, r6, r7)) ∧ Aside0 (kq ≤ kj31) ∧ Aside0 (Below w.heap.size w wc))
                case first =>
                 have H := HC41.out
                 clear HC41
                 by_cases c42 : x10_18 = 16
                 rotate_left
                 ·rw [if_neg c42] at H
                  have c42b0 := bF c42
                  have c42b1 := mT c42
                  (first | rw [c42b0] | (simp only [i64_w, i32_w]; rw [c42b0]) | skip)
                  as_aux_lemma =>
                   have H' := aM H
                   clear H
                   go_wp2
                   go_meet
                   case rel => exact ⟨_, false, xR, H', ⟨jC⟩, ⟨hB⟩⟩
                 rw [if_pos c42] at H
                 have c42b0 := bT c42
                 have c42b1 := mF c42
                 clear c42
                 (first | rw [c42b0] | (simp only [i64_w, i32_w]; rw [c42b0]) | skip)
                 replace H := Option.bind_eq_some_iff.mp H
                 obtain ⟨t102, A430, H⟩ := H
                 replace H : (if 97 ≤ t102 then ((strconv_lower.f (bt a0 x7_4)).bind fun t103 => (if t103 ≤ 102 then (j8 kj31 a0 x2_4 0 x4_4 x5_4 x6_18 x7_4 false x9_4 x10_18 x11_18 x12_18 x13_4 x14_4 x15_4 x16_4 x17_4 (bt a0 x7_4) true) else (j8 kj31 a0 x2_4 0 x4_4 x5_4 x6_18 x7_4 false x9_4 x10_18 x11_18 x12_18 x13_4 x14_4 x15_4 x16_4 x17_4 (bt a0 x7_4) false))) else (j8 kj31 a0 x2_4 0 x4_4 x5_4 x6_18 x7_4 false x9_4 x10_18 x11_18 x12_18 x13_4 x14_4 x15_4 x16_4 x17_4 (bt a0 x7_4) false)) = some (r1, r2, r3, r4, r5, r6, r7) := H
                 have A43 := aM A430
                 clear A430
                 by_cases c44 : 97 ≤ t102
                 rotate_left
                 ·rw [if_neg c44] at H
                  have c44b0 := dF c44
                  clear c44
                  as_aux_lemma =>
                   have H' := aM H
                   clear H
                   go_wp2_with (first | (go_at_call 96; (with_reducible refine (strconv_lower.calls (bt a0 x7_4) t102 _ A43.out).mono ?_); rintro e w' ⟨rfl, ⟨nd, rfl⟩⟩))
                   go_meet
                   case rel => exact ⟨_, false, xR, H', ⟨jC⟩, ⟨hB⟩⟩
                 rw [if_pos c44] at H
                 have c44b0 := dT c44
                 clear c44
                 replace H := Option.bind_eq_some_iff.mp H
                 obtain ⟨t103, A450, H⟩ := H
                 replace H : (if t103 ≤ 102 then (j8 kj31 a0 x2_4 0 x4_4 x5_4 x6_18 x7_4 false x9_4 x10_18 x11_18 x12_18 x13_4 x14_4 x15_4 x16_4 x17_4 (bt a0 x7_4) true) else (j8 kj31 a0 x2_4 0 x4_4 x5_4 x6_18 x7_4 false x9_4 x10_18 x11_18 x12_18 x13_4 x14_4 x15_4 x16_4 x17_4 (bt a0 x7_4) false)) = some (r1, r2, r3, r4, r5, r6, r7) := H
                 have A45 := aM A450
                 clear A450
                 by_cases c46 : t103 ≤ 102
                 ·rw [if_pos c46] at H
                  have c46b0 := dT c46
                  have c46b1 : decide (t102 ≤ 102) = true := by   -- the letter again
                   have e_ := Option.some.inj (A45.out.symm.trans A43.out)
                   rw [← e_]; exact c46b0
                  clear c46
                  as_aux_lemma =>
                   have H' := aM H
                   clear H
                   go_wp2_with (first | (go_at_call 96; (with_reducible refine (strconv_lower.calls (bt a0 x7_4) t102 _ A43.out).mono ?_); rintro e w' ⟨rfl, ⟨nd, rfl⟩⟩) | (go_at_call 96; (with_reducible refine (strconv_lower.calls (bt a0 x7_4) t103 _ A45.out).mono ?_); rintro e w' ⟨rfl, ⟨nd, rfl⟩⟩))
                   go_meet
                   case rel => exact ⟨_, true, xR, H', ⟨jC⟩, ⟨hB⟩⟩
                 rw [if_neg c46] at H
                 have c46b0 := dF c46
                 have c46b1 : decide (t102 ≤ 102) = false := by   -- the letter again
                  have e_ := Option.some.inj (A45.out.symm.trans A43.out)
                  rw [← e_]; exact c46b0
                 clear c46
                 as_aux_lemma =>
                  have H' := aM H
                  clear H
                  go_wp2_with (first | (go_at_call 96; (with_reducible refine (strconv_lower.calls (bt a0 x7_4) t102 _ A43.out).mono ?_); rintro e w' ⟨rfl, ⟨nd, rfl⟩⟩) | (go_at_call 96; (with_reducible refine (strconv_lower.calls (bt a0 x7_4) t103 _ A45.out).mono ?_); rintro e w' ⟨rfl, ⟨nd, rfl⟩⟩))
                  go_meet
                  case rel => exact ⟨_, false, xR, H', ⟨jC⟩, ⟨hB⟩⟩
                case rest => as_aux_lemma =>
                 clear HC41
                 obtain ⟨kq, x109_40, rfl, HA, HJ40, HB⟩ := hcut
                 cases kq with
                 | zero => exact absurd HA.out (by simp [j8])
                 | succ kj40 =>
                  have H := HA.out
                  clear HA
                  simp only [j8] at H
                  by_cases c47 : x109_40 = true
                  rotate_left
                  ·replace c47 := nF c47
                   subst c47
                   replace H := iF H
                   as_aux_lemma =>
                    have H' := aM H
                    clear H
                    go_wp2
                    go_meet
                    case rel => exact ⟨_, x2_4, x5_4, x7_4, x9_4, x13_4, x14_4, x15_4, x16_4, x17_4, xR, xR, xR, xR, xR, xR, xR, xR, xR, H', ⟨jC⟩, ⟨hB⟩⟩
                  subst c47
                  replace H := iT H
                  by_cases c48 : x16_4 < x11_18
                  rotate_left
                  ·rw [if_neg c48] at H
                   have c48b0 := dF c48
                   clear c48
                   as_aux_lemma =>
                    have H' := aM H
                    clear H
                    go_wp2
                    go_roundg kj40
                    case measure => exact jC
                    case rel => exact ⟨x2_4, true, (wrap64 (x7_4 + 1)), x9_4, x13_4, true, (wrap64 (x15_4 + 1)), x16_4, x17_4, xR, xR, xR, xR, xR, xR, xR, xR, xR, H', ⟨jC⟩, ⟨hB⟩⟩
                  rw [if_pos c48] at H
                  have c48b0 := dT c48
                  clear c48
                  replace H := Option.bind_eq_some_iff.mp H
                  obtain ⟨t104, A490, H⟩ := H
                  replace H : (l0 kj40 a0 (IntKind.u64.wrap ((IntKind.u64.wrap (x2_4 * 16)) + ((((t104 - 97) % 256) + 10) % 256))) 0 x4_4 x5_4 x6_18 (wrap64 (x7_4 + 1)) false x9_4 x10_18 x11_18 x12_18 x13_4 true (wrap64 (x15_4 + 1)) (wrap64 (x16_4 + 1)) x17_4) = some (r1, r2, r3, r4, r5, r6, r7) := H
                  have A49 := aM A490
                  clear A490
                  as_aux_lemma =>
                   have H' := aM H
                   clear H
                   go_wp2_with (first | ((with_reducible refine gate_callee (f := 96) rfl ?_); refine goesL_ (some 132) rfl rfl Tryz.func96 (by kernel_rfl) rfl #[.int .u8 (bt a0 x7_4)] rfl gA ?_; (with_reducible refine (strconv_lower.calls (bt a0 x7_4) t104 _ A49.out).mono ?_); rintro e w' ⟨rfl, ⟨nd, rfl⟩⟩; refine ⟨_, rfl, ?_⟩))
                   go_roundg kj40
                   case measure => exact jC
                   case rel => exact ⟨(IntKind.u64.wrap ((IntKind.u64.wrap (x2_4 * 16)) + ((((t104 - 97) % 256) + 10) % 256))), x5_4, (wrap64 (x7_4 + 1)), x9_4, x13_4, true, (wrap64 (x15_4 + 1)), (wrap64 (x16_4 + 1)), x17_4, xR, xR, xR, xR, xR, xR, xR, xR, xR, H', ⟨jC⟩, ⟨hB⟩⟩
       case rest => as_aux_lemma =>
        clear HC21
        obtain ⟨kq, x2_20, x5_20, x7_20, x9_20, x13_20, x14_20, x15_20, x16_20, x17_20, rfl, rfl, rfl, rfl, rfl, rfl, rfl, rfl, rfl, HA, HJ20, HB⟩ := hcut
        cases kq with
        | zero => exact absurd HA.out (by simp [j9])
        | succ kj20 =>
         have H := HA.out
         clear HA
         simp only [j9] at H
         by_cases c50 : x14_20 = true
         rotate_left
         ·replace c50 := nF c50
          subst c50
          replace H := iF H
          as_aux_lemma =>
           simp only [Option.some.injEq, Prod.mk.injEq] at H
           obtain ⟨rfl, rfl, rfl, rfl, rfl, rfl, rfl⟩ := H
           go_wp2
           (try simp only [Exit.noGoto_ret])
           refine bodyPost_ret (results_list (rs := [.tmp 2, .tmp 3, .tmp 4, .tmp 5, .tmp 6, .tmp 7, .tmp 8]) rfl (by simp) (.tmp (.tmp (.tmp (.tmp (.tmp (.tmp (.tmp .nil)))))))) rfl ?_
           exact ⟨eR, hB⟩
         subst c50
         replace H := iT H
         have HC51 := aM H
         clear H
         go_upto_if 142 with (fail)
         go_cut [17] (fun v17 wc => ∃ (kq : Nat) (x17_50 : Int), v17 = .int .i64 x17_50 ∧ Aside0 (j10 kq a0 x2_20 0 x4_4 x5_20 x6_18 x7_20 false x9_20 x10_18 x12_18 x16_20 x17_50 = some (r1, r2, r3, r4, r5, r6, r7)) ∧ Aside0 (kq ≤ kj20) ∧ Aside0 (Below w.heap.size w wc))
         case first =>
          have H := HC51.out
          clear HC51
          by_cases c52 : x13_20 = true
          ·subst c52
           replace H := iT H
           as_aux_lemma =>
            have H' := aM H
            clear H
            go_wp2
            go_meet
            case rel => exact ⟨_, x17_20, xR, H', ⟨jC⟩, ⟨hB⟩⟩
          replace c52 := nF c52
          subst c52
          replace H := iF H
          as_aux_lemma =>
           have H' := aM H
           clear H
           go_wp2
           go_meet
           case rel => exact ⟨_, x15_20, xR, H', ⟨jC⟩, ⟨hB⟩⟩
         case rest => as_aux_lemma =>
          clear HC51
          obtain ⟨kq, x17_50, rfl, HA, HJ50, HB⟩ := hcut
          cases kq with
          | zero => exact absurd HA.out (by simp [j10])
          | succ kj50 =>
           have H := HA.out
           clear HA
           simp only [j10] at H
           have HC53 := aM H
           clear H
           go_upto_if 145 with (fail)
           go_cut [16, 17] (fun v16 v17 wc => ∃ (kq : Nat) (x16_52 : Int) (x17_52 : Int), v16 = .int .i64 x16_52 ∧ v17 = .int .i64 x17_52 ∧ Aside0 (j11 kq a0 x2_20 0 x4_4 x5_20 x6_18 x7_20 false x9_20 x10_18 x12_18 x16_52 x17_52 = some (r1, r2, r3, r4, r5, r6, r7)) ∧ Aside0 (kq ≤ kj50) ∧ Aside0 (Below w.heap.size w wc))
           case first =>
            have H := HC53.out
            clear HC53
            by_cases c54 : x10_18 = 16
            rotate_left
            ·rw [if_neg c54] at H
             have c54b0 := bF c54
             have c54b1 := mT c54
             (first | rw [c54b0] | (simp only [i64_w, i32_w]; rw [c54b0]) | skip)
             as_aux_lemma =>
              have H' := aM H
              clear H
              go_wp2
              go_meet
              case rel => exact ⟨_, x16_20, x17_50, xR, xR, H', ⟨jC⟩, ⟨hB⟩⟩
            rw [if_pos c54] at H
            have c54b0 := bT c54
            have c54b1 := mF c54
            clear c54
            (first | rw [c54b0] | (simp only [i64_w, i32_w]; rw [c54b0]) | skip)
            as_aux_lemma =>
             have H' := aM H
             clear H
             go_wp2
             go_meet
             case rel => exact ⟨_, (wrap64 (x16_20 * 4)), (wrap64 (x17_50 * 4)), xR, xR, H', ⟨jC⟩, ⟨hB⟩⟩
           case rest => as_aux_lemma =>
            clear HC53
            obtain ⟨kq, x16_52, x17_52, rfl, rfl, HA, HJ52, HB⟩ := hcut
            cases kq with
            | zero => exact absurd HA.out (by simp [j11])
            | succ kj52 =>
             have H := HA.out
             clear HA
             simp only [j11] at H
             have HC55 := aM H
             clear H
             go_upto_region 57 with (fail)
             go_cut [161] (fun v161 wc => ∃ (kq : Nat) (x161_54 : Bool), v161 = .bool x161_54 ∧ Aside0 (j12 kq a0 x2_20 0 x4_4 x5_20 x6_18 x7_20 false x9_20 x10_18 x16_52 x17_52 x161_54 = some (r1, r2, r3, r4, r5, r6, r7)) ∧ Aside0 (kq ≤ kj52) ∧ Aside0 (Below w.heap.size w wc))
             case first =>
              have H := HC55.out
              clear HC55
              by_cases c56 : x7_20 < (a0.size : Int)
              rotate_left
              ·rw [if_neg c56] at H
               have c56b0 := dF c56
               clear c56
               (first | rw [c56b0] | (simp only [i64_w, i32_w]; rw [c56b0]) | skip)
               as_aux_lemma =>
                have H' := aM H
                clear H
                go_wp2
                go_meet
                case rel => exact ⟨_, false, xR, H', ⟨jC⟩, ⟨hB⟩⟩
              rw [if_pos c56] at H
              have c56b0 := dT c56
              clear c56
              (first | rw [c56b0] | (simp only [i64_w, i32_w]; rw [c56b0]) | skip)
              replace H := nI H
              obtain ⟨c57, H⟩ := H
              have c57b0 := dT c57
              clear c57
              replace H := Option.bind_eq_some_iff.mp H
              obtain ⟨t105, A590, H⟩ := H
              replace H : (j12 kj52 a0 x2_20 0 x4_4 x5_20 x6_18 x7_20 false x9_20 x10_18 x16_52 x17_52 (t105 == x12_18)) = some (r1, r2, r3, r4, r5, r6, r7) := H
              have A59 := aM A590
              clear A590
              as_aux_lemma =>
               have H' := aM H
               clear H
               have p58 : (0 ≤ x7_20) = True := eT
               have q58 : (x7_20 < (a0.size : Int)) = True := eT
               have hx58 := bt_at a0 x7_20
               go_wp2_with (first | (go_at_call 96; (with_reducible refine (strconv_lower.calls (bt a0 x7_20) t105 _ A59.out).mono ?_); rintro e w' ⟨rfl, ⟨nd, rfl⟩⟩))
               go_meet
               case rel => exact ⟨_, ((t105 == x12_18)), xR, H', ⟨jC⟩, ⟨hB⟩⟩
             case rest => as_aux_lemma =>
              clear HC55
              obtain ⟨kq, x161_54, rfl, HA, HJ54, HB⟩ := hcut
              cases kq with
              | zero => exact absurd HA.out (by simp [j12])
              | succ kj54 =>
               have H := HA.out
               clear HA
               simp only [j12] at H
               have HC60 := aM H
               clear H
               go_upto_if 161 with (fail)
               go_cut [7, 9, 17] (fun v7 v9 v17 wc => ∃ (kq : Nat) (x7_59 : Int) (x9_59 : Bool) (x17_59 : Int), v7 = .int .i64 x7_59 ∧ v9 = .bool x9_59 ∧ v17 = .int .i64 x17_59 ∧ Aside0 (j17 kq a0 x2_20 0 x4_4 x5_20 x6_18 x7_59 false x9_59 x16_52 x17_59 = some (r1, r2, r3, r4, r5, r6, r7)) ∧ Aside0 (kq ≤ kj54) ∧ Aside0 (Below w.heap.size w wc))
               case first =>
                have H := HC60.out
                clear HC60
                by_cases c61 : x161_54 = true
                rotate_left
                ·replace c61 := nF c61
                 subst c61
                 replace H := iF H
                 by_cases c94 : x10_18 = 16
                 rotate_left
                 ·rw [if_neg c94] at H
                  have c94b0 := bF c94
                  have c94b1 := mT c94
                  as_aux_lemma =>
                   have H' := aM H
                   clear H
                   go_wp2
                   go_meet
                   case rel => exact ⟨_, x7_20, x9_20, x17_52, xR, xR, xR, H', ⟨jC⟩, ⟨hB⟩⟩
                 rw [if_pos c94] at H
                 have c94b0 := bT c94
                 have c94b1 := mF c94
                 clear c94
                 as_aux_lemma =>
                  simp only [Option.some.injEq, Prod.mk.injEq] at H
                  obtain ⟨rfl, rfl, rfl, rfl, rfl, rfl, rfl⟩ := H
                  go_wp2
                  (try simp only [Exit.noGoto_ret])
                  refine bodyPost_ret (results_list (rs := [.tmp 2, .tmp 3, .tmp 4, .tmp 5, .tmp 6, .tmp 7, .tmp 8]) rfl (by simp) (.tmp (.tmp (.tmp (.tmp (.tmp (.tmp (.tmp .nil)))))))) rfl ?_
                  exact ⟨eR, hB⟩
                subst c61
                replace H := iT H
                by_cases c62 : (wrap64 (x7_20 + 1)) ≥ (a0.size : Int)
                ·rw [if_pos c62] at H
                 have c62b0 : decide ((a0.size : Int) ≤ (wrap64 (x7_20 + 1))) = true := decide_eq_true c62
                 clear c62
                 (first | rw [c62b0] | (simp only [i64_w, i32_w]; rw [c62b0]) | skip)
                 as_aux_lemma =>
                  simp only [Option.some.injEq, Prod.mk.injEq] at H
                  obtain ⟨rfl, rfl, rfl, rfl, rfl, rfl, rfl⟩ := H
                  go_wp2
                  (try simp only [Exit.noGoto_ret])
                  refine bodyPost_ret (results_list (rs := [.tmp 2, .tmp 3, .tmp 4, .tmp 5, .tmp 6, .tmp 7, .tmp 8]) rfl (by simp) (.tmp (.tmp (.tmp (.tmp (.tmp (.tmp (.tmp .nil)))))))) rfl ?_
                  exact ⟨eR, hB⟩
                rw [if_neg c62] at H
                have c62b0 : decide ((a0.size : Int) ≤ (wrap64 (x7_20 + 1))) = false := decide_eq_false c62
                clear c62
                (first | rw [c62b0] | (simp only [i64_w, i32_w]; rw [c62b0]) | skip)
                obtain ⟨ji63, hji63⟩ : ∃ j_ : Int, (wrap64 (x7_20 + 1)) = j_ := ⟨_, rfl⟩
                replace H : (if 0 ≤ (ji63) then (if (ji63) < (a0.size : Int) then (if (bt a0 (ji63)) = 43 then (j13 kj54 a0 x2_20 0 x4_4 x5_20 x6_18 (wrap64 ((ji63) + 1)) false x9_20 x16_52 x17_52 1) else (if (bt a0 (ji63)) = 45 then (j13 kj54 a0 x2_20 0 x4_4 x5_20 x6_18 (wrap64 ((ji63) + 1)) false x9_20 x16_52 x17_52 (-1)) else (j13 kj54 a0 x2_20 0 x4_4 x5_20 x6_18 ji63 false x9_20 x16_52 x17_52 1))) else (none)) else (none)) = some (r1, r2, r3, r4, r5, r6, r7) := by first | (rw [hji63] at H; exact H) | (simp only [hji63] at H ⊢; exact H)
                (try rw [hji63] at c62b0)
                have hji63w : (IntKind.i64.wrap (x7_20 + 1)) = ji63 := (i64_w _).trans hji63
                replace H := nI H
                obtain ⟨c64, H⟩ := H
                have c64b0 := dT c64
                clear c64
                replace H := nI H
                obtain ⟨c65, H⟩ := H
                have c65b0 := dT c65
                clear c65
                have HC67 := aM H
                clear H
                have p66 : (0 ≤ ji63) = True := eT
                have q66 : ((ji63) < (a0.size : Int)) = True := eT
                have hx66 := bt_at a0 (ji63)
                go_upto_block 4 with (fail)
                go_cut [7, 19] (fun v7 v19 wc => ∃ (kq : Nat) (x7_66 : Int) (x19_66 : Int), v7 = .int .i64 x7_66 ∧ v19 = .int .i64 x19_66 ∧ Aside0 (j13 kq a0 x2_20 0 x4_4 x5_20 x6_18 x7_66 false x9_20 x16_52 x17_52 x19_66 = some (r1, r2, r3, r4, r5, r6, r7)) ∧ Aside0 (kq ≤ kj54) ∧ Aside0 (Below w.heap.size w wc))
                case first =>
                 have H := HC67.out
                 clear HC67
                 by_cases c68 : (bt a0 (ji63)) = 43
                 ·rw [if_pos c68] at H
                  have c68b0 := bT c68
                  have c68b1 := mF c68
                  clear c68
                  (first | rw [c68b0] | (simp only [i64_w, i32_w]; rw [c68b0]) | skip)
                  as_aux_lemma =>
                   have H' := aM H
                   clear H
                   go_wp2
                   go_meet
                   case rel => exact ⟨_, (wrap64 ((ji63) + 1)), (1), (by first | rfl | (simp; done) | (simp only [← hji63] <;> (first | rfl | simp)) | (simp [*]; done)), xR, H', ⟨jC⟩, ⟨hB⟩⟩
                 rw [if_neg c68] at H
                 have c68b0 := bF c68
                 have c68b1 := mT c68
                 (first | rw [c68b0] | (simp only [i64_w, i32_w]; rw [c68b0]) | skip)
                 by_cases c69 : (bt a0 (ji63)) = 45
                 rotate_left
                 ·rw [if_neg c69] at H
                  have c69b0 := bF c69
                  have c69b1 := mT c69
                  as_aux_lemma =>
                   have H' := aM H
                   clear H
                   go_wp2
                   go_meet
                   case rel => exact ⟨_, ji63, (1), (by first | rfl | (simp; done) | (simp only [← hji63] <;> (first | rfl | simp)) | (simp [*]; done)), xR, H', ⟨jC⟩, ⟨hB⟩⟩
                 rw [if_pos c69] at H
                 have c69b0 := bT c69
                 have c69b1 := mF c69
                 clear c69
                 as_aux_lemma =>
                  have H' := aM H
                  clear H
                  go_wp2
                  go_meet
                  case rel => exact ⟨_, (wrap64 ((ji63) + 1)), ((-1)), (by first | rfl | (simp; done) | (simp only [← hji63] <;> (first | rfl | simp)) | (simp [*]; done)), xR, H', ⟨jC⟩, ⟨hB⟩⟩
                case rest => as_aux_lemma =>
                 clear HC67
                 obtain ⟨kq, x7_66, x19_66, rfl, rfl, HA, HJ66, HB⟩ := hcut
                 cases kq with
                 | zero => exact absurd HA.out (by simp [j13])
                 | succ kj66 =>
                  have H := HA.out
                  clear HA
                  simp only [j13] at H
                  have HC70 := aM H
                  clear H
                  go_upto_region 67 with (fail)
                  go_cut [194] (fun v194 wc => ∃ (kq : Nat) (x194_69 : Bool), v194 = .bool x194_69 ∧ Aside0 (j14 kq a0 x2_20 0 x4_4 x5_20 x6_18 x7_66 false x9_20 x16_52 x17_52 x19_66 x194_69 = some (r1, r2, r3, r4, r5, r6, r7)) ∧ Aside0 (kq ≤ kj66) ∧ Aside0 (Below w.heap.size w wc))
                  case first =>
                   have H := HC70.out
                   clear HC70
                   by_cases c71 : x7_66 ≥ (a0.size : Int)
                   ·rw [if_pos c71] at H
                    have c71b0 : decide ((a0.size : Int) ≤ x7_66) = true := decide_eq_true c71
                    clear c71
                    (first | rw [c71b0] | (simp only [i64_w, i32_w]; rw [c71b0]) | skip)
                    as_aux_lemma =>
                     have H' := aM H
                     clear H
                     go_wp2
                     go_meet
                     case rel => exact ⟨_, true, xR, H', ⟨jC⟩, ⟨hB⟩⟩
                   rw [if_neg c71] at H
                   have c71b0 : decide ((a0.size : Int) ≤ x7_66) = false := decide_eq_false c71
                   clear c71
                   (first | rw [c71b0] | (simp only [i64_w, i32_w]; rw [c71b0]) | skip)
                   replace H := nI H
                   obtain ⟨c72, H⟩ := H
                   have c72b0 := dT c72
                   clear c72
                   replace H := nI H
                   obtain ⟨c73, H⟩ := H
                   have c73b0 := dT c73
                   clear c73
                   by_cases c75 : (bt a0 x7_66) < 48
                   ·rw [if_pos c75] at H
                    have c75b0 := dT c75
                    clear c75
                    as_aux_lemma =>
                     have H' := aM H
                     clear H
                     have p74 : (0 ≤ x7_66) = True := eT
                     have q74 : (x7_66 < (a0.size : Int)) = True := eT
                     have hx74 := bt_at a0 x7_66
                     go_wp2
                     go_meet
                     case rel => exact ⟨_, true, xR, H', ⟨jC⟩, ⟨hB⟩⟩
                   rw [if_neg c75] at H
                   have c75b0 := dF c75
                   clear c75
                   as_aux_lemma =>
                    have H' := aM H
                    clear H
                    have p74 : (0 ≤ x7_66) = True := eT
                    have q74 : (x7_66 < (a0.size : Int)) = True := eT
                    have hx74 := bt_at a0 x7_66
                    have p76 : (0 ≤ x7_66) = True := eT
                    have q76 : (x7_66 < (a0.size : Int)) = True := eT
                    have hx76 := bt_at a0 x7_66
                    go_wp2
                    go_meet
                    case rel => exact ⟨_, (decide ((bt a0 x7_66) > 57)), xR, H', ⟨jC⟩, ⟨hB⟩⟩
                  case rest => as_aux_lemma =>
                   clear HC70
                   obtain ⟨kq, x194_69, rfl, HA, HJ69, HB⟩ := hcut
                   cases kq with
                   | zero => exact absurd HA.out (by simp [j14])
                   | succ kj69 =>
                    have H := HA.out
                    clear HA
                    simp only [j14] at H
                    by_cases c77 : x194_69 = true
                    ·subst c77
                     replace H := iT H
                     as_aux_lemma =>
                      simp only [Option.some.injEq, Prod.mk.injEq] at H
                      obtain ⟨rfl, rfl, rfl, rfl, rfl, rfl, rfl⟩ := H
                      go_wp2
                      (try simp only [Exit.noGoto_ret])
                      refine bodyPost_ret (results_list (rs := [.tmp 2, .tmp 3, .tmp 4, .tmp 5, .tmp 6, .tmp 7, .tmp 8]) rfl (by simp) (.tmp (.tmp (.tmp (.tmp (.tmp (.tmp (.tmp .nil)))))))) rfl ?_
                      exact ⟨by first | rfl | (simp [errW_none, errW_some] <;> rfl) | (simp only [← hji63]; first | rfl | (simp [errW_none, errW_some] <;> rfl)) | (simp [*, errW_none, errW_some] <;> rfl), hB⟩
                    replace c77 := nF c77
                    subst c77
                    replace H := iF H
                    have H' := aM H
                    clear H
                    go_wp2
                    go_loopg [7, 9, 20] kj69 (fun kq v7 v9 v20 w' => ∃ (x7_10 : Int) (x9_10 : Bool) (x20_10 : Int), v7 = .int .i64 x7_10 ∧ v9 = .bool x9_10 ∧ v20 = .int .i64 x20_10 ∧ Aside0 (l1 kq a0 x2_20 0 x4_4 x5_20 x6_18 x7_10 false x9_10 x16_52 x17_52 x19_66 x20_10 = some (r1, r2, r3, r4, r5, r6, r7)) ∧ Aside0 (kq ≤ kj69) ∧ Aside0 (Below w.heap.size w w'))
                    case atStart => exact ⟨x7_66, x9_20, (0), xR, xR, xR, H', ⟨Nat.le_refl _⟩, ⟨hB⟩⟩
                    case round => as_aux_lemma =>
                     clear H'
                     obtain ⟨x7_10, x9_10, x20_10, rfl, rfl, rfl, HA, HK10, HB⟩ := hrel
                     cases gk with
                     | zero => exact absurd HA.out (by simp [l1])
                     | succ k10 =>
                      have H := HA.out
                      clear HA
                      simp only [l1] at H
                      have HC78 := aM H
                      clear H
                      go_upto_region 69 with (fail)
                      go_cut [216] (fun v216 wc => ∃ (kq : Nat) (x216_77 : Bool), v216 = .bool x216_77 ∧ Aside0 (j16 kq a0 x2_20 0 x4_4 x5_20 x6_18 x7_10 false x9_10 x16_52 x17_52 x19_66 x20_10 x216_77 = some (r1, r2, r3, r4, r5, r6, r7)) ∧ Aside0 (kq ≤ k10) ∧ Aside0 (Below w.heap.size w wc))
                      case first =>
                       have H := HC78.out
                       clear HC78
                       by_cases c79 : x7_10 < (a0.size : Int)
                       rotate_left
                       ·rw [if_neg c79] at H
                        have c79b0 := dF c79
                        clear c79
                        (first | rw [c79b0] | (simp only [i64_w, i32_w]; rw [c79b0]) | skip)
                        as_aux_lemma =>
                         have H' := aM H
                         clear H
                         go_wp2
                         go_meet
                         case rel => exact ⟨_, false, xR, H', ⟨jC⟩, ⟨hB⟩⟩
                       rw [if_pos c79] at H
                       have c79b0 := dT c79
                       clear c79
                       (first | rw [c79b0] | (simp only [i64_w, i32_w]; rw [c79b0]) | skip)
                       replace H := nI H
                       obtain ⟨c80, H⟩ := H
                       have c80b0 := dT c80
                       clear c80
                       by_cases c82 : 48 ≤ (bt a0 x7_10)
                       rotate_left
                       ·rw [if_neg c82] at H
                        have c82b0 := dF c82
                        clear c82
                        as_aux_lemma =>
                         have H' := aM H
                         clear H
                         have p81 : (0 ≤ x7_10) = True := eT
                         have q81 : (x7_10 < (a0.size : Int)) = True := eT
                         have hx81 := bt_at a0 x7_10
                         have p86 : (0 ≤ x7_10) = True := eT
                         have q86 : (x7_10 < (a0.size : Int)) = True := eT
                         have hx86 := bt_at a0 x7_10
                         go_wp2
                         go_meet
                         case rel => exact ⟨_, (((bt a0 x7_10) == 95)), xR, H', ⟨jC⟩, ⟨hB⟩⟩
                       rw [if_pos c82] at H
                       have c82b0 := dT c82
                       clear c82
                       by_cases c84 : (bt a0 x7_10) ≤ 57
                       ·rw [if_pos c84] at H
                        have c84b0 := dT c84
                        clear c84
                        as_aux_lemma =>
                         have H' := aM H
                         clear H
                         have p81 : (0 ≤ x7_10) = True := eT
                         have q81 : (x7_10 < (a0.size : Int)) = True := eT
                         have hx81 := bt_at a0 x7_10
                         have p83 : (0 ≤ x7_10) = True := eT
                         have q83 : (x7_10 < (a0.size : Int)) = True := eT
                         have hx83 := bt_at a0 x7_10
                         go_wp2
                         go_meet
                         case rel => exact ⟨_, true, xR, H', ⟨jC⟩, ⟨hB⟩⟩
                       rw [if_neg c84] at H
                       have c84b0 := dF c84
                       clear c84
                       as_aux_lemma =>
                        have H' := aM H
                        clear H
                        have p81 : (0 ≤ x7_10) = True := eT
                        have q81 : (x7_10 < (a0.size : Int)) = True := eT
                        have hx81 := bt_at a0 x7_10
                        have p83 : (0 ≤ x7_10) = True := eT
                        have q83 : (x7_10 < (a0.size : Int)) = True := eT
                        have hx83 := bt_at a0 x7_10
                        have p85 : (0 ≤ x7_10) = True := eT
                        have q85 : (x7_10 < (a0.size : Int)) = True := eT
                        have hx85 := bt_at a0 x7_10
                        go_wp2
                        go_meet
                        case rel => exact ⟨_, (((bt a0 x7_10) == 95)), xR, H', ⟨jC⟩, ⟨hB⟩⟩
                      case rest => as_aux_lemma =>
                       clear HC78
                       obtain ⟨kq, x216_77, rfl, HA, HJ77, HB⟩ := hcut
                       cases kq with
                       | zero => exact absurd HA.out (by simp [j16])
                       | succ kj77 =>
                        have H := HA.out
                        clear HA
                        simp only [j16] at H
                        by_cases c87 : x216_77 = true
                        rotate_left
                        ·replace c87 := nF c87
                         subst c87
                         replace H := iF H
                         as_aux_lemma =>
                          have H' := aM H
                          clear H
                          go_wp2
                          go_meet
                          case rel => exact ⟨_, x7_10, x9_10, (wrap64 (x17_52 + (wrap64 (x20_10 * x19_66)))), xR, xR, xR, H', ⟨jC⟩, ⟨hB⟩⟩
                        subst c87
                        replace H := iT H
                        replace H := nI H
                        obtain ⟨c88, H⟩ := H
                        have c88b0 := dT c88
                        clear c88
                        replace H := nI H
                        obtain ⟨c89, H⟩ := H
                        have c89b0 := dT c89
                        clear c89
                        by_cases c91 : (bt a0 x7_10) = 95
                        ·rw [if_pos c91] at H
                         have c91b0 := bT c91
                         have c91b1 := mF c91
                         clear c91
                         as_aux_lemma =>
                          have H' := aM H
                          clear H
                          have p90 : (0 ≤ x7_10) = True := eT
                          have q90 : (x7_10 < (a0.size : Int)) = True := eT
                          have hx90 := bt_at a0 x7_10
                          go_wp2
                          go_roundg kj77
                          case measure => exact jC
                          case rel => exact ⟨(wrap64 (x7_10 + 1)), true, x20_10, xR, xR, xR, H', ⟨jC⟩, ⟨hB⟩⟩
                        rw [if_neg c91] at H
                        have c91b0 := bF c91
                        have c91b1 := mT c91
                        by_cases c92 : x20_10 < 10000
                        rotate_left
                        ·rw [if_neg c92] at H
                         have c92b0 := dF c92
                         clear c92
                         as_aux_lemma =>
                          have H' := aM H
                          clear H
                          have p90 : (0 ≤ x7_10) = True := eT
                          have q90 : (x7_10 < (a0.size : Int)) = True := eT
                          have hx90 := bt_at a0 x7_10
                          go_wp2
                          go_roundg kj77
                          case measure => exact jC
                          case rel => exact ⟨(wrap64 (x7_10 + 1)), x9_10, x20_10, xR, xR, xR, H', ⟨jC⟩, ⟨hB⟩⟩
                        rw [if_pos c92] at H
                        have c92b0 := dT c92
                        clear c92
                        as_aux_lemma =>
                         have H' := aM H
                         clear H
                         have p90 : (0 ≤ x7_10) = True := eT
                         have q90 : (x7_10 < (a0.size : Int)) = True := eT
                         have hx90 := bt_at a0 x7_10
                         have p93 : (0 ≤ x7_10) = True := eT
                         have q93 : (x7_10 < (a0.size : Int)) = True := eT
                         have hx93 := bt_at a0 x7_10
                         go_wp2
                         go_roundg kj77
                         case measure => exact jC
                         case rel => exact ⟨(wrap64 (x7_10 + 1)), x9_10, (wrap64 ((wrap64 ((wrap64 (x20_10 * 10)) + (wrap64 (bt a0 x7_10)))) - 48)), xR, xR, xR, H', ⟨jC⟩, ⟨hB⟩⟩
               case rest => as_aux_lemma =>
                clear HC60
                obtain ⟨kq, x7_59, x9_59, x17_59, rfl, rfl, rfl, HA, HJ59, HB⟩ := hcut
                cases kq with
                | zero => exact absurd HA.out (by simp [j17])
                | succ kj59 =>
                 have H := HA.out
                 clear HA
                 simp only [j17] at H
                 by_cases c95 : x2_20 = 0
                 ·rw [if_pos c95] at H
                  have c95b0 := bT c95
                  have c95b1 := mF c95
                  clear c95
                  by_cases c96 : x9_59 = true
                  rotate_left
                  ·replace c96 := nF c96
                   subst c96
                   replace H := iF H
                   as_aux_lemma =>
                    simp only [Option.some.injEq, Prod.mk.injEq] at H
                    obtain ⟨rfl, rfl, rfl, rfl, rfl, rfl, rfl⟩ := H
                    go_wp2
                    (try simp only [Exit.noGoto_ret])
                    refine bodyPost_ret (results_list (rs := [.tmp 2, .tmp 3, .tmp 4, .tmp 5, .tmp 6, .tmp 7, .tmp 8]) rfl (by simp) (.tmp (.tmp (.tmp (.tmp (.tmp (.tmp (.tmp .nil)))))))) rfl ?_
                    exact ⟨eR, hB⟩
                  subst c96
                  replace H := iT H
                  replace H := nI H
                  obtain ⟨c97, H⟩ := H
                  have c97b0 := eq_true c97
                  have c97b1 := dT c97
                  clear c97
                  replace H := nI H
                  obtain ⟨c98, H⟩ := H
                  have c98b0 := eq_true c98
                  have c98b1 := dT c98
                  clear c98
                  replace H := Option.bind_eq_some_iff.mp H
                  obtain ⟨t106, A990, H⟩ := H
                  replace H : (if t106 = true then (some (x2_20, 0, x4_4, x5_20, x6_18, x7_59, true)) else (some (x2_20, 0, x4_4, x5_20, x6_18, x7_59, false))) = some (r1, r2, r3, r4, r5, r6, r7) := H
                  have A99 := aM A990
                  clear A990
                  by_cases c100 : t106 = true
                  ·subst c100
                   replace H := iT H
                   as_aux_lemma =>
                    simp only [Option.some.injEq, Prod.mk.injEq] at H
                    obtain ⟨rfl, rfl, rfl, rfl, rfl, rfl, rfl⟩ := H
                    go_wp2_with (first | (go_at_call 97; (with_reducible refine (strconv_underscoreOK.calls (a0.extract 0 (x7_59 : Int).toNat) true _ A99.out).mono ?_); rintro e w101 ⟨rfl, hb⟩; have n0_ := aM (below_step (hB) hb); clear HB; have HB := n0_; clear n0_))
                    (try simp only [Exit.noGoto_ret])
                    refine bodyPost_ret (results_list (rs := [.tmp 2, .tmp 3, .tmp 4, .tmp 5, .tmp 6, .tmp 7, .tmp 8]) rfl (by simp) (.tmp (.tmp (.tmp (.tmp (.tmp (.tmp (.tmp .nil)))))))) rfl ?_
                    exact ⟨eR, hB⟩
                  replace c100 := nF c100
                  subst c100
                  replace H := iF H
                  as_aux_lemma =>
                   simp only [Option.some.injEq, Prod.mk.injEq] at H
                   obtain ⟨rfl, rfl, rfl, rfl, rfl, rfl, rfl⟩ := H
                   go_wp2_with (first | (go_at_call 97; (with_reducible refine (strconv_underscoreOK.calls (a0.extract 0 (x7_59 : Int).toNat) false _ A99.out).mono ?_); rintro e w102 ⟨rfl, hb⟩; have n0_ := aM (below_step (hB) hb); clear HB; have HB := n0_; clear n0_))
                   (try simp only [Exit.noGoto_ret])
                   refine bodyPost_ret (results_list (rs := [.tmp 2, .tmp 3, .tmp 4, .tmp 5, .tmp 6, .tmp 7, .tmp 8]) rfl (by simp) (.tmp (.tmp (.tmp (.tmp (.tmp (.tmp (.tmp .nil)))))))) rfl ?_
                   exact ⟨eR, hB⟩
                 rw [if_neg c95] at H
                 have c95b0 := bF c95
                 have c95b1 := mT c95
                 by_cases c103 : x9_59 = true
                 rotate_left
                 ·replace c103 := nF c103
                  subst c103
                  replace H := iF H
                  as_aux_lemma =>
                   simp only [Option.some.injEq, Prod.mk.injEq] at H
                   obtain ⟨rfl, rfl, rfl, rfl, rfl, rfl, rfl⟩ := H
                   go_wp2
                   (try simp only [Exit.noGoto_ret])
                   refine bodyPost_ret (results_list (rs := [.tmp 2, .tmp 3, .tmp 4, .tmp 5, .tmp 6, .tmp 7, .tmp 8]) rfl (by simp) (.tmp (.tmp (.tmp (.tmp (.tmp (.tmp (.tmp .nil)))))))) rfl ?_
                   exact ⟨eR, hB⟩
                 subst c103
                 replace H := iT H
                 replace H := nI H
                 obtain ⟨c104, H⟩ := H
                 have c104b0 := eq_true c104
                 have c104b1 := dT c104
                 clear c104
                 replace H := nI H
                 obtain ⟨c105, H⟩ := H
                 have c105b0 := eq_true c105
                 have c105b1 := dT c105
                 clear c105
                 replace H := Option.bind_eq_some_iff.mp H
                 obtain ⟨t107, A1060, H⟩ := H
                 replace H : (if t107 = true then (some (x2_20, wrap64 (x17_59 - x16_52), x4_4, x5_20, x6_18, x7_59, true)) else (some (x2_20, wrap64 (x17_59 - x16_52), x4_4, x5_20, x6_18, x7_59, false))) = some (r1, r2, r3, r4, r5, r6, r7) := H
                 have A106 := aM A1060
                 clear A1060
                 by_cases c107 : t107 = true
                 ·subst c107
                  replace H := iT H
                  as_aux_lemma =>
                   simp only [Option.some.injEq, Prod.mk.injEq] at H
                   obtain ⟨rfl, rfl, rfl, rfl, rfl, rfl, rfl⟩ := H
                   go_wp2_with (first | (go_at_call 97; (with_reducible refine (strconv_underscoreOK.calls (a0.extract 0 (x7_59 : Int).toNat) true _ A106.out).mono ?_); rintro e w108 ⟨rfl, hb⟩; have n0_ := aM (below_step (hB) hb); clear HB; have HB := n0_; clear n0_))
                   (try simp only [Exit.noGoto_ret])
                   refine bodyPost_ret (results_list (rs := [.tmp 2, .tmp 3, .tmp 4, .tmp 5, .tmp 6, .tmp 7, .tmp 8]) rfl (by simp) (.tmp (.tmp (.tmp (.tmp (.tmp (.tmp (.tmp .nil)))))))) rfl ?_
                   exact ⟨eR, hB⟩
                 replace c107 := nF c107
                 subst c107
                 replace H := iF H
                 as_aux_lemma =>
                  simp only [Option.some.injEq, Prod.mk.injEq] at H
                  obtain ⟨rfl, rfl, rfl, rfl, rfl, rfl, rfl⟩ := H
                  go_wp2_with (first | (go_at_call 97; (with_reducible refine (strconv_underscoreOK.calls (a0.extract 0 (x7_59 : Int).toNat) false _ A106.out).mono ?_); rintro e w109 ⟨rfl, hb⟩; have n0_ := aM (below_step (hB) hb); clear HB; have HB := n0_; clear n0_))
                  (try simp only [Exit.noGoto_ret])
                  refine bodyPost_ret (results_list (rs := [.tmp 2, .tmp 3, .tmp 4, .tmp 5, .tmp 6, .tmp 7, .tmp 8]) rfl (by simp) (.tmp (.tmp (.tmp (.tmp (.tmp (.tmp (.tmp .nil)))))))) rfl ?_
                  exact ⟨eR, hB⟩
end strconv_readFloat
end Go.Proofs.YthifejhdmjoolaaGreatDoor.QH
