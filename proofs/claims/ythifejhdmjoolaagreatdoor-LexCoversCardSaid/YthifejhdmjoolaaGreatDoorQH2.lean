-- WRITTEN BY A PROGRAM OF THE SESSION (wip/myprint.sh): Lean checks it.
import Derived.WalkMore
import Derived.Test.YthifejhdmjoolaaGreatDoorQH0
import Derived.Test.YthifejhdmjoolaaGreatDoorQH1
namespace Go.Proofs.YthifejhdmjoolaaGreatDoor.QH
open Go.Proofs.YthifejhdmjoolaaGreatDoorG
attribute [local go_sem] Instr.field asAgg
open Go.RowKit Go.Proofs.YthifejhdmjoolaaGreatDoorW.PrintWords Go.Proofs.YthifejhdmjoolaaGreatDoorW.PrintLast Go.Proofs.YthifejhdmjoolaaGreatDoorW.PrintMore
attribute [local go_sem] max2_int min2_int max_two min_two max_three min_three max_four min_four   -- for this text's walks alone
set_option linter.unusedVariables false
set_option linter.unusedSimpArgs false
/-! ### strconv_readFloat: function 134 -/
mutual
def strconv_readFloat.j0 : Nat → ByteArray → Int → Int → Bool → Bool → Bool → Int → Bool → Bool → Option (Int × Int × Bool × Bool × Bool × Int × Bool)
  | 0, _, _, _, _, _, _, _, _, _ => none
  | k + 1, x0, x2, x3, x4, x5, x6, x7, x8, x9 => if (wrap64 (x7 + 2)) < (x0.size : Int) then (if 0 ≤ x7 then (if x7 < (x0.size : Int) then (if (bt x0 x7) = 48 then (if 0 ≤ (wrap64 (x7 + 1)) then (if (wrap64 (x7 + 1)) < (x0.size : Int) then ((strconv_lower.f (bt x0 (wrap64 (x7 + 1)))).bind fun t101 => (strconv_readFloat.j1 k x0 x2 x3 x4 x5 x6 x7 x8 x9 10 19 101 (t101 == 120))) else (none)) else (none)) else (strconv_readFloat.j1 k x0 x2 x3 x4 x5 x6 x7 x8 x9 10 19 101 false)) else (none)) else (none)) else (strconv_readFloat.j1 k x0 x2 x3 x4 x5 x6 x7 x8 x9 10 19 101 false)
def strconv_readFloat.j1 : Nat → ByteArray → Int → Int → Bool → Bool → Bool → Int → Bool → Bool → Int → Int → Int → Bool → Option (Int × Int × Bool × Bool × Bool × Int × Bool)
  | 0, _, _, _, _, _, _, _, _, _, _, _, _, _ => none
  | k + 1, x0, x2, x3, x4, x5, x6, x7, x8, x9, x10, x11, x12, x54 => if x54 = true then (strconv_readFloat.j2 k x0 x2 x3 x4 x5 true (wrap64 (x7 + 2)) x8 x9 16 16 112) else (strconv_readFloat.j2 k x0 x2 x3 x4 x5 x6 x7 x8 x9 x10 x11 x12)
def strconv_readFloat.j2 : Nat → ByteArray → Int → Int → Bool → Bool → Bool → Int → Bool → Bool → Int → Int → Int → Option (Int × Int × Bool × Bool × Bool × Int × Bool)
  | 0, _, _, _, _, _, _, _, _, _, _, _, _ => none
  | k + 1, x0, x2, x3, x4, x5, x6, x7, x8, x9, x10, x11, x12 => strconv_readFloat.l0 k x0 x2 x3 x4 x5 x6 x7 x8 x9 x10 x11 x12 false false 0 0 0
def strconv_readFloat.j9 : Nat → ByteArray → Int → Int → Bool → Bool → Bool → Int → Bool → Bool → Int → Int → Bool → Bool → Int → Int → Int → Option (Int × Int × Bool × Bool × Bool × Int × Bool)
  | 0, _, _, _, _, _, _, _, _, _, _, _, _, _, _, _, _ => none
  | k + 1, x0, x2, x3, x4, x5, x6, x7, x8, x9, x10, x12, x13, x14, x15, x16, x17 => if x14 = true then (if x13 = true then (strconv_readFloat.j10 k x0 x2 x3 x4 x5 x6 x7 x8 x9 x10 x12 x16 x17) else (strconv_readFloat.j10 k x0 x2 x3 x4 x5 x6 x7 x8 x9 x10 x12 x16 x15)) else (some (x2, x3, x4, x5, x6, x7, x8))
def strconv_readFloat.j10 : Nat → ByteArray → Int → Int → Bool → Bool → Bool → Int → Bool → Bool → Int → Int → Int → Int → Option (Int × Int × Bool × Bool × Bool × Int × Bool)
  | 0, _, _, _, _, _, _, _, _, _, _, _, _, _ => none
  | k + 1, x0, x2, x3, x4, x5, x6, x7, x8, x9, x10, x12, x16, x17 => if x10 = 16 then (strconv_readFloat.j11 k x0 x2 x3 x4 x5 x6 x7 x8 x9 x10 x12 (wrap64 (x16 * 4)) (wrap64 (x17 * 4))) else (strconv_readFloat.j11 k x0 x2 x3 x4 x5 x6 x7 x8 x9 x10 x12 x16 x17)
def strconv_readFloat.j11 : Nat → ByteArray → Int → Int → Bool → Bool → Bool → Int → Bool → Bool → Int → Int → Int → Int → Option (Int × Int × Bool × Bool × Bool × Int × Bool)
  | 0, _, _, _, _, _, _, _, _, _, _, _, _, _ => none
  | k + 1, x0, x2, x3, x4, x5, x6, x7, x8, x9, x10, x12, x16, x17 => if x7 < (x0.size : Int) then (if 0 ≤ x7 then ((strconv_lower.f (bt x0 x7)).bind fun t105 => (strconv_readFloat.j12 k x0 x2 x3 x4 x5 x6 x7 x8 x9 x10 x16 x17 (t105 == x12))) else (none)) else (strconv_readFloat.j12 k x0 x2 x3 x4 x5 x6 x7 x8 x9 x10 x16 x17 false)
def strconv_readFloat.j12 : Nat → ByteArray → Int → Int → Bool → Bool → Bool → Int → Bool → Bool → Int → Int → Int → Bool → Option (Int × Int × Bool × Bool × Bool × Int × Bool)
  | 0, _, _, _, _, _, _, _, _, _, _, _, _, _ => none
  | k + 1, x0, x2, x3, x4, x5, x6, x7, x8, x9, x10, x16, x17, x161 => if x161 = true then (if (wrap64 (x7 + 1)) ≥ (x0.size : Int) then (some (x2, x3, x4, x5, x6, wrap64 (x7 + 1), x8)) else (if 0 ≤ (wrap64 (x7 + 1)) then (if (wrap64 (x7 + 1)) < (x0.size : Int) then (if (bt x0 (wrap64 (x7 + 1))) = 43 then (strconv_readFloat.j13 k x0 x2 x3 x4 x5 x6 (wrap64 ((wrap64 (x7 + 1)) + 1)) x8 x9 x16 x17 1) else (if (bt x0 (wrap64 (x7 + 1))) = 45 then (strconv_readFloat.j13 k x0 x2 x3 x4 x5 x6 (wrap64 ((wrap64 (x7 + 1)) + 1)) x8 x9 x16 x17 (-1)) else (strconv_readFloat.j13 k x0 x2 x3 x4 x5 x6 (wrap64 (x7 + 1)) x8 x9 x16 x17 1))) else (none)) else (none))) else (if x10 = 16 then (some (x2, x3, x4, x5, x6, x7, x8)) else (strconv_readFloat.j17 k x0 x2 x3 x4 x5 x6 x7 x8 x9 x16 x17))
def strconv_readFloat.j17 : Nat → ByteArray → Int → Int → Bool → Bool → Bool → Int → Bool → Bool → Int → Int → Option (Int × Int × Bool × Bool × Bool × Int × Bool)
  | 0, _, _, _, _, _, _, _, _, _, _, _ => none
  | k + 1, x0, x2, x3, x4, x5, x6, x7, x8, x9, x16, x17 => if x2 = 0 then (if x9 = true then (if 0 ≤ x7 then (if x7 ≤ (x0.size : Int) then ((strconv_underscoreOK.f (x0.extract 0 (x7 : Int).toNat)).bind fun t106 => (if t106 = true then (some (x2, x3, x4, x5, x6, x7, true)) else (some (x2, x3, x4, x5, x6, x7, x8)))) else (none)) else (none)) else (some (x2, x3, x4, x5, x6, x7, true))) else (if x9 = true then (if 0 ≤ x7 then (if x7 ≤ (x0.size : Int) then ((strconv_underscoreOK.f (x0.extract 0 (x7 : Int).toNat)).bind fun t107 => (if t107 = true then (some (x2, wrap64 (x17 - x16), x4, x5, x6, x7, true)) else (some (x2, wrap64 (x17 - x16), x4, x5, x6, x7, x8)))) else (none)) else (none)) else (some (x2, wrap64 (x17 - x16), x4, x5, x6, x7, true)))
def strconv_readFloat.j13 : Nat → ByteArray → Int → Int → Bool → Bool → Bool → Int → Bool → Bool → Int → Int → Int → Option (Int × Int × Bool × Bool × Bool × Int × Bool)
  | 0, _, _, _, _, _, _, _, _, _, _, _, _ => none
  | k + 1, x0, x2, x3, x4, x5, x6, x7, x8, x9, x16, x17, x19 => if x7 ≥ (x0.size : Int) then (strconv_readFloat.j14 k x0 x2 x3 x4 x5 x6 x7 x8 x9 x16 x17 x19 true) else (if 0 ≤ x7 then (if x7 < (x0.size : Int) then (if (bt x0 x7) < 48 then (strconv_readFloat.j14 k x0 x2 x3 x4 x5 x6 x7 x8 x9 x16 x17 x19 true) else (strconv_readFloat.j14 k x0 x2 x3 x4 x5 x6 x7 x8 x9 x16 x17 x19 (decide ((bt x0 x7) > 57)))) else (none)) else (none))
def strconv_readFloat.j14 : Nat → ByteArray → Int → Int → Bool → Bool → Bool → Int → Bool → Bool → Int → Int → Int → Bool → Option (Int × Int × Bool × Bool × Bool × Int × Bool)
  | 0, _, _, _, _, _, _, _, _, _, _, _, _, _ => none
  | k + 1, x0, x2, x3, x4, x5, x6, x7, x8, x9, x16, x17, x19, x194 => if x194 = true then (some (x2, x3, x4, x5, x6, x7, x8)) else (strconv_readFloat.l1 k x0 x2 x3 x4 x5 x6 x7 x8 x9 x16 x17 x19 0)
def strconv_readFloat.l1 : Nat → ByteArray → Int → Int → Bool → Bool → Bool → Int → Bool → Bool → Int → Int → Int → Int → Option (Int × Int × Bool × Bool × Bool × Int × Bool)
  | 0, _, _, _, _, _, _, _, _, _, _, _, _, _ => none
  | k + 1, x0, x2, x3, x4, x5, x6, x7, x8, x9, x16, x17, x19, x20 => if x7 < (x0.size : Int) then (if 0 ≤ x7 then (if 48 ≤ (bt x0 x7) then (if (bt x0 x7) ≤ 57 then (strconv_readFloat.j16 k x0 x2 x3 x4 x5 x6 x7 x8 x9 x16 x17 x19 x20 true) else (strconv_readFloat.j16 k x0 x2 x3 x4 x5 x6 x7 x8 x9 x16 x17 x19 x20 ((bt x0 x7) == 95))) else (strconv_readFloat.j16 k x0 x2 x3 x4 x5 x6 x7 x8 x9 x16 x17 x19 x20 ((bt x0 x7) == 95))) else (none)) else (strconv_readFloat.j16 k x0 x2 x3 x4 x5 x6 x7 x8 x9 x16 x17 x19 x20 false)
def strconv_readFloat.j16 : Nat → ByteArray → Int → Int → Bool → Bool → Bool → Int → Bool → Bool → Int → Int → Int → Int → Bool → Option (Int × Int × Bool × Bool × Bool × Int × Bool)
  | 0, _, _, _, _, _, _, _, _, _, _, _, _, _, _ => none
  | k + 1, x0, x2, x3, x4, x5, x6, x7, x8, x9, x16, x17, x19, x20, x216 => if x216 = true then (if 0 ≤ x7 then (if x7 < (x0.size : Int) then (if (bt x0 x7) = 95 then (strconv_readFloat.l1 k x0 x2 x3 x4 x5 x6 (wrap64 (x7 + 1)) x8 true x16 x17 x19 x20) else (if x20 < 10000 then (strconv_readFloat.l1 k x0 x2 x3 x4 x5 x6 (wrap64 (x7 + 1)) x8 x9 x16 x17 x19 (wrap64 ((wrap64 ((wrap64 (x20 * 10)) + (wrap64 (bt x0 x7)))) - 48))) else (strconv_readFloat.l1 k x0 x2 x3 x4 x5 x6 (wrap64 (x7 + 1)) x8 x9 x16 x17 x19 x20))) else (none)) else (none)) else (strconv_readFloat.j17 k x0 x2 x3 x4 x5 x6 x7 x8 x9 x16 (wrap64 (x17 + (wrap64 (x20 * x19)))))
def strconv_readFloat.l0 : Nat → ByteArray → Int → Int → Bool → Bool → Bool → Int → Bool → Bool → Int → Int → Int → Bool → Bool → Int → Int → Int → Option (Int × Int × Bool × Bool × Bool × Int × Bool)
  | 0, _, _, _, _, _, _, _, _, _, _, _, _, _, _, _, _, _ => none
  | k + 1, x0, x2, x3, x4, x5, x6, x7, x8, x9, x10, x11, x12, x13, x14, x15, x16, x17 => if x7 < (x0.size : Int) then (if 0 ≤ x7 then (if (bt x0 x7) = 95 then (strconv_readFloat.j4 k x0 x2 x3 x4 x5 x6 x7 x8 x9 x10 x11 x12 x13 x14 x15 x16 x17 (bt x0 x7) true) else (strconv_readFloat.j4 k x0 x2 x3 x4 x5 x6 x7 x8 x9 x10 x11 x12 x13 x14 x15 x16 x17 (bt x0 x7) false)) else (none)) else (strconv_readFloat.j9 k x0 x2 x3 x4 x5 x6 x7 x8 x9 x10 x12 x13 x14 x15 x16 x17)
def strconv_readFloat.j4 : Nat → ByteArray → Int → Int → Bool → Bool → Bool → Int → Bool → Bool → Int → Int → Int → Bool → Bool → Int → Int → Int → Int → Bool → Option (Int × Int × Bool × Bool × Bool × Int × Bool)
  | 0, _, _, _, _, _, _, _, _, _, _, _, _, _, _, _, _, _, _, _ => none
  | k + 1, x0, x2, x3, x4, x5, x6, x7, x8, x9, x10, x11, x12, x13, x14, x15, x16, x17, x18, x66 => if x66 = true then (strconv_readFloat.l0 k x0 x2 x3 x4 x5 x6 (wrap64 (x7 + 1)) x8 true x10 x11 x12 x13 x14 x15 x16 x17) else (if x18 = 46 then (strconv_readFloat.j5 k x0 x2 x3 x4 x5 x6 x7 x8 x9 x10 x11 x12 x13 x14 x15 x16 x17 x18 true) else (strconv_readFloat.j5 k x0 x2 x3 x4 x5 x6 x7 x8 x9 x10 x11 x12 x13 x14 x15 x16 x17 x18 false))
def strconv_readFloat.j5 : Nat → ByteArray → Int → Int → Bool → Bool → Bool → Int → Bool → Bool → Int → Int → Int → Bool → Bool → Int → Int → Int → Int → Bool → Option (Int × Int × Bool × Bool × Bool × Int × Bool)
  | 0, _, _, _, _, _, _, _, _, _, _, _, _, _, _, _, _, _, _, _ => none
  | k + 1, x0, x2, x3, x4, x5, x6, x7, x8, x9, x10, x11, x12, x13, x14, x15, x16, x17, x18, x70 => if x70 = true then (if x13 = true then (strconv_readFloat.j9 k x0 x2 x3 x4 x5 x6 x7 x8 x9 x10 x12 x13 x14 x15 x16 x17) else (strconv_readFloat.l0 k x0 x2 x3 x4 x5 x6 (wrap64 (x7 + 1)) x8 x9 x10 x11 x12 true x14 x15 x16 x15)) else (if 48 ≤ x18 then (if x18 ≤ 57 then (strconv_readFloat.j6 k x0 x2 x3 x4 x5 x6 x7 x8 x9 x10 x11 x12 x13 x14 x15 x16 x17 x18 true) else (strconv_readFloat.j6 k x0 x2 x3 x4 x5 x6 x7 x8 x9 x10 x11 x12 x13 x14 x15 x16 x17 x18 false)) else (strconv_readFloat.j6 k x0 x2 x3 x4 x5 x6 x7 x8 x9 x10 x11 x12 x13 x14 x15 x16 x17 x18 false))
def strconv_readFloat.j6 : Nat → ByteArray → Int → Int → Bool → Bool → Bool → Int → Bool → Bool → Int → Int → Int → Bool → Bool → Int → Int → Int → Int → Bool → Option (Int × Int × Bool × Bool × Bool × Int × Bool)
  | 0, _, _, _, _, _, _, _, _, _, _, _, _, _, _, _, _, _, _, _ => none
  | k + 1, x0, x2, x3, x4, x5, x6, x7, x8, x9, x10, x11, x12, x13, x14, x15, x16, x17, x18, x76 => if x76 = true then (if x18 = 48 then (strconv_readFloat.j7 k x0 x2 x3 x4 x5 x6 x7 x8 x9 x10 x11 x12 x13 true x15 x16 x17 x18 (x15 == 0)) else (strconv_readFloat.j7 k x0 x2 x3 x4 x5 x6 x7 x8 x9 x10 x11 x12 x13 true x15 x16 x17 x18 false)) else (if x10 = 16 then ((strconv_lower.f x18).bind fun t102 => (if 97 ≤ t102 then ((strconv_lower.f x18).bind fun t103 => (if t103 ≤ 102 then (strconv_readFloat.j8 k x0 x2 x3 x4 x5 x6 x7 x8 x9 x10 x11 x12 x13 x14 x15 x16 x17 x18 true) else (strconv_readFloat.j8 k x0 x2 x3 x4 x5 x6 x7 x8 x9 x10 x11 x12 x13 x14 x15 x16 x17 x18 false))) else (strconv_readFloat.j8 k x0 x2 x3 x4 x5 x6 x7 x8 x9 x10 x11 x12 x13 x14 x15 x16 x17 x18 false))) else (strconv_readFloat.j8 k x0 x2 x3 x4 x5 x6 x7 x8 x9 x10 x11 x12 x13 x14 x15 x16 x17 x18 false))
def strconv_readFloat.j7 : Nat → ByteArray → Int → Int → Bool → Bool → Bool → Int → Bool → Bool → Int → Int → Int → Bool → Bool → Int → Int → Int → Int → Bool → Option (Int × Int × Bool × Bool × Bool × Int × Bool)
  | 0, _, _, _, _, _, _, _, _, _, _, _, _, _, _, _, _, _, _, _ => none
  | k + 1, x0, x2, x3, x4, x5, x6, x7, x8, x9, x10, x11, x12, x13, x14, x15, x16, x17, x18, x89 => if x89 = true then (strconv_readFloat.l0 k x0 x2 x3 x4 x5 x6 (wrap64 (x7 + 1)) x8 x9 x10 x11 x12 x13 x14 x15 x16 (wrap64 (x17 - 1))) else (if x16 < x11 then (strconv_readFloat.l0 k x0 (IntKind.u64.wrap ((IntKind.u64.wrap (x2 * x10)) + ((x18 - 48) % 256))) x3 x4 x5 x6 (wrap64 (x7 + 1)) x8 x9 x10 x11 x12 x13 x14 (wrap64 (x15 + 1)) (wrap64 (x16 + 1)) x17) else (if x18 = 48 then (strconv_readFloat.l0 k x0 x2 x3 x4 x5 x6 (wrap64 (x7 + 1)) x8 x9 x10 x11 x12 x13 x14 (wrap64 (x15 + 1)) x16 x17) else (strconv_readFloat.l0 k x0 x2 x3 x4 true x6 (wrap64 (x7 + 1)) x8 x9 x10 x11 x12 x13 x14 (wrap64 (x15 + 1)) x16 x17)))
def strconv_readFloat.j8 : Nat → ByteArray → Int → Int → Bool → Bool → Bool → Int → Bool → Bool → Int → Int → Int → Bool → Bool → Int → Int → Int → Int → Bool → Option (Int × Int × Bool × Bool × Bool × Int × Bool)
  | 0, _, _, _, _, _, _, _, _, _, _, _, _, _, _, _, _, _, _, _ => none
  | k + 1, x0, x2, x3, x4, x5, x6, x7, x8, x9, x10, x11, x12, x13, x14, x15, x16, x17, x18, x109 => if x109 = true then (if x16 < x11 then ((strconv_lower.f x18).bind fun t104 => (strconv_readFloat.l0 k x0 (IntKind.u64.wrap ((IntKind.u64.wrap (x2 * 16)) + ((((t104 - 97) % 256) + 10) % 256))) x3 x4 x5 x6 (wrap64 (x7 + 1)) x8 x9 x10 x11 x12 x13 true (wrap64 (x15 + 1)) (wrap64 (x16 + 1)) x17)) else (strconv_readFloat.l0 k x0 x2 x3 x4 true x6 (wrap64 (x7 + 1)) x8 x9 x10 x11 x12 x13 true (wrap64 (x15 + 1)) x16 x17)) else (strconv_readFloat.j9 k x0 x2 x3 x4 x5 x6 x7 x8 x9 x10 x12 x13 x14 x15 x16 x17)
end
def strconv_readFloat.f (k : Nat) (a0 : ByteArray) : Option (Int × Int × Bool × Bool × Bool × Int × Bool) := if 0 ≥ (a0.size : Int) then (some (0, 0, false, false, false, 0, false)) else (if 0 < (a0.size : Int) then (if (bt a0 0) = 43 then (strconv_readFloat.j0 k a0 0 0 false false false 1 false false) else (if (bt a0 0) = 45 then (strconv_readFloat.j0 k a0 0 0 true false false 1 false false) else (strconv_readFloat.j0 k a0 0 0 false false false 0 false false))) else (none))
theorem strconv_readFloat.mono_l : ∀ k, (∀ y0 y1 y2 y3 y4 y5 y6 y7 y8, LeO (strconv_readFloat.j0 k y0 y1 y2 y3 y4 y5 y6 y7 y8) (strconv_readFloat.j0 (k + 1) y0 y1 y2 y3 y4 y5 y6 y7 y8)) ∧ (∀ y0 y1 y2 y3 y4 y5 y6 y7 y8 y9 y10 y11 y12, LeO (strconv_readFloat.j1 k y0 y1 y2 y3 y4 y5 y6 y7 y8 y9 y10 y11 y12) (strconv_readFloat.j1 (k + 1) y0 y1 y2 y3 y4 y5 y6 y7 y8 y9 y10 y11 y12)) ∧ (∀ y0 y1 y2 y3 y4 y5 y6 y7 y8 y9 y10 y11, LeO (strconv_readFloat.j2 k y0 y1 y2 y3 y4 y5 y6 y7 y8 y9 y10 y11) (strconv_readFloat.j2 (k + 1) y0 y1 y2 y3 y4 y5 y6 y7 y8 y9 y10 y11)) ∧ (∀ y0 y1 y2 y3 y4 y5 y6 y7 y8 y9 y10 y11 y12 y13 y14 y15, LeO (strconv_readFloat.j9 k y0 y1 y2 y3 y4 y5 y6 y7 y8 y9 y10 y11 y12 y13 y14 y15) (strconv_readFloat.j9 (k + 1) y0 y1 y2 y3 y4 y5 y6 y7 y8 y9 y10 y11 y12 y13 y14 y15)) ∧ (∀ y0 y1 y2 y3 y4 y5 y6 y7 y8 y9 y10 y11 y12, LeO (strconv_readFloat.j10 k y0 y1 y2 y3 y4 y5 y6 y7 y8 y9 y10 y11 y12) (strconv_readFloat.j10 (k + 1) y0 y1 y2 y3 y4 y5 y6 y7 y8 y9 y10 y11 y12)) ∧ (∀ y0 y1 y2 y3 y4 y5 y6 y7 y8 y9 y10 y11 y12, LeO (strconv_readFloat.j11 k y0 y1 y2 y3 y4 y5 y6 y7 y8 y9 y10 y11 y12) (strconv_readFloat.j11 (k + 1) y0 y1 y2 y3 y4 y5 y6 y7 y8 y9 y10 y11 y12)) ∧ (∀ y0 y1 y2 y3 y4 y5 y6 y7 y8 y9 y10 y11 y12, LeO (strconv_readFloat.j12 k y0 y1 y2 y3 y4 y5 y6 y7 y8 y9 y10 y11 y12) (strconv_readFloat.j12 (k + 1) y0 y1 y2 y3 y4 y5 y6 y7 y8 y9 y10 y11 y12)) ∧ (∀ y0 y1 y2 y3 y4 y5 y6 y7 y8 y9 y10, LeO (strconv_readFloat.j17 k y0 y1 y2 y3 y4 y5 y6 y7 y8 y9 y10) (strconv_readFloat.j17 (k + 1) y0 y1 y2 y3 y4 y5 y6 y7 y8 y9 y10)) ∧ (∀ y0 y1 y2 y3 y4 y5 y6 y7 y8 y9 y10 y11, LeO (strconv_readFloat.j13 k y0 y1 y2 y3 y4 y5 y6 y7 y8 y9 y10 y11) (strconv_readFloat.j13 (k + 1) y0 y1 y2 y3 y4 y5 y6 y7 y8 y9 y10 y11)) ∧ (∀ y0 y1 y2 y3 y4 y5 y6 y7 y8 y9 y10 y11 y12, LeO (strconv_readFloat.j14 k y0 y1 y2 y3 y4 y5 y6 y7 y8 y9 y10 y11 y12) (strconv_readFloat.j14 (k + 1) y0 y1 y2 y3 y4 y5 y6 y7 y8 y9 y10 y11 y12)) ∧ (∀ y0 y1 y2 y3 y4 y5 y6 y7 y8 y9 y10 y11 y12, LeO (strconv_readFloat.l1 k y0 y1 y2 y3 y4 y5 y6 y7 y8 y9 y10 y11 y12) (strconv_readFloat.l1 (k + 1) y0 y1 y2 y3 y4 y5 y6 y7 y8 y9 y10 y11 y12)) ∧ (∀ y0 y1 y2 y3 y4 y5 y6 y7 y8 y9 y10 y11 y12 y13, LeO (strconv_readFloat.j16 k y0 y1 y2 y3 y4 y5 y6 y7 y8 y9 y10 y11 y12 y13) (strconv_readFloat.j16 (k + 1) y0 y1 y2 y3 y4 y5 y6 y7 y8 y9 y10 y11 y12 y13)) ∧ (∀ y0 y1 y2 y3 y4 y5 y6 y7 y8 y9 y10 y11 y12 y13 y14 y15 y16, LeO (strconv_readFloat.l0 k y0 y1 y2 y3 y4 y5 y6 y7 y8 y9 y10 y11 y12 y13 y14 y15 y16) (strconv_readFloat.l0 (k + 1) y0 y1 y2 y3 y4 y5 y6 y7 y8 y9 y10 y11 y12 y13 y14 y15 y16)) ∧ (∀ y0 y1 y2 y3 y4 y5 y6 y7 y8 y9 y10 y11 y12 y13 y14 y15 y16 y17 y18, LeO (strconv_readFloat.j4 k y0 y1 y2 y3 y4 y5 y6 y7 y8 y9 y10 y11 y12 y13 y14 y15 y16 y17 y18) (strconv_readFloat.j4 (k + 1) y0 y1 y2 y3 y4 y5 y6 y7 y8 y9 y10 y11 y12 y13 y14 y15 y16 y17 y18)) ∧ (∀ y0 y1 y2 y3 y4 y5 y6 y7 y8 y9 y10 y11 y12 y13 y14 y15 y16 y17 y18, LeO (strconv_readFloat.j5 k y0 y1 y2 y3 y4 y5 y6 y7 y8 y9 y10 y11 y12 y13 y14 y15 y16 y17 y18) (strconv_readFloat.j5 (k + 1) y0 y1 y2 y3 y4 y5 y6 y7 y8 y9 y10 y11 y12 y13 y14 y15 y16 y17 y18)) ∧ (∀ y0 y1 y2 y3 y4 y5 y6 y7 y8 y9 y10 y11 y12 y13 y14 y15 y16 y17 y18, LeO (strconv_readFloat.j6 k y0 y1 y2 y3 y4 y5 y6 y7 y8 y9 y10 y11 y12 y13 y14 y15 y16 y17 y18) (strconv_readFloat.j6 (k + 1) y0 y1 y2 y3 y4 y5 y6 y7 y8 y9 y10 y11 y12 y13 y14 y15 y16 y17 y18)) ∧ (∀ y0 y1 y2 y3 y4 y5 y6 y7 y8 y9 y10 y11 y12 y13 y14 y15 y16 y17 y18, LeO (strconv_readFloat.j7 k y0 y1 y2 y3 y4 y5 y6 y7 y8 y9 y10 y11 y12 y13 y14 y15 y16 y17 y18) (strconv_readFloat.j7 (k + 1) y0 y1 y2 y3 y4 y5 y6 y7 y8 y9 y10 y11 y12 y13 y14 y15 y16 y17 y18)) ∧ (∀ y0 y1 y2 y3 y4 y5 y6 y7 y8 y9 y10 y11 y12 y13 y14 y15 y16 y17 y18, LeO (strconv_readFloat.j8 k y0 y1 y2 y3 y4 y5 y6 y7 y8 y9 y10 y11 y12 y13 y14 y15 y16 y17 y18) (strconv_readFloat.j8 (k + 1) y0 y1 y2 y3 y4 y5 y6 y7 y8 y9 y10 y11 y12 y13 y14 y15 y16 y17 y18))
  | 0 => ⟨fun _ _ _ _ _ _ _ _ _ r h => by simp [strconv_readFloat.j0] at h, fun _ _ _ _ _ _ _ _ _ _ _ _ _ r h => by simp [strconv_readFloat.j1] at h, fun _ _ _ _ _ _ _ _ _ _ _ _ r h => by simp [strconv_readFloat.j2] at h, fun _ _ _ _ _ _ _ _ _ _ _ _ _ _ _ _ r h => by simp [strconv_readFloat.j9] at h, fun _ _ _ _ _ _ _ _ _ _ _ _ _ r h => by simp [strconv_readFloat.j10] at h, fun _ _ _ _ _ _ _ _ _ _ _ _ _ r h => by simp [strconv_readFloat.j11] at h, fun _ _ _ _ _ _ _ _ _ _ _ _ _ r h => by simp [strconv_readFloat.j12] at h, fun _ _ _ _ _ _ _ _ _ _ _ r h => by simp [strconv_readFloat.j17] at h, fun _ _ _ _ _ _ _ _ _ _ _ _ r h => by simp [strconv_readFloat.j13] at h, fun _ _ _ _ _ _ _ _ _ _ _ _ _ r h => by simp [strconv_readFloat.j14] at h, fun _ _ _ _ _ _ _ _ _ _ _ _ _ r h => by simp [strconv_readFloat.l1] at h, fun _ _ _ _ _ _ _ _ _ _ _ _ _ _ r h => by simp [strconv_readFloat.j16] at h, fun _ _ _ _ _ _ _ _ _ _ _ _ _ _ _ _ _ r h => by simp [strconv_readFloat.l0] at h, fun _ _ _ _ _ _ _ _ _ _ _ _ _ _ _ _ _ _ _ r h => by simp [strconv_readFloat.j4] at h, fun _ _ _ _ _ _ _ _ _ _ _ _ _ _ _ _ _ _ _ r h => by simp [strconv_readFloat.j5] at h, fun _ _ _ _ _ _ _ _ _ _ _ _ _ _ _ _ _ _ _ r h => by simp [strconv_readFloat.j6] at h, fun _ _ _ _ _ _ _ _ _ _ _ _ _ _ _ _ _ _ _ r h => by simp [strconv_readFloat.j7] at h, fun _ _ _ _ _ _ _ _ _ _ _ _ _ _ _ _ _ _ _ r h => by simp [strconv_readFloat.j8] at h⟩
  | k + 1 => by
    obtain ⟨ih0, ih1, ih2, ih3, ih4, ih5, ih6, ih7, ih8, ih9, ih10, ih11, ih12, ih13, ih14, ih15, ih16, ih17⟩ := strconv_readFloat.mono_l k
    refine ⟨?_, ?_, ?_, ?_, ?_, ?_, ?_, ?_, ?_, ?_, ?_, ?_, ?_, ?_, ?_, ?_, ?_, ?_⟩
    · intro y0 y1 y2 y3 y4 y5 y6 y7 y8
      unfold strconv_readFloat.j0
      repeat' first
      | (with_reducible apply ih0)
      | (with_reducible apply ih1)
      | (with_reducible apply ih2)
      | (with_reducible apply ih3)
      | (with_reducible apply ih4)
      | (with_reducible apply ih5)
      | (with_reducible apply ih6)
      | (with_reducible apply ih7)
      | (with_reducible apply ih8)
      | (with_reducible apply ih9)
      | (with_reducible apply ih10)
      | (with_reducible apply ih11)
      | (with_reducible apply ih12)
      | (with_reducible apply ih13)
      | (with_reducible apply ih14)
      | (with_reducible apply ih15)
      | (with_reducible apply ih16)
      | (with_reducible apply ih17)
      | (with_reducible exact LeO.refl _)
      | (with_reducible exact LeO.none _)
      | (with_reducible refine LeO.ite ?_ ?_)
      | (with_reducible refine LeO.bind ?_ (fun _ => ?_))
      | exact LeO.none _
      | refine LeO.ite ?_ ?_
      | refine LeO.bind ?_ (fun _ => ?_)
    · intro y0 y1 y2 y3 y4 y5 y6 y7 y8 y9 y10 y11 y12
      unfold strconv_readFloat.j1
      repeat' first
      | (with_reducible apply ih0)
      | (with_reducible apply ih1)
      | (with_reducible apply ih2)
      | (with_reducible apply ih3)
      | (with_reducible apply ih4)
      | (with_reducible apply ih5)
      | (with_reducible apply ih6)
      | (with_reducible apply ih7)
      | (with_reducible apply ih8)
      | (with_reducible apply ih9)
      | (with_reducible apply ih10)
      | (with_reducible apply ih11)
      | (with_reducible apply ih12)
      | (with_reducible apply ih13)
      | (with_reducible apply ih14)
      | (with_reducible apply ih15)
      | (with_reducible apply ih16)
      | (with_reducible apply ih17)
      | (with_reducible exact LeO.refl _)
      | (with_reducible exact LeO.none _)
      | (with_reducible refine LeO.ite ?_ ?_)
      | (with_reducible refine LeO.bind ?_ (fun _ => ?_))
      | exact LeO.none _
      | refine LeO.ite ?_ ?_
      | refine LeO.bind ?_ (fun _ => ?_)
    · intro y0 y1 y2 y3 y4 y5 y6 y7 y8 y9 y10 y11
      unfold strconv_readFloat.j2
      repeat' first
      | (with_reducible apply ih0)
      | (with_reducible apply ih1)
      | (with_reducible apply ih2)
      | (with_reducible apply ih3)
      | (with_reducible apply ih4)
      | (with_reducible apply ih5)
      | (with_reducible apply ih6)
      | (with_reducible apply ih7)
      | (with_reducible apply ih8)
      | (with_reducible apply ih9)
      | (with_reducible apply ih10)
      | (with_reducible apply ih11)
      | (with_reducible apply ih12)
      | (with_reducible apply ih13)
      | (with_reducible apply ih14)
      | (with_reducible apply ih15)
      | (with_reducible apply ih16)
      | (with_reducible apply ih17)
      | (with_reducible exact LeO.refl _)
      | (with_reducible exact LeO.none _)
      | (with_reducible refine LeO.ite ?_ ?_)
      | (with_reducible refine LeO.bind ?_ (fun _ => ?_))
      | exact LeO.none _
      | refine LeO.ite ?_ ?_
      | refine LeO.bind ?_ (fun _ => ?_)
    · intro y0 y1 y2 y3 y4 y5 y6 y7 y8 y9 y10 y11 y12 y13 y14 y15
      unfold strconv_readFloat.j9
      repeat' first
      | (with_reducible apply ih0)
      | (with_reducible apply ih1)
      | (with_reducible apply ih2)
      | (with_reducible apply ih3)
      | (with_reducible apply ih4)
      | (with_reducible apply ih5)
      | (with_reducible apply ih6)
      | (with_reducible apply ih7)
      | (with_reducible apply ih8)
      | (with_reducible apply ih9)
      | (with_reducible apply ih10)
      | (with_reducible apply ih11)
      | (with_reducible apply ih12)
      | (with_reducible apply ih13)
      | (with_reducible apply ih14)
      | (with_reducible apply ih15)
      | (with_reducible apply ih16)
      | (with_reducible apply ih17)
      | (with_reducible exact LeO.refl _)
      | (with_reducible exact LeO.none _)
      | (with_reducible refine LeO.ite ?_ ?_)
      | (with_reducible refine LeO.bind ?_ (fun _ => ?_))
      | exact LeO.none _
      | refine LeO.ite ?_ ?_
      | refine LeO.bind ?_ (fun _ => ?_)
    · intro y0 y1 y2 y3 y4 y5 y6 y7 y8 y9 y10 y11 y12
      unfold strconv_readFloat.j10
      repeat' first
      | (with_reducible apply ih0)
      | (with_reducible apply ih1)
      | (with_reducible apply ih2)
      | (with_reducible apply ih3)
      | (with_reducible apply ih4)
      | (with_reducible apply ih5)
      | (with_reducible apply ih6)
      | (with_reducible apply ih7)
      | (with_reducible apply ih8)
      | (with_reducible apply ih9)
      | (with_reducible apply ih10)
      | (with_reducible apply ih11)
      | (with_reducible apply ih12)
      | (with_reducible apply ih13)
      | (with_reducible apply ih14)
      | (with_reducible apply ih15)
      | (with_reducible apply ih16)
      | (with_reducible apply ih17)
      | (with_reducible exact LeO.refl _)
      | (with_reducible exact LeO.none _)
      | (with_reducible refine LeO.ite ?_ ?_)
      | (with_reducible refine LeO.bind ?_ (fun _ => ?_))
      | exact LeO.none _
      | refine LeO.ite ?_ ?_
      | refine LeO.bind ?_ (fun _ => ?_)
    · intro y0 y1 y2 y3 y4 y5 y6 y7 y8 y9 y10 y11 y12
      unfold strconv_readFloat.j11
      repeat' first
      | (with_reducible apply ih0)
      | (with_reducible apply ih1)
      | (with_reducible apply ih2)
      | (with_reducible apply ih3)
      | (with_reducible apply ih4)
      | (with_reducible apply ih5)
      | (with_reducible apply ih6)
      | (with_reducible apply ih7)
      | (with_reducible apply ih8)
      | (with_reducible apply ih9)
      | (with_reducible apply ih10)
      | (with_reducible apply ih11)
      | (with_reducible apply ih12)
      | (with_reducible apply ih13)
      | (with_reducible apply ih14)
      | (with_reducible apply ih15)
      | (with_reducible apply ih16)
      | (with_reducible apply ih17)
      | (with_reducible exact LeO.refl _)
      | (with_reducible exact LeO.none _)
      | (with_reducible refine LeO.ite ?_ ?_)
      | (with_reducible refine LeO.bind ?_ (fun _ => ?_))
      | exact LeO.none _
      | refine LeO.ite ?_ ?_
      | refine LeO.bind ?_ (fun _ => ?_)
    · intro y0 y1 y2 y3 y4 y5 y6 y7 y8 y9 y10 y11 y12
      unfold strconv_readFloat.j12
      repeat' first
      | (with_reducible apply ih0)
      | (with_reducible apply ih1)
      | (with_reducible apply ih2)
      | (with_reducible apply ih3)
      | (with_reducible apply ih4)
      | (with_reducible apply ih5)
      | (with_reducible apply ih6)
      | (with_reducible apply ih7)
      | (with_reducible apply ih8)
      | (with_reducible apply ih9)
      | (with_reducible apply ih10)
      | (with_reducible apply ih11)
      | (with_reducible apply ih12)
      | (with_reducible apply ih13)
      | (with_reducible apply ih14)
      | (with_reducible apply ih15)
      | (with_reducible apply ih16)
      | (with_reducible apply ih17)
      | (with_reducible exact LeO.refl _)
      | (with_reducible exact LeO.none _)
      | (with_reducible refine LeO.ite ?_ ?_)
      | (with_reducible refine LeO.bind ?_ (fun _ => ?_))
      | exact LeO.none _
      | refine LeO.ite ?_ ?_
      | refine LeO.bind ?_ (fun _ => ?_)
    · intro y0 y1 y2 y3 y4 y5 y6 y7 y8 y9 y10
      unfold strconv_readFloat.j17
      repeat' first
      | (with_reducible apply ih0)
      | (with_reducible apply ih1)
      | (with_reducible apply ih2)
      | (with_reducible apply ih3)
      | (with_reducible apply ih4)
      | (with_reducible apply ih5)
      | (with_reducible apply ih6)
      | (with_reducible apply ih7)
      | (with_reducible apply ih8)
      | (with_reducible apply ih9)
      | (with_reducible apply ih10)
      | (with_reducible apply ih11)
      | (with_reducible apply ih12)
      | (with_reducible apply ih13)
      | (with_reducible apply ih14)
      | (with_reducible apply ih15)
      | (with_reducible apply ih16)
      | (with_reducible apply ih17)
      | (with_reducible exact LeO.refl _)
      | (with_reducible exact LeO.none _)
      | (with_reducible refine LeO.ite ?_ ?_)
      | (with_reducible refine LeO.bind ?_ (fun _ => ?_))
      | exact LeO.none _
      | refine LeO.ite ?_ ?_
      | refine LeO.bind ?_ (fun _ => ?_)
    · intro y0 y1 y2 y3 y4 y5 y6 y7 y8 y9 y10 y11
      unfold strconv_readFloat.j13
      repeat' first
      | (with_reducible apply ih0)
      | (with_reducible apply ih1)
      | (with_reducible apply ih2)
      | (with_reducible apply ih3)
      | (with_reducible apply ih4)
      | (with_reducible apply ih5)
      | (with_reducible apply ih6)
      | (with_reducible apply ih7)
      | (with_reducible apply ih8)
      | (with_reducible apply ih9)
      | (with_reducible apply ih10)
      | (with_reducible apply ih11)
      | (with_reducible apply ih12)
      | (with_reducible apply ih13)
      | (with_reducible apply ih14)
      | (with_reducible apply ih15)
      | (with_reducible apply ih16)
      | (with_reducible apply ih17)
      | (with_reducible exact LeO.refl _)
      | (with_reducible exact LeO.none _)
      | (with_reducible refine LeO.ite ?_ ?_)
      | (with_reducible refine LeO.bind ?_ (fun _ => ?_))
      | exact LeO.none _
      | refine LeO.ite ?_ ?_
      | refine LeO.bind ?_ (fun _ => ?_)
    · intro y0 y1 y2 y3 y4 y5 y6 y7 y8 y9 y10 y11 y12
      unfold strconv_readFloat.j14
      repeat' first
      | (with_reducible apply ih0)
      | (with_reducible apply ih1)
      | (with_reducible apply ih2)
      | (with_reducible apply ih3)
      | (with_reducible apply ih4)
      | (with_reducible apply ih5)
      | (with_reducible apply ih6)
      | (with_reducible apply ih7)
      | (with_reducible apply ih8)
      | (with_reducible apply ih9)
      | (with_reducible apply ih10)
      | (with_reducible apply ih11)
      | (with_reducible apply ih12)
      | (with_reducible apply ih13)
      | (with_reducible apply ih14)
      | (with_reducible apply ih15)
      | (with_reducible apply ih16)
      | (with_reducible apply ih17)
      | (with_reducible exact LeO.refl _)
      | (with_reducible exact LeO.none _)
      | (with_reducible refine LeO.ite ?_ ?_)
      | (with_reducible refine LeO.bind ?_ (fun _ => ?_))
      | exact LeO.none _
      | refine LeO.ite ?_ ?_
      | refine LeO.bind ?_ (fun _ => ?_)
    · intro y0 y1 y2 y3 y4 y5 y6 y7 y8 y9 y10 y11 y12
      unfold strconv_readFloat.l1
      repeat' first
      | (with_reducible apply ih0)
      | (with_reducible apply ih1)
      | (with_reducible apply ih2)
      | (with_reducible apply ih3)
      | (with_reducible apply ih4)
      | (with_reducible apply ih5)
      | (with_reducible apply ih6)
      | (with_reducible apply ih7)
      | (with_reducible apply ih8)
      | (with_reducible apply ih9)
      | (with_reducible apply ih10)
      | (with_reducible apply ih11)
      | (with_reducible apply ih12)
      | (with_reducible apply ih13)
      | (with_reducible apply ih14)
      | (with_reducible apply ih15)
      | (with_reducible apply ih16)
      | (with_reducible apply ih17)
      | (with_reducible exact LeO.refl _)
      | (with_reducible exact LeO.none _)
      | (with_reducible refine LeO.ite ?_ ?_)
      | (with_reducible refine LeO.bind ?_ (fun _ => ?_))
      | exact LeO.none _
      | refine LeO.ite ?_ ?_
      | refine LeO.bind ?_ (fun _ => ?_)
    · intro y0 y1 y2 y3 y4 y5 y6 y7 y8 y9 y10 y11 y12 y13
      unfold strconv_readFloat.j16
      repeat' first
      | (with_reducible apply ih0)
      | (with_reducible apply ih1)
      | (with_reducible apply ih2)
      | (with_reducible apply ih3)
      | (with_reducible apply ih4)
      | (with_reducible apply ih5)
      | (with_reducible apply ih6)
      | (with_reducible apply ih7)
      | (with_reducible apply ih8)
      | (with_reducible apply ih9)
      | (with_reducible apply ih10)
      | (with_reducible apply ih11)
      | (with_reducible apply ih12)
      | (with_reducible apply ih13)
      | (with_reducible apply ih14)
      | (with_reducible apply ih15)
      | (with_reducible apply ih16)
      | (with_reducible apply ih17)
      | (with_reducible exact LeO.refl _)
      | (with_reducible exact LeO.none _)
      | (with_reducible refine LeO.ite ?_ ?_)
      | (with_reducible refine LeO.bind ?_ (fun _ => ?_))
      | exact LeO.none _
      | refine LeO.ite ?_ ?_
      | refine LeO.bind ?_ (fun _ => ?_)
    · intro y0 y1 y2 y3 y4 y5 y6 y7 y8 y9 y10 y11 y12 y13 y14 y15 y16
      unfold strconv_readFloat.l0
      repeat' first
      | (with_reducible apply ih0)
      | (with_reducible apply ih1)
      | (with_reducible apply ih2)
      | (with_reducible apply ih3)
      | (with_reducible apply ih4)
      | (with_reducible apply ih5)
      | (with_reducible apply ih6)
      | (with_reducible apply ih7)
      | (with_reducible apply ih8)
      | (with_reducible apply ih9)
      | (with_reducible apply ih10)
      | (with_reducible apply ih11)
      | (with_reducible apply ih12)
      | (with_reducible apply ih13)
      | (with_reducible apply ih14)
      | (with_reducible apply ih15)
      | (with_reducible apply ih16)
      | (with_reducible apply ih17)
      | (with_reducible exact LeO.refl _)
      | (with_reducible exact LeO.none _)
      | (with_reducible refine LeO.ite ?_ ?_)
      | (with_reducible refine LeO.bind ?_ (fun _ => ?_))
      | exact LeO.none _
      | refine LeO.ite ?_ ?_
      | refine LeO.bind ?_ (fun _ => ?_)
    · intro y0 y1 y2 y3 y4 y5 y6 y7 y8 y9 y10 y11 y12 y13 y14 y15 y16 y17 y18
      unfold strconv_readFloat.j4
      repeat' first
      | (with_reducible apply ih0)
      | (with_reducible apply ih1)
      | (with_reducible apply ih2)
      | (with_reducible apply ih3)
      | (with_reducible apply ih4)
      | (with_reducible apply ih5)
      | (with_reducible apply ih6)
      | (with_reducible apply ih7)
      | (with_reducible apply ih8)
      | (with_reducible apply ih9)
      | (with_reducible apply ih10)
      | (with_reducible apply ih11)
      | (with_reducible apply ih12)
      | (with_reducible apply ih13)
      | (with_reducible apply ih14)
      | (with_reducible apply ih15)
      | (with_reducible apply ih16)
      | (with_reducible apply ih17)
      | (with_reducible exact LeO.refl _)
      | (with_reducible exact LeO.none _)
      | (with_reducible refine LeO.ite ?_ ?_)
      | (with_reducible refine LeO.bind ?_ (fun _ => ?_))
      | exact LeO.none _
      | refine LeO.ite ?_ ?_
      | refine LeO.bind ?_ (fun _ => ?_)
    · intro y0 y1 y2 y3 y4 y5 y6 y7 y8 y9 y10 y11 y12 y13 y14 y15 y16 y17 y18
      unfold strconv_readFloat.j5
      repeat' first
      | (with_reducible apply ih0)
      | (with_reducible apply ih1)
      | (with_reducible apply ih2)
      | (with_reducible apply ih3)
      | (with_reducible apply ih4)
      | (with_reducible apply ih5)
      | (with_reducible apply ih6)
      | (with_reducible apply ih7)
      | (with_reducible apply ih8)
      | (with_reducible apply ih9)
      | (with_reducible apply ih10)
      | (with_reducible apply ih11)
      | (with_reducible apply ih12)
      | (with_reducible apply ih13)
      | (with_reducible apply ih14)
      | (with_reducible apply ih15)
      | (with_reducible apply ih16)
      | (with_reducible apply ih17)
      | (with_reducible exact LeO.refl _)
      | (with_reducible exact LeO.none _)
      | (with_reducible refine LeO.ite ?_ ?_)
      | (with_reducible refine LeO.bind ?_ (fun _ => ?_))
      | exact LeO.none _
      | refine LeO.ite ?_ ?_
      | refine LeO.bind ?_ (fun _ => ?_)
    · intro y0 y1 y2 y3 y4 y5 y6 y7 y8 y9 y10 y11 y12 y13 y14 y15 y16 y17 y18
      unfold strconv_readFloat.j6
      repeat' first
      | (with_reducible apply ih0)
      | (with_reducible apply ih1)
      | (with_reducible apply ih2)
      | (with_reducible apply ih3)
      | (with_reducible apply ih4)
      | (with_reducible apply ih5)
      | (with_reducible apply ih6)
      | (with_reducible apply ih7)
      | (with_reducible apply ih8)
      | (with_reducible apply ih9)
      | (with_reducible apply ih10)
      | (with_reducible apply ih11)
      | (with_reducible apply ih12)
      | (with_reducible apply ih13)
      | (with_reducible apply ih14)
      | (with_reducible apply ih15)
      | (with_reducible apply ih16)
      | (with_reducible apply ih17)
      | (with_reducible exact LeO.refl _)
      | (with_reducible exact LeO.none _)
      | (with_reducible refine LeO.ite ?_ ?_)
      | (with_reducible refine LeO.bind ?_ (fun _ => ?_))
      | exact LeO.none _
      | refine LeO.ite ?_ ?_
      | refine LeO.bind ?_ (fun _ => ?_)
    · intro y0 y1 y2 y3 y4 y5 y6 y7 y8 y9 y10 y11 y12 y13 y14 y15 y16 y17 y18
      unfold strconv_readFloat.j7
      repeat' first
      | (with_reducible apply ih0)
      | (with_reducible apply ih1)
      | (with_reducible apply ih2)
      | (with_reducible apply ih3)
      | (with_reducible apply ih4)
      | (with_reducible apply ih5)
      | (with_reducible apply ih6)
      | (with_reducible apply ih7)
      | (with_reducible apply ih8)
      | (with_reducible apply ih9)
      | (with_reducible apply ih10)
      | (with_reducible apply ih11)
      | (with_reducible apply ih12)
      | (with_reducible apply ih13)
      | (with_reducible apply ih14)
      | (with_reducible apply ih15)
      | (with_reducible apply ih16)
      | (with_reducible apply ih17)
      | (with_reducible exact LeO.refl _)
      | (with_reducible exact LeO.none _)
      | (with_reducible refine LeO.ite ?_ ?_)
      | (with_reducible refine LeO.bind ?_ (fun _ => ?_))
      | exact LeO.none _
      | refine LeO.ite ?_ ?_
      | refine LeO.bind ?_ (fun _ => ?_)
    · intro y0 y1 y2 y3 y4 y5 y6 y7 y8 y9 y10 y11 y12 y13 y14 y15 y16 y17 y18
      unfold strconv_readFloat.j8
      repeat' first
      | (with_reducible apply ih0)
      | (with_reducible apply ih1)
      | (with_reducible apply ih2)
      | (with_reducible apply ih3)
      | (with_reducible apply ih4)
      | (with_reducible apply ih5)
      | (with_reducible apply ih6)
      | (with_reducible apply ih7)
      | (with_reducible apply ih8)
      | (with_reducible apply ih9)
      | (with_reducible apply ih10)
      | (with_reducible apply ih11)
      | (with_reducible apply ih12)
      | (with_reducible apply ih13)
      | (with_reducible apply ih14)
      | (with_reducible apply ih15)
      | (with_reducible apply ih16)
      | (with_reducible apply ih17)
      | (with_reducible exact LeO.refl _)
      | (with_reducible exact LeO.none _)
      | (with_reducible refine LeO.ite ?_ ?_)
      | (with_reducible refine LeO.bind ?_ (fun _ => ?_))
      | exact LeO.none _
      | refine LeO.ite ?_ ?_
      | refine LeO.bind ?_ (fun _ => ?_)
theorem strconv_readFloat.mono : ∀ a0 k, LeO (strconv_readFloat.f k a0) (strconv_readFloat.f (k + 1) a0) := by
  intro a0 k
  obtain ⟨ih0, ih1, ih2, ih3, ih4, ih5, ih6, ih7, ih8, ih9, ih10, ih11, ih12, ih13, ih14, ih15, ih16, ih17⟩ := strconv_readFloat.mono_l k
  unfold strconv_readFloat.f
  repeat' first
      | (with_reducible apply ih0)
      | (with_reducible apply ih1)
      | (with_reducible apply ih2)
      | (with_reducible apply ih3)
      | (with_reducible apply ih4)
      | (with_reducible apply ih5)
      | (with_reducible apply ih6)
      | (with_reducible apply ih7)
      | (with_reducible apply ih8)
      | (with_reducible apply ih9)
      | (with_reducible apply ih10)
      | (with_reducible apply ih11)
      | (with_reducible apply ih12)
      | (with_reducible apply ih13)
      | (with_reducible apply ih14)
      | (with_reducible apply ih15)
      | (with_reducible apply ih16)
      | (with_reducible apply ih17)
      | (with_reducible exact LeO.refl _)
      | (with_reducible exact LeO.none _)
      | (with_reducible refine LeO.ite ?_ ?_)
      | (with_reducible refine LeO.bind ?_ (fun _ => ?_))
      | exact LeO.none _
      | refine LeO.ite ?_ ?_
      | refine LeO.bind ?_ (fun _ => ?_)
set_option maxHeartbeats 8000000 in
set_option maxRecDepth 100000 in
theorem strconv_readFloat.calls (k : Nat) (a0 : ByteArray) (r1 : Int) (r2 : Int) (r3 : Bool) (r4 : Bool) (r5 : Bool) (r6 : Int) (r7 : Bool) (w : World) (h : strconv_readFloat.f k a0 = some (r1, r2, r3, r4, r5, r6, r7)) :
  Calls Tryz.prog 134 #[.string a0] w fun e w' => e = .returned (.tuple #[.int .u64 r1, .int .i64 r2, .bool r3, .bool r4, .bool r5, .int .i64 r6, .bool r7]) ∧ Below w.heap.size w w' := by
 have HB := aM (Below.refl w.heap.size w)
 have H : (if 0 ≥ (a0.size : Int) then (some (0, 0, false, false, false, 0, false)) else (if 0 < (a0.size : Int) then (if (bt a0 0) = 43 then (strconv_readFloat.j0 k a0 0 0 false false false 1 false false) else (if (bt a0 0) = 45 then (strconv_readFloat.j0 k a0 0 0 true false false 1 false false) else (strconv_readFloat.j0 k a0 0 0 false false false 0 false false))) else (none))) = some (r1, r2, r3, r4, r5, r6, r7) := h
 clear h
 by_cases c2 : 0 ≥ (a0.size : Int)
 ·rw [if_pos c2] at H
  have c2b0 : decide ((a0.size : Int) ≤ 0) = true := decide_eq_true c2
  have c2b1 : decide (a0.size ≤ 0) = true := decide_eq_true (by omega)
  have c2b2 : (a0 = ByteArray.empty) = True := eq_true ((empty_iff a0).2 (by omega))
  clear c2
  as_aux_lemma =>
   simp only [Option.some.injEq, Prod.mk.injEq] at H
   obtain ⟨rfl, rfl, rfl, rfl, rfl, rfl, rfl⟩ := H
   go_enter Tryz.func134, Tryz.ntmps134
   go_wp2
   apply wp_scope_straight
   go_wp2
   (try simp only [Exit.noGoto_ret])
   refine bodyPost_ret (results_list (rs := [.tmp 2, .tmp 3, .tmp 4, .tmp 5, .tmp 6, .tmp 7, .tmp 8]) rfl (by simp) (.tmp (.tmp (.tmp (.tmp (.tmp (.tmp (.tmp .nil)))))))) rfl ?_
   exact ⟨by first | rfl | (simp [errW_none, errW_some] <;> rfl) | (simp [*, errW_none, errW_some] <;> rfl), hB⟩
 rw [if_neg c2] at H
 have c2b0 : decide ((a0.size : Int) ≤ 0) = false := decide_eq_false c2
 have c2b1 : decide (a0.size ≤ 0) = false := decide_eq_false (by omega)
 have c2b2 : (a0 = ByteArray.empty) = False := eq_false (fun h_ => by have := (empty_iff a0).1 h_; omega)
 clear c2
 by_cases c3 : 0 < (a0.size : Int)
 rotate_left
 ·rw [if_neg c3] at H
  exact absurd H (by simp)
 rw [if_pos c3] at H
 have c3b0 : decide (0 < (a0.size : Int)) = true := decide_eq_true c3
 have c3b1 : decide (0 < a0.size) = true := decide_eq_true (by omega)
 clear c3
 have HC5 := aM H
 clear H
 have p4 : 0 ≤ (0 : Int) := (by omega)
 have q4 : 0 < a0.size := (by have : (0 : Int) < (a0.size : Int) := oA; omega)
 have hx4 : ∀ h : 0 < a0.size, ((a0[0]'h).toNat : Int) = bt a0 0 := bt_at a0 0
 clear p4
 have qi4 : (0 < (a0.size : Int)) = True := eq_true (oA)
 replace q4 := eq_true q4
 go_enter Tryz.func134, Tryz.ntmps134
 go_wp2
 apply wp_scope_straight
 go_upto_block 0 with (fail)
 go_cut [4, 7] (fun v4 v7 wc => ∃ (kq : Nat) (x4_4 : Bool) (x7_4 : Int), v4 = .bool x4_4 ∧ v7 = .int .i64 x7_4 ∧ Aside0 (strconv_readFloat.j0 kq a0 0 0 x4_4 false false x7_4 false false = some (r1, r2, r3, r4, r5, r6, r7)) ∧ Aside0 (kq ≤ k) ∧ Aside0 (Below w.heap.size w wc))
 case first =>
  have H := HC5.out
  clear HC5
  by_cases c6 : (bt a0 0) = 43
  ·rw [if_pos c6] at H
   have c6b0 : ((bt a0 0) == 43) = true := beq_iff_eq.mpr c6
   have c6b1 : ((bt a0 0) != 43) = false := bne_eq_false_iff_eq.mpr c6
   clear c6
   (first | rw [c6b0] | (simp only [i64_w, i32_w]; rw [c6b0]) | skip)
   as_aux_lemma =>
    have H' := aM H
    clear H
    go_wp2
    go_meet
    case rel => exact ⟨_, (false), (1), (xR), (xR), H', ⟨by first | omega | exact Nat.le_refl _⟩, ⟨hB⟩⟩
  rw [if_neg c6] at H
  have c6b0 : ((bt a0 0) == 43) = false := beq_eq_false_iff_ne.mpr c6
  have c6b1 : ((bt a0 0) != 43) = true := bne_iff_ne.mpr c6
  (first | rw [c6b0] | (simp only [i64_w, i32_w]; rw [c6b0]) | skip)
  by_cases c7 : (bt a0 0) = 45
  rotate_left
  ·rw [if_neg c7] at H
   have c7b0 : ((bt a0 0) == 45) = false := beq_eq_false_iff_ne.mpr c7
   have c7b1 : ((bt a0 0) != 45) = true := bne_iff_ne.mpr c7
   as_aux_lemma =>
    have H' := aM H
    clear H
    go_wp2
    go_meet
    case rel => exact ⟨_, (false), (0), (xR), (xR), H', ⟨by first | omega | exact Nat.le_refl _⟩, ⟨hB⟩⟩
  rw [if_pos c7] at H
  have c7b0 : ((bt a0 0) == 45) = true := beq_iff_eq.mpr c7
  have c7b1 : ((bt a0 0) != 45) = false := bne_eq_false_iff_eq.mpr c7
  clear c7
  as_aux_lemma =>
   have H' := aM H
   clear H
   go_wp2
   go_meet
   case rel => exact ⟨_, (true), (1), (xR), (xR), H', ⟨by first | omega | exact Nat.le_refl _⟩, ⟨hB⟩⟩
 case rest => as_aux_lemma =>
  clear HC5
  (try clear c1); (try clear c2); (try clear c2b0); (try clear c2b1); (try clear p2); (try clear c3); (try clear c3b0); (try clear c3b1); (try clear p4); (try clear q4); (try clear hx4); (try clear qi4); (try clear c6); (try clear c6b0); (try clear c6b1); (try clear c7); (try clear c7b0); (try clear c7b1); (try clear p4); (try clear q4)
  obtain ⟨kq, x4_4, x7_4, rfl, rfl, HA, HJ4, HB⟩ := hcut
  cases kq with
  | zero => exact absurd HA.out (by simp [strconv_readFloat.j0])
  | succ kj4 =>
   have H := HA.out
   clear HA
   simp only [strconv_readFloat.j0] at H
   have HC8 := aM H
   clear H
   go_upto_region 12 with (fail)
   go_cut [54] (fun v54 wc => ∃ (kq : Nat) (x54_7 : Bool), v54 = .bool x54_7 ∧ Aside0 (strconv_readFloat.j1 kq a0 0 0 x4_4 false false x7_4 false false 10 19 101 x54_7 = some (r1, r2, r3, r4, r5, r6, r7)) ∧ Aside0 (kq ≤ kj4) ∧ Aside0 (Below w.heap.size w wc))
   case first =>
    have H := HC8.out
    clear HC8
    by_cases c9 : (wrap64 (x7_4 + 2)) < (a0.size : Int)
    rotate_left
    ·rw [if_neg c9] at H
     have c9b0 : decide ((wrap64 (x7_4 + 2)) < (a0.size : Int)) = false := decide_eq_false c9
     clear c9
     (first | rw [c9b0] | (simp only [i64_w, i32_w]; rw [c9b0]) | skip)
     as_aux_lemma =>
      have H' := aM H
      clear H
      go_wp2
      go_meet
      case rel => exact ⟨_, (false), (xR), H', ⟨by have := HJ4.out; omega⟩, ⟨hB⟩⟩
    rw [if_pos c9] at H
    have c9b0 : decide ((wrap64 (x7_4 + 2)) < (a0.size : Int)) = true := decide_eq_true c9
    clear c9
    (first | rw [c9b0] | (simp only [i64_w, i32_w]; rw [c9b0]) | skip)
    by_cases c10 : 0 ≤ x7_4
    rotate_left
    ·rw [if_neg c10] at H
     exact absurd H (by simp)
    rw [if_pos c10] at H
    have c10b0 : decide (0 ≤ x7_4) = true := decide_eq_true c10
    clear c10
    by_cases c11 : x7_4 < (a0.size : Int)
    rotate_left
    ·rw [if_neg c11] at H
     exact absurd H (by simp)
    rw [if_pos c11] at H
    have c11b0 : decide (x7_4 < (a0.size : Int)) = true := decide_eq_true c11
    clear c11
    by_cases c13 : (bt a0 x7_4) = 48
    rotate_left
    ·rw [if_neg c13] at H
     have c13b0 : ((bt a0 x7_4) == 48) = false := beq_eq_false_iff_ne.mpr c13
     have c13b1 : ((bt a0 x7_4) != 48) = true := bne_iff_ne.mpr c13
     as_aux_lemma =>
      have H' := aM H
      clear H
      have p12 : 0 ≤ (x7_4 : Int) := oA
      have q12 : x7_4 < (a0.size : Int) := oA
      have hx12 := bt_at a0 x7_4
      replace p12 := eq_true p12
      replace q12 := eq_true q12
      go_wp2
      go_meet
      case rel => exact ⟨_, (false), (xR), H', ⟨by have := HJ4.out; omega⟩, ⟨hB⟩⟩
    rw [if_pos c13] at H
    have c13b0 : ((bt a0 x7_4) == 48) = true := beq_iff_eq.mpr c13
    have c13b1 : ((bt a0 x7_4) != 48) = false := bne_eq_false_iff_eq.mpr c13
    clear c13
    obtain ⟨ji14, hji14⟩ : ∃ j_ : Int, (wrap64 (x7_4 + 1)) = j_ := ⟨_, rfl⟩
    replace H : (if 0 ≤ (ji14) then (if (ji14) < (a0.size : Int) then ((strconv_lower.f (bt a0 (ji14))).bind fun t101 => (strconv_readFloat.j1 kj4 a0 0 0 x4_4 false false x7_4 false false 10 19 101 (t101 == 120))) else (none)) else (none)) = some (r1, r2, r3, r4, r5, r6, r7) := by first | (rw [hji14] at H; exact H) | (simp only [hji14] at H ⊢; exact H)
    have hji14w : (IntKind.i64.wrap (x7_4 + 1)) = ji14 := (i64_w _).trans hji14
    by_cases c15 : 0 ≤ (ji14)
    rotate_left
    ·rw [if_neg c15] at H
     exact absurd H (by simp)
    rw [if_pos c15] at H
    have c15b0 : decide (0 ≤ (ji14)) = true := decide_eq_true c15
    clear c15
    by_cases c16 : (ji14) < (a0.size : Int)
    rotate_left
    ·rw [if_neg c16] at H
     exact absurd H (by simp)
    rw [if_pos c16] at H
    have c16b0 : decide ((ji14) < (a0.size : Int)) = true := decide_eq_true c16
    clear c16
    replace H := Option.bind_eq_some_iff.mp H
    obtain ⟨t101, A180, H⟩ := H
    replace H : (strconv_readFloat.j1 kj4 a0 0 0 x4_4 false false x7_4 false false 10 19 101 (t101 == 120)) = some (r1, r2, r3, r4, r5, r6, r7) := H
    have A18 := aM A180
    clear A180
    as_aux_lemma =>
     have H' := aM H
     clear H
     have p12 : 0 ≤ (x7_4 : Int) := oA
     have q12 : x7_4 < (a0.size : Int) := oA
     have hx12 := bt_at a0 x7_4
     replace p12 := eq_true p12
     replace q12 := eq_true q12
     have p17 : 0 ≤ ((ji14) : Int) := oA
     have q17 : (ji14) < (a0.size : Int) := oA
     have hx17 := bt_at a0 (ji14)
     replace p17 := eq_true p17
     replace q17 := eq_true q17
     go_wp2_with (first | (go_at_call 96; (with_reducible refine (strconv_lower.calls (bt a0 (ji14)) t101 _ A18.out).mono ?_); rintro e w' ⟨rfl, ⟨nd, rfl⟩⟩))
     go_meet
     case rel => exact ⟨_, ((t101 == 120)), (xR), H', ⟨by have := HJ4.out; omega⟩, ⟨hB⟩⟩
   case rest => as_aux_lemma =>
    clear HC8
    (try clear c1); (try clear p1); (try clear q1); (try clear hx1); (try clear c2); (try clear c2b0); (try clear c2b1); (try clear p2); (try clear c3); (try clear c3b0); (try clear c3b1); (try clear p4); (try clear q4); (try clear hx4); (try clear qi4); (try clear c6); (try clear c6b0); (try clear c6b1); (try clear p6); (try clear c7); (try clear c7b0); (try clear c7b1); (try clear c9); (try clear c9b0)
    (try clear c10); (try clear c10b0); (try clear c11); (try clear c11b0); (try clear p12); (try clear q12); (try clear hx12); (try clear c13); (try clear c13b0); (try clear c13b1); (try clear c15); (try clear c15b0); (try clear c16); (try clear c16b0); (try clear p17); (try clear q17); (try clear hx17); (try clear p12); (try clear p17); (try clear p2); (try clear p4); (try clear q12); (try clear q17)
    try clear q4
    obtain ⟨kq, x54_7, rfl, HA, HJ7, HB⟩ := hcut
    cases kq with
    | zero => exact absurd HA.out (by simp [strconv_readFloat.j1])
    | succ kj7 =>
     have H := HA.out
     clear HA
     simp only [strconv_readFloat.j1] at H
     have HC19 := aM H
     clear H
     go_upto_if 54 with (fail)
     go_cut [6, 7, 10, 11, 12] (fun v6 v7 v10 v11 v12 wc => ∃ (kq : Nat) (x6_18 : Bool) (x7_18 : Int) (x10_18 : Int) (x11_18 : Int) (x12_18 : Int), v6 = .bool x6_18 ∧ v7 = .int .i64 x7_18 ∧ v10 = .int .u64 x10_18 ∧ v11 = .int .i64 x11_18 ∧ v12 = .int .u8 x12_18 ∧ Aside0 (strconv_readFloat.j2 kq a0 0 0 x4_4 false x6_18 x7_18 false false x10_18 x11_18 x12_18 = some (r1, r2, r3, r4, r5, r6, r7)) ∧ Aside0 (kq ≤ kj7) ∧ Aside0 (Below w.heap.size w wc))
     case first =>
      have H := HC19.out
      clear HC19
      by_cases c20 : x54_7 = true
      ·subst c20
       have H1 : (strconv_readFloat.j2 kj7 a0 0 0 x4_4 false true (wrap64 (x7_4 + 2)) false false 16 16 112) = some (r1, r2, r3, r4, r5, r6, r7) := by rw [if_pos rfl] at H; exact H
       clear H
       have H := H1
       clear H1
       as_aux_lemma =>
        have H' := aM H
        clear H
        go_wp2
        go_meet
        case rel => exact ⟨_, (true), (wrap64 (x7_4 + 2)), (16), (16), (112), (xR), (xR), (xR), (xR), (xR), H', ⟨by have := HJ4.out; have := HJ7.out; omega⟩, ⟨hB⟩⟩
      replace c20 := Bool.eq_false_iff.mpr c20
      subst c20
      have H1 : (strconv_readFloat.j2 kj7 a0 0 0 x4_4 false false x7_4 false false 10 19 101) = some (r1, r2, r3, r4, r5, r6, r7) := by rw [if_neg (show ¬ (false = true) by decide)] at H; exact H
      clear H
      have H := H1
      clear H1
      as_aux_lemma =>
       have H' := aM H
       clear H
       go_wp2
       go_meet
       case rel => exact ⟨_, (false), (x7_4), (10), (19), (101), (xR), (xR), (xR), (xR), (xR), H', ⟨by have := HJ4.out; have := HJ7.out; omega⟩, ⟨hB⟩⟩
     case rest => as_aux_lemma =>
      clear HC19
      (try clear c1); (try clear p1); (try clear q1); (try clear hx1); (try clear c2); (try clear c2b0); (try clear c2b1); (try clear p2); (try clear c3); (try clear c3b0); (try clear c3b1); (try clear p4); (try clear q4); (try clear hx4); (try clear qi4); (try clear c6); (try clear c6b0); (try clear c6b1); (try clear p6); (try clear c7); (try clear c7b0); (try clear c7b1); (try clear c9); (try clear c9b0)
      (try clear c10); (try clear c10b0); (try clear c11); (try clear c11b0); (try clear p12); (try clear q12); (try clear hx12); (try clear c13); (try clear c13b0); (try clear c13b1); (try clear c15); (try clear c15b0); (try clear c16); (try clear c16b0); (try clear p17); (try clear q17); (try clear hx17); (try clear c20); (try clear p1); (try clear p12); (try clear p17); (try clear p2); (try clear p4)
      (try clear p6); (try clear q1); (try clear q12); (try clear q17); (try clear q4)
      obtain ⟨kq, x6_18, x7_18, x10_18, x11_18, x12_18, rfl, rfl, rfl, rfl, rfl, HA, HJ18, HB⟩ := hcut
      cases kq with
      | zero => exact absurd HA.out (by simp [strconv_readFloat.j2])
      | succ kj18 =>
       have H := HA.out
       clear HA
       simp only [strconv_readFloat.j2] at H
       have HC21 := aM H
       clear H
       go_wp2
       go_step3
       go_upto_block 1 with (fail)
       go_cut [2, 5, 7, 9, 13, 14, 15, 16, 17] (fun v2 v5 v7 v9 v13 v14 v15 v16 v17 wc => ∃ (kq : Nat) (x2_20 : Int) (x5_20 : Bool) (x7_20 : Int) (x9_20 : Bool) (x13_20 : Bool) (x14_20 : Bool) (x15_20 : Int) (x16_20 : Int) (x17_20 : Int), v2 = .int .u64 x2_20 ∧ v5 = .bool x5_20 ∧ v7 = .int .i64 x7_20 ∧ v9 = .bool x9_20 ∧ v13 = .bool x13_20 ∧ v14 = .bool x14_20 ∧ v15 = .int .i64 x15_20 ∧ v16 = .int .i64 x16_20 ∧ v17 = .int .i64 x17_20 ∧ Aside0 (strconv_readFloat.j9 kq a0 x2_20 0 x4_4 x5_20 x6_18 x7_20 false x9_20 x10_18 x12_18 x13_20 x14_20 x15_20 x16_20 x17_20 = some (r1, r2, r3, r4, r5, r6, r7)) ∧ Aside0 (kq ≤ kj18) ∧ Aside0 (Below w.heap.size w wc))
       case first =>
        have H := HC21.out
        clear HC21
        have H' := aM H
        clear H
        go_wp2
        go_loopg [2, 5, 7, 9, 13, 14, 15, 16, 17] kj18 (fun kq v2 v5 v7 v9 v13 v14 v15 v16 v17 w' => ∃ (x2_4 : Int) (x5_4 : Bool) (x7_4 : Int) (x9_4 : Bool) (x13_4 : Bool) (x14_4 : Bool) (x15_4 : Int) (x16_4 : Int) (x17_4 : Int), v2 = .int .u64 x2_4 ∧ v5 = .bool x5_4 ∧ v7 = .int .i64 x7_4 ∧ v9 = .bool x9_4 ∧ v13 = .bool x13_4 ∧ v14 = .bool x14_4 ∧ v15 = .int .i64 x15_4 ∧ v16 = .int .i64 x16_4 ∧ v17 = .int .i64 x17_4 ∧ Aside0 (strconv_readFloat.l0 kq a0 x2_4 0 x4_4 x5_4 x6_18 x7_4 false x9_4 x10_18 x11_18 x12_18 x13_4 x14_4 x15_4 x16_4 x17_4 = some (r1, r2, r3, r4, r5, r6, r7)) ∧ Aside0 (kq ≤ kj18) ∧ Aside0 (Below w.heap.size w w'))
        case atStart => exact ⟨(0), (false), (x7_18), (false), (false), (false), (0), (0), (0), (xR), (xR), (xR), (xR), (xR), (xR), (xR), (xR), (xR), H', ⟨Nat.le_refl _⟩, ⟨hB⟩⟩
        case round => as_aux_lemma =>
         clear H'
         (try clear c1); (try clear p1); (try clear q1); (try clear hx1); (try clear c2); (try clear c2b0); (try clear c2b1); (try clear p2); (try clear c3); (try clear c3b0); (try clear c3b1); (try clear p4); (try clear q4); (try clear hx4); (try clear qi4); (try clear c6); (try clear c6b0); (try clear c6b1); (try clear p6); (try clear c7); (try clear c7b0); (try clear c7b1); (try clear c9); (try clear c9b0)
         (try clear c10); (try clear c10b0); (try clear c11); (try clear c11b0); (try clear p12); (try clear q12); (try clear hx12); (try clear c13); (try clear c13b0); (try clear c13b1); (try clear c15); (try clear c15b0); (try clear c16); (try clear c16b0); (try clear p17); (try clear q17); (try clear hx17); (try clear c20); (try clear p1); (try clear p12); (try clear p17); (try clear p2); (try clear p4)
         (try clear p6); (try clear q1); (try clear q12); (try clear q17); (try clear q4)
         obtain ⟨x2_4, x5_4, x7_4, x9_4, x13_4, x14_4, x15_4, x16_4, x17_4, rfl, rfl, rfl, rfl, rfl, rfl, rfl, rfl, rfl, HA, HK4, HB⟩ := hrel
         cases gk with
         | zero => exact absurd HA.out (by simp [strconv_readFloat.l0])
         | succ k4 =>
          have H := HA.out
          clear HA
          simp only [strconv_readFloat.l0] at H
          by_cases c22 : x7_4 < (a0.size : Int)
          rotate_left
          ·rw [if_neg c22] at H
           have c22b0 : decide (x7_4 < (a0.size : Int)) = false := decide_eq_false c22
           clear c22
           (first | rw [c22b0] | (simp only [i64_w, i32_w]; rw [c22b0]) | skip)
           as_aux_lemma =>
            have H' := aM H
            clear H
            go_wp2
            go_meet
            case rel => exact ⟨_, (x2_4), (x5_4), (x7_4), (x9_4), (x13_4), (x14_4), (x15_4), (x16_4), (x17_4), (xR), (xR), (xR), (xR), (xR), (xR), (xR), (xR), (xR), H', ⟨by have := HJ4.out; have := HJ7.out; have := HJ18.out; have := HK4.out; omega⟩, ⟨hB⟩⟩
          rw [if_pos c22] at H
          have c22b0 : decide (x7_4 < (a0.size : Int)) = true := decide_eq_true c22
          clear c22
          (first | rw [c22b0] | (simp only [i64_w, i32_w]; rw [c22b0]) | skip)
          by_cases c23 : 0 ≤ x7_4
          rotate_left
          ·rw [if_neg c23] at H
           exact absurd H (by simp)
          rw [if_pos c23] at H
          have c23b0 : decide (0 ≤ x7_4) = true := decide_eq_true c23
          clear c23
          have HC25 := aM H
          clear H
          have p24 : 0 ≤ (x7_4 : Int) := oA
          have q24 : x7_4 < (a0.size : Int) := oA
          have hx24 := bt_at a0 x7_4
          replace p24 := eq_true p24
          replace q24 := eq_true q24
          go_upto_region 26 with (fail)
          go_cut [66] (fun v66 wc => ∃ (kq : Nat) (x66_24 : Bool), v66 = .bool x66_24 ∧ Aside0 (strconv_readFloat.j4 kq a0 x2_4 0 x4_4 x5_4 x6_18 x7_4 false x9_4 x10_18 x11_18 x12_18 x13_4 x14_4 x15_4 x16_4 x17_4 (bt a0 x7_4) x66_24 = some (r1, r2, r3, r4, r5, r6, r7)) ∧ Aside0 (kq ≤ k4) ∧ Aside0 (Below w.heap.size w wc))
          case first =>
           have H := HC25.out
           clear HC25
           by_cases c26 : (bt a0 x7_4) = 95
           rotate_left
           ·rw [if_neg c26] at H
            have c26b0 : ((bt a0 x7_4) == 95) = false := beq_eq_false_iff_ne.mpr c26
            have c26b1 : ((bt a0 x7_4) != 95) = true := bne_iff_ne.mpr c26
            (first | rw [c26b0] | (simp only [i64_w, i32_w]; rw [c26b0]) | skip)
            as_aux_lemma =>
             have H' := aM H
             clear H
             go_wp2
             go_meet
             case rel => exact ⟨_, (false), (xR), H', ⟨by have := HJ4.out; have := HJ7.out; have := HJ18.out; have := HK4.out; omega⟩, ⟨hB⟩⟩
           rw [if_pos c26] at H
           have c26b0 : ((bt a0 x7_4) == 95) = true := beq_iff_eq.mpr c26
           have c26b1 : ((bt a0 x7_4) != 95) = false := bne_eq_false_iff_eq.mpr c26
           clear c26
           (first | rw [c26b0] | (simp only [i64_w, i32_w]; rw [c26b0]) | skip)
           as_aux_lemma =>
            have H' := aM H
            clear H
            go_wp2
            go_meet
            case rel => exact ⟨_, (true), (xR), H', ⟨by have := HJ4.out; have := HJ7.out; have := HJ18.out; have := HK4.out; omega⟩, ⟨hB⟩⟩
          case rest => as_aux_lemma =>
           clear HC25
           (try clear c1); (try clear p1); (try clear q1); (try clear hx1); (try clear c2); (try clear c2b0); (try clear c2b1); (try clear p2); (try clear q2); (try clear hx2); (try clear c3); (try clear c3b0); (try clear c3b1); (try clear p4); (try clear q4); (try clear hx4); (try clear qi4); (try clear c6); (try clear c6b0); (try clear c6b1); (try clear p6); (try clear c7); (try clear c7b0); (try clear c7b1)
           (try clear c9); (try clear c9b0); (try clear c10); (try clear c10b0); (try clear c11); (try clear c11b0); (try clear p12); (try clear q12); (try clear hx12); (try clear c13); (try clear c13b0); (try clear c13b1); (try clear c15); (try clear c15b0); (try clear c16); (try clear c16b0); (try clear p17); (try clear q17); (try clear hx17); (try clear c20); (try clear c22); (try clear c22b0); (try clear c23)
           (try clear c23b0); (try clear p24); (try clear q24); (try clear hx24); (try clear c26); (try clear c26b0); (try clear c26b1); (try clear p1); (try clear p12); (try clear p17); (try clear p2); (try clear p24); (try clear p4); (try clear p6); (try clear q1); (try clear q12); (try clear q17); (try clear q24); (try clear q4)
           obtain ⟨kq, x66_24, rfl, HA, HJ24, HB⟩ := hcut
           cases kq with
           | zero => exact absurd HA.out (by simp [strconv_readFloat.j4])
           | succ kj24 =>
            have H := HA.out
            clear HA
            simp only [strconv_readFloat.j4] at H
            by_cases c27 : x66_24 = true
            ·subst c27
             have H1 : (strconv_readFloat.l0 kj24 a0 x2_4 0 x4_4 x5_4 x6_18 (wrap64 (x7_4 + 1)) false true x10_18 x11_18 x12_18 x13_4 x14_4 x15_4 x16_4 x17_4) = some (r1, r2, r3, r4, r5, r6, r7) := by rw [if_pos rfl] at H; exact H
             clear H
             have H := H1
             clear H1
             as_aux_lemma =>
              have H' := aM H
              clear H
              go_wp2
              go_roundg kj24
              case measure => have := HJ4.out; have := HJ7.out; have := HJ18.out; have := HK4.out; have := HJ24.out; omega
              case rel => exact ⟨(x2_4), (x5_4), (wrap64 (x7_4 + 1)), (true), (x13_4), (x14_4), (x15_4), (x16_4), (x17_4), (xR), (xR), (xR), (xR), (xR), (xR), (xR), (xR), (xR), H', ⟨by have := HJ4.out; have := HJ7.out; have := HJ18.out; have := HK4.out; have := HJ24.out; omega⟩, ⟨hB⟩⟩
            replace c27 := Bool.eq_false_iff.mpr c27
            subst c27
            have H1 : (if (bt a0 x7_4) = 46 then (strconv_readFloat.j5 kj24 a0 x2_4 0 x4_4 x5_4 x6_18 x7_4 false x9_4 x10_18 x11_18 x12_18 x13_4 x14_4 x15_4 x16_4 x17_4 (bt a0 x7_4) true) else (strconv_readFloat.j5 kj24 a0 x2_4 0 x4_4 x5_4 x6_18 x7_4 false x9_4 x10_18 x11_18 x12_18 x13_4 x14_4 x15_4 x16_4 x17_4 (bt a0 x7_4) false)) = some (r1, r2, r3, r4, r5, r6, r7) := by rw [if_neg (show ¬ (false = true) by decide)] at H; exact H
            clear H
            have H := H1
            clear H1
            have HC28 := aM H
            clear H
            go_upto_region 28 with (fail)
            go_cut [70] (fun v70 wc => ∃ (kq : Nat) (x70_27 : Bool), v70 = .bool x70_27 ∧ Aside0 (strconv_readFloat.j5 kq a0 x2_4 0 x4_4 x5_4 x6_18 x7_4 false x9_4 x10_18 x11_18 x12_18 x13_4 x14_4 x15_4 x16_4 x17_4 (bt a0 x7_4) x70_27 = some (r1, r2, r3, r4, r5, r6, r7)) ∧ Aside0 (kq ≤ kj24) ∧ Aside0 (Below w.heap.size w wc))
            case first =>
             have H := HC28.out
             clear HC28
             by_cases c29 : (bt a0 x7_4) = 46
             rotate_left
             ·rw [if_neg c29] at H
              have c29b0 : ((bt a0 x7_4) == 46) = false := beq_eq_false_iff_ne.mpr c29
              have c29b1 : ((bt a0 x7_4) != 46) = true := bne_iff_ne.mpr c29
              (first | rw [c29b0] | (simp only [i64_w, i32_w]; rw [c29b0]) | skip)
              as_aux_lemma =>
               have H' := aM H
               clear H
               go_wp2
               go_meet
               case rel => exact ⟨_, (false), (xR), H', ⟨by have := HJ4.out; have := HJ7.out; have := HJ18.out; have := HK4.out; have := HJ24.out; omega⟩, ⟨hB⟩⟩
             rw [if_pos c29] at H
             have c29b0 : ((bt a0 x7_4) == 46) = true := beq_iff_eq.mpr c29
             have c29b1 : ((bt a0 x7_4) != 46) = false := bne_eq_false_iff_eq.mpr c29
             clear c29
             (first | rw [c29b0] | (simp only [i64_w, i32_w]; rw [c29b0]) | skip)
             as_aux_lemma =>
              have H' := aM H
              clear H
              go_wp2
              go_meet
              case rel => exact ⟨_, (true), (xR), H', ⟨by have := HJ4.out; have := HJ7.out; have := HJ18.out; have := HK4.out; have := HJ24.out; omega⟩, ⟨hB⟩⟩
            case rest => as_aux_lemma =>
             clear HC28
             (try clear c1); (try clear p1); (try clear q1); (try clear hx1); (try clear c2); (try clear c2b0); (try clear c2b1); (try clear p2); (try clear q2); (try clear hx2); (try clear c3); (try clear c3b0); (try clear c3b1); (try clear p4); (try clear q4); (try clear hx4); (try clear qi4); (try clear c6); (try clear c6b0); (try clear c6b1); (try clear p6); (try clear c7); (try clear c7b0); (try clear c7b1)
             (try clear c9); (try clear c9b0); (try clear c10); (try clear c10b0); (try clear c11); (try clear c11b0); (try clear p12); (try clear q12); (try clear hx12); (try clear c13); (try clear c13b0); (try clear c13b1); (try clear c15); (try clear c15b0); (try clear c16); (try clear c16b0); (try clear p17); (try clear q17); (try clear hx17); (try clear c20); (try clear c22); (try clear c22b0)
             (try clear c23); (try clear c23b0); (try clear p24); (try clear q24); (try clear hx24); (try clear c26); (try clear c26b0); (try clear c26b1); (try clear c27); (try clear c29); (try clear c29b0); (try clear c29b1); (try clear p1); (try clear p12); (try clear p17); (try clear p2); (try clear p24); (try clear p4); (try clear p6); (try clear q1); (try clear q12); (try clear q17); (try clear q2)
             (try clear q24); (try clear q4)
             obtain ⟨kq, x70_27, rfl, HA, HJ27, HB⟩ := hcut
             cases kq with
             | zero => exact absurd HA.out (by simp [strconv_readFloat.j5])
             | succ kj27 =>
              have H := HA.out
              clear HA
              simp only [strconv_readFloat.j5] at H
              by_cases c30 : x70_27 = true
              ·subst c30
               have H1 : (if x13_4 = true then (strconv_readFloat.j9 kj27 a0 x2_4 0 x4_4 x5_4 x6_18 x7_4 false x9_4 x10_18 x12_18 x13_4 x14_4 x15_4 x16_4 x17_4) else (strconv_readFloat.l0 kj27 a0 x2_4 0 x4_4 x5_4 x6_18 (wrap64 (x7_4 + 1)) false x9_4 x10_18 x11_18 x12_18 true x14_4 x15_4 x16_4 x15_4)) = some (r1, r2, r3, r4, r5, r6, r7) := by rw [if_pos rfl] at H; exact H
               clear H
               have H := H1
               clear H1
               by_cases c31 : x13_4 = true
               ·subst c31
                have H1 : (strconv_readFloat.j9 kj27 a0 x2_4 0 x4_4 x5_4 x6_18 x7_4 false x9_4 x10_18 x12_18 true x14_4 x15_4 x16_4 x17_4) = some (r1, r2, r3, r4, r5, r6, r7) := by rw [if_pos rfl] at H; exact H
                clear H
                have H := H1
                clear H1
                as_aux_lemma =>
                 have H' := aM H
                 clear H
                 go_wp2
                 go_meet
                 case rel => exact ⟨_, (x2_4), (x5_4), (x7_4), (x9_4), (true), (x14_4), (x15_4), (x16_4), (x17_4), (xR), (xR), (xR), (xR), (xR), (xR), (xR), (xR), (xR), H', ⟨by have := HJ4.out; have := HJ7.out; have := HJ18.out; have := HK4.out; have := HJ24.out; have := HJ27.out; omega⟩, ⟨hB⟩⟩
               replace c31 := Bool.eq_false_iff.mpr c31
               subst c31
               have H1 : (strconv_readFloat.l0 kj27 a0 x2_4 0 x4_4 x5_4 x6_18 (wrap64 (x7_4 + 1)) false x9_4 x10_18 x11_18 x12_18 true x14_4 x15_4 x16_4 x15_4) = some (r1, r2, r3, r4, r5, r6, r7) := by rw [if_neg (show ¬ (false = true) by decide)] at H; exact H
               clear H
               have H := H1
               clear H1
               as_aux_lemma =>
                have H' := aM H
                clear H
                go_wp2
                go_roundg kj27
                case measure => have := HJ4.out; have := HJ7.out; have := HJ18.out; have := HK4.out; have := HJ24.out; have := HJ27.out; omega
                case rel => exact ⟨(x2_4), (x5_4), (wrap64 (x7_4 + 1)), (x9_4), (true), (x14_4), (x15_4), (x16_4), (x15_4), (xR), (xR), (xR), (xR), (xR), (xR), (xR), (xR), (xR), H', ⟨by have := HJ4.out; have := HJ7.out; have := HJ18.out; have := HK4.out; have := HJ24.out; have := HJ27.out; omega⟩, ⟨hB⟩⟩
              replace c30 := Bool.eq_false_iff.mpr c30
              subst c30
              have H1 : (if 48 ≤ (bt a0 x7_4) then (if (bt a0 x7_4) ≤ 57 then (strconv_readFloat.j6 kj27 a0 x2_4 0 x4_4 x5_4 x6_18 x7_4 false x9_4 x10_18 x11_18 x12_18 x13_4 x14_4 x15_4 x16_4 x17_4 (bt a0 x7_4) true) else (strconv_readFloat.j6 kj27 a0 x2_4 0 x4_4 x5_4 x6_18 x7_4 false x9_4 x10_18 x11_18 x12_18 x13_4 x14_4 x15_4 x16_4 x17_4 (bt a0 x7_4) false)) else (strconv_readFloat.j6 kj27 a0 x2_4 0 x4_4 x5_4 x6_18 x7_4 false x9_4 x10_18 x11_18 x12_18 x13_4 x14_4 x15_4 x16_4 x17_4 (bt a0 x7_4) false)) = some (r1, r2, r3, r4, r5, r6, r7) := by rw [if_neg (show ¬ (false = true) by decide)] at H; exact H
              clear H
              have H := H1
              clear H1
              have HC32 := aM H
              clear H
              go_upto_region 32 with (fail)
              go_cut [76] (fun v76 wc => ∃ (kq : Nat) (x76_31 : Bool), v76 = .bool x76_31 ∧ Aside0 (strconv_readFloat.j6 kq a0 x2_4 0 x4_4 x5_4 x6_18 x7_4 false x9_4 x10_18 x11_18 x12_18 x13_4 x14_4 x15_4 x16_4 x17_4 (bt a0 x7_4) x76_31 = some (r1, r2, r3, r4, r5, r6, r7)) ∧ Aside0 (kq ≤ kj27) ∧ Aside0 (Below w.heap.size w wc))
              case first =>
               have H := HC32.out
               clear HC32
               by_cases c33 : 48 ≤ (bt a0 x7_4)
               rotate_left
               ·rw [if_neg c33] at H
                have c33b0 : decide (48 ≤ (bt a0 x7_4)) = false := decide_eq_false c33
                clear c33
                (first | rw [c33b0] | (simp only [i64_w, i32_w]; rw [c33b0]) | skip)
                as_aux_lemma =>
                 have H' := aM H
                 clear H
                 go_wp2
                 go_meet
                 case rel => exact ⟨_, (false), (xR), H', ⟨by have := HJ4.out; have := HJ7.out; have := HJ18.out; have := HK4.out; have := HJ24.out; have := HJ27.out; omega⟩, ⟨hB⟩⟩
               rw [if_pos c33] at H
               have c33b0 : decide (48 ≤ (bt a0 x7_4)) = true := decide_eq_true c33
               clear c33
               (first | rw [c33b0] | (simp only [i64_w, i32_w]; rw [c33b0]) | skip)
               by_cases c34 : (bt a0 x7_4) ≤ 57
               ·rw [if_pos c34] at H
                have c34b0 : decide ((bt a0 x7_4) ≤ 57) = true := decide_eq_true c34
                clear c34
                as_aux_lemma =>
                 have H' := aM H
                 clear H
                 go_wp2
                 go_meet
                 case rel => exact ⟨_, (true), (xR), H', ⟨by have := HJ4.out; have := HJ7.out; have := HJ18.out; have := HK4.out; have := HJ24.out; have := HJ27.out; omega⟩, ⟨hB⟩⟩
               rw [if_neg c34] at H
               have c34b0 : decide ((bt a0 x7_4) ≤ 57) = false := decide_eq_false c34
               clear c34
               as_aux_lemma =>
                have H' := aM H
                clear H
                go_wp2
                go_meet
                case rel => exact ⟨_, (false), (xR), H', ⟨by have := HJ4.out; have := HJ7.out; have := HJ18.out; have := HK4.out; have := HJ24.out; have := HJ27.out; omega⟩, ⟨hB⟩⟩
              case rest => as_aux_lemma =>
               clear HC32
               (try clear c1); (try clear p1); (try clear q1); (try clear hx1); (try clear c2); (try clear c2b0); (try clear c2b1); (try clear p2); (try clear q2); (try clear hx2); (try clear c3); (try clear c3b0); (try clear c3b1); (try clear p4); (try clear q4); (try clear hx4); (try clear qi4); (try clear c6); (try clear c6b0); (try clear c6b1); (try clear p6); (try clear c7); (try clear c7b0); (try clear c7b1)
               (try clear c9); (try clear c9b0); (try clear c10); (try clear c10b0); (try clear c11); (try clear c11b0); (try clear p12); (try clear q12); (try clear hx12); (try clear c13); (try clear c13b0); (try clear c13b1); (try clear c15); (try clear c15b0); (try clear c16); (try clear c16b0); (try clear p17); (try clear q17); (try clear hx17); (try clear c20); (try clear c22); (try clear c22b0)
               (try clear c23); (try clear c23b0); (try clear p24); (try clear q24); (try clear hx24); (try clear c26); (try clear c26b0); (try clear c26b1); (try clear c27); (try clear c29); (try clear c29b0); (try clear c29b1); (try clear c30); (try clear c31); (try clear c33); (try clear c33b0); (try clear c34); (try clear c34b0); (try clear p1); (try clear p12); (try clear p17); (try clear p2)
               (try clear p24); (try clear p4); (try clear p6); (try clear q1); (try clear q12); (try clear q17); (try clear q2); (try clear q24); (try clear q4)
               obtain ⟨kq, x76_31, rfl, HA, HJ31, HB⟩ := hcut
               cases kq with
               | zero => exact absurd HA.out (by simp [strconv_readFloat.j6])
               | succ kj31 =>
                have H := HA.out
                clear HA
                simp only [strconv_readFloat.j6] at H
                by_cases c35 : x76_31 = true
                ·subst c35
                 have H1 : (if (bt a0 x7_4) = 48 then (strconv_readFloat.j7 kj31 a0 x2_4 0 x4_4 x5_4 x6_18 x7_4 false x9_4 x10_18 x11_18 x12_18 x13_4 true x15_4 x16_4 x17_4 (bt a0 x7_4) (x15_4 == 0)) else (strconv_readFloat.j7 kj31 a0 x2_4 0 x4_4 x5_4 x6_18 x7_4 false x9_4 x10_18 x11_18 x12_18 x13_4 true x15_4 x16_4 x17_4 (bt a0 x7_4) false)) = some (r1, r2, r3, r4, r5, r6, r7) := by rw [if_pos rfl] at H; exact H
                 clear H
                 have H := H1
                 clear H1
                 have HC36 := aM H
                 clear H
                 go_upto_region 34 with (fail)
                 go_cut [89] (fun v89 wc => ∃ (kq : Nat) (x89_35 : Bool), v89 = .bool x89_35 ∧ Aside0 (strconv_readFloat.j7 kq a0 x2_4 0 x4_4 x5_4 x6_18 x7_4 false x9_4 x10_18 x11_18 x12_18 x13_4 true x15_4 x16_4 x17_4 (bt a0 x7_4) x89_35 = some (r1, r2, r3, r4, r5, r6, r7)) ∧ Aside0 (kq ≤ kj31) ∧ Aside0 (Below w.heap.size w wc))
                 case first =>
                  have H := HC36.out
                  clear HC36
                  by_cases c37 : (bt a0 x7_4) = 48
                  rotate_left
                  ·rw [if_neg c37] at H
                   have c37b0 : ((bt a0 x7_4) == 48) = false := beq_eq_false_iff_ne.mpr c37
                   have c37b1 : ((bt a0 x7_4) != 48) = true := bne_iff_ne.mpr c37
                   (first | rw [c37b0] | (simp only [i64_w, i32_w]; rw [c37b0]) | skip)
                   as_aux_lemma =>
                    have H' := aM H
                    clear H
                    go_wp2
                    go_meet
                    case rel => exact ⟨_, (false), (xR), H', ⟨by have := HJ4.out; have := HJ7.out; have := HJ18.out; have := HK4.out; have := HJ24.out; have := HJ27.out; have := HJ31.out; omega⟩, ⟨hB⟩⟩
                  rw [if_pos c37] at H
                  have c37b0 : ((bt a0 x7_4) == 48) = true := beq_iff_eq.mpr c37
                  have c37b1 : ((bt a0 x7_4) != 48) = false := bne_eq_false_iff_eq.mpr c37
                  clear c37
                  (first | rw [c37b0] | (simp only [i64_w, i32_w]; rw [c37b0]) | skip)
                  as_aux_lemma =>
                   have H' := aM H
                   clear H
                   go_wp2
                   go_meet
                   case rel => exact ⟨_, ((x15_4 == 0)), (xR), H', ⟨by have := HJ4.out; have := HJ7.out; have := HJ18.out; have := HK4.out; have := HJ24.out; have := HJ27.out; have := HJ31.out; omega⟩, ⟨hB⟩⟩
                 case rest => as_aux_lemma =>
                  clear HC36
                  (try clear c1); (try clear p1); (try clear q1); (try clear hx1); (try clear c2); (try clear c2b0); (try clear c2b1); (try clear p2); (try clear q2); (try clear hx2); (try clear c3); (try clear c3b0); (try clear c3b1); (try clear p4); (try clear q4); (try clear hx4); (try clear qi4); (try clear c6); (try clear c6b0); (try clear c6b1); (try clear p6); (try clear c7); (try clear c7b0)
                  (try clear c7b1); (try clear c9); (try clear c9b0); (try clear c10); (try clear c10b0); (try clear c11); (try clear c11b0); (try clear p12); (try clear q12); (try clear hx12); (try clear c13); (try clear c13b0); (try clear c13b1); (try clear c15); (try clear c15b0); (try clear c16); (try clear c16b0); (try clear p17); (try clear q17); (try clear hx17); (try clear c20); (try clear c22)
                  (try clear c22b0); (try clear c23); (try clear c23b0); (try clear p24); (try clear q24); (try clear hx24); (try clear c26); (try clear c26b0); (try clear c26b1); (try clear c27); (try clear c29); (try clear c29b0); (try clear c29b1); (try clear c30); (try clear c31); (try clear c33); (try clear c33b0); (try clear c34); (try clear c34b0); (try clear c35); (try clear c37); (try clear c37b0)
                  (try clear c37b1); (try clear p1); (try clear p12); (try clear p17); (try clear p2); (try clear p24); (try clear p4); (try clear p6); (try clear q1); (try clear q12); (try clear q17); (try clear q2); (try clear q24); (try clear q4)
                  obtain ⟨kq, x89_35, rfl, HA, HJ35, HB⟩ := hcut
                  cases kq with
                  | zero => exact absurd HA.out (by simp [strconv_readFloat.j7])
                  | succ kj35 =>
                   have H := HA.out
                   clear HA
                   simp only [strconv_readFloat.j7] at H
                   by_cases c38 : x89_35 = true
                   ·subst c38
                    have H1 : (strconv_readFloat.l0 kj35 a0 x2_4 0 x4_4 x5_4 x6_18 (wrap64 (x7_4 + 1)) false x9_4 x10_18 x11_18 x12_18 x13_4 true x15_4 x16_4 (wrap64 (x17_4 - 1))) = some (r1, r2, r3, r4, r5, r6, r7) := by rw [if_pos rfl] at H; exact H
                    clear H
                    have H := H1
                    clear H1
                    as_aux_lemma =>
                     have H' := aM H
                     clear H
                     go_wp2
                     go_roundg kj35
                     case measure => have := HJ4.out; have := HJ7.out; have := HJ18.out; have := HK4.out; have := HJ24.out; have := HJ27.out; have := HJ31.out; have := HJ35.out; omega
                     case rel => exact ⟨(x2_4), (x5_4), (wrap64 (x7_4 + 1)), (x9_4), (x13_4), (true), (x15_4), (x16_4), (wrap64 (x17_4 - 1)), (xR), (xR), (xR), (xR), (xR), (xR), (xR), (xR), (xR), H', ⟨by have := HJ4.out; have := HJ7.out; have := HJ18.out; have := HK4.out; have := HJ24.out; have := HJ27.out; have := HJ31.out; have := HJ35.out; omega⟩, ⟨hB⟩⟩
                   replace c38 := Bool.eq_false_iff.mpr c38
                   subst c38
                   have H1 : (if x16_4 < x11_18 then (strconv_readFloat.l0 kj35 a0 (IntKind.u64.wrap ((IntKind.u64.wrap (x2_4 * x10_18)) + (((bt a0 x7_4) - 48) % 256))) 0 x4_4 x5_4 x6_18 (wrap64 (x7_4 + 1)) false x9_4 x10_18 x11_18 x12_18 x13_4 true (wrap64 (x15_4 + 1)) (wrap64 (x16_4 + 1)) x17_4) else (if (bt a0 x7_4) = 48 then (strconv_readFloat.l0 kj35 a0 x2_4 0 x4_4 x5_4 x6_18 (wrap64 (x7_4 + 1)) false x9_4 x10_18 x11_18 x12_18 x13_4 true (wrap64 (x15_4 + 1)) x16_4 x17_4) else (strconv_readFloat.l0 kj35 a0 x2_4 0 x4_4 true x6_18 (wrap64 (x7_4 + 1)) false x9_4 x10_18 x11_18 x12_18 x13_4 true (wrap64 (x15_4 + 1)) x16_4 x17_4))) = some (r1, r2, r3, r4, r5, r6, r7) := by rw [if_neg (show ¬ (false = true) by decide)] at H; exact H
                   clear H
                   have H := H1
                   clear H1
                   by_cases c39 : x16_4 < x11_18
                   ·rw [if_pos c39] at H
                    have c39b0 : decide (x16_4 < x11_18) = true := decide_eq_true c39
                    clear c39
                    as_aux_lemma =>
                     have H' := aM H
                     clear H
                     go_wp2
                     go_roundg kj35
                     case measure => have := HJ4.out; have := HJ7.out; have := HJ18.out; have := HK4.out; have := HJ24.out; have := HJ27.out; have := HJ31.out; have := HJ35.out; omega
                     case rel => exact ⟨(IntKind.u64.wrap ((IntKind.u64.wrap (x2_4 * x10_18)) + (((bt a0 x7_4) - 48) % 256))), (x5_4), (wrap64 (x7_4 + 1)), (x9_4), (x13_4), (true), (wrap64 (x15_4 + 1)), (wrap64 (x16_4 + 1)), (x17_4), (xR), (xR), (xR), (xR), (xR), (xR), (xR), (xR), (xR), H', ⟨by have := HJ4.out; have := HJ7.out; have := HJ18.out; have := HK4.out; have := HJ24.out; have := HJ27.out; have := HJ31.out; have := HJ35.out; omega⟩, ⟨hB⟩⟩
                   rw [if_neg c39] at H
                   have c39b0 : decide (x16_4 < x11_18) = false := decide_eq_false c39
                   clear c39
                   by_cases c40 : (bt a0 x7_4) = 48
                   rotate_left
                   ·rw [if_neg c40] at H
                    have c40b0 : ((bt a0 x7_4) == 48) = false := beq_eq_false_iff_ne.mpr c40
                    have c40b1 : ((bt a0 x7_4) != 48) = true := bne_iff_ne.mpr c40
                    as_aux_lemma =>
                     have H' := aM H
                     clear H
                     go_wp2
                     go_roundg kj35
                     case measure => have := HJ4.out; have := HJ7.out; have := HJ18.out; have := HK4.out; have := HJ24.out; have := HJ27.out; have := HJ31.out; have := HJ35.out; omega
                     case rel => exact ⟨(x2_4), (true), (wrap64 (x7_4 + 1)), (x9_4), (x13_4), (true), (wrap64 (x15_4 + 1)), (x16_4), (x17_4), (xR), (xR), (xR), (xR), (xR), (xR), (xR), (xR), (xR), H', ⟨by have := HJ4.out; have := HJ7.out; have := HJ18.out; have := HK4.out; have := HJ24.out; have := HJ27.out; have := HJ31.out; have := HJ35.out; omega⟩, ⟨hB⟩⟩
                   rw [if_pos c40] at H
                   have c40b0 : ((bt a0 x7_4) == 48) = true := beq_iff_eq.mpr c40
                   have c40b1 : ((bt a0 x7_4) != 48) = false := bne_eq_false_iff_eq.mpr c40
                   clear c40
                   as_aux_lemma =>
                    have H' := aM H
                    clear H
                    go_wp2
                    go_roundg kj35
                    case measure => have := HJ4.out; have := HJ7.out; have := HJ18.out; have := HK4.out; have := HJ24.out; have := HJ27.out; have := HJ31.out; have := HJ35.out; omega
                    case rel => exact ⟨(x2_4), (x5_4), (wrap64 (x7_4 + 1)), (x9_4), (x13_4), (true), (wrap64 (x15_4 + 1)), (x16_4), (x17_4), (xR), (xR), (xR), (xR), (xR), (xR), (xR), (xR), (xR), H', ⟨by have := HJ4.out; have := HJ7.out; have := HJ18.out; have := HK4.out; have := HJ24.out; have := HJ27.out; have := HJ31.out; have := HJ35.out; omega⟩, ⟨hB⟩⟩
                replace c35 := Bool.eq_false_iff.mpr c35
                subst c35
                have H1 : (if x10_18 = 16 then ((strconv_lower.f (bt a0 x7_4)).bind fun t102 => (if 97 ≤ t102 then ((strconv_lower.f (bt a0 x7_4)).bind fun t103 => (if t103 ≤ 102 then (strconv_readFloat.j8 kj31 a0 x2_4 0 x4_4 x5_4 x6_18 x7_4 false x9_4 x10_18 x11_18 x12_18 x13_4 x14_4 x15_4 x16_4 x17_4 (bt a0 x7_4) true) else (strconv_readFloat.j8 kj31 a0 x2_4 0 x4_4 x5_4 x6_18 x7_4 false x9_4 x10_18 x11_18 x12_18 x13_4 x14_4 x15_4 x16_4 x17_4 (bt a0 x7_4) false))) else (strconv_readFloat.j8 kj31 a0 x2_4 0 x4_4 x5_4 x6_18 x7_4 false x9_4 x10_18 x11_18 x12_18 x13_4 x14_4 x15_4 x16_4 x17_4 (bt a0 x7_4) false))) else (strconv_readFloat.j8 kj31 a0 x2_4 0 x4_4 x5_4 x6_18 x7_4 false x9_4 x10_18 x11_18 x12_18 x13_4 x14_4 x15_4 x16_4 x17_4 (bt a0 x7_4) false)) = some (r1, r2, r3, r4, r5, r6, r7) := by rw [if_neg (show ¬ (false = true) by decide)] at H; exact H
                clear H
                have H := H1
                clear H1
                have HC41 := aM H
                clear H
                go_upto_region 43 with (fail)
                go_cut [109] (fun v109 wc => ∃ (kq : Nat) (x109_40 : Bool), v109 = .bool x109_40 ∧ Aside0 (strconv_readFloat.j8 kq a0 x2_4 0 x4_4 x5_4 x6_18 x7_4 false x9_4 x10_18 x11_18 x12_18 x13_4 x14_4 x15_4 x16_4 x17_4 (bt a0 x7_4) x109_40 = some (r1, r2, r3, r4, r5, r6, r7)) ∧ Aside0 (kq ≤ kj31) ∧ Aside0 (Below w.heap.size w wc))
                case first =>
                 have H := HC41.out
                 clear HC41
                 by_cases c42 : x10_18 = 16
                 rotate_left
                 ·rw [if_neg c42] at H
                  have c42b0 : (x10_18 == 16) = false := beq_eq_false_iff_ne.mpr c42
                  have c42b1 : (x10_18 != 16) = true := bne_iff_ne.mpr c42
                  (first | rw [c42b0] | (simp only [i64_w, i32_w]; rw [c42b0]) | skip)
                  as_aux_lemma =>
                   have H' := aM H
                   clear H
                   go_wp2
                   go_meet
                   case rel => exact ⟨_, (false), (xR), H', ⟨by have := HJ4.out; have := HJ7.out; have := HJ18.out; have := HK4.out; have := HJ24.out; have := HJ27.out; have := HJ31.out; omega⟩, ⟨hB⟩⟩
                 rw [if_pos c42] at H
                 have c42b0 : (x10_18 == 16) = true := beq_iff_eq.mpr c42
                 have c42b1 : (x10_18 != 16) = false := bne_eq_false_iff_eq.mpr c42
                 clear c42
                 (first | rw [c42b0] | (simp only [i64_w, i32_w]; rw [c42b0]) | skip)
                 replace H := Option.bind_eq_some_iff.mp H
                 obtain ⟨t102, A430, H⟩ := H
                 replace H : (if 97 ≤ t102 then ((strconv_lower.f (bt a0 x7_4)).bind fun t103 => (if t103 ≤ 102 then (strconv_readFloat.j8 kj31 a0 x2_4 0 x4_4 x5_4 x6_18 x7_4 false x9_4 x10_18 x11_18 x12_18 x13_4 x14_4 x15_4 x16_4 x17_4 (bt a0 x7_4) true) else (strconv_readFloat.j8 kj31 a0 x2_4 0 x4_4 x5_4 x6_18 x7_4 false x9_4 x10_18 x11_18 x12_18 x13_4 x14_4 x15_4 x16_4 x17_4 (bt a0 x7_4) false))) else (strconv_readFloat.j8 kj31 a0 x2_4 0 x4_4 x5_4 x6_18 x7_4 false x9_4 x10_18 x11_18 x12_18 x13_4 x14_4 x15_4 x16_4 x17_4 (bt a0 x7_4) false)) = some (r1, r2, r3, r4, r5, r6, r7) := H
                 have A43 := aM A430
                 clear A430
                 by_cases c44 : 97 ≤ t102
                 rotate_left
                 ·rw [if_neg c44] at H
                  have c44b0 : decide (97 ≤ t102) = false := decide_eq_false c44
                  clear c44
                  as_aux_lemma =>
                   have H' := aM H
                   clear H
                   go_wp2_with (first | (go_at_call 96; (with_reducible refine (strconv_lower.calls (bt a0 x7_4) t102 _ A43.out).mono ?_); rintro e w' ⟨rfl, ⟨nd, rfl⟩⟩))
                   go_meet
                   case rel => exact ⟨_, (false), (xR), H', ⟨by have := HJ4.out; have := HJ7.out; have := HJ18.out; have := HK4.out; have := HJ24.out; have := HJ27.out; have := HJ31.out; omega⟩, ⟨hB⟩⟩
                 rw [if_pos c44] at H
                 have c44b0 : decide (97 ≤ t102) = true := decide_eq_true c44
                 clear c44
                 replace H := Option.bind_eq_some_iff.mp H
                 obtain ⟨t103, A450, H⟩ := H
                 replace H : (if t103 ≤ 102 then (strconv_readFloat.j8 kj31 a0 x2_4 0 x4_4 x5_4 x6_18 x7_4 false x9_4 x10_18 x11_18 x12_18 x13_4 x14_4 x15_4 x16_4 x17_4 (bt a0 x7_4) true) else (strconv_readFloat.j8 kj31 a0 x2_4 0 x4_4 x5_4 x6_18 x7_4 false x9_4 x10_18 x11_18 x12_18 x13_4 x14_4 x15_4 x16_4 x17_4 (bt a0 x7_4) false)) = some (r1, r2, r3, r4, r5, r6, r7) := H
                 have A45 := aM A450
                 clear A450
                 by_cases c46 : t103 ≤ 102
                 ·rw [if_pos c46] at H
                  have c46b0 : decide (t103 ≤ 102) = true := decide_eq_true c46
                  have c46b1 : decide (t102 ≤ 102) = true := by   -- the letter again
                   have e_ := Option.some.inj (A45.out.symm.trans A43.out)
                   rw [← e_]; exact c46b0
                  clear c46
                  as_aux_lemma =>
                   have H' := aM H
                   clear H
                   go_wp2_with (first | (go_at_call 96; (with_reducible refine (strconv_lower.calls (bt a0 x7_4) t102 _ A43.out).mono ?_); rintro e w' ⟨rfl, ⟨nd, rfl⟩⟩) | (go_at_call 96; (with_reducible refine (strconv_lower.calls (bt a0 x7_4) t103 _ A45.out).mono ?_); rintro e w' ⟨rfl, ⟨nd, rfl⟩⟩))
                   go_meet
                   case rel => exact ⟨_, (true), (xR), H', ⟨by have := HJ4.out; have := HJ7.out; have := HJ18.out; have := HK4.out; have := HJ24.out; have := HJ27.out; have := HJ31.out; omega⟩, ⟨hB⟩⟩
                 rw [if_neg c46] at H
                 have c46b0 : decide (t103 ≤ 102) = false := decide_eq_false c46
                 have c46b1 : decide (t102 ≤ 102) = false := by   -- the letter again
                  have e_ := Option.some.inj (A45.out.symm.trans A43.out)
                  rw [← e_]; exact c46b0
                 clear c46
                 as_aux_lemma =>
                  have H' := aM H
                  clear H
                  go_wp2_with (first | (go_at_call 96; (with_reducible refine (strconv_lower.calls (bt a0 x7_4) t102 _ A43.out).mono ?_); rintro e w' ⟨rfl, ⟨nd, rfl⟩⟩) | (go_at_call 96; (with_reducible refine (strconv_lower.calls (bt a0 x7_4) t103 _ A45.out).mono ?_); rintro e w' ⟨rfl, ⟨nd, rfl⟩⟩))
                  go_meet
                  case rel => exact ⟨_, (false), (xR), H', ⟨by have := HJ4.out; have := HJ7.out; have := HJ18.out; have := HK4.out; have := HJ24.out; have := HJ27.out; have := HJ31.out; omega⟩, ⟨hB⟩⟩
                case rest => as_aux_lemma =>
                 clear HC41
                 (try clear c1); (try clear p1); (try clear q1); (try clear hx1); (try clear c2); (try clear c2b0); (try clear c2b1); (try clear p2); (try clear q2); (try clear hx2); (try clear c3); (try clear c3b0); (try clear c3b1); (try clear c4); (try clear p4); (try clear q4); (try clear hx4); (try clear qi4); (try clear c6); (try clear c6b0); (try clear c6b1); (try clear p6); (try clear c7); (try clear c7b0)
                 (try clear c7b1); (try clear c9); (try clear c9b0); (try clear c10); (try clear c10b0); (try clear c11); (try clear c11b0); (try clear p12); (try clear q12); (try clear hx12); (try clear c13); (try clear c13b0); (try clear c13b1); (try clear c15); (try clear c15b0); (try clear c16); (try clear c16b0); (try clear p17); (try clear q17); (try clear hx17); (try clear c20); (try clear c22)
                 (try clear c22b0); (try clear c23); (try clear c23b0); (try clear p24); (try clear q24); (try clear hx24); (try clear c26); (try clear c26b0); (try clear c26b1); (try clear c27); (try clear c29); (try clear c29b0); (try clear c29b1); (try clear c30); (try clear c31); (try clear c33); (try clear c33b0); (try clear c34); (try clear c34b0); (try clear c35); (try clear c37); (try clear c37b0)
                 (try clear c37b1); (try clear c38); (try clear c39); (try clear c39b0); (try clear c40); (try clear c40b0); (try clear c40b1); (try clear c42); (try clear c42b0); (try clear c42b1); (try clear c44); (try clear c44b0); (try clear c46); (try clear c46b0); (try clear p1); (try clear p12); (try clear p17); (try clear p2); (try clear p24); (try clear p4); (try clear p6); (try clear q1)
                 (try clear q12); (try clear q17); (try clear q2); (try clear q24); (try clear q4)
                 obtain ⟨kq, x109_40, rfl, HA, HJ40, HB⟩ := hcut
                 cases kq with
                 | zero => exact absurd HA.out (by simp [strconv_readFloat.j8])
                 | succ kj40 =>
                  have H := HA.out
                  clear HA
                  simp only [strconv_readFloat.j8] at H
                  by_cases c47 : x109_40 = true
                  rotate_left
                  ·replace c47 := Bool.eq_false_iff.mpr c47
                   subst c47
                   have H1 : (strconv_readFloat.j9 kj40 a0 x2_4 0 x4_4 x5_4 x6_18 x7_4 false x9_4 x10_18 x12_18 x13_4 x14_4 x15_4 x16_4 x17_4) = some (r1, r2, r3, r4, r5, r6, r7) := by rw [if_neg (show ¬ (false = true) by decide)] at H; exact H
                   clear H
                   have H := H1
                   clear H1
                   as_aux_lemma =>
                    have H' := aM H
                    clear H
                    go_wp2
                    go_meet
                    case rel => exact ⟨_, (x2_4), (x5_4), (x7_4), (x9_4), (x13_4), (x14_4), (x15_4), (x16_4), (x17_4), (xR), (xR), (xR), (xR), (xR), (xR), (xR), (xR), (xR), H', ⟨by have := HJ4.out; have := HJ7.out; have := HJ18.out; have := HK4.out; have := HJ24.out; have := HJ27.out; have := HJ31.out; have := HJ40.out; omega⟩, ⟨hB⟩⟩
                  subst c47
                  have H1 : (if x16_4 < x11_18 then ((strconv_lower.f (bt a0 x7_4)).bind fun t104 => (strconv_readFloat.l0 kj40 a0 (IntKind.u64.wrap ((IntKind.u64.wrap (x2_4 * 16)) + ((((t104 - 97) % 256) + 10) % 256))) 0 x4_4 x5_4 x6_18 (wrap64 (x7_4 + 1)) false x9_4 x10_18 x11_18 x12_18 x13_4 true (wrap64 (x15_4 + 1)) (wrap64 (x16_4 + 1)) x17_4)) else (strconv_readFloat.l0 kj40 a0 x2_4 0 x4_4 true x6_18 (wrap64 (x7_4 + 1)) false x9_4 x10_18 x11_18 x12_18 x13_4 true (wrap64 (x15_4 + 1)) x16_4 x17_4)) = some (r1, r2, r3, r4, r5, r6, r7) := by rw [if_pos rfl] at H; exact H
                  clear H
                  have H := H1
                  clear H1
                  by_cases c48 : x16_4 < x11_18
                  rotate_left
                  ·rw [if_neg c48] at H
                   have c48b0 : decide (x16_4 < x11_18) = false := decide_eq_false c48
                   clear c48
                   as_aux_lemma =>
                    have H' := aM H
                    clear H
                    go_wp2
                    go_roundg kj40
                    case measure => have := HJ4.out; have := HJ7.out; have := HJ18.out; have := HK4.out; have := HJ24.out; have := HJ27.out; have := HJ31.out; have := HJ40.out; omega
                    case rel => exact ⟨(x2_4), (true), (wrap64 (x7_4 + 1)), (x9_4), (x13_4), (true), (wrap64 (x15_4 + 1)), (x16_4), (x17_4), (xR), (xR), (xR), (xR), (xR), (xR), (xR), (xR), (xR), H', ⟨by have := HJ4.out; have := HJ7.out; have := HJ18.out; have := HK4.out; have := HJ24.out; have := HJ27.out; have := HJ31.out; have := HJ40.out; omega⟩, ⟨hB⟩⟩
                  rw [if_pos c48] at H
                  have c48b0 : decide (x16_4 < x11_18) = true := decide_eq_true c48
                  clear c48
                  replace H := Option.bind_eq_some_iff.mp H
                  obtain ⟨t104, A490, H⟩ := H
                  replace H : (strconv_readFloat.l0 kj40 a0 (IntKind.u64.wrap ((IntKind.u64.wrap (x2_4 * 16)) + ((((t104 - 97) % 256) + 10) % 256))) 0 x4_4 x5_4 x6_18 (wrap64 (x7_4 + 1)) false x9_4 x10_18 x11_18 x12_18 x13_4 true (wrap64 (x15_4 + 1)) (wrap64 (x16_4 + 1)) x17_4) = some (r1, r2, r3, r4, r5, r6, r7) := H
                  have A49 := aM A490
                  clear A490
                  as_aux_lemma =>
                   have H' := aM H
                   clear H
                   go_wp2_with (first | ((with_reducible refine gate_callee (f := 96) rfl ?_); refine goesL_ (some 132) rfl rfl Tryz.func96 (by kernel_rfl) rfl #[.int .u8 (bt a0 x7_4)] rfl gA ?_; (with_reducible refine (strconv_lower.calls (bt a0 x7_4) t104 _ A49.out).mono ?_); rintro e w' ⟨rfl, ⟨nd, rfl⟩⟩; refine ⟨_, rfl, ?_⟩))
                   go_roundg kj40
                   case measure => have := HJ4.out; have := HJ7.out; have := HJ18.out; have := HK4.out; have := HJ24.out; have := HJ27.out; have := HJ31.out; have := HJ40.out; omega
                   case rel => exact ⟨(IntKind.u64.wrap ((IntKind.u64.wrap (x2_4 * 16)) + ((((t104 - 97) % 256) + 10) % 256))), (x5_4), (wrap64 (x7_4 + 1)), (x9_4), (x13_4), (true), (wrap64 (x15_4 + 1)), (wrap64 (x16_4 + 1)), (x17_4), (xR), (xR), (xR), (xR), (xR), (xR), (xR), (xR), (xR), H', ⟨by have := HJ4.out; have := HJ7.out; have := HJ18.out; have := HK4.out; have := HJ24.out; have := HJ27.out; have := HJ31.out; have := HJ40.out; omega⟩, ⟨hB⟩⟩
       case rest => as_aux_lemma =>
        clear HC21
        (try clear c1); (try clear p1); (try clear q1); (try clear hx1); (try clear c2); (try clear c2b0); (try clear c2b1); (try clear p2); (try clear q2); (try clear hx2); (try clear c3); (try clear c3b0); (try clear c3b1); (try clear c4); (try clear p4); (try clear q4); (try clear hx4); (try clear qi4); (try clear c6); (try clear c6b0); (try clear c6b1); (try clear p6); (try clear c7); (try clear c7b0)
        (try clear c7b1); (try clear c9); (try clear c9b0); (try clear c10); (try clear c10b0); (try clear c11); (try clear c11b0); (try clear p12); (try clear q12); (try clear hx12); (try clear c13); (try clear c13b0); (try clear c13b1); (try clear c15); (try clear c15b0); (try clear c16); (try clear c16b0); (try clear p17); (try clear q17); (try clear hx17); (try clear c20); (try clear c22); (try clear c22b0)
        (try clear c23); (try clear c23b0); (try clear p24); (try clear q24); (try clear hx24); (try clear c26); (try clear c26b0); (try clear c26b1); (try clear c27); (try clear c29); (try clear c29b0); (try clear c29b1); (try clear c30); (try clear c31); (try clear c33); (try clear c33b0); (try clear c34); (try clear c34b0); (try clear c35); (try clear c37); (try clear c37b0); (try clear c37b1); (try clear c38)
        (try clear c39); (try clear c39b0); (try clear c40); (try clear c40b0); (try clear c40b1); (try clear c42); (try clear c42b0); (try clear c42b1); (try clear c44); (try clear c44b0); (try clear c46); (try clear c46b0); (try clear c47); (try clear c48); (try clear c48b0); (try clear p1); (try clear p12); (try clear p17); (try clear p2); (try clear p24); (try clear p4); (try clear p6); (try clear q1)
        (try clear q12); (try clear q17); (try clear q2); (try clear q24); (try clear q4)
        obtain ⟨kq, x2_20, x5_20, x7_20, x9_20, x13_20, x14_20, x15_20, x16_20, x17_20, rfl, rfl, rfl, rfl, rfl, rfl, rfl, rfl, rfl, HA, HJ20, HB⟩ := hcut
        cases kq with
        | zero => exact absurd HA.out (by simp [strconv_readFloat.j9])
        | succ kj20 =>
         have H := HA.out
         clear HA
         simp only [strconv_readFloat.j9] at H
         by_cases c50 : x14_20 = true
         rotate_left
         ·replace c50 := Bool.eq_false_iff.mpr c50
          subst c50
          have H1 : (some (x2_20, 0, x4_4, x5_20, x6_18, x7_20, false)) = some (r1, r2, r3, r4, r5, r6, r7) := by rw [if_neg (show ¬ (false = true) by decide)] at H; exact H
          clear H
          have H := H1
          clear H1
          as_aux_lemma =>
           simp only [Option.some.injEq, Prod.mk.injEq] at H
           obtain ⟨rfl, rfl, rfl, rfl, rfl, rfl, rfl⟩ := H
           go_wp2
           (try simp only [Exit.noGoto_ret])
           refine bodyPost_ret (results_list (rs := [.tmp 2, .tmp 3, .tmp 4, .tmp 5, .tmp 6, .tmp 7, .tmp 8]) rfl (by simp) (.tmp (.tmp (.tmp (.tmp (.tmp (.tmp (.tmp .nil)))))))) rfl ?_
           exact ⟨by first | rfl | (simp [errW_none, errW_some] <;> rfl) | (simp [*, errW_none, errW_some] <;> rfl), hB⟩
         subst c50
         have H1 : (if x13_20 = true then (strconv_readFloat.j10 kj20 a0 x2_20 0 x4_4 x5_20 x6_18 x7_20 false x9_20 x10_18 x12_18 x16_20 x17_20) else (strconv_readFloat.j10 kj20 a0 x2_20 0 x4_4 x5_20 x6_18 x7_20 false x9_20 x10_18 x12_18 x16_20 x15_20)) = some (r1, r2, r3, r4, r5, r6, r7) := by rw [if_pos rfl] at H; exact H
         clear H
         have H := H1
         clear H1
         have HC51 := aM H
         clear H
         go_upto_if 142 with (fail)
         go_cut [17] (fun v17 wc => ∃ (kq : Nat) (x17_50 : Int), v17 = .int .i64 x17_50 ∧ Aside0 (strconv_readFloat.j10 kq a0 x2_20 0 x4_4 x5_20 x6_18 x7_20 false x9_20 x10_18 x12_18 x16_20 x17_50 = some (r1, r2, r3, r4, r5, r6, r7)) ∧ Aside0 (kq ≤ kj20) ∧ Aside0 (Below w.heap.size w wc))
         case first =>
          have H := HC51.out
          clear HC51
          by_cases c52 : x13_20 = true
          ·subst c52
           have H1 : (strconv_readFloat.j10 kj20 a0 x2_20 0 x4_4 x5_20 x6_18 x7_20 false x9_20 x10_18 x12_18 x16_20 x17_20) = some (r1, r2, r3, r4, r5, r6, r7) := by rw [if_pos rfl] at H; exact H
           clear H
           have H := H1
           clear H1
           as_aux_lemma =>
            have H' := aM H
            clear H
            go_wp2
            go_meet
            case rel => exact ⟨_, (x17_20), (xR), H', ⟨by have := HJ4.out; have := HJ7.out; have := HJ18.out; have := HJ20.out; omega⟩, ⟨hB⟩⟩
          replace c52 := Bool.eq_false_iff.mpr c52
          subst c52
          have H1 : (strconv_readFloat.j10 kj20 a0 x2_20 0 x4_4 x5_20 x6_18 x7_20 false x9_20 x10_18 x12_18 x16_20 x15_20) = some (r1, r2, r3, r4, r5, r6, r7) := by rw [if_neg (show ¬ (false = true) by decide)] at H; exact H
          clear H
          have H := H1
          clear H1
          as_aux_lemma =>
           have H' := aM H
           clear H
           go_wp2
           go_meet
           case rel => exact ⟨_, (x15_20), (xR), H', ⟨by have := HJ4.out; have := HJ7.out; have := HJ18.out; have := HJ20.out; omega⟩, ⟨hB⟩⟩
         case rest => as_aux_lemma =>
          clear HC51
          (try clear c1); (try clear p1); (try clear q1); (try clear hx1); (try clear c2); (try clear c2b0); (try clear c2b1); (try clear p2); (try clear q2); (try clear hx2); (try clear c3); (try clear c3b0); (try clear c3b1); (try clear c4); (try clear p4); (try clear q4); (try clear hx4); (try clear qi4); (try clear c5); (try clear c6); (try clear c6b0); (try clear c6b1); (try clear p6); (try clear c7)
          (try clear c7b0); (try clear c7b1); (try clear c9); (try clear c9b0); (try clear c10); (try clear c10b0); (try clear c11); (try clear c11b0); (try clear p12); (try clear q12); (try clear hx12); (try clear c13); (try clear c13b0); (try clear c13b1); (try clear c15); (try clear c15b0); (try clear c16); (try clear c16b0); (try clear p17); (try clear q17); (try clear hx17); (try clear c20); (try clear c22)
          (try clear c22b0); (try clear c23); (try clear c23b0); (try clear p24); (try clear q24); (try clear hx24); (try clear c26); (try clear c26b0); (try clear c26b1); (try clear c27); (try clear c29); (try clear c29b0); (try clear c29b1); (try clear c30); (try clear c31); (try clear c33); (try clear c33b0); (try clear c34); (try clear c34b0); (try clear c35); (try clear c37); (try clear c37b0)
          (try clear c37b1); (try clear c38); (try clear c39); (try clear c39b0); (try clear c40); (try clear c40b0); (try clear c40b1); (try clear c42); (try clear c42b0); (try clear c42b1); (try clear c44); (try clear c44b0); (try clear c46); (try clear c46b0); (try clear c47); (try clear c48); (try clear c48b0); (try clear c50); (try clear c52); (try clear p1); (try clear p12); (try clear p17); (try clear p2)
          (try clear p24); (try clear p4); (try clear p6); (try clear q1); (try clear q12); (try clear q17); (try clear q2); (try clear q24); (try clear q4)
          obtain ⟨kq, x17_50, rfl, HA, HJ50, HB⟩ := hcut
          cases kq with
          | zero => exact absurd HA.out (by simp [strconv_readFloat.j10])
          | succ kj50 =>
           have H := HA.out
           clear HA
           simp only [strconv_readFloat.j10] at H
           have HC53 := aM H
           clear H
           go_upto_if 145 with (fail)
           go_cut [16, 17] (fun v16 v17 wc => ∃ (kq : Nat) (x16_52 : Int) (x17_52 : Int), v16 = .int .i64 x16_52 ∧ v17 = .int .i64 x17_52 ∧ Aside0 (strconv_readFloat.j11 kq a0 x2_20 0 x4_4 x5_20 x6_18 x7_20 false x9_20 x10_18 x12_18 x16_52 x17_52 = some (r1, r2, r3, r4, r5, r6, r7)) ∧ Aside0 (kq ≤ kj50) ∧ Aside0 (Below w.heap.size w wc))
           case first =>
            have H := HC53.out
            clear HC53
            by_cases c54 : x10_18 = 16
            rotate_left
            ·rw [if_neg c54] at H
             have c54b0 : (x10_18 == 16) = false := beq_eq_false_iff_ne.mpr c54
             have c54b1 : (x10_18 != 16) = true := bne_iff_ne.mpr c54
             (first | rw [c54b0] | (simp only [i64_w, i32_w]; rw [c54b0]) | skip)
             as_aux_lemma =>
              have H' := aM H
              clear H
              go_wp2
              go_meet
              case rel => exact ⟨_, (x16_20), (x17_50), (xR), (xR), H', ⟨by have := HJ4.out; have := HJ7.out; have := HJ18.out; have := HJ20.out; have := HJ50.out; omega⟩, ⟨hB⟩⟩
            rw [if_pos c54] at H
            have c54b0 : (x10_18 == 16) = true := beq_iff_eq.mpr c54
            have c54b1 : (x10_18 != 16) = false := bne_eq_false_iff_eq.mpr c54
            clear c54
            (first | rw [c54b0] | (simp only [i64_w, i32_w]; rw [c54b0]) | skip)
            as_aux_lemma =>
             have H' := aM H
             clear H
             go_wp2
             go_meet
             case rel => exact ⟨_, (wrap64 (x16_20 * 4)), (wrap64 (x17_50 * 4)), (xR), (xR), H', ⟨by have := HJ4.out; have := HJ7.out; have := HJ18.out; have := HJ20.out; have := HJ50.out; omega⟩, ⟨hB⟩⟩
           case rest => as_aux_lemma =>
            clear HC53
            (try clear c1); (try clear p1); (try clear q1); (try clear hx1); (try clear c2); (try clear c2b0); (try clear c2b1); (try clear p2); (try clear q2); (try clear hx2); (try clear c3); (try clear c3b0); (try clear c3b1); (try clear c4); (try clear p4); (try clear q4); (try clear hx4); (try clear qi4); (try clear c5); (try clear c6); (try clear c6b0); (try clear c6b1); (try clear p6); (try clear c7)
            (try clear c7b0); (try clear c7b1); (try clear c9); (try clear c9b0); (try clear c10); (try clear c10b0); (try clear c11); (try clear c11b0); (try clear p12); (try clear q12); (try clear hx12); (try clear c13); (try clear c13b0); (try clear c13b1); (try clear c15); (try clear c15b0); (try clear c16); (try clear c16b0); (try clear p17); (try clear q17); (try clear hx17); (try clear c20)
            (try clear c22); (try clear c22b0); (try clear c23); (try clear c23b0); (try clear p24); (try clear q24); (try clear hx24); (try clear c26); (try clear c26b0); (try clear c26b1); (try clear c27); (try clear c29); (try clear c29b0); (try clear c29b1); (try clear c30); (try clear c31); (try clear c33); (try clear c33b0); (try clear c34); (try clear c34b0); (try clear c35); (try clear c37)
            (try clear c37b0); (try clear c37b1); (try clear c38); (try clear c39); (try clear c39b0); (try clear c40); (try clear c40b0); (try clear c40b1); (try clear c42); (try clear c42b0); (try clear c42b1); (try clear c44); (try clear c44b0); (try clear c46); (try clear c46b0); (try clear c47); (try clear c48); (try clear c48b0); (try clear c50); (try clear c52); (try clear c54); (try clear c54b0)
            (try clear c54b1); (try clear p1); (try clear p12); (try clear p17); (try clear p2); (try clear p24); (try clear p4); (try clear p6); (try clear q1); (try clear q12); (try clear q17); (try clear q2); (try clear q24); (try clear q4)
            obtain ⟨kq, x16_52, x17_52, rfl, rfl, HA, HJ52, HB⟩ := hcut
            cases kq with
            | zero => exact absurd HA.out (by simp [strconv_readFloat.j11])
            | succ kj52 =>
             have H := HA.out
             clear HA
             simp only [strconv_readFloat.j11] at H
             have HC55 := aM H
             clear H
             go_upto_region 57 with (fail)
             go_cut [161] (fun v161 wc => ∃ (kq : Nat) (x161_54 : Bool), v161 = .bool x161_54 ∧ Aside0 (strconv_readFloat.j12 kq a0 x2_20 0 x4_4 x5_20 x6_18 x7_20 false x9_20 x10_18 x16_52 x17_52 x161_54 = some (r1, r2, r3, r4, r5, r6, r7)) ∧ Aside0 (kq ≤ kj52) ∧ Aside0 (Below w.heap.size w wc))
             case first =>
              have H := HC55.out
              clear HC55
              by_cases c56 : x7_20 < (a0.size : Int)
              rotate_left
              ·rw [if_neg c56] at H
               have c56b0 : decide (x7_20 < (a0.size : Int)) = false := decide_eq_false c56
               clear c56
               (first | rw [c56b0] | (simp only [i64_w, i32_w]; rw [c56b0]) | skip)
               as_aux_lemma =>
                have H' := aM H
                clear H
                go_wp2
                go_meet
                case rel => exact ⟨_, (false), (xR), H', ⟨by have := HJ4.out; have := HJ7.out; have := HJ18.out; have := HJ20.out; have := HJ50.out; have := HJ52.out; omega⟩, ⟨hB⟩⟩
              rw [if_pos c56] at H
              have c56b0 : decide (x7_20 < (a0.size : Int)) = true := decide_eq_true c56
              clear c56
              (first | rw [c56b0] | (simp only [i64_w, i32_w]; rw [c56b0]) | skip)
              by_cases c57 : 0 ≤ x7_20
              rotate_left
              ·rw [if_neg c57] at H
               exact absurd H (by simp)
              rw [if_pos c57] at H
              have c57b0 : decide (0 ≤ x7_20) = true := decide_eq_true c57
              clear c57
              replace H := Option.bind_eq_some_iff.mp H
              obtain ⟨t105, A590, H⟩ := H
              replace H : (strconv_readFloat.j12 kj52 a0 x2_20 0 x4_4 x5_20 x6_18 x7_20 false x9_20 x10_18 x16_52 x17_52 (t105 == x12_18)) = some (r1, r2, r3, r4, r5, r6, r7) := H
              have A59 := aM A590
              clear A590
              as_aux_lemma =>
               have H' := aM H
               clear H
               have p58 : 0 ≤ (x7_20 : Int) := oA
               have q58 : x7_20 < (a0.size : Int) := oA
               have hx58 := bt_at a0 x7_20
               replace p58 := eq_true p58
               replace q58 := eq_true q58
               go_wp2_with (first | (go_at_call 96; (with_reducible refine (strconv_lower.calls (bt a0 x7_20) t105 _ A59.out).mono ?_); rintro e w' ⟨rfl, ⟨nd, rfl⟩⟩))
               go_meet
               case rel => exact ⟨_, ((t105 == x12_18)), (xR), H', ⟨by have := HJ4.out; have := HJ7.out; have := HJ18.out; have := HJ20.out; have := HJ50.out; have := HJ52.out; omega⟩, ⟨hB⟩⟩
             case rest => as_aux_lemma =>
              clear HC55
              (try clear c1); (try clear p1); (try clear q1); (try clear hx1); (try clear c2); (try clear c2b0); (try clear c2b1); (try clear p2); (try clear q2); (try clear hx2); (try clear c3); (try clear c3b0); (try clear c3b1); (try clear c4); (try clear p4); (try clear q4); (try clear hx4); (try clear qi4); (try clear c5); (try clear p5); (try clear q5); (try clear hx5); (try clear c6); (try clear c6b0)
              (try clear c6b1); (try clear p6); (try clear c7); (try clear c7b0); (try clear c7b1); (try clear c9); (try clear c9b0); (try clear c10); (try clear c10b0); (try clear c11); (try clear c11b0); (try clear p12); (try clear q12); (try clear hx12); (try clear c13); (try clear c13b0); (try clear c13b1); (try clear c15); (try clear c15b0); (try clear c16); (try clear c16b0); (try clear p17)
              (try clear q17); (try clear hx17); (try clear c20); (try clear c22); (try clear c22b0); (try clear c23); (try clear c23b0); (try clear p24); (try clear q24); (try clear hx24); (try clear c26); (try clear c26b0); (try clear c26b1); (try clear c27); (try clear c29); (try clear c29b0); (try clear c29b1); (try clear c30); (try clear c31); (try clear c33); (try clear c33b0); (try clear c34)
              (try clear c34b0); (try clear c35); (try clear c37); (try clear c37b0); (try clear c37b1); (try clear c38); (try clear c39); (try clear c39b0); (try clear c40); (try clear c40b0); (try clear c40b1); (try clear c42); (try clear c42b0); (try clear c42b1); (try clear c44); (try clear c44b0); (try clear c46); (try clear c46b0); (try clear c47); (try clear c48); (try clear c48b0); (try clear c50)
              (try clear c52); (try clear c54); (try clear c54b0); (try clear c54b1); (try clear c56); (try clear c56b0); (try clear c57); (try clear c57b0); (try clear p58); (try clear q58); (try clear hx58); (try clear p1); (try clear p12); (try clear p17); (try clear p2); (try clear p24); (try clear p4); (try clear p58); (try clear p6); (try clear q1); (try clear q12); (try clear q17); (try clear q2)
              (try clear q24); (try clear q4); (try clear q58)
              obtain ⟨kq, x161_54, rfl, HA, HJ54, HB⟩ := hcut
              cases kq with
              | zero => exact absurd HA.out (by simp [strconv_readFloat.j12])
              | succ kj54 =>
               have H := HA.out
               clear HA
               simp only [strconv_readFloat.j12] at H
               have HC60 := aM H
               clear H
               go_upto_if 161 with (fail)
               go_cut [7, 9, 17] (fun v7 v9 v17 wc => ∃ (kq : Nat) (x7_59 : Int) (x9_59 : Bool) (x17_59 : Int), v7 = .int .i64 x7_59 ∧ v9 = .bool x9_59 ∧ v17 = .int .i64 x17_59 ∧ Aside0 (strconv_readFloat.j17 kq a0 x2_20 0 x4_4 x5_20 x6_18 x7_59 false x9_59 x16_52 x17_59 = some (r1, r2, r3, r4, r5, r6, r7)) ∧ Aside0 (kq ≤ kj54) ∧ Aside0 (Below w.heap.size w wc))
               case first =>
                have H := HC60.out
                clear HC60
                by_cases c61 : x161_54 = true
                rotate_left
                ·replace c61 := Bool.eq_false_iff.mpr c61
                 subst c61
                 have H1 : (if x10_18 = 16 then (some (x2_20, 0, x4_4, x5_20, x6_18, x7_20, false)) else (strconv_readFloat.j17 kj54 a0 x2_20 0 x4_4 x5_20 x6_18 x7_20 false x9_20 x16_52 x17_52)) = some (r1, r2, r3, r4, r5, r6, r7) := by rw [if_neg (show ¬ (false = true) by decide)] at H; exact H
                 clear H
                 have H := H1
                 clear H1
                 by_cases c94 : x10_18 = 16
                 rotate_left
                 ·rw [if_neg c94] at H
                  have c94b0 : (x10_18 == 16) = false := beq_eq_false_iff_ne.mpr c94
                  have c94b1 : (x10_18 != 16) = true := bne_iff_ne.mpr c94
                  as_aux_lemma =>
                   have H' := aM H
                   clear H
                   go_wp2
                   go_meet
                   case rel => exact ⟨_, (x7_20), (x9_20), (x17_52), (xR), (xR), (xR), H', ⟨by have := HJ4.out; have := HJ7.out; have := HJ18.out; have := HJ20.out; have := HJ50.out; have := HJ52.out; have := HJ54.out; omega⟩, ⟨hB⟩⟩
                 rw [if_pos c94] at H
                 have c94b0 : (x10_18 == 16) = true := beq_iff_eq.mpr c94
                 have c94b1 : (x10_18 != 16) = false := bne_eq_false_iff_eq.mpr c94
                 clear c94
                 as_aux_lemma =>
                  simp only [Option.some.injEq, Prod.mk.injEq] at H
                  obtain ⟨rfl, rfl, rfl, rfl, rfl, rfl, rfl⟩ := H
                  go_wp2
                  (try simp only [Exit.noGoto_ret])
                  refine bodyPost_ret (results_list (rs := [.tmp 2, .tmp 3, .tmp 4, .tmp 5, .tmp 6, .tmp 7, .tmp 8]) rfl (by simp) (.tmp (.tmp (.tmp (.tmp (.tmp (.tmp (.tmp .nil)))))))) rfl ?_
                  exact ⟨by first | rfl | (simp [errW_none, errW_some] <;> rfl) | (simp [*, errW_none, errW_some] <;> rfl), hB⟩
                subst c61
                have H1 : (if (wrap64 (x7_20 + 1)) ≥ (a0.size : Int) then (some (x2_20, 0, x4_4, x5_20, x6_18, wrap64 (x7_20 + 1), false)) else (if 0 ≤ (wrap64 (x7_20 + 1)) then (if (wrap64 (x7_20 + 1)) < (a0.size : Int) then (if (bt a0 (wrap64 (x7_20 + 1))) = 43 then (strconv_readFloat.j13 kj54 a0 x2_20 0 x4_4 x5_20 x6_18 (wrap64 ((wrap64 (x7_20 + 1)) + 1)) false x9_20 x16_52 x17_52 1) else (if (bt a0 (wrap64 (x7_20 + 1))) = 45 then (strconv_readFloat.j13 kj54 a0 x2_20 0 x4_4 x5_20 x6_18 (wrap64 ((wrap64 (x7_20 + 1)) + 1)) false x9_20 x16_52 x17_52 (-1)) else (strconv_readFloat.j13 kj54 a0 x2_20 0 x4_4 x5_20 x6_18 (wrap64 (x7_20 + 1)) false x9_20 x16_52 x17_52 1))) else (none)) else (none))) = some (r1, r2, r3, r4, r5, r6, r7) := by rw [if_pos rfl] at H; exact H
                clear H
                have H := H1
                clear H1
                by_cases c62 : (wrap64 (x7_20 + 1)) ≥ (a0.size : Int)
                ·rw [if_pos c62] at H
                 have c62b0 : decide ((a0.size : Int) ≤ (wrap64 (x7_20 + 1))) = true := decide_eq_true c62
                 clear c62
                 (first | rw [c62b0] | (simp only [i64_w, i32_w]; rw [c62b0]) | skip)
                 as_aux_lemma =>
                  simp only [Option.some.injEq, Prod.mk.injEq] at H
                  obtain ⟨rfl, rfl, rfl, rfl, rfl, rfl, rfl⟩ := H
                  go_wp2
                  (try simp only [Exit.noGoto_ret])
                  refine bodyPost_ret (results_list (rs := [.tmp 2, .tmp 3, .tmp 4, .tmp 5, .tmp 6, .tmp 7, .tmp 8]) rfl (by simp) (.tmp (.tmp (.tmp (.tmp (.tmp (.tmp (.tmp .nil)))))))) rfl ?_
                  exact ⟨by first | rfl | (simp [errW_none, errW_some] <;> rfl) | (simp [*, errW_none, errW_some] <;> rfl), hB⟩
                rw [if_neg c62] at H
                have c62b0 : decide ((a0.size : Int) ≤ (wrap64 (x7_20 + 1))) = false := decide_eq_false c62
                clear c62
                (first | rw [c62b0] | (simp only [i64_w, i32_w]; rw [c62b0]) | skip)
                obtain ⟨ji63, hji63⟩ : ∃ j_ : Int, (wrap64 (x7_20 + 1)) = j_ := ⟨_, rfl⟩
                replace H : (if 0 ≤ (ji63) then (if (ji63) < (a0.size : Int) then (if (bt a0 (ji63)) = 43 then (strconv_readFloat.j13 kj54 a0 x2_20 0 x4_4 x5_20 x6_18 (wrap64 ((ji63) + 1)) false x9_20 x16_52 x17_52 1) else (if (bt a0 (ji63)) = 45 then (strconv_readFloat.j13 kj54 a0 x2_20 0 x4_4 x5_20 x6_18 (wrap64 ((ji63) + 1)) false x9_20 x16_52 x17_52 (-1)) else (strconv_readFloat.j13 kj54 a0 x2_20 0 x4_4 x5_20 x6_18 ji63 false x9_20 x16_52 x17_52 1))) else (none)) else (none)) = some (r1, r2, r3, r4, r5, r6, r7) := by first | (rw [hji63] at H; exact H) | (simp only [hji63] at H ⊢; exact H)
                (try rw [hji63] at c62b0)
                have hji63w : (IntKind.i64.wrap (x7_20 + 1)) = ji63 := (i64_w _).trans hji63
                by_cases c64 : 0 ≤ (ji63)
                rotate_left
                ·rw [if_neg c64] at H
                 exact absurd H (by simp)
                rw [if_pos c64] at H
                have c64b0 : decide (0 ≤ (ji63)) = true := decide_eq_true c64
                clear c64
                by_cases c65 : (ji63) < (a0.size : Int)
                rotate_left
                ·rw [if_neg c65] at H
                 exact absurd H (by simp)
                rw [if_pos c65] at H
                have c65b0 : decide ((ji63) < (a0.size : Int)) = true := decide_eq_true c65
                clear c65
                have HC67 := aM H
                clear H
                have p66 : 0 ≤ ((ji63) : Int) := oA
                have q66 : (ji63) < (a0.size : Int) := oA
                have hx66 := bt_at a0 (ji63)
                replace p66 := eq_true p66
                replace q66 := eq_true q66
                go_upto_block 4 with (fail)
                go_cut [7, 19] (fun v7 v19 wc => ∃ (kq : Nat) (x7_66 : Int) (x19_66 : Int), v7 = .int .i64 x7_66 ∧ v19 = .int .i64 x19_66 ∧ Aside0 (strconv_readFloat.j13 kq a0 x2_20 0 x4_4 x5_20 x6_18 x7_66 false x9_20 x16_52 x17_52 x19_66 = some (r1, r2, r3, r4, r5, r6, r7)) ∧ Aside0 (kq ≤ kj54) ∧ Aside0 (Below w.heap.size w wc))
                case first =>
                 have H := HC67.out
                 clear HC67
                 by_cases c68 : (bt a0 (ji63)) = 43
                 ·rw [if_pos c68] at H
                  have c68b0 : ((bt a0 (ji63)) == 43) = true := beq_iff_eq.mpr c68
                  have c68b1 : ((bt a0 (ji63)) != 43) = false := bne_eq_false_iff_eq.mpr c68
                  clear c68
                  (first | rw [c68b0] | (simp only [i64_w, i32_w]; rw [c68b0]) | skip)
                  as_aux_lemma =>
                   have H' := aM H
                   clear H
                   go_wp2
                   go_meet
                   case rel => exact ⟨_, (wrap64 ((ji63) + 1)), (1), (by first | rfl | (simp; done) | (simp only [← hji63] <;> (first | rfl | simp)) | (simp [*]; done)), (xR), H', ⟨by have := HJ4.out; have := HJ7.out; have := HJ18.out; have := HJ20.out; have := HJ50.out; have := HJ52.out; have := HJ54.out; omega⟩, ⟨hB⟩⟩
                 rw [if_neg c68] at H
                 have c68b0 : ((bt a0 (ji63)) == 43) = false := beq_eq_false_iff_ne.mpr c68
                 have c68b1 : ((bt a0 (ji63)) != 43) = true := bne_iff_ne.mpr c68
                 (first | rw [c68b0] | (simp only [i64_w, i32_w]; rw [c68b0]) | skip)
                 by_cases c69 : (bt a0 (ji63)) = 45
                 rotate_left
                 ·rw [if_neg c69] at H
                  have c69b0 : ((bt a0 (ji63)) == 45) = false := beq_eq_false_iff_ne.mpr c69
                  have c69b1 : ((bt a0 (ji63)) != 45) = true := bne_iff_ne.mpr c69
                  as_aux_lemma =>
                   have H' := aM H
                   clear H
                   go_wp2
                   go_meet
                   case rel => exact ⟨_, (ji63), (1), (by first | rfl | (simp; done) | (simp only [← hji63] <;> (first | rfl | simp)) | (simp [*]; done)), (xR), H', ⟨by have := HJ4.out; have := HJ7.out; have := HJ18.out; have := HJ20.out; have := HJ50.out; have := HJ52.out; have := HJ54.out; omega⟩, ⟨hB⟩⟩
                 rw [if_pos c69] at H
                 have c69b0 : ((bt a0 (ji63)) == 45) = true := beq_iff_eq.mpr c69
                 have c69b1 : ((bt a0 (ji63)) != 45) = false := bne_eq_false_iff_eq.mpr c69
                 clear c69
                 as_aux_lemma =>
                  have H' := aM H
                  clear H
                  go_wp2
                  go_meet
                  case rel => exact ⟨_, (wrap64 ((ji63) + 1)), ((-1)), (by first | rfl | (simp; done) | (simp only [← hji63] <;> (first | rfl | simp)) | (simp [*]; done)), (xR), H', ⟨by have := HJ4.out; have := HJ7.out; have := HJ18.out; have := HJ20.out; have := HJ50.out; have := HJ52.out; have := HJ54.out; omega⟩, ⟨hB⟩⟩
                case rest => as_aux_lemma =>
                 clear HC67
                 (try clear c1); (try clear p1); (try clear q1); (try clear hx1); (try clear c2); (try clear c2b0); (try clear c2b1); (try clear p2); (try clear q2); (try clear hx2); (try clear c3); (try clear c3b0); (try clear c3b1); (try clear c4); (try clear p4); (try clear q4); (try clear hx4); (try clear qi4); (try clear c5); (try clear p5); (try clear q5); (try clear hx5); (try clear c6); (try clear c6b0)
                 (try clear c6b1); (try clear p6); (try clear q6); (try clear hx6); (try clear c7); (try clear c7b0); (try clear c7b1); (try clear c9); (try clear c9b0); (try clear c10); (try clear c10b0); (try clear c11); (try clear c11b0); (try clear p12); (try clear q12); (try clear hx12); (try clear c13); (try clear c13b0); (try clear c13b1); (try clear c15); (try clear c15b0); (try clear c16)
                 (try clear c16b0); (try clear p17); (try clear q17); (try clear hx17); (try clear c20); (try clear c22); (try clear c22b0); (try clear c23); (try clear c23b0); (try clear p24); (try clear q24); (try clear hx24); (try clear c26); (try clear c26b0); (try clear c26b1); (try clear c27); (try clear c29); (try clear c29b0); (try clear c29b1); (try clear c30); (try clear c31); (try clear c33)
                 (try clear c33b0); (try clear c34); (try clear c34b0); (try clear c35); (try clear c37); (try clear c37b0); (try clear c37b1); (try clear c38); (try clear c39); (try clear c39b0); (try clear c40); (try clear c40b0); (try clear c40b1); (try clear c42); (try clear c42b0); (try clear c42b1); (try clear c44); (try clear c44b0); (try clear c46); (try clear c46b0); (try clear c47); (try clear c48)
                 (try clear c48b0); (try clear c50); (try clear c52); (try clear c54); (try clear c54b0); (try clear c54b1); (try clear c56); (try clear c56b0); (try clear c57); (try clear c57b0); (try clear p58); (try clear q58); (try clear hx58); (try clear c61); (try clear c62); (try clear c62b0); (try clear c64); (try clear c64b0); (try clear p64); (try clear c65); (try clear c65b0); (try clear p66)
                 (try clear q66); (try clear hx66); (try clear c68); (try clear c68b0); (try clear c68b1); (try clear c69); (try clear c69b0); (try clear c69b1); (try clear p1); (try clear p12); (try clear p17); (try clear p2); (try clear p24); (try clear p4); (try clear p5); (try clear p58); (try clear p6); (try clear p66); (try clear q1); (try clear q12); (try clear q17); (try clear q2); (try clear q24)
                 (try clear q4); (try clear q5); (try clear q58); (try clear q66)
                 obtain ⟨kq, x7_66, x19_66, rfl, rfl, HA, HJ66, HB⟩ := hcut
                 cases kq with
                 | zero => exact absurd HA.out (by simp [strconv_readFloat.j13])
                 | succ kj66 =>
                  have H := HA.out
                  clear HA
                  simp only [strconv_readFloat.j13] at H
                  have HC70 := aM H
                  clear H
                  go_upto_region 67 with (fail)
                  go_cut [194] (fun v194 wc => ∃ (kq : Nat) (x194_69 : Bool), v194 = .bool x194_69 ∧ Aside0 (strconv_readFloat.j14 kq a0 x2_20 0 x4_4 x5_20 x6_18 x7_66 false x9_20 x16_52 x17_52 x19_66 x194_69 = some (r1, r2, r3, r4, r5, r6, r7)) ∧ Aside0 (kq ≤ kj66) ∧ Aside0 (Below w.heap.size w wc))
                  case first =>
                   have H := HC70.out
                   clear HC70
                   by_cases c71 : x7_66 ≥ (a0.size : Int)
                   ·rw [if_pos c71] at H
                    have c71b0 : decide ((a0.size : Int) ≤ x7_66) = true := decide_eq_true c71
                    clear c71
                    (first | rw [c71b0] | (simp only [i64_w, i32_w]; rw [c71b0]) | skip)
                    as_aux_lemma =>
                     have H' := aM H
                     clear H
                     go_wp2
                     go_meet
                     case rel => exact ⟨_, (true), (xR), H', ⟨by have := HJ4.out; have := HJ7.out; have := HJ18.out; have := HJ20.out; have := HJ50.out; have := HJ52.out; have := HJ54.out; have := HJ66.out; omega⟩, ⟨hB⟩⟩
                   rw [if_neg c71] at H
                   have c71b0 : decide ((a0.size : Int) ≤ x7_66) = false := decide_eq_false c71
                   clear c71
                   (first | rw [c71b0] | (simp only [i64_w, i32_w]; rw [c71b0]) | skip)
                   by_cases c72 : 0 ≤ x7_66
                   rotate_left
                   ·rw [if_neg c72] at H
                    exact absurd H (by simp)
                   rw [if_pos c72] at H
                   have c72b0 : decide (0 ≤ x7_66) = true := decide_eq_true c72
                   clear c72
                   by_cases c73 : x7_66 < (a0.size : Int)
                   rotate_left
                   ·rw [if_neg c73] at H
                    exact absurd H (by simp)
                   rw [if_pos c73] at H
                   have c73b0 : decide (x7_66 < (a0.size : Int)) = true := decide_eq_true c73
                   clear c73
                   by_cases c75 : (bt a0 x7_66) < 48
                   ·rw [if_pos c75] at H
                    have c75b0 : decide ((bt a0 x7_66) < 48) = true := decide_eq_true c75
                    clear c75
                    as_aux_lemma =>
                     have H' := aM H
                     clear H
                     have p74 : 0 ≤ (x7_66 : Int) := oA
                     have q74 : x7_66 < (a0.size : Int) := oA
                     have hx74 := bt_at a0 x7_66
                     replace p74 := eq_true p74
                     replace q74 := eq_true q74
                     go_wp2
                     go_meet
                     case rel => exact ⟨_, (true), (xR), H', ⟨by have := HJ4.out; have := HJ7.out; have := HJ18.out; have := HJ20.out; have := HJ50.out; have := HJ52.out; have := HJ54.out; have := HJ66.out; omega⟩, ⟨hB⟩⟩
                   rw [if_neg c75] at H
                   have c75b0 : decide ((bt a0 x7_66) < 48) = false := decide_eq_false c75
                   clear c75
                   as_aux_lemma =>
                    have H' := aM H
                    clear H
                    have p74 : 0 ≤ (x7_66 : Int) := oA
                    have q74 : x7_66 < (a0.size : Int) := oA
                    have hx74 := bt_at a0 x7_66
                    replace p74 := eq_true p74
                    replace q74 := eq_true q74
                    have p76 : 0 ≤ (x7_66 : Int) := oA
                    have q76 : x7_66 < (a0.size : Int) := oA
                    have hx76 := bt_at a0 x7_66
                    replace p76 := eq_true p76
                    replace q76 := eq_true q76
                    go_wp2
                    go_meet
                    case rel => exact ⟨_, (decide ((bt a0 x7_66) > 57)), (xR), H', ⟨by have := HJ4.out; have := HJ7.out; have := HJ18.out; have := HJ20.out; have := HJ50.out; have := HJ52.out; have := HJ54.out; have := HJ66.out; omega⟩, ⟨hB⟩⟩
                  case rest => as_aux_lemma =>
                   clear HC70
                   (try clear c1); (try clear p1); (try clear q1); (try clear hx1); (try clear c2); (try clear c2b0); (try clear c2b1); (try clear p2); (try clear q2); (try clear hx2); (try clear c3); (try clear c3b0); (try clear c3b1); (try clear c4); (try clear p4); (try clear q4); (try clear hx4); (try clear qi4); (try clear c5); (try clear p5); (try clear q5); (try clear hx5); (try clear c6); (try clear c6b0)
                   (try clear c6b1); (try clear p6); (try clear q6); (try clear hx6); (try clear c7); (try clear c7b0); (try clear c7b1); (try clear p7); (try clear q7); (try clear hx7); (try clear c9); (try clear c9b0); (try clear c10); (try clear c10b0); (try clear c11); (try clear c11b0); (try clear p12); (try clear q12); (try clear hx12); (try clear c13); (try clear c13b0); (try clear c13b1); (try clear c15)
                   (try clear c15b0); (try clear c16); (try clear c16b0); (try clear p17); (try clear q17); (try clear hx17); (try clear c20); (try clear c22); (try clear c22b0); (try clear c23); (try clear c23b0); (try clear p24); (try clear q24); (try clear hx24); (try clear c26); (try clear c26b0); (try clear c26b1); (try clear c27); (try clear c29); (try clear c29b0); (try clear c29b1); (try clear c30)
                   (try clear c31); (try clear c33); (try clear c33b0); (try clear c34); (try clear c34b0); (try clear c35); (try clear c37); (try clear c37b0); (try clear c37b1); (try clear c38); (try clear c39); (try clear c39b0); (try clear c40); (try clear c40b0); (try clear c40b1); (try clear c42); (try clear c42b0); (try clear c42b1); (try clear c44); (try clear c44b0); (try clear c46); (try clear c46b0)
                   (try clear c47); (try clear c48); (try clear c48b0); (try clear c50); (try clear c52); (try clear c54); (try clear c54b0); (try clear c54b1); (try clear c56); (try clear c56b0); (try clear c57); (try clear c57b0); (try clear p58); (try clear q58); (try clear hx58); (try clear c61); (try clear c62); (try clear c62b0); (try clear c64); (try clear c64b0); (try clear p64); (try clear c65)
                   (try clear c65b0); (try clear p66); (try clear q66); (try clear hx66); (try clear c68); (try clear c68b0); (try clear c68b1); (try clear c69); (try clear c69b0); (try clear c69b1); (try clear c71); (try clear c71b0); (try clear c72); (try clear c72b0); (try clear c73); (try clear c73b0); (try clear p74); (try clear q74); (try clear hx74); (try clear c75); (try clear c75b0); (try clear p76)
                   (try clear q76); (try clear hx76); (try clear p1); (try clear p12); (try clear p17); (try clear p2); (try clear p24); (try clear p4); (try clear p5); (try clear p58); (try clear p6); (try clear p64); (try clear p66); (try clear p74); (try clear p76); (try clear q1); (try clear q12); (try clear q17); (try clear q2); (try clear q24); (try clear q4); (try clear q5); (try clear q58)
                   (try clear q6); (try clear q66); (try clear q74); (try clear q76)
                   obtain ⟨kq, x194_69, rfl, HA, HJ69, HB⟩ := hcut
                   cases kq with
                   | zero => exact absurd HA.out (by simp [strconv_readFloat.j14])
                   | succ kj69 =>
                    have H := HA.out
                    clear HA
                    simp only [strconv_readFloat.j14] at H
                    by_cases c77 : x194_69 = true
                    ·subst c77
                     have H1 : (some (x2_20, 0, x4_4, x5_20, x6_18, x7_66, false)) = some (r1, r2, r3, r4, r5, r6, r7) := by rw [if_pos rfl] at H; exact H
                     clear H
                     have H := H1
                     clear H1
                     as_aux_lemma =>
                      simp only [Option.some.injEq, Prod.mk.injEq] at H
                      obtain ⟨rfl, rfl, rfl, rfl, rfl, rfl, rfl⟩ := H
                      go_wp2
                      (try simp only [Exit.noGoto_ret])
                      refine bodyPost_ret (results_list (rs := [.tmp 2, .tmp 3, .tmp 4, .tmp 5, .tmp 6, .tmp 7, .tmp 8]) rfl (by simp) (.tmp (.tmp (.tmp (.tmp (.tmp (.tmp (.tmp .nil)))))))) rfl ?_
                      exact ⟨by first | rfl | (simp [errW_none, errW_some] <;> rfl) | (simp only [← hji63]; first | rfl | (simp [errW_none, errW_some] <;> rfl)) | (simp [*, errW_none, errW_some] <;> rfl), hB⟩
                    replace c77 := Bool.eq_false_iff.mpr c77
                    subst c77
                    have H1 : (strconv_readFloat.l1 kj69 a0 x2_20 0 x4_4 x5_20 x6_18 x7_66 false x9_20 x16_52 x17_52 x19_66 0) = some (r1, r2, r3, r4, r5, r6, r7) := by rw [if_neg (show ¬ (false = true) by decide)] at H; exact H
                    clear H
                    have H := H1
                    clear H1
                    have H' := aM H
                    clear H
                    go_wp2
                    go_loopg [7, 9, 20] kj69 (fun kq v7 v9 v20 w' => ∃ (x7_10 : Int) (x9_10 : Bool) (x20_10 : Int), v7 = .int .i64 x7_10 ∧ v9 = .bool x9_10 ∧ v20 = .int .i64 x20_10 ∧ Aside0 (strconv_readFloat.l1 kq a0 x2_20 0 x4_4 x5_20 x6_18 x7_10 false x9_10 x16_52 x17_52 x19_66 x20_10 = some (r1, r2, r3, r4, r5, r6, r7)) ∧ Aside0 (kq ≤ kj69) ∧ Aside0 (Below w.heap.size w w'))
                    case atStart => exact ⟨(x7_66), (x9_20), (0), (xR), (xR), (xR), H', ⟨Nat.le_refl _⟩, ⟨hB⟩⟩
                    case round => as_aux_lemma =>
                     clear H'
                     (try clear c1); (try clear p1); (try clear q1); (try clear hx1); (try clear c2); (try clear c2b0); (try clear c2b1); (try clear p2); (try clear q2); (try clear hx2); (try clear c3); (try clear c3b0); (try clear c3b1); (try clear c4); (try clear p4); (try clear q4); (try clear hx4); (try clear qi4); (try clear c5); (try clear p5); (try clear q5); (try clear hx5); (try clear c6)
                     (try clear c6b0); (try clear c6b1); (try clear p6); (try clear q6); (try clear hx6); (try clear c7); (try clear c7b0); (try clear c7b1); (try clear p7); (try clear q7); (try clear hx7); (try clear c9); (try clear c9b0); (try clear c10); (try clear c10b0); (try clear c11); (try clear c11b0); (try clear p12); (try clear q12); (try clear hx12); (try clear c13); (try clear c13b0); (try clear c13b1)
                     (try clear c15); (try clear c15b0); (try clear c16); (try clear c16b0); (try clear p17); (try clear q17); (try clear hx17); (try clear c20); (try clear c22); (try clear c22b0); (try clear c23); (try clear c23b0); (try clear p24); (try clear q24); (try clear hx24); (try clear c26); (try clear c26b0); (try clear c26b1); (try clear c27); (try clear c29); (try clear c29b0); (try clear c29b1)
                     (try clear c30); (try clear c31); (try clear c33); (try clear c33b0); (try clear c34); (try clear c34b0); (try clear c35); (try clear c37); (try clear c37b0); (try clear c37b1); (try clear c38); (try clear c39); (try clear c39b0); (try clear c40); (try clear c40b0); (try clear c40b1); (try clear c42); (try clear c42b0); (try clear c42b1); (try clear c44); (try clear c44b0); (try clear c46)
                     (try clear c46b0); (try clear c47); (try clear c48); (try clear c48b0); (try clear c50); (try clear c52); (try clear c54); (try clear c54b0); (try clear c54b1); (try clear c56); (try clear c56b0); (try clear c57); (try clear c57b0); (try clear p58); (try clear q58); (try clear hx58); (try clear c61); (try clear c62); (try clear c62b0); (try clear c64); (try clear c64b0); (try clear p64)
                     (try clear c65); (try clear c65b0); (try clear p66); (try clear q66); (try clear hx66); (try clear c68); (try clear c68b0); (try clear c68b1); (try clear c69); (try clear c69b0); (try clear c69b1); (try clear c71); (try clear c71b0); (try clear c72); (try clear c72b0); (try clear c73); (try clear c73b0); (try clear p74); (try clear q74); (try clear hx74); (try clear c75); (try clear c75b0)
                     (try clear p76); (try clear q76); (try clear hx76); (try clear c77); (try clear p1); (try clear p12); (try clear p17); (try clear p2); (try clear p24); (try clear p4); (try clear p5); (try clear p58); (try clear p6); (try clear p64); (try clear p66); (try clear p7); (try clear p74); (try clear p76); (try clear q1); (try clear q12); (try clear q17); (try clear q2); (try clear q24)
                     (try clear q4); (try clear q5); (try clear q58); (try clear q6); (try clear q66); (try clear q7); (try clear q74); (try clear q76)
                     obtain ⟨x7_10, x9_10, x20_10, rfl, rfl, rfl, HA, HK10, HB⟩ := hrel
                     cases gk with
                     | zero => exact absurd HA.out (by simp [strconv_readFloat.l1])
                     | succ k10 =>
                      have H := HA.out
                      clear HA
                      simp only [strconv_readFloat.l1] at H
                      have HC78 := aM H
                      clear H
                      go_upto_region 69 with (fail)
                      go_cut [216] (fun v216 wc => ∃ (kq : Nat) (x216_77 : Bool), v216 = .bool x216_77 ∧ Aside0 (strconv_readFloat.j16 kq a0 x2_20 0 x4_4 x5_20 x6_18 x7_10 false x9_10 x16_52 x17_52 x19_66 x20_10 x216_77 = some (r1, r2, r3, r4, r5, r6, r7)) ∧ Aside0 (kq ≤ k10) ∧ Aside0 (Below w.heap.size w wc))
                      case first =>
                       have H := HC78.out
                       clear HC78
                       by_cases c79 : x7_10 < (a0.size : Int)
                       rotate_left
                       ·rw [if_neg c79] at H
                        have c79b0 : decide (x7_10 < (a0.size : Int)) = false := decide_eq_false c79
                        clear c79
                        (first | rw [c79b0] | (simp only [i64_w, i32_w]; rw [c79b0]) | skip)
                        as_aux_lemma =>
                         have H' := aM H
                         clear H
                         go_wp2
                         go_meet
                         case rel => exact ⟨_, (false), (xR), H', ⟨by have := HJ4.out; have := HJ7.out; have := HJ18.out; have := HJ20.out; have := HJ50.out; have := HJ52.out; have := HJ54.out; have := HJ66.out; have := HJ69.out; have := HK10.out; omega⟩, ⟨hB⟩⟩
                       rw [if_pos c79] at H
                       have c79b0 : decide (x7_10 < (a0.size : Int)) = true := decide_eq_true c79
                       clear c79
                       (first | rw [c79b0] | (simp only [i64_w, i32_w]; rw [c79b0]) | skip)
                       by_cases c80 : 0 ≤ x7_10
                       rotate_left
                       ·rw [if_neg c80] at H
                        exact absurd H (by simp)
                       rw [if_pos c80] at H
                       have c80b0 : decide (0 ≤ x7_10) = true := decide_eq_true c80
                       clear c80
                       by_cases c82 : 48 ≤ (bt a0 x7_10)
                       rotate_left
                       ·rw [if_neg c82] at H
                        have c82b0 : decide (48 ≤ (bt a0 x7_10)) = false := decide_eq_false c82
                        clear c82
                        as_aux_lemma =>
                         have H' := aM H
                         clear H
                         have p81 : 0 ≤ (x7_10 : Int) := oA
                         have q81 : x7_10 < (a0.size : Int) := oA
                         have hx81 := bt_at a0 x7_10
                         replace p81 := eq_true p81
                         replace q81 := eq_true q81
                         have p86 : 0 ≤ (x7_10 : Int) := oA
                         have q86 : x7_10 < (a0.size : Int) := oA
                         have hx86 := bt_at a0 x7_10
                         replace p86 := eq_true p86
                         replace q86 := eq_true q86
                         go_wp2
                         go_meet
                         case rel => exact ⟨_, (((bt a0 x7_10) == 95)), (xR), H', ⟨by have := HJ4.out; have := HJ7.out; have := HJ18.out; have := HJ20.out; have := HJ50.out; have := HJ52.out; have := HJ54.out; have := HJ66.out; have := HJ69.out; have := HK10.out; omega⟩, ⟨hB⟩⟩
                       rw [if_pos c82] at H
                       have c82b0 : decide (48 ≤ (bt a0 x7_10)) = true := decide_eq_true c82
                       clear c82
                       by_cases c84 : (bt a0 x7_10) ≤ 57
                       ·rw [if_pos c84] at H
                        have c84b0 : decide ((bt a0 x7_10) ≤ 57) = true := decide_eq_true c84
                        clear c84
                        as_aux_lemma =>
                         have H' := aM H
                         clear H
                         have p81 : 0 ≤ (x7_10 : Int) := oA
                         have q81 : x7_10 < (a0.size : Int) := oA
                         have hx81 := bt_at a0 x7_10
                         replace p81 := eq_true p81
                         replace q81 := eq_true q81
                         have p83 : 0 ≤ (x7_10 : Int) := oA
                         have q83 : x7_10 < (a0.size : Int) := oA
                         have hx83 := bt_at a0 x7_10
                         replace p83 := eq_true p83
                         replace q83 := eq_true q83
                         go_wp2
                         go_meet
                         case rel => exact ⟨_, (true), (xR), H', ⟨by have := HJ4.out; have := HJ7.out; have := HJ18.out; have := HJ20.out; have := HJ50.out; have := HJ52.out; have := HJ54.out; have := HJ66.out; have := HJ69.out; have := HK10.out; omega⟩, ⟨hB⟩⟩
                       rw [if_neg c84] at H
                       have c84b0 : decide ((bt a0 x7_10) ≤ 57) = false := decide_eq_false c84
                       clear c84
                       as_aux_lemma =>
                        have H' := aM H
                        clear H
                        have p81 : 0 ≤ (x7_10 : Int) := oA
                        have q81 : x7_10 < (a0.size : Int) := oA
                        have hx81 := bt_at a0 x7_10
                        replace p81 := eq_true p81
                        replace q81 := eq_true q81
                        have p83 : 0 ≤ (x7_10 : Int) := oA
                        have q83 : x7_10 < (a0.size : Int) := oA
                        have hx83 := bt_at a0 x7_10
                        replace p83 := eq_true p83
                        replace q83 := eq_true q83
                        have p85 : 0 ≤ (x7_10 : Int) := oA
                        have q85 : x7_10 < (a0.size : Int) := oA
                        have hx85 := bt_at a0 x7_10
                        replace p85 := eq_true p85
                        replace q85 := eq_true q85
                        go_wp2
                        go_meet
                        case rel => exact ⟨_, (((bt a0 x7_10) == 95)), (xR), H', ⟨by have := HJ4.out; have := HJ7.out; have := HJ18.out; have := HJ20.out; have := HJ50.out; have := HJ52.out; have := HJ54.out; have := HJ66.out; have := HJ69.out; have := HK10.out; omega⟩, ⟨hB⟩⟩
                      case rest => as_aux_lemma =>
                       clear HC78
                       (try clear c1); (try clear p1); (try clear q1); (try clear hx1); (try clear c2); (try clear c2b0); (try clear c2b1); (try clear p2); (try clear q2); (try clear hx2); (try clear c3); (try clear c3b0); (try clear c3b1); (try clear c4); (try clear p4); (try clear q4); (try clear hx4); (try clear qi4); (try clear c5); (try clear p5); (try clear q5); (try clear hx5); (try clear c6)
                       (try clear c6b0); (try clear c6b1); (try clear p6); (try clear q6); (try clear hx6); (try clear c7); (try clear c7b0); (try clear c7b1); (try clear p7); (try clear q7); (try clear hx7); (try clear c8); (try clear p8); (try clear q8); (try clear hx8); (try clear c9); (try clear c9b0); (try clear c10); (try clear c10b0); (try clear c11); (try clear c11b0); (try clear p12); (try clear q12)
                       (try clear hx12); (try clear c13); (try clear c13b0); (try clear c13b1); (try clear c15); (try clear c15b0); (try clear c16); (try clear c16b0); (try clear p17); (try clear q17); (try clear hx17); (try clear c20); (try clear c22); (try clear c22b0); (try clear c23); (try clear c23b0); (try clear p24); (try clear q24); (try clear hx24); (try clear c26); (try clear c26b0); (try clear c26b1)
                       (try clear c27); (try clear c29); (try clear c29b0); (try clear c29b1); (try clear c30); (try clear c31); (try clear c33); (try clear c33b0); (try clear c34); (try clear c34b0); (try clear c35); (try clear c37); (try clear c37b0); (try clear c37b1); (try clear c38); (try clear c39); (try clear c39b0); (try clear c40); (try clear c40b0); (try clear c40b1); (try clear c42); (try clear c42b0)
                       (try clear c42b1); (try clear c44); (try clear c44b0); (try clear c46); (try clear c46b0); (try clear c47); (try clear c48); (try clear c48b0); (try clear c50); (try clear c52); (try clear c54); (try clear c54b0); (try clear c54b1); (try clear c56); (try clear c56b0); (try clear c57); (try clear c57b0); (try clear p58); (try clear q58); (try clear hx58); (try clear c61); (try clear c62)
                       (try clear c62b0); (try clear c64); (try clear c64b0); (try clear p64); (try clear c65); (try clear c65b0); (try clear p66); (try clear q66); (try clear hx66); (try clear c68); (try clear c68b0); (try clear c68b1); (try clear c69); (try clear c69b0); (try clear c69b1); (try clear c71); (try clear c71b0); (try clear c72); (try clear c72b0); (try clear c73); (try clear c73b0); (try clear p74)
                       (try clear q74); (try clear hx74); (try clear c75); (try clear c75b0); (try clear p76); (try clear q76); (try clear hx76); (try clear c77); (try clear c79); (try clear c79b0); (try clear c80); (try clear c80b0); (try clear p81); (try clear q81); (try clear hx81); (try clear c82); (try clear c82b0); (try clear p83); (try clear q83); (try clear hx83); (try clear c84); (try clear c84b0)
                       (try clear p85); (try clear q85); (try clear hx85); (try clear p86); (try clear q86); (try clear hx86); (try clear p1); (try clear p12); (try clear p17); (try clear p2); (try clear p24); (try clear p4); (try clear p5); (try clear p58); (try clear p6); (try clear p64); (try clear p66); (try clear p7); (try clear p74); (try clear p76); (try clear p81); (try clear p83); (try clear p85)
                       (try clear p86); (try clear q1); (try clear q12); (try clear q17); (try clear q2); (try clear q24); (try clear q4); (try clear q5); (try clear q58); (try clear q6); (try clear q66); (try clear q7); (try clear q74); (try clear q76); (try clear q81); (try clear q83); (try clear q85); (try clear q86)
                       obtain ⟨kq, x216_77, rfl, HA, HJ77, HB⟩ := hcut
                       cases kq with
                       | zero => exact absurd HA.out (by simp [strconv_readFloat.j16])
                       | succ kj77 =>
                        have H := HA.out
                        clear HA
                        simp only [strconv_readFloat.j16] at H
                        by_cases c87 : x216_77 = true
                        rotate_left
                        ·replace c87 := Bool.eq_false_iff.mpr c87
                         subst c87
                         have H1 : (strconv_readFloat.j17 kj77 a0 x2_20 0 x4_4 x5_20 x6_18 x7_10 false x9_10 x16_52 (wrap64 (x17_52 + (wrap64 (x20_10 * x19_66))))) = some (r1, r2, r3, r4, r5, r6, r7) := by rw [if_neg (show ¬ (false = true) by decide)] at H; exact H
                         clear H
                         have H := H1
                         clear H1
                         as_aux_lemma =>
                          have H' := aM H
                          clear H
                          go_wp2
                          go_meet
                          case rel => exact ⟨_, (x7_10), (x9_10), (wrap64 (x17_52 + (wrap64 (x20_10 * x19_66)))), (xR), (xR), (xR), H', ⟨by have := HJ4.out; have := HJ7.out; have := HJ18.out; have := HJ20.out; have := HJ50.out; have := HJ52.out; have := HJ54.out; have := HJ66.out; have := HJ69.out; have := HK10.out; have := HJ77.out; omega⟩, ⟨hB⟩⟩
                        subst c87
                        have H1 : (if 0 ≤ x7_10 then (if x7_10 < (a0.size : Int) then (if (bt a0 x7_10) = 95 then (strconv_readFloat.l1 kj77 a0 x2_20 0 x4_4 x5_20 x6_18 (wrap64 (x7_10 + 1)) false true x16_52 x17_52 x19_66 x20_10) else (if x20_10 < 10000 then (strconv_readFloat.l1 kj77 a0 x2_20 0 x4_4 x5_20 x6_18 (wrap64 (x7_10 + 1)) false x9_10 x16_52 x17_52 x19_66 (wrap64 ((wrap64 ((wrap64 (x20_10 * 10)) + (wrap64 (bt a0 x7_10)))) - 48))) else (strconv_readFloat.l1 kj77 a0 x2_20 0 x4_4 x5_20 x6_18 (wrap64 (x7_10 + 1)) false x9_10 x16_52 x17_52 x19_66 x20_10))) else (none)) else (none)) = some (r1, r2, r3, r4, r5, r6, r7) := by rw [if_pos rfl] at H; exact H
                        clear H
                        have H := H1
                        clear H1
                        by_cases c88 : 0 ≤ x7_10
                        rotate_left
                        ·rw [if_neg c88] at H
                         exact absurd H (by simp)
                        rw [if_pos c88] at H
                        have c88b0 : decide (0 ≤ x7_10) = true := decide_eq_true c88
                        clear c88
                        by_cases c89 : x7_10 < (a0.size : Int)
                        rotate_left
                        ·rw [if_neg c89] at H
                         exact absurd H (by simp)
                        rw [if_pos c89] at H
                        have c89b0 : decide (x7_10 < (a0.size : Int)) = true := decide_eq_true c89
                        clear c89
                        by_cases c91 : (bt a0 x7_10) = 95
                        ·rw [if_pos c91] at H
                         have c91b0 : ((bt a0 x7_10) == 95) = true := beq_iff_eq.mpr c91
                         have c91b1 : ((bt a0 x7_10) != 95) = false := bne_eq_false_iff_eq.mpr c91
                         clear c91
                         as_aux_lemma =>
                          have H' := aM H
                          clear H
                          have p90 : 0 ≤ (x7_10 : Int) := oA
                          have q90 : x7_10 < (a0.size : Int) := oA
                          have hx90 := bt_at a0 x7_10
                          replace p90 := eq_true p90
                          replace q90 := eq_true q90
                          go_wp2
                          go_roundg kj77
                          case measure => have := HJ4.out; have := HJ7.out; have := HJ18.out; have := HJ20.out; have := HJ50.out; have := HJ52.out; have := HJ54.out; have := HJ66.out; have := HJ69.out; have := HK10.out; have := HJ77.out; omega
                          case rel => exact ⟨(wrap64 (x7_10 + 1)), (true), (x20_10), (xR), (xR), (xR), H', ⟨by have := HJ4.out; have := HJ7.out; have := HJ18.out; have := HJ20.out; have := HJ50.out; have := HJ52.out; have := HJ54.out; have := HJ66.out; have := HJ69.out; have := HK10.out; have := HJ77.out; omega⟩, ⟨hB⟩⟩
                        rw [if_neg c91] at H
                        have c91b0 : ((bt a0 x7_10) == 95) = false := beq_eq_false_iff_ne.mpr c91
                        have c91b1 : ((bt a0 x7_10) != 95) = true := bne_iff_ne.mpr c91
                        by_cases c92 : x20_10 < 10000
                        rotate_left
                        ·rw [if_neg c92] at H
                         have c92b0 : decide (x20_10 < 10000) = false := decide_eq_false c92
                         clear c92
                         as_aux_lemma =>
                          have H' := aM H
                          clear H
                          have p90 : 0 ≤ (x7_10 : Int) := oA
                          have q90 : x7_10 < (a0.size : Int) := oA
                          have hx90 := bt_at a0 x7_10
                          replace p90 := eq_true p90
                          replace q90 := eq_true q90
                          go_wp2
                          go_roundg kj77
                          case measure => have := HJ4.out; have := HJ7.out; have := HJ18.out; have := HJ20.out; have := HJ50.out; have := HJ52.out; have := HJ54.out; have := HJ66.out; have := HJ69.out; have := HK10.out; have := HJ77.out; omega
                          case rel => exact ⟨(wrap64 (x7_10 + 1)), (x9_10), (x20_10), (xR), (xR), (xR), H', ⟨by have := HJ4.out; have := HJ7.out; have := HJ18.out; have := HJ20.out; have := HJ50.out; have := HJ52.out; have := HJ54.out; have := HJ66.out; have := HJ69.out; have := HK10.out; have := HJ77.out; omega⟩, ⟨hB⟩⟩
                        rw [if_pos c92] at H
                        have c92b0 : decide (x20_10 < 10000) = true := decide_eq_true c92
                        clear c92
                        as_aux_lemma =>
                         have H' := aM H
                         clear H
                         have p90 : 0 ≤ (x7_10 : Int) := oA
                         have q90 : x7_10 < (a0.size : Int) := oA
                         have hx90 := bt_at a0 x7_10
                         replace p90 := eq_true p90
                         replace q90 := eq_true q90
                         have p93 : 0 ≤ (x7_10 : Int) := oA
                         have q93 : x7_10 < (a0.size : Int) := oA
                         have hx93 := bt_at a0 x7_10
                         replace p93 := eq_true p93
                         replace q93 := eq_true q93
                         go_wp2
                         go_roundg kj77
                         case measure => have := HJ4.out; have := HJ7.out; have := HJ18.out; have := HJ20.out; have := HJ50.out; have := HJ52.out; have := HJ54.out; have := HJ66.out; have := HJ69.out; have := HK10.out; have := HJ77.out; omega
                         case rel => exact ⟨(wrap64 (x7_10 + 1)), (x9_10), (wrap64 ((wrap64 ((wrap64 (x20_10 * 10)) + (wrap64 (bt a0 x7_10)))) - 48)), (xR), (xR), (xR), H', ⟨by have := HJ4.out; have := HJ7.out; have := HJ18.out; have := HJ20.out; have := HJ50.out; have := HJ52.out; have := HJ54.out; have := HJ66.out; have := HJ69.out; have := HK10.out; have := HJ77.out; omega⟩, ⟨hB⟩⟩
               case rest => as_aux_lemma =>
                clear HC60
                (try clear c1); (try clear p1); (try clear q1); (try clear hx1); (try clear c2); (try clear c2b0); (try clear c2b1); (try clear p2); (try clear q2); (try clear hx2); (try clear c3); (try clear c3b0); (try clear c3b1); (try clear c4); (try clear p4); (try clear q4); (try clear hx4); (try clear qi4); (try clear c5); (try clear p5); (try clear q5); (try clear hx5); (try clear c6); (try clear c6b0)
                (try clear c6b1); (try clear p6); (try clear q6); (try clear hx6); (try clear c7); (try clear c7b0); (try clear c7b1); (try clear p7); (try clear q7); (try clear hx7); (try clear c8); (try clear p8); (try clear q8); (try clear hx8); (try clear c9); (try clear c9b0); (try clear p9); (try clear q9); (try clear hx9); (try clear c10); (try clear c10b0); (try clear c11); (try clear c11b0)
                (try clear p12); (try clear q12); (try clear hx12); (try clear c13); (try clear c13b0); (try clear c13b1); (try clear c15); (try clear c15b0); (try clear c16); (try clear c16b0); (try clear p17); (try clear q17); (try clear hx17); (try clear c20); (try clear c22); (try clear c22b0); (try clear c23); (try clear c23b0); (try clear p24); (try clear q24); (try clear hx24); (try clear c26)
                (try clear c26b0); (try clear c26b1); (try clear c27); (try clear c29); (try clear c29b0); (try clear c29b1); (try clear c30); (try clear c31); (try clear c33); (try clear c33b0); (try clear c34); (try clear c34b0); (try clear c35); (try clear c37); (try clear c37b0); (try clear c37b1); (try clear c38); (try clear c39); (try clear c39b0); (try clear c40); (try clear c40b0); (try clear c40b1)
                (try clear c42); (try clear c42b0); (try clear c42b1); (try clear c44); (try clear c44b0); (try clear c46); (try clear c46b0); (try clear c47); (try clear c48); (try clear c48b0); (try clear c50); (try clear c52); (try clear c54); (try clear c54b0); (try clear c54b1); (try clear c56); (try clear c56b0); (try clear c57); (try clear c57b0); (try clear p58); (try clear q58); (try clear hx58)
                (try clear c61); (try clear c62); (try clear c62b0); (try clear c64); (try clear c64b0); (try clear p64); (try clear c65); (try clear c65b0); (try clear p66); (try clear q66); (try clear hx66); (try clear c68); (try clear c68b0); (try clear c68b1); (try clear c69); (try clear c69b0); (try clear c69b1); (try clear c71); (try clear c71b0); (try clear c72); (try clear c72b0); (try clear c73)
                (try clear c73b0); (try clear p74); (try clear q74); (try clear hx74); (try clear c75); (try clear c75b0); (try clear p76); (try clear q76); (try clear hx76); (try clear c77); (try clear c79); (try clear c79b0); (try clear c80); (try clear c80b0); (try clear p81); (try clear q81); (try clear hx81); (try clear c82); (try clear c82b0); (try clear p83); (try clear q83); (try clear hx83)
                (try clear c84); (try clear c84b0); (try clear p85); (try clear q85); (try clear hx85); (try clear p86); (try clear q86); (try clear hx86); (try clear c87); (try clear c88); (try clear c88b0); (try clear c89); (try clear c89b0); (try clear p90); (try clear q90); (try clear hx90); (try clear c91); (try clear c91b0); (try clear c91b1); (try clear c92); (try clear c92b0); (try clear p93)
                (try clear q93); (try clear hx93); (try clear c94); (try clear c94b0); (try clear c94b1); (try clear p1); (try clear p12); (try clear p17); (try clear p2); (try clear p24); (try clear p4); (try clear p5); (try clear p58); (try clear p6); (try clear p64); (try clear p66); (try clear p7); (try clear p74); (try clear p76); (try clear p8); (try clear p81); (try clear p83); (try clear p85)
                (try clear p86); (try clear p90); (try clear p93); (try clear q1); (try clear q12); (try clear q17); (try clear q2); (try clear q24); (try clear q4); (try clear q5); (try clear q58); (try clear q6); (try clear q66); (try clear q7); (try clear q74); (try clear q76); (try clear q8); (try clear q81); (try clear q83); (try clear q85); (try clear q86); (try clear q90); (try clear q93)
                obtain ⟨kq, x7_59, x9_59, x17_59, rfl, rfl, rfl, HA, HJ59, HB⟩ := hcut
                cases kq with
                | zero => exact absurd HA.out (by simp [strconv_readFloat.j17])
                | succ kj59 =>
                 have H := HA.out
                 clear HA
                 simp only [strconv_readFloat.j17] at H
                 by_cases c95 : x2_20 = 0
                 ·rw [if_pos c95] at H
                  have c95b0 : (x2_20 == 0) = true := beq_iff_eq.mpr c95
                  have c95b1 : (x2_20 != 0) = false := bne_eq_false_iff_eq.mpr c95
                  clear c95
                  by_cases c96 : x9_59 = true
                  rotate_left
                  ·replace c96 := Bool.eq_false_iff.mpr c96
                   subst c96
                   have H1 : (some (x2_20, 0, x4_4, x5_20, x6_18, x7_59, true)) = some (r1, r2, r3, r4, r5, r6, r7) := by rw [if_neg (show ¬ (false = true) by decide)] at H; exact H
                   clear H
                   have H := H1
                   clear H1
                   as_aux_lemma =>
                    simp only [Option.some.injEq, Prod.mk.injEq] at H
                    obtain ⟨rfl, rfl, rfl, rfl, rfl, rfl, rfl⟩ := H
                    go_wp2
                    (try simp only [Exit.noGoto_ret])
                    refine bodyPost_ret (results_list (rs := [.tmp 2, .tmp 3, .tmp 4, .tmp 5, .tmp 6, .tmp 7, .tmp 8]) rfl (by simp) (.tmp (.tmp (.tmp (.tmp (.tmp (.tmp (.tmp .nil)))))))) rfl ?_
                    exact ⟨by first | rfl | (simp [errW_none, errW_some] <;> rfl) | (simp [*, errW_none, errW_some] <;> rfl), hB⟩
                  subst c96
                  have H1 : (if 0 ≤ x7_59 then (if x7_59 ≤ (a0.size : Int) then ((strconv_underscoreOK.f (a0.extract 0 (x7_59 : Int).toNat)).bind fun t106 => (if t106 = true then (some (x2_20, 0, x4_4, x5_20, x6_18, x7_59, true)) else (some (x2_20, 0, x4_4, x5_20, x6_18, x7_59, false)))) else (none)) else (none)) = some (r1, r2, r3, r4, r5, r6, r7) := by rw [if_pos rfl] at H; exact H
                  clear H
                  have H := H1
                  clear H1
                  by_cases c97 : 0 ≤ x7_59
                  rotate_left
                  ·rw [if_neg c97] at H
                   exact absurd H (by simp)
                  rw [if_pos c97] at H
                  have c97b0 := eq_true c97
                  have c97b1 : decide (0 ≤ x7_59) = true := decide_eq_true c97
                  clear c97
                  by_cases c98 : x7_59 ≤ (a0.size : Int)
                  rotate_left
                  ·rw [if_neg c98] at H
                   exact absurd H (by simp)
                  rw [if_pos c98] at H
                  have c98b0 := eq_true c98
                  have c98b1 : decide (x7_59 ≤ (a0.size : Int)) = true := decide_eq_true c98
                  clear c98
                  replace H := Option.bind_eq_some_iff.mp H
                  obtain ⟨t106, A990, H⟩ := H
                  replace H : (if t106 = true then (some (x2_20, 0, x4_4, x5_20, x6_18, x7_59, true)) else (some (x2_20, 0, x4_4, x5_20, x6_18, x7_59, false))) = some (r1, r2, r3, r4, r5, r6, r7) := H
                  have A99 := aM A990
                  clear A990
                  by_cases c100 : t106 = true
                  ·subst c100
                   have H1 : (some (x2_20, 0, x4_4, x5_20, x6_18, x7_59, true)) = some (r1, r2, r3, r4, r5, r6, r7) := by rw [if_pos rfl] at H; exact H
                   clear H
                   have H := H1
                   clear H1
                   as_aux_lemma =>
                    simp only [Option.some.injEq, Prod.mk.injEq] at H
                    obtain ⟨rfl, rfl, rfl, rfl, rfl, rfl, rfl⟩ := H
                    go_wp2_with (first | (go_at_call 97; (with_reducible refine (strconv_underscoreOK.calls (a0.extract 0 (x7_59 : Int).toNat) true _ A99.out).mono ?_); rintro e w101 ⟨rfl, hb⟩; have n0_ := aM (below_step (hB) hb); clear HB; have HB := n0_; clear n0_; (try clear hb)))
                    (try simp only [Exit.noGoto_ret])
                    refine bodyPost_ret (results_list (rs := [.tmp 2, .tmp 3, .tmp 4, .tmp 5, .tmp 6, .tmp 7, .tmp 8]) rfl (by simp) (.tmp (.tmp (.tmp (.tmp (.tmp (.tmp (.tmp .nil)))))))) rfl ?_
                    exact ⟨by first | rfl | (simp [errW_none, errW_some] <;> rfl) | (simp [*, errW_none, errW_some] <;> rfl), hB⟩
                  replace c100 := Bool.eq_false_iff.mpr c100
                  subst c100
                  have H1 : (some (x2_20, 0, x4_4, x5_20, x6_18, x7_59, false)) = some (r1, r2, r3, r4, r5, r6, r7) := by rw [if_neg (show ¬ (false = true) by decide)] at H; exact H
                  clear H
                  have H := H1
                  clear H1
                  as_aux_lemma =>
                   simp only [Option.some.injEq, Prod.mk.injEq] at H
                   obtain ⟨rfl, rfl, rfl, rfl, rfl, rfl, rfl⟩ := H
                   go_wp2_with (first | (go_at_call 97; (with_reducible refine (strconv_underscoreOK.calls (a0.extract 0 (x7_59 : Int).toNat) false _ A99.out).mono ?_); rintro e w102 ⟨rfl, hb⟩; have n0_ := aM (below_step (hB) hb); clear HB; have HB := n0_; clear n0_; (try clear hb)))
                   (try simp only [Exit.noGoto_ret])
                   refine bodyPost_ret (results_list (rs := [.tmp 2, .tmp 3, .tmp 4, .tmp 5, .tmp 6, .tmp 7, .tmp 8]) rfl (by simp) (.tmp (.tmp (.tmp (.tmp (.tmp (.tmp (.tmp .nil)))))))) rfl ?_
                   exact ⟨by first | rfl | (simp [errW_none, errW_some] <;> rfl) | (simp [*, errW_none, errW_some] <;> rfl), hB⟩
                 rw [if_neg c95] at H
                 have c95b0 : (x2_20 == 0) = false := beq_eq_false_iff_ne.mpr c95
                 have c95b1 : (x2_20 != 0) = true := bne_iff_ne.mpr c95
                 by_cases c103 : x9_59 = true
                 rotate_left
                 ·replace c103 := Bool.eq_false_iff.mpr c103
                  subst c103
                  have H1 : (some (x2_20, wrap64 (x17_59 - x16_52), x4_4, x5_20, x6_18, x7_59, true)) = some (r1, r2, r3, r4, r5, r6, r7) := by rw [if_neg (show ¬ (false = true) by decide)] at H; exact H
                  clear H
                  have H := H1
                  clear H1
                  as_aux_lemma =>
                   simp only [Option.some.injEq, Prod.mk.injEq] at H
                   obtain ⟨rfl, rfl, rfl, rfl, rfl, rfl, rfl⟩ := H
                   go_wp2
                   (try simp only [Exit.noGoto_ret])
                   refine bodyPost_ret (results_list (rs := [.tmp 2, .tmp 3, .tmp 4, .tmp 5, .tmp 6, .tmp 7, .tmp 8]) rfl (by simp) (.tmp (.tmp (.tmp (.tmp (.tmp (.tmp (.tmp .nil)))))))) rfl ?_
                   exact ⟨by first | rfl | (simp [errW_none, errW_some] <;> rfl) | (simp [*, errW_none, errW_some] <;> rfl), hB⟩
                 subst c103
                 have H1 : (if 0 ≤ x7_59 then (if x7_59 ≤ (a0.size : Int) then ((strconv_underscoreOK.f (a0.extract 0 (x7_59 : Int).toNat)).bind fun t107 => (if t107 = true then (some (x2_20, wrap64 (x17_59 - x16_52), x4_4, x5_20, x6_18, x7_59, true)) else (some (x2_20, wrap64 (x17_59 - x16_52), x4_4, x5_20, x6_18, x7_59, false)))) else (none)) else (none)) = some (r1, r2, r3, r4, r5, r6, r7) := by rw [if_pos rfl] at H; exact H
                 clear H
                 have H := H1
                 clear H1
                 by_cases c104 : 0 ≤ x7_59
                 rotate_left
                 ·rw [if_neg c104] at H
                  exact absurd H (by simp)
                 rw [if_pos c104] at H
                 have c104b0 := eq_true c104
                 have c104b1 : decide (0 ≤ x7_59) = true := decide_eq_true c104
                 clear c104
                 by_cases c105 : x7_59 ≤ (a0.size : Int)
                 rotate_left
                 ·rw [if_neg c105] at H
                  exact absurd H (by simp)
                 rw [if_pos c105] at H
                 have c105b0 := eq_true c105
                 have c105b1 : decide (x7_59 ≤ (a0.size : Int)) = true := decide_eq_true c105
                 clear c105
                 replace H := Option.bind_eq_some_iff.mp H
                 obtain ⟨t107, A1060, H⟩ := H
                 replace H : (if t107 = true then (some (x2_20, wrap64 (x17_59 - x16_52), x4_4, x5_20, x6_18, x7_59, true)) else (some (x2_20, wrap64 (x17_59 - x16_52), x4_4, x5_20, x6_18, x7_59, false))) = some (r1, r2, r3, r4, r5, r6, r7) := H
                 have A106 := aM A1060
                 clear A1060
                 by_cases c107 : t107 = true
                 ·subst c107
                  have H1 : (some (x2_20, wrap64 (x17_59 - x16_52), x4_4, x5_20, x6_18, x7_59, true)) = some (r1, r2, r3, r4, r5, r6, r7) := by rw [if_pos rfl] at H; exact H
                  clear H
                  have H := H1
                  clear H1
                  as_aux_lemma =>
                   simp only [Option.some.injEq, Prod.mk.injEq] at H
                   obtain ⟨rfl, rfl, rfl, rfl, rfl, rfl, rfl⟩ := H
                   go_wp2_with (first | (go_at_call 97; (with_reducible refine (strconv_underscoreOK.calls (a0.extract 0 (x7_59 : Int).toNat) true _ A106.out).mono ?_); rintro e w108 ⟨rfl, hb⟩; have n0_ := aM (below_step (hB) hb); clear HB; have HB := n0_; clear n0_; (try clear hb)))
                   (try simp only [Exit.noGoto_ret])
                   refine bodyPost_ret (results_list (rs := [.tmp 2, .tmp 3, .tmp 4, .tmp 5, .tmp 6, .tmp 7, .tmp 8]) rfl (by simp) (.tmp (.tmp (.tmp (.tmp (.tmp (.tmp (.tmp .nil)))))))) rfl ?_
                   exact ⟨by first | rfl | (simp [errW_none, errW_some] <;> rfl) | (simp [*, errW_none, errW_some] <;> rfl), hB⟩
                 replace c107 := Bool.eq_false_iff.mpr c107
                 subst c107
                 have H1 : (some (x2_20, wrap64 (x17_59 - x16_52), x4_4, x5_20, x6_18, x7_59, false)) = some (r1, r2, r3, r4, r5, r6, r7) := by rw [if_neg (show ¬ (false = true) by decide)] at H; exact H
                 clear H
                 have H := H1
                 clear H1
                 as_aux_lemma =>
                  simp only [Option.some.injEq, Prod.mk.injEq] at H
                  obtain ⟨rfl, rfl, rfl, rfl, rfl, rfl, rfl⟩ := H
                  go_wp2_with (first | (go_at_call 97; (with_reducible refine (strconv_underscoreOK.calls (a0.extract 0 (x7_59 : Int).toNat) false _ A106.out).mono ?_); rintro e w109 ⟨rfl, hb⟩; have n0_ := aM (below_step (hB) hb); clear HB; have HB := n0_; clear n0_; (try clear hb)))
                  (try simp only [Exit.noGoto_ret])
                  refine bodyPost_ret (results_list (rs := [.tmp 2, .tmp 3, .tmp 4, .tmp 5, .tmp 6, .tmp 7, .tmp 8]) rfl (by simp) (.tmp (.tmp (.tmp (.tmp (.tmp (.tmp (.tmp .nil)))))))) rfl ?_
                  exact ⟨by first | rfl | (simp [errW_none, errW_some] <;> rfl) | (simp [*, errW_none, errW_some] <;> rfl), hB⟩
end Go.Proofs.YthifejhdmjoolaaGreatDoor.QH
