import Derived.Test.YtbhgpegcdiohlaaGreatDoorTrI
import Derived.Laws.BitsAllLaws
import Derived.WalkSmall
import Derived.WalkLawsBesides
import Derived.BigQuiet
import Derived.Deep.QuietTactic
namespace Go.Proofs.YtbhgpegcdiohlaaGreatDoor.Tr
open Go Go.RowKit Go.Proofs
set_option linter.unusedVariables false
def strOk (s : ByteArray) : Prop := s.size ≤ 9223372036854775807
/-- the first of two errors -/
def seqI (a b : Int) : Int := if a = 0 then b else a
theorem seqI_0 {a b : Int} (h : a = 0) : seqI a b = b := by simp [seqI, h]
theorem seqI_n {a b : Int} (h : a ≠ 0) : seqI a b = a := by simp [seqI, h]
def lettI (c : Int) : Bool := decide (97 ≤ c ∧ c ≤ 122) || decide (65 ≤ c ∧ c ≤ 90) || decide (c = 95)
def digI (c : Int) : Bool := decide (48 ≤ c ∧ c ≤ 57)
/-- the words that are no names -/
def wordL : List (List UInt8) := [[98, 111, 111, 108], [99, 97, 116, 99, 104], [99, 111, 110, 115, 116], [101, 108, 115, 101], [101, 120, 112, 111, 114, 116], [102, 97, 105, 108], [102, 97, 108, 115, 101], [102, 108, 111, 97, 116], [102, 110], [105, 102], [105, 109, 112, 111, 114, 116], [105, 110, 102], [105, 110, 112, 117, 116], [105, 110, 116], [108, 101, 116], [109, 111, 100, 117, 108, 101], [110, 97, 110], [114, 101, 116, 117, 114, 110], [115, 104, 111, 119], [116, 114, 117, 101], [116, 114, 121], [118, 97, 114], [119, 104, 105, 108, 101]]
def resv (s : ByteArray) : Bool := wordL.contains s.toList
def allOk (s : ByteArray) : Prop := ∀ (k : Nat) (h : k < s.size), (lettI (s[k].toNat : Int) || digI (s[k].toNat : Int)) = true
open Classical in
/-- a name's error -/
noncomputable def nameErr (s : ByteArray) : Int :=
  if h : 0 < s.size then (if lettI (s[0].toNat : Int) = true then (if allOk s then (if 32 < s.size then 3 else if resv s = true then 12 else 0) else 12) else 12) else 12
def bodyB (k : Int) (n : Nat) : Bool := k == 3 || k == 4 || k == 8 || decide (0 < n)
def otherB (k : Int) (n : Nat) : Bool := k == 8 || decide (0 < n)
def deepEs (d : Int) : Exs → Int → Int
  | .nil, mo => mo
  | .cons e l, mo => deepEs d l (maxI mo (deepE e 1 d))
mutual
def deepS (d : Int) : St → Int → Int
  | .mk k n e bd el, mo =>
    let m1 := deepEs d e mo
    let m2 := if bodyB k bd.toList.length then maxI m1 (deepSs (wrap64 (d + 1)) bd (wrap64 (d + 1))) else m1
    if otherB k el.toList.length then maxI m2 (deepSs (wrap64 (d + 1)) el (wrap64 (d + 1))) else m2
def deepSs (d : Int) : Sts → Int → Int
  | .nil, mo => mo
  | .cons s l, mo => deepSs d l (deepS d s mo)
end
def deepDe (x : De) : Int := if x.k = 3 ∨ 0 < x.bd.toList.length then maxI (deepEs 0 x.e 0) (deepSs 1 x.bd 1) else deepEs 0 x.e 0
/-- may a value stand in a text? -/
def litB (t b : Int) : Bool := if t = 1 then decide (b < 9223372036854775808) else if t = 2 then decide (b ≤ 9218868437227405312) || decide (b = 9221120237041090561) else if t = 3 then decide (b < 2) else false
/-- has an expression just what its kind has? -/
def shapedB (k op : Int) (m n : ByteArray) (t b : Int) (l : Nat) : Bool :=
  if k = 1 then decide (op = 0) && m.toList.isEmpty && n.toList.isEmpty && decide (l = 0) && litB t b
  else if k = 2 then decide (op = 0) && m.toList.isEmpty && decide (l = 0) && (decide (t = 0) && decide (b = 0))
  else if k = 3 then decide (op = 0) && decide (l = 0) && (decide (t = 0) && decide (b = 0))
  else if k = 4 then decide (op = 0) && m.toList.isEmpty && (decide (t = 0) && decide (b = 0))
  else if k = 5 then decide (op = 0) && (decide (t = 0) && decide (b = 0))
  else if k = 6 then decide (1 ≤ op ∧ op ≤ 4) && m.toList.isEmpty && n.toList.isEmpty && decide (l = 1) && (decide (t = 0) && decide (b = 0))
  else if k = 7 then decide (1 ≤ op ∧ op ≤ 13) && m.toList.isEmpty && n.toList.isEmpty && decide (l = 2) && (decide (t = 0) && decide (b = 0))
  else if k = 8 then decide (op = 0) && m.toList.isEmpty && n.toList.isEmpty && decide (l = 0) && (decide (t = 0) && decide (b = 0))
  else false
mutual
noncomputable def errE : Ex → Int
  | .mk k op m n t b ks => seqI (if shapedB k op m n t b ks.toList.length = true then 0 else 1) (seqI (if k = 3 ∨ k = 5 then nameErr m else 0) (seqI (if 2 ≤ k ∧ k ≤ 5 then nameErr n else 0) (seqI (if 8 < ks.toList.length then 3 else 0) (errL ks))))
noncomputable def errL : Exs → Int
  | .nil => 0
  | .cons e l => seqI (errE e) (errL l)
end
def Ex.k : Ex → Int
  | .mk k _ _ _ _ _ _ => k
/-- has a statement just what its kind has? -/
def statedB (k : Int) (n : ByteArray) (e : List Ex) (lb le : Nat) : Bool :=
  if k = 1 ∨ k = 2 then decide (e.length = 1) && decide (lb = 0) && decide (le = 0)
  else if k = 3 then n.toList.isEmpty && decide (e.length = 1)
  else if k = 4 then n.toList.isEmpty && decide (e.length = 1) && decide (le = 0)
  else if k = 5 then n.toList.isEmpty && decide (e.length ≤ 1) && decide (lb = 0) && decide (le = 0)
  else if k = 6 ∨ k = 7 then n.toList.isEmpty && decide (e.length = 1) && decide (lb = 0) && decide (le = 0)
  else if k = 8 then decide (e.length = 0)
  else if k = 9 then n.toList.isEmpty && decide (e.length = 1) && decide (lb = 0) && decide (le = 0) && (e.all fun x => decide (x.k = 4 ∨ x.k = 5))
  else false
mutual
noncomputable def errS : St → Int
  | .mk k n e bd el => seqI (if statedB k n e.toList bd.toList.length el.toList.length = true then 0 else 1) (seqI (if k = 1 ∨ k = 2 ∨ k = 8 then nameErr n else 0) (seqI (errL e) (seqI (errSs bd) (errSs el))))
noncomputable def errSs : Sts → Int
  | .nil => 0
  | .cons s l => seqI (errS s) (errSs l)
end
def valuedB (t : Int) : Bool := decide (1 ≤ t ∧ t ≤ 3)
def declaredB (x : De) : Bool :=
  if x.k = 1 then valuedB x.t && decide (x.e.toList.length = 1) && decide (x.ps.length = 0) && decide (x.bd.toList.length = 0)
  else if x.k = 2 then valuedB x.t && decide (x.e.toList.length = 1) && decide (x.ps.length = 0) && decide (x.bd.toList.length = 0) && !x.x
  else if x.k = 3 then (decide (x.t = 0) || valuedB x.t) && decide (x.e.toList.length = 0)
  else false
noncomputable def errP : List Pa → Int
  | [] => 0
  | p :: l => seqI (nameErr p.n) (seqI (if valuedB p.t = true then 0 else 1) (errP l))
noncomputable def errD (x : De) : Int := seqI (if deepDe x ≤ 32 then 0 else 13) (seqI (if declaredB x = true then 0 else 1) (seqI (nameErr x.n) (seqI (if x.ps.length ≤ 8 then 0 else 3) (seqI (errP x.ps) (seqI (errL x.e) (errSs x.bd))))))
noncomputable def errN : List ByteArray → Int
  | [] => 0
  | s :: l => seqI (nameErr s) (errN l)
noncomputable def errDs : List De → Int
  | [] => 0
  | d :: l => seqI (errD d) (errDs l)
noncomputable def errM (m : Mo) : Int := seqI (nameErr m.n) (seqI (if m.im.length ≤ 16 then 0 else 3) (seqI (errN m.im) (seqI (if m.ds.length ≤ 64 then 0 else 3) (errDs m.ds))))
noncomputable def errX (e : Ex) : Int := seqI (if deepE e 1 0 ≤ 32 then 0 else 13) (errE e)
end Go.Proofs.YtbhgpegcdiohlaaGreatDoor.Tr

namespace Go.Proofs.YtbhgpegcdiohlaaGreatDoor.Tr
open Go Go.RowKit Go.Proofs
set_option linter.unusedVariables false
set_option maxRecDepth 100000
set_option maxHeartbeats 4000000
theorem retb {a b : Bool} (h : a = b) (w : World) : Ending.returned (.bool a) = Ending.returned (.bool b) ∧ w = w := ⟨congrArg (fun b => Ending.returned (.bool b)) h, rfl⟩
theorem letter_any (c : Int) (w : World) : Calls Tryz.prog 78 #[.int .u8 c] w fun e w' => e = .returned (.bool (lettI c)) ∧ w = w' := by
  go_enter Tryz.func78, Tryz.ntmps78
  go_wp2
  all_goals
    go_ret
    refine retb ?_ _
    unfold lettI
    rw [Bool.eq_iff_iff]
    simp
    try omega
theorem resv_any (s : ByteArray) (w : World) : Calls Tryz.prog 79 #[.string s] w fun e w' => e = .returned (.bool (resv s)) ∧ w = w' := by
  go_enter Tryz.func79, Tryz.ntmps79
  go_wp2
  all_goals
    go_ret
    refine retb ?_ _
    unfold resv wordL
    simp_all
theorem valued_any (c : Int) (w : World) : Calls Tryz.prog 80 #[.int .i64 c] w fun e w' => e = .returned (.bool (valuedB c)) ∧ w = w' := by
  go_enter Tryz.func80, Tryz.ntmps80
  go_wp2
  all_goals
    go_ret
    refine retb ?_ _
    unfold valuedB
    rw [Bool.eq_iff_iff]
    simp
    try omega
theorem letter_b (c : Int) (b : Bool) (h : lettI c = b) (w : World) : Calls Tryz.prog 78 #[.int .u8 c] w fun e w' => e = .returned (.bool b) ∧ w = w' := h ▸ letter_any c w
theorem resv_b (s : ByteArray) (b : Bool) (h : resv s = b) (w : World) : Calls Tryz.prog 79 #[.string s] w fun e w' => e = .returned (.bool b) ∧ w = w' := h ▸ resv_any s w
theorem nameErr_0 {s : ByteArray} (h : s.size = 0) : nameErr s = 12 := by unfold nameErr; rw [dif_neg (by omega)]
theorem nameErr_1 {s : ByteArray} (h : 0 < s.size) (g : lettI (s[0].toNat : Int) = false) : nameErr s = 12 := by unfold nameErr; rw [dif_pos h, if_neg (by simp [g])]
theorem nameErr_2 {s : ByteArray} (k : Nat) (h : k < s.size) (g : lettI (s[k].toNat : Int) = false) (g' : digI (s[k].toNat : Int) = false) : nameErr s = 12 := by
  unfold nameErr
  have : ¬ allOk s := fun ha => by have := ha k h; rw [g, g'] at this; simp at this
  rw [if_neg this]
  repeat' split
  all_goals rfl
theorem nameErr_3 {s : ByteArray} (h : 0 < s.size) (g : lettI (s[0].toNat : Int) = true) (ha : allOk s) : nameErr s = if 32 < s.size then 3 else if resv s = true then 12 else 0 := by
  unfold nameErr
  rw [dif_pos h, if_pos g, if_pos ha]
theorem nameRight (s : ByteArray) (hs : strOk s) (w : World) : Calls Tryz.prog 35 #[.string s] w (SaysI (nameErr s) w) := by
  have hs' : s.size ≤ 9223372036854775807 := hs
  clear hs
  rcases Nat.eq_zero_or_pos s.size with hz | hp
  · rw [nameErr_0 hz]
    have he : s = ⟨#[]⟩ := ByteArray.ext (Array.eq_empty_of_size_eq_zero hz)
    subst he
    go_enter Tryz.func35, Tryz.ntmps35
    go_wp2
    go_ret
    exact ⟨rfl, up0 _⟩
  · have hne : s.toList ≠ [] := by
      intro h
      have : s.data.toList = [] := by rw [← ByteArray.toList_eq, h]
      have hz : s.size = 0 := by rw [ByteArray.size, ← Array.length_toList, this]; rfl
      omega
    have hne2 : s.toList.isEmpty = false := by simpa using hne
    by_cases hl : lettI (s[0].toNat : Int) = true
    · have L := Hd.mk hl
      clear hl
      go_enter Tryz.func35, Tryz.ntmps35
      go_wp2_with (go_at_call 78; (refine ((letter_b _ _ L.out _).mono ?_)); rintro e w1 ⟨rfl, rfl⟩)
      go_loopw [14] (fun i w' => ∃ k : Nat, k ≤ s.size ∧ i = .int .i64 k ∧ Below w.heap.size w w' ∧ Hd (∀ (j : Nat) (h : j < s.size), j < k → (lettI (s[j].toNat : Int) || digI (s[j].toNat : Int)) = true)) (fun i _ => s.size - (intOf i).toNat)
      case atStart => exact ⟨0, by omega, rfl, by first | exact up0 _ | exact (up0 _).drew, ⟨fun j h hj => absurd hj (by omega)⟩⟩
      case round =>
        obtain ⟨k, hk, rfl, hb, G⟩ := hrel
        have HB := Hd.mk hb
        clear hb
        by_cases hlt : k < s.size
        · by_cases hk1 : lettI (s[k].toNat : Int) = true
          · have L1 := Hd.mk hk1
            clear hk1
            go_wp2_with (go_at_call 78; (refine ((letter_b _ _ L1.out _).mono ?_)); rintro e w1 ⟨rfl, rfl⟩)
            go_roundw
            case rel =>
              refine ⟨k + 1, by omega, by go_num, by first | exact HB.out | exact HB.out.drew, ⟨fun j h hj => ?_⟩⟩
              by_cases hjk : j < k
              · exact G.out j h hjk
              · obtain rfl : j = k := by omega
                simp [L1.out]
            case measure => simp [intOf]; omega
          · have hk1' : lettI (s[k].toNat : Int) = false := by simpa using hk1
            have L1 := Hd.mk hk1'
            clear hk1 hk1'
            by_cases hd : digI (s[k].toNat : Int) = true
            · have D := Hd.mk hd
              have hd' := hd
              unfold digI at hd'
              have d1 := (of_decide_eq_true hd').1
              have d2 := (of_decide_eq_true hd').2
              clear hd hd'
              go_wp2_with (go_at_call 78; (refine ((letter_b _ _ L1.out _).mono ?_)); rintro e w1 ⟨rfl, rfl⟩)
              go_roundw
              case rel =>
                refine ⟨k + 1, by omega, by go_num, by first | exact HB.out | exact HB.out.drew, ⟨fun j h hj => ?_⟩⟩
                by_cases hjk : j < k
                · exact G.out j h hjk
                · obtain rfl : j = k := by omega
                  simp [L1.out, D.out]
              case measure => simp [intOf]; omega
            · have hd' : digI (s[k].toNat : Int) = false := by simpa using hd
              rw [nameErr_2 k hlt L1.out hd']
              have hd2 := hd'
              unfold digI at hd2
              have d1 := of_decide_eq_false hd2
              clear hd hd' hd2
              go_wp2_with (go_at_call 78; (refine ((letter_b _ _ L1.out _).mono ?_)); rintro e w1 ⟨rfl, rfl⟩)
              all_goals
                first
                | (go_ret; exact ⟨rfl, by first | exact HB.out | exact HB.out.drew⟩)
                | (exfalso; omega)
        · have A : Hd (allOk s) := ⟨fun j h => G.out j h (by omega)⟩
          have E := Hd.mk (nameErr_3 hp L.out A.out)
          by_cases h32 : 32 < s.size
          · go_wp2_with fail
            go_ret
            exact saysI_of (b := 3) (by rw [E.out, if_pos h32]) ⟨rfl, HB.out⟩
          · by_cases hr : resv s = true
            · have R := Hd.mk hr
              clear hr
              go_wp2_with (go_at_call 79; (with_reducible refine ((resv_b _ _ R.out _).mono ?_)); rintro e w1 ⟨rfl, rfl⟩)
              go_ret
              exact saysI_of (b := 12) (by rw [E.out, if_neg h32, if_pos R.out]) ⟨rfl, HB.out⟩
            · have hr' : resv s = false := by simpa using hr
              have R := Hd.mk hr'
              clear hr hr'
              go_wp2_with (go_at_call 79; (with_reducible refine ((resv_b _ _ R.out _).mono ?_)); rintro e w1 ⟨rfl, rfl⟩)
              go_ret
              exact saysI_of (b := 0) (by rw [E.out, if_neg h32, if_neg (by simp [R.out])]) ⟨rfl, HB.out⟩
    · have hl' : lettI (s[0].toNat : Int) = false := by simpa using hl
      rw [nameErr_1 hp hl']
      have L := Hd.mk hl'
      clear hl hl'
      go_enter Tryz.func35, Tryz.ntmps35
      go_wp2_with (go_at_call 78; (refine ((letter_b _ _ L.out _).mono ?_)); rintro e w1 ⟨rfl, rfl⟩)
      go_ret
      exact ⟨rfl, by first | exact up0 _ | exact (up0 _).drew⟩
end Go.Proofs.YtbhgpegcdiohlaaGreatDoor.Tr

namespace Go.Proofs.YtbhgpegcdiohlaaGreatDoor.Tr
open Go Go.RowKit Go.Proofs
set_option linter.unusedVariables false
set_option maxRecDepth 100000
set_option maxHeartbeats 4000000
theorem andNot_sign (a : Nat) (h : a < 18446744073709551616) : Go.bits .andNot .u64 (a : Int) 9223372036854775808 = ((a % 9223372036854775808 : Nat) : Int) := by
  have e := u64_andNot_nat a 9223372036854775808 h (by omega)
  rw [show ((9223372036854775808 : Nat) : Int) = 9223372036854775808 from rfl] at e
  rw [e, show 18446744073709551615 - 9223372036854775808 = 2 ^ 63 - 1 from rfl, Nat.and_two_pow_sub_one_eq_mod]
theorem and_exp (a : Nat) (h : a < 18446744073709551616) : Go.bits .and .u64 (a : Int) 2047 = ((a % 2048 : Nat) : Int) := by
  have e := u64_and_nat a 2047 h (by omega)
  rw [show ((2047 : Nat) : Int) = 2047 from rfl] at e
  rw [e, show 2047 = 2 ^ 11 - 1 from rfl, Nat.and_two_pow_sub_one_eq_mod]
/-- the one NaN for every NaN -/
def canonI (a : Int) : Int := if 9218868437227405312 < a % 9223372036854775808 then 9221120237041090561 else a
theorem canon_any (a : Int) (h0 : 0 ≤ a) (h1 : a < 18446744073709551616) (w : World) : Calls Tryz.prog 126 #[.int .u64 a] w fun e w' => e = .returned (.int .u64 (canonI a)) ∧ w' = w := by
  obtain ⟨n, rfl⟩ := Int.eq_ofNat_of_zero_le h0
  have e := andNot_sign n (by omega)
  have E : (9218868437227405312 < Go.bits .andNot .u64 (n : Int) 9223372036854775808) = (9218868437227405312 < (n : Int) % 9223372036854775808) := by rw [e]; exact propext ⟨fun h => by omega, fun h => by omega⟩
  unfold canonI
  by_cases c : 9218868437227405312 < Go.bits .andNot .u64 (n : Int) 9223372036854775808
  · have d := decide_eq_true c
    rw [if_pos (E ▸ c)]
    clear e E h0 h1
    go_enter Tryz.func126, Tryz.ntmps126
    go_wp2
    go_ret
    exact ⟨rfl, rfl⟩
  · have d := decide_eq_false c
    rw [if_neg (E ▸ c)]
    clear e E h0 h1
    go_enter Tryz.func126, Tryz.ntmps126
    go_wp2
    go_ret
    exact ⟨rfl, rfl⟩
theorem ref_canon_any (a : Int) (h0 : 0 ≤ a) (h1 : a < 18446744073709551616) (w : World) : Calls Tryz.prog 156 #[.int .u64 a] w fun e w' => e = .returned (.int .u64 (canonI a)) ∧ w' = w := by
  obtain ⟨n, rfl⟩ := Int.eq_ofNat_of_zero_le h0
  have e0 : ((n : Int) / 4503599627370496) = ((n / 4503599627370496 : Nat) : Int) := by omega
  have e : Go.bits .and .u64 ((n : Int) / 4503599627370496) 2047 = (n : Int) / 4503599627370496 % 2048 := by rw [e0, and_exp _ (by omega)]; omega
  have w0 : IntKind.u64.wrap ((n : Int) * 4096) = (n : Int) * 4096 % 18446744073709551616 := IntKind.wrap_u64 _
  unfold canonI
  by_cases c : Go.bits .and .u64 ((n : Int) / 4503599627370496) 2047 = 2047
  · have c1 : (Go.bits .and .u64 ((n : Int) / 4503599627370496) 2047 == 2047) = true := beq_iff_eq.mpr c
    by_cases d : IntKind.u64.wrap ((n : Int) * 4096) = 0
    · have d1 : (IntKind.u64.wrap ((n : Int) * 4096) == 0) = true := beq_iff_eq.mpr d
      have d2 : (IntKind.u64.wrap ((n : Int) * 4096) != 0) = false := bne_eq_false_iff_eq.mpr d
      rw [if_neg (by rw [e] at c; rw [w0] at d; omega)]
      clear c e e0 w0 d h0 h1
      go_enter Tryz.func156, Tryz.ntmps156
      go_wp2
      go_ret
      exact ⟨rfl, rfl⟩
    · have d1 : (IntKind.u64.wrap ((n : Int) * 4096) == 0) = false := beq_eq_false_iff_ne.mpr d
      have d2 : (IntKind.u64.wrap ((n : Int) * 4096) != 0) = true := bne_iff_ne.mpr d
      rw [if_pos (by rw [e] at c; rw [w0] at d; omega)]
      clear c e e0 w0 d h0 h1
      go_enter Tryz.func156, Tryz.ntmps156
      go_wp2
      go_ret
      exact ⟨rfl, rfl⟩
  · have c1 : (Go.bits .and .u64 ((n : Int) / 4503599627370496) 2047 == 2047) = false := beq_eq_false_iff_ne.mpr c
    rw [if_neg (by rw [e] at c; omega)]
    clear c e e0 w0 h0 h1
    go_enter Tryz.func156, Tryz.ntmps156
    go_wp2
    go_ret
    exact ⟨rfl, rfl⟩
theorem says_b {a b : Bool} (h : a = b) {w w' : World} (hb : Below w.heap.size w w') : Says b w (.returned (.bool a)) w' := ⟨by rw [h], hb⟩
theorem canon_lit {b : Int} (h0 : 0 ≤ b) (h : b < 9223372036854775808) : (canonI b == b) = (decide (b ≤ 9218868437227405312) || decide (b = 9221120237041090561)) := by
  rw [Bool.eq_iff_iff]
  unfold canonI
  simp only [beq_iff_eq, Bool.or_eq_true, decide_eq_true_eq]
  split <;> omega
theorem litB2_far {b : Int} (h : ¬ b < 9223372036854775808) : litB 2 b = false := by
  unfold litB
  rw [if_neg (by decide), if_pos rfl]
  simp
  omega
theorem literal_any (t b : Int) (h0 : 0 ≤ b) (h1 : b < 18446744073709551616) (w : World) : Calls Tryz.prog 92 #[.agg #[.int .i64 t, .int .u64 b]] w (Says (litB t b) w) := by
  by_cases t2 : t = 2
  · subst t2
    have C := Hd.mk (canon_any b h0 h1)
    by_cases hc : (canonI b == b) = true
    · by_cases hb : b < 9223372036854775808
      · have E : litB 2 b = true := by
          unfold litB; rw [if_neg (by decide), if_pos rfl, ← canon_lit h0 hb, hc]
        rw [E]
        have d := decide_eq_true hb
        clear E hb
        go_enter Tryz.func92, Tryz.ntmps92
        go_wp2_with fail
        go_quiet ((go_at_call 126; exact Calls.quiet_of_same (C.out _)))
        go_wp2_with fail
        go_ret
        exact ⟨rfl, below_drewN (up (up0 _) _) _⟩
      · rw [litB2_far hb]
        have d := decide_eq_false hb
        clear hb
        go_enter Tryz.func92, Tryz.ntmps92
        go_wp2_with fail
        go_quiet ((go_at_call 126; exact Calls.quiet_of_same (C.out _)))
        go_wp2_with fail
        go_ret
        exact ⟨rfl, below_drewN (up (up0 _) _) _⟩
    · have hc' : (canonI b == b) = false := by simpa using hc
      have E : litB 2 b = false := by
        by_cases hb : b < 9223372036854775808
        · unfold litB; rw [if_neg (by decide), if_pos rfl, ← canon_lit h0 hb, hc']
        · exact litB2_far hb
      rw [E]
      clear E hc
      go_enter Tryz.func92, Tryz.ntmps92
      go_wp2_with fail
      go_quiet ((go_at_call 126; exact Calls.quiet_of_same (C.out _)))
      go_wp2_with fail
      go_ret
      exact ⟨rfl, below_drewN (up (up0 _) _) _⟩
  · have f2 : (t == 2) = false := beq_eq_false_iff_ne.mpr t2
    by_cases t1 : t = 1
    · subst t1
      have E : litB 1 b = decide (b < 9223372036854775808) := by unfold litB; rw [if_pos rfl]
      rw [E]
      clear E
      go_enter Tryz.func92, Tryz.ntmps92
      go_wp2_with fail
      go_ret
      exact ⟨rfl, up (up0 _) _⟩
    · by_cases t3 : t = 3
      · subst t3
        have E : decide (b < 2) = litB 3 b := by unfold litB; rw [if_neg (by decide), if_neg (by decide), if_pos rfl]
        have E' : decide (b ≤ 1) = litB 3 b := by rw [← E, Bool.eq_iff_iff]; simp; omega
        generalize litB 3 b = r at *
        have H := Hd.mk E
        have H' := Hd.mk E'
        clear E E'
        go_enter Tryz.func92, Tryz.ntmps92
        go_wp2_with fail
        go_ret
        first | exact says_b H.out (up (up0 _) _) | exact says_b H'.out (up (up0 _) _)
      · have E : litB t b = false := by unfold litB; rw [if_neg t1, if_neg t2, if_neg t3]
        rw [E]
        clear E
        go_enter Tryz.func92, Tryz.ntmps92
        go_wp2_with fail
        go_ret
        exact ⟨rfl, up (up0 _) _⟩
theorem ref_literal_any (t b : Int) (h0 : 0 ≤ b) (h1 : b < 18446744073709551616) (w : World) : Calls Tryz.prog 130 #[.agg #[.int .i64 t, .int .u64 b]] w (Says (litB t b) w) := by
  by_cases t2 : t = 2
  · subst t2
    have C := Hd.mk (ref_canon_any b h0 h1)
    by_cases hb : b < 9223372036854775808
    · unfold litB
      rw [if_neg (by decide), if_pos rfl, ← canon_lit h0 hb]
      go_enter Tryz.func130, Tryz.ntmps130
      go_wp2_with fail
      go_quiet ((go_at_call 156; exact Calls.quiet_of_same (C.out _)))
      go_wp2_with fail
      go_ret
      exact ⟨rfl, below_drewN (up (up0 _) _) _⟩
    · rw [litB2_far hb]
      have d := decide_eq_false hb
      clear hb
      go_enter Tryz.func130, Tryz.ntmps130
      go_wp2_with fail
      go_quiet ((go_at_call 156; exact Calls.quiet_of_same (C.out _)))
      go_wp2_with fail
      go_ret
      exact ⟨rfl, below_drewN (up (up0 _) _) _⟩
  · have f2 : (t == 2) = false := beq_eq_false_iff_ne.mpr t2
    by_cases t1 : t = 1
    · subst t1
      have E : litB 1 b = decide (b < 9223372036854775808) := by unfold litB; rw [if_pos rfl]
      rw [E]
      clear E
      go_enter Tryz.func130, Tryz.ntmps130
      go_wp2_with fail
      go_ret
      exact ⟨rfl, up (up0 _) _⟩
    · by_cases t3 : t = 3
      · subst t3
        have E : decide (b < 2) = litB 3 b := by unfold litB; rw [if_neg (by decide), if_neg (by decide), if_pos rfl]
        have E' : decide (b ≤ 1) = litB 3 b := by rw [← E, Bool.eq_iff_iff]; simp; omega
        generalize litB 3 b = r at *
        have H := Hd.mk E
        have H' := Hd.mk E'
        clear E E'
        go_enter Tryz.func130, Tryz.ntmps130
        go_wp2_with fail
        go_ret
        first | exact says_b H.out (up (up0 _) _) | exact says_b H'.out (up (up0 _) _)
      · have E : litB t b = false := by unfold litB; rw [if_neg t1, if_neg t2, if_neg t3]
        rw [E]
        clear E
        go_enter Tryz.func130, Tryz.ntmps130
        go_wp2_with fail
        go_ret
        exact ⟨rfl, up (up0 _) _⟩
end Go.Proofs.YtbhgpegcdiohlaaGreatDoor.Tr
