import Derived.Test.YtbhgpegcdiohlaaGreatDoorTrI
namespace Go.Proofs.YtbhgpegcdiohlaaGreatDoor.Tr
open Go Go.RowKit Go.Proofs
set_option linter.unusedVariables false
def strOk (s : ByteArray) : Prop := s.size ≤ 9223372036854775807
/-- the first of two errors -/
def seqI (a b : Int) : Int := if a = 0 then b else a
theorem seqI_0 {a b : Int} (h : a = 0) : seqI a b = b := by simp [seqI, h]
theorem seqI_n {a b : Int} (h : a ≠ 0) : seqI a b = a := by simp [seqI, h]
def lettI (c : Int) : Bool := decide (97 ≤ c ∧ c ≤ 122) || decide (65 ≤ c ∧ c ≤ 90) || decide (c = 95)
def digI (c : Int) : Bool := decide (48 ≤ c ∧ c ≤ 57)
/-- the words that are no names -/
def wordL : List (List UInt8) := [[98, 111, 111, 108], [99, 97, 116, 99, 104], [99, 111, 110, 115, 116], [101, 108, 115, 101], [101, 120, 112, 111, 114, 116], [102, 97, 105, 108], [102, 97, 108, 115, 101], [102, 108, 111, 97, 116], [102, 110], [105, 102], [105, 109, 112, 111, 114, 116], [105, 110, 102], [105, 110, 112, 117, 116], [105, 110, 116], [108, 101, 116], [109, 111, 100, 117, 108, 101], [110, 97, 110], [114, 101, 116, 117, 114, 110], [115, 104, 111, 119], [116, 114, 117, 101], [116, 114, 121], [118, 97, 114], [119, 104, 105, 108, 101]]
def resv (s : ByteArray) : Bool := wordL.contains s.toList
def allOk (s : ByteArray) : Prop := ∀ (k : Nat) (h : k < s.size), (lettI (s[k].toNat : Int) || digI (s[k].toNat : Int)) = true
open Classical in
/-- a name's error -/
noncomputable def nameErr (s : ByteArray) : Int :=
  if h : 0 < s.size then (if lettI (s[0].toNat : Int) = true then (if allOk s then (if 32 < s.size then 3 else if resv s = true then 12 else 0) else 12) else 12) else 12
def bodyB (k : Int) (n : Nat) : Bool := k == 3 || k == 4 || k == 8 || decide (0 < n)
def otherB (k : Int) (n : Nat) : Bool := k == 8 || decide (0 < n)
def deepEs (d : Int) : Exs → Int → Int
  | .nil, mo => mo
  | .cons e l, mo => deepEs d l (maxI mo (deepE e 1 d))
mutual
def deepS (d : Int) : St → Int → Int
  | .mk k n e bd el, mo =>
    let m1 := deepEs d e mo
    let m2 := if bodyB k bd.toList.length then maxI m1 (deepSs (wrap64 (d + 1)) bd (wrap64 (d + 1))) else m1
    if otherB k el.toList.length then maxI m2 (deepSs (wrap64 (d + 1)) el (wrap64 (d + 1))) else m2
def deepSs (d : Int) : Sts → Int → Int
  | .nil, mo => mo
  | .cons s l, mo => deepSs d l (deepS d s mo)
end
def deepDe (x : De) : Int := if x.k = 3 ∨ 0 < x.bd.toList.length then maxI (deepEs 0 x.e 0) (deepSs 1 x.bd 1) else deepEs 0 x.e 0
/-- may a value stand in a text? -/
def litB (t b : Int) : Bool := if t = 1 then decide (b < 9223372036854775808) else if t = 2 then decide (b ≤ 9218868437227405312) || decide (b = 9221120237041090561) else if t = 3 then decide (b < 2) else false
/-- has an expression just what its kind has? -/
def shapedB (k op : Int) (m n : ByteArray) (t b : Int) (l : Nat) : Bool :=
  if k = 1 then decide (op = 0) && m.toList.isEmpty && n.toList.isEmpty && decide (l = 0) && litB t b
  else if k = 2 then decide (op = 0) && m.toList.isEmpty && decide (l = 0) && (decide (t = 0) && decide (b = 0))
  else if k = 3 then decide (op = 0) && decide (l = 0) && (decide (t = 0) && decide (b = 0))
  else if k = 4 then decide (op = 0) && m.toList.isEmpty && (decide (t = 0) && decide (b = 0))
  else if k = 5 then decide (op = 0) && (decide (t = 0) && decide (b = 0))
  else if k = 6 then decide (1 ≤ op ∧ op ≤ 4) && m.toList.isEmpty && n.toList.isEmpty && decide (l = 1) && (decide (t = 0) && decide (b = 0))
  else if k = 7 then decide (1 ≤ op ∧ op ≤ 13) && m.toList.isEmpty && n.toList.isEmpty && decide (l = 2) && (decide (t = 0) && decide (b = 0))
  else if k = 8 then decide (op = 0) && m.toList.isEmpty && n.toList.isEmpty && decide (l = 0) && (decide (t = 0) && decide (b = 0))
  else false
mutual
noncomputable def errE : Ex → Int
  | .mk k op m n t b ks => seqI (if shapedB k op m n t b ks.toList.length = true then 0 else 1) (seqI (if k = 3 ∨ k = 5 then nameErr m else 0) (seqI (if 2 ≤ k ∧ k ≤ 5 then nameErr n else 0) (seqI (if 8 < ks.toList.length then 3 else 0) (errL ks))))
noncomputable def errL : Exs → Int
  | .nil => 0
  | .cons e l => seqI (errE e) (errL l)
end
def Ex.k : Ex → Int
  | .mk k _ _ _ _ _ _ => k
/-- has a statement just what its kind has? -/
def statedB (k : Int) (n : ByteArray) (e : List Ex) (lb le : Nat) : Bool :=
  if k = 1 ∨ k = 2 then decide (e.length = 1) && decide (lb = 0) && decide (le = 0)
  else if k = 3 then n.toList.isEmpty && decide (e.length = 1)
  else if k = 4 then n.toList.isEmpty && decide (e.length = 1) && decide (le = 0)
  else if k = 5 then n.toList.isEmpty && decide (e.length ≤ 1) && decide (lb = 0) && decide (le = 0)
  else if k = 6 ∨ k = 7 then n.toList.isEmpty && decide (e.length = 1) && decide (lb = 0) && decide (le = 0)
  else if k = 8 then decide (e.length = 0)
  else if k = 9 then n.toList.isEmpty && decide (e.length = 1) && decide (lb = 0) && decide (le = 0) && (e.all fun x => decide (x.k = 4 ∨ x.k = 5))
  else false
mutual
noncomputable def errS : St → Int
  | .mk k n e bd el => seqI (if statedB k n e.toList bd.toList.length el.toList.length = true then 0 else 1) (seqI (if k = 1 ∨ k = 2 ∨ k = 8 then nameErr n else 0) (seqI (errL e) (seqI (errSs bd) (errSs el))))
noncomputable def errSs : Sts → Int
  | .nil => 0
  | .cons s l => seqI (errS s) (errSs l)
end
def valuedB (t : Int) : Bool := decide (1 ≤ t ∧ t ≤ 3)
def declaredB (x : De) : Bool :=
  if x.k = 1 then valuedB x.t && decide (x.e.toList.length = 1) && decide (x.ps.length = 0) && decide (x.bd.toList.length = 0)
  else if x.k = 2 then valuedB x.t && decide (x.e.toList.length = 1) && decide (x.ps.length = 0) && decide (x.bd.toList.length = 0) && !x.x
  else if x.k = 3 then (decide (x.t = 0) || valuedB x.t) && decide (x.e.toList.length = 0)
  else false
noncomputable def errP : List Pa → Int
  | [] => 0
  | p :: l => seqI (nameErr p.n) (seqI (if valuedB p.t = true then 0 else 1) (errP l))
noncomputable def errD (x : De) : Int := seqI (if deepDe x ≤ 32 then 0 else 13) (seqI (if declaredB x = true then 0 else 1) (seqI (nameErr x.n) (seqI (if x.ps.length ≤ 8 then 0 else 3) (seqI (errP x.ps) (seqI (errL x.e) (errSs x.bd))))))
noncomputable def errN : List ByteArray → Int
  | [] => 0
  | s :: l => seqI (nameErr s) (errN l)
noncomputable def errDs : List De → Int
  | [] => 0
  | d :: l => seqI (errD d) (errDs l)
noncomputable def errM (m : Mo) : Int := seqI (nameErr m.n) (seqI (if m.im.length ≤ 16 then 0 else 3) (seqI (errN m.im) (seqI (if m.ds.length ≤ 64 then 0 else 3) (errDs m.ds))))
noncomputable def errX (e : Ex) : Int := seqI (if deepE e 1 0 ≤ 32 then 0 else 13) (errE e)
end Go.Proofs.YtbhgpegcdiohlaaGreatDoor.Tr
