/-
  The library's contracts that this claim uses, laid at this seat's numbers by the kit's own commands lay-shelf and lay-plain; no condition of its own.
-/
import Derived.Shelf.Strings.Builder1
import Derived.Shelf.Strings.Builder2
import Derived.Shelf.Strings.OnBuilder
import Derived.Shelf.Small.Bits
import Derived.Shelf.Small.Strs
import Derived.Shelf.Strings.BuilderF
import Derived.Shelf.Strings.BuilderK
import Derived.Shelf.Strings.Builder2Cap
import Derived.Shelf.Strconv.Itoa0
import Derived.Shelf.Strconv.Itoa1
import Derived.Shelf.LaysM
import Derived.Shelf.Strconv.Itoa2
import Derived.Shelf.Strconv.Itoa3
import Derived.Shelf.Strconv.Itoa4
import Derived.Shelf.Strconv.ParseIntEmpty
import Derived.Shelf.Strconv.Clone
import Derived.Shelf.Strconv.SyntaxError
import Derived.Shelf.LaysC
import Derived.Shelf.Strconv.ToError
import Derived.Shelf.Strconv.Lower
import Derived.Shelf.Strconv.ParseUint10
import Derived.Shelf.Strconv.ParseUint10Empty
import Derived.Shelf.Strconv.ParseUint10Any
import Derived.Shelf.Strconv.ParseInt10
import Derived.Shelf.Strconv.RangeError
import Derived.Shelf.Strconv.ToErrorRange
import Derived.Shelf.Strconv.ParseUintEmpty
import Derived.Shelf.Strconv.ParseUint10b64
import Derived.Shelf.Strconv.ParseUint10b32
import Derived.Shelf.Strconv.ParseUint10b16
import Derived.Shelf.Strconv.ParseUint10b8
import Derived.Shelf.Strconv.ParseUint10At
import Derived.Shelf.Strconv.ParseInt10At64
import Derived.Shelf.Strconv.ParseInt10At32
import Derived.Shelf.Strconv.ParseInt10At16
import Derived.Shelf.Strconv.ParseInt10At8
import Derived.Shelf.Strconv.ParseInt10All
import Derived.Shelf.Strconv.ParseIntPublic10
import Derived.Shelf.Strconv.ErrVarParseInt
import Derived.Shelf.Strings.Search1
import Derived.Shelf.Strings.Search2
import Derived.Shelf.Strings.Cut
import Derived.Shelf.Strings.Shaped
import Derived.Shelf.Sort.Plain
import Derived.Shelf.Strconv.AppendUint10
import Derived.Shelf.Strconv.AppendInt10
import Derived.Shelf.Strings.Prefix
import Derived.Shelf.Bits.Mul64
import Derived.Shelf.Strings.Repeat
import Derived.Shelf.Strings.BuilderCap
import Derived.Shelf.Slices.Equal
import Derived.Ground.Names2Prog
import Derived.Shelf.Slices.Clone
import Derived.Shelf.Slices.CompactS
import Derived.Shelf.Slices.Cells
import Derived.Shelf.Slices.In.SortNone
import Derived.Shelf.Slices.Empties2
import Derived.Ground.SlgnProg
import Derived.Shelf.SlicesE.Clone
import Derived.Test.YtbhgpegcdiohlaaGreatDoorProg
import Derived.Test.YtbhgpegcdiohlaaGreatDoorPaF
import Derived.Sort.OwnSorted
namespace Go.Proofs
open Go.Shelf
def Tryz.lays190_ren : Go.Shelf.Ren := ⟨fun | 190 => 154 | 125 => 179 | 258 => 178 | 128 => 207 | 129 => 208 | 302 => 198 | 303 => 199 | 304 => 200 | 305 => 201 | 306 => 202 | 307 => 203 | 308 => 204 | 309 => 205 | 310 => 206 | 333 => 223 | 329 => 224 | 330 => 225 | 334 => 226 | 335 => 227 | 336 => 228 | 344 => 253 | n => n, fun | 31 => 22 | 9 => 9 | 3 => 3 | 46 => 157 | 0 => 0 | 51 => 181 | 53 => 26 | 4 => 4 | 183 => 212 | 182 => 211 | 131 => 151 | 5 => 5 | 218 => 231 | 222 => 235 | 228 => 263 | 229 => 115 | n => n, fun | n => n⟩
theorem Tryz.lays190 : Go.Proofs.Lays.n190 Tryz.prog Tryz.lays190_ren := {
  mixed := by kernel_rfl
  f125 := Tryz.func179.trans (congrArg some (by kernel_rfl))
  f128 := Tryz.func207.trans (congrArg some (by kernel_rfl))
  f129 := Tryz.func208.trans (congrArg some (by kernel_rfl))
  f190 := Tryz.func154.trans (congrArg some (by kernel_rfl))
  f258 := Tryz.func178.trans (congrArg some (by kernel_rfl))
  f302 := Tryz.func198.trans (congrArg some (by kernel_rfl))
  f303 := Tryz.func199.trans (congrArg some (by kernel_rfl))
  f304 := Tryz.func200.trans (congrArg some (by kernel_rfl))
  f305 := Tryz.func201.trans (congrArg some (by kernel_rfl))
  f306 := Tryz.func202.trans (congrArg some (by kernel_rfl))
  f307 := Tryz.func203.trans (congrArg some (by kernel_rfl))
  f308 := Tryz.func204.trans (congrArg some (by kernel_rfl))
  f309 := Tryz.func205.trans (congrArg some (by kernel_rfl))
  f310 := Tryz.func206.trans (congrArg some (by kernel_rfl))
  f329 := Tryz.func224.trans (congrArg some (by kernel_rfl))
  f330 := Tryz.func225.trans (congrArg some (by kernel_rfl))
  f333 := Tryz.func223.trans (congrArg some (by kernel_rfl))
  f334 := Tryz.func226.trans (congrArg some (by kernel_rfl))
  f335 := Tryz.func227.trans (congrArg some (by kernel_rfl))
  f336 := Tryz.func228.trans (congrArg some (by kernel_rfl))
  f344 := Tryz.func253.trans (congrArg some (by kernel_rfl))
  t0 := Tryz.underlying0
  a0 := Tryz.isAgg0
  z0 := Tryz.sizeOf0
  v0 := Tryz.zeroValue0
  t3 := Tryz.underlying3
  a3 := Tryz.isAgg3
  z3 := Tryz.sizeOf3
  v3 := Tryz.zeroValue3
  t4 := Tryz.underlying4
  a4 := Tryz.isAgg4
  z4 := Tryz.sizeOf4
  v4 := Tryz.zeroValue4
  t5 := Tryz.underlying5
  a5 := Tryz.isAgg5
  z5 := Tryz.sizeOf5
  v5 := Tryz.zeroValue5
  t9 := Tryz.underlying9
  a9 := Tryz.isAgg9
  z9 := Tryz.sizeOf9
  v9 := Tryz.zeroValue9
  t31 := Tryz.underlying22
  a31 := Tryz.isAgg22
  z31 := Tryz.sizeOf22
  v31 := Tryz.zeroValue22
  t46 := Tryz.underlying157
  a46 := Tryz.isAgg157
  z46 := Tryz.sizeOf157
  v46 := Tryz.zeroValue157
  t51 := Tryz.underlying181
  a51 := Tryz.isAgg181
  z51 := Tryz.sizeOf181
  v51 := Tryz.zeroValue181
  t53 := Tryz.underlying26
  a53 := Tryz.isAgg26
  z53 := Tryz.sizeOf26
  v53 := Tryz.zeroValue26
  t131 := Tryz.underlying151
  a131 := Tryz.isAgg151
  z131 := Tryz.sizeOf151
  v131 := Tryz.zeroValue151
  t182 := Tryz.underlying211
  a182 := Tryz.isAgg211
  z182 := Tryz.sizeOf211
  v182 := Tryz.zeroValue211
  t183 := Tryz.underlying212
  a183 := Tryz.isAgg212
  z183 := Tryz.sizeOf212
  v183 := Tryz.zeroValue212
  t218 := Tryz.underlying231
  a218 := Tryz.isAgg231
  z218 := Tryz.sizeOf231
  v218 := Tryz.zeroValue231
  t222 := Tryz.underlying235
  a222 := Tryz.isAgg235
  z222 := Tryz.sizeOf235
  v222 := Tryz.zeroValue235
  t228 := Tryz.underlying263
  a228 := Tryz.isAgg263
  z228 := Tryz.sizeOf263
  v228 := Tryz.zeroValue263
  t229 := Tryz.underlying115
  a229 := Tryz.isAgg115
  z229 := Tryz.sizeOf115
  v229 := Tryz.zeroValue115 }
open Go.Sort Go.RowKit in
theorem Tryz.slices_Sort_string (blk off cap : Nat) (ss : List (List UInt8)) (w : World) (hH : Holds encStr w blk off ss.toArray) (hblk : blk < w.heap.size) (hsz : ss.length < 4611686018427387904) :
    Calls Tryz.prog 154 #[.slice (some ⟨blk, off, none⟩) ss.length cap] w fun e w' =>
      e = .returned (.tuple #[]) ∧ ∃ n os, w' = grow (putRow encStr (Sort.ahead w n) blk off (ss.mergeSort fun x y => decide (x ≤ y)).toArray) os := Any.slices_Sort_string Tryz.lays190 blk off cap ss w hH hblk hsz
open Go.RowKit Go.Sort in
/-- .. and plain. (LAID: no walk: one application.) -/
theorem Tryz.slices_Sort_string_none (p : Option Addr) (cap : Nat) (w : World) :
    Calls Tryz.prog 154 #[.slice p 0 cap] w fun e w' => e = .returned (.tuple #[]) ∧ w' = w := Any.slices_Sort_string_none Tryz.lays190 p cap w
def Tryz.lays194_ren : Go.Shelf.Ren := ⟨fun | 194 => 155 | n => n, fun | 31 => 22 | 9 => 9 | 3 => 3 | 4 => 4 | 0 => 0 | n => n, fun | n => n⟩
theorem Tryz.lays194 : Go.Proofs.Lays.n194 Tryz.prog Tryz.lays194_ren := {
  mixed := by kernel_rfl
  f194 := Tryz.func155.trans (congrArg some (by kernel_rfl))
  t0 := Tryz.underlying0
  a0 := Tryz.isAgg0
  z0 := Tryz.sizeOf0
  v0 := Tryz.zeroValue0
  t3 := Tryz.underlying3
  a3 := Tryz.isAgg3
  z3 := Tryz.sizeOf3
  v3 := Tryz.zeroValue3
  t4 := Tryz.underlying4
  a4 := Tryz.isAgg4
  z4 := Tryz.sizeOf4
  v4 := Tryz.zeroValue4
  t9 := Tryz.underlying9
  a9 := Tryz.isAgg9
  z9 := Tryz.sizeOf9
  v9 := Tryz.zeroValue9
  t31 := Tryz.underlying22
  a31 := Tryz.isAgg22
  z31 := Tryz.sizeOf22
  v31 := Tryz.zeroValue22 }
open Go.RowKit Go.Lib Go.Sort in
/-- slices.Compact at []string: "Compact replaces consecutive runs of equal elements with a single copy. This is like the uniq command found on Unix. Compact modifies the contents of the slice s and returns the modified slice, which may have a smaller length. Compact zeroes the elements between the new length and the original length. The result preserves the nilness of s.": IT RETURNS THE SLICE CUT TO 'Lib.compact zs'; ITS CELLS HOLD 'Lib.compact zs', THEN ZERO VALUES up to the old length; all else is as it was, but for the count of draws. IN THE WORDS OF slices.Sort's CONTRACT ('Holds', 'putRow'): so the everyday 'slices.Sort(xs); xs = slices.Compact(xs)' goes from the one contract to the other. It asks 'zs.length ≤ cap' (every slice's: the reslicing 's[:k]' looks at it). Length 0, nil: '.._empty'. (LAID: no walk: one application.) -/
theorem Tryz.slices_Compact_string (blk off cap : Nat) (zs : List (List UInt8)) (w : World) (hH : Holds encStr w blk off zs.toArray) (hsz : zs.length ≤ 9223372036854775807) (hcap : zs.length ≤ cap) :
    Calls Tryz.prog 155 #[.slice (some ⟨blk, off, none⟩) zs.length cap] w fun e w' => e = .returned (.slice (some ⟨blk, off, none⟩) (Lib.compact zs).length cap) ∧ ∃ q, w' = putRow encStr (Sort.ahead w q) blk off (Lib.compact zs ++ List.replicate (zs.length - (Lib.compact zs).length) []).toArray := Any.slices_Compact_string Tryz.lays194 blk off cap zs w hH hsz hcap
open Go.RowKit Go.Lib Go.Sort in
/-- The same at a slice of length 0, a nil one too: it comes back as it is. (LAID: no walk: one application.) -/
theorem Tryz.slices_Compact_string_empty (a : Option Addr) (cap : Nat) (w : World) :
    Calls Tryz.prog 155 #[.slice a 0 cap] w fun e w' => e = .returned (.slice a 0 cap) ∧ w' = w := Any.slices_Compact_string_empty Tryz.lays194 a cap w
def Tryz.laysNm216_ren : Go.Shelf.Ren := ⟨fun | 16 => 61 | n => n, fun | 24 => 22 | 9 => 9 | 4 => 4 | n => n, fun | n => n⟩
theorem Tryz.laysNm216 : Go.Proofs.Lays2.n16 Tryz.prog Tryz.laysNm216_ren := {
  mixed := by kernel_rfl
  f16 := Tryz.func61.trans (congrArg some (by kernel_rfl))
  t4 := Tryz.underlying4
  a4 := Tryz.isAgg4
  z4 := Tryz.sizeOf4
  v4 := Tryz.zeroValue4
  t9 := Tryz.underlying9
  a9 := Tryz.isAgg9
  z9 := Tryz.sizeOf9
  v9 := Tryz.zeroValue9
  t24 := Tryz.underlying22
  a24 := Tryz.isAgg22
  z24 := Tryz.sizeOf22
  v24 := Tryz.zeroValue22
  i9 := by kernel_rfl }
open Go.RowKit Go.Lib in
/-- slices.Clone at []string: "Clone returns a copy of the slice. The elements are copied using assignment, so this is a shallow clone. The result may have additional unused capacity. The result preserves the nilness of s.": OF A SLICE THAT IS NOT nil IT RETURNS A SLICE THAT IS NOT nil, OF THE SAME ELEMENTS, IN MEMORY OF THE CALL's OWN: in the how-to's words (6f): 'w'.ownsRow B e 1 v' n cells': v' begins at the head of a row among the blocks from B on (B: the heap's size at the call), not frozen, whose first cells are the elements · 'Below B w w'': below B all is as it was. The capacity is whatever the run-time gives. 'zs': what the cells behind the slice's address hold; 'zs.take n': its elements. (LAID: no walk: one application.) -/
theorem Tryz.slices_Clone_string (b off n c : Nat) (zs : List ByteArray) (w : World) (hz : n ≤ zs.length) (hbig : n * 16 ≤ 140737488355328) (hc : ∀ j, j < zs.length → w.cell? ⟨b, off + j, none⟩ = some (.string (zs.getD j ByteArray.empty))) :
    Calls Tryz.prog 61 #[.slice (some ⟨b, off, none⟩) n c] w fun e w' => ∃ v', e = .returned v' ∧ w'.ownsRow w.heap.size 9 1 v' n ((zs.take n).map (Value.string)) ∧ v' ≠ .slice none 0 0 ∧ Below w.heap.size w w' := Any.slices_Clone_string Tryz.laysNm216 b off n c zs w hz hbig hc
open Go.RowKit Go.Lib in
/-- The same at nil: nil comes back; the world is as it was. (LAID: no walk: one application.) -/
theorem Tryz.slices_Clone_string_nil (n c : Nat) (w : World) :
    Calls Tryz.prog 61 #[.slice none n c] w fun e w' => e = .returned (.slice none 0 0) ∧ w' = w := Any.slices_Clone_string_nil Tryz.laysNm216 n c w
end Go.Proofs

namespace Go.Proofs.YtbhgpegcdiohlaaGreatDoor.Tr
open Go Go.RowKit Go.Proofs Go.Sort
set_option linter.unusedVariables false
set_option maxRecDepth 100000
set_option maxHeartbeats 4000000
/-- texts as lists of bytes -/
def lisB (l : List ByteArray) : List (List UInt8) := l.map (·.data.toList)
def unlB (l : List (List UInt8)) : List ByteArray := l.map fun b => ⟨b.toArray⟩
def sortB (l : List ByteArray) : List (List UInt8) := (lisB l).mergeSort fun x y => decide (x ≤ y)
/-- names.Set: in order, each once -/
def setB (l : List ByteArray) : List ByteArray := unlB (Lib.compact (sortB l))
theorem enc_lisB (l : List ByteArray) : (lisB l).map encStr = l.map Value.string := by
  unfold lisB
  rw [List.map_map]
  apply List.map_congr_left
  intro s _
  rfl
theorem enc_unlB (l : List (List UInt8)) : (unlB l).map Value.string = l.map encStr := by
  unfold unlB
  rw [List.map_map]
  rfl
theorem sortB_len (l : List ByteArray) : (sortB l).length = l.length := by unfold sortB lisB; simp
theorem own_shorter {w : World} {base g cap n m : Nat} {e : TypeId} {xs : List Value} (h : w.ownsRow base e 1 (.slice (some ⟨g, 0, none⟩) n cap) n xs) (hm : m ≤ n) : w.ownsRow base e 1 (.slice (some ⟨g, 0, none⟩) m cap) m (xs.take m) := by
  have h1 := h.1
  rcases h.2 with ⟨h0, _⟩ | ⟨g', cap', cur, hv, hg, hh, hn, hc, hs, ht⟩
  · cases h0
  cases hv
  refine ⟨by rw [List.length_take]; omega, .inr ⟨g, cap, cur, rfl, hg, hh, by omega, hc, hs, ?_⟩⟩
  rw [← ht, List.take_take]
  congr 1
  omega
theorem set_nil (c : Nat) (w : World) : Calls Tryz.prog 120 #[.slice none 0 0] w fun e w' => e = .returned (.slice none 0 0) ∧ Below w.heap.size w w' := by
  go_enter Tryz.func120, Tryz.ntmps120
  go_wp2_with (first
    | (go_at_call 61; (with_reducible refine (Tryz.slices_Clone_string_nil 0 0 _).mono ?_); rintro e w1 ⟨rfl, rfl⟩)
    | (go_at_call 154; (with_reducible refine (Tryz.slices_Sort_string_none none 0 _).mono ?_); rintro e w1 ⟨rfl, rfl⟩)
    | (go_at_call 155; (with_reducible refine (Tryz.slices_Compact_string_empty none 0 _).mono ?_); rintro e w1 ⟨rfl, rfl⟩))
  go_ret
  exact ⟨rfl, up0 _⟩
theorem clone_own (l : List ByteArray) (b g c : Nat) (hp : 0 < l.length) (hl : l.length ≤ 1000000000000) (w : World) (hown : w.ownsRow b 9 1 (.slice (some ⟨g, 0, none⟩) l.length c) l.length (l.map Value.string)) :
    Calls Tryz.prog 61 #[.slice (some ⟨g, 0, none⟩) l.length c] w fun e w1 => ∃ g1 cap1, e = .returned (.slice (some ⟨g1, 0, none⟩) l.length cap1) ∧ w1.ownsRow w.heap.size 9 1 (.slice (some ⟨g1, 0, none⟩) l.length cap1) l.length (l.map Value.string) ∧ Below w.heap.size w w1 := by
  refine (Tryz.slices_Clone_string g 0 l.length c l w (Nat.le_refl _) (by omega) (fun j hj => ?_)).mono ?_
  · rw [Nat.zero_add, World.ownsRow.cellAt hown j (by omega)]
    simp [List.getD, List.getElem?_eq_getElem hj]
  · rintro e w1 ⟨v, rfl, ho, hne, hb⟩
    rw [List.take_length] at ho
    rcases ho.2 with ⟨h0, _⟩ | ⟨g1, cap1, cur, rfl, h3⟩
    · exact absurd h0 hne
    · exact ⟨g1, cap1, rfl, ho, hb⟩
theorem sort_own (ss : List (List UInt8)) (base g cap : Nat) (hl : ss.length ≤ 1000000000000) (w : World) (hown : w.ownsRow base 9 1 (.slice (some ⟨g, 0, none⟩) ss.length cap) ss.length (ss.map encStr)) (hbs : base ≤ w.heap.size) :
    Calls Tryz.prog 154 #[.slice (some ⟨g, 0, none⟩) ss.length cap] w fun e w1 => e = .returned (.tuple #[]) ∧ w1.ownsRow base 9 1 (.slice (some ⟨g, 0, none⟩) ss.length cap) ss.length ((ss.mergeSort fun x y => decide (x ≤ y)).map encStr) ∧ Below base w w1 := by
  rcases hown.2 with ⟨h0, _⟩ | ⟨g', cap', cur, hv, hg, hh, hn, hc, hs, ht⟩
  · cases h0
  cases hv
  have hH := holds_of_block (ss := ss) hh (by simpa using ht)
  refine (Tryz.slices_Sort_string g 0 cap ss w hH (Array.getElem?_eq_some_iff.1 hh).1 (by omega)).mono ?_
  rintro e w1 ⟨rfl, n, os, rfl⟩
  exact ⟨rfl, ownsRow_sorted (by simp) hg hh hn hc hs, (Below.refl base w).grown (grownBy_sorted _) hbs (fun k hk => by cases hk; exact hg)⟩
theorem compact_own (zs : List (List UInt8)) (base g cap : Nat) (hl : zs.length ≤ 1000000000000) (w : World) (hown : w.ownsRow base 9 1 (.slice (some ⟨g, 0, none⟩) zs.length cap) zs.length (zs.map encStr)) (hbs : base ≤ w.heap.size) :
    Calls Tryz.prog 155 #[.slice (some ⟨g, 0, none⟩) zs.length cap] w fun e w1 => e = .returned (.slice (some ⟨g, 0, none⟩) (Lib.compact zs).length cap) ∧ w1.ownsRow base 9 1 (.slice (some ⟨g, 0, none⟩) (Lib.compact zs).length cap) (Lib.compact zs).length ((Lib.compact zs).map encStr) ∧ Below base w w1 := by
  rcases hown.2 with ⟨h0, _⟩ | ⟨g', cap', cur, hv, hg, hh, hn, hc, hs, ht⟩
  · cases h0
  cases hv
  have hH := holds_of_block (ss := zs) hh (by simpa using ht)
  have hle := Lib.compact_length_le zs
  refine (Tryz.slices_Compact_string g 0 cap zs w hH (by omega) hn).mono ?_
  rintro e w1 ⟨rfl, q, rfl⟩
  have h1 := ownsRow_sorted (n := q) (os := #[]) (ss := zs) (ts := Lib.compact zs ++ List.replicate (zs.length - (Lib.compact zs).length) []) (by simp; omega) hg hh hn hc hs
  rw [grow_empty] at h1
  have h2 := own_shorter h1 hle
  have h3 := (Below.refl base w).grown (grownBy_sorted (w := w) (g := g) (n := q) (os := #[]) (Lib.compact zs ++ List.replicate (zs.length - (Lib.compact zs).length) []).toArray) hbs (fun k hk => by cases hk; exact hg)
  rw [grow_empty] at h3
  refine ⟨rfl, ?_, h3⟩
  rw [List.map_append, List.take_left' (by simp)] at h2
  exact h2
theorem compact_pos {zs : List (List UInt8)} (h : 0 < zs.length) : 0 < (Lib.compact zs).length := by
  obtain ⟨n, hn⟩ : ∃ n, zs.length = n + 1 := ⟨zs.length - 1, by omega⟩
  unfold Lib.compact Lib.compactUpTo
  rw [hn, List.length_map]
  refine List.length_pos_iff.2 (List.ne_nil_of_mem (a := 0) (List.mem_filter.2 ⟨List.mem_range.2 (by omega), ?_⟩))
  simp [Lib.keeps]
theorem setB_nil : setB [] = [] := by simp [setB, sortB, lisB, Lib.compact, Lib.compactUpTo, unlB]
theorem set120 (l : List ByteArray) (b : Nat) (A : Option Addr) (c : Nat) (hl : l.length ≤ 1000000000000) (w : World) (hz : l.length = 0 → A = none ∧ c = 0) (hown : w.ownsRow b 9 1 (.slice A l.length c) l.length (l.map Value.string)) : Calls Tryz.prog 120 #[.slice A l.length c] w (Rows' (setB l) w) := by
  rcases Nat.eq_zero_or_pos l.length with h0 | hp
  · obtain ⟨rfl, rfl⟩ := hz h0
    obtain rfl := List.eq_nil_of_length_eq_zero h0
    refine (set_nil 0 w).mono ?_
    rintro e w1 ⟨rfl, hb⟩
    rw [setB_nil]
    exact ⟨none, 0, 0, rfl, rfl, fun _ => ⟨rfl, rfl⟩, World.ownsRow_nil _ _ _ _, hb⟩
  · rcases hown.2 with ⟨_, h0⟩ | ⟨g, cap, cur, hv, _⟩
    · omega
    injection hv with e1 _ e2
    subst e1 e2
    obtain ⟨N, hN⟩ : ∃ N, N = l.length := ⟨_, rfl⟩
    have C1 := Hd.mk (clone_own l b g c hp hl w hown)
    have C2 : Hd (∀ (w1 : World) (g1 cap1 : Nat), w.heap.size ≤ w1.heap.size → w1.ownsRow w.heap.size 9 1 (.slice (some ⟨g1, 0, none⟩) N cap1) N (l.map Value.string) → Calls Tryz.prog 154 #[.slice (some ⟨g1, 0, none⟩) N cap1] w1 fun e w2 => e = .returned (.tuple #[]) ∧ w2.ownsRow w.heap.size 9 1 (.slice (some ⟨g1, 0, none⟩) N cap1) N ((sortB l).map encStr) ∧ Below w.heap.size w1 w2) := ⟨fun w1 g1 cap1 hs ho => by
      have hsl : (lisB l).length = N := by unfold lisB; rw [List.length_map, hN]
      have h := sort_own (lisB l) w.heap.size g1 cap1 (by omega) w1 (by rw [hsl, enc_lisB]; exact ho) hs
      rw [hsl] at h
      exact h⟩
    have C3 : Hd (∀ (w1 : World) (g1 cap1 : Nat), w.heap.size ≤ w1.heap.size → w1.ownsRow w.heap.size 9 1 (.slice (some ⟨g1, 0, none⟩) N cap1) N ((sortB l).map encStr) → Calls Tryz.prog 155 #[.slice (some ⟨g1, 0, none⟩) N cap1] w1 fun e w2 => e = .returned (.slice (some ⟨g1, 0, none⟩) (Lib.compact (sortB l)).length cap1) ∧ w2.ownsRow w.heap.size 9 1 (.slice (some ⟨g1, 0, none⟩) (Lib.compact (sortB l)).length cap1) (Lib.compact (sortB l)).length ((Lib.compact (sortB l)).map encStr) ∧ Below w.heap.size w1 w2) := ⟨fun w1 g1 cap1 hs ho => by
      have hsl : (sortB l).length = N := by rw [sortB_len, hN]
      have h := compact_own (sortB l) w.heap.size g1 cap1 (by omega) w1 (by rw [hsl]; exact ho) hs
      rw [hsl] at h
      exact h⟩
    have hpos := compact_pos (zs := sortB l) (by rw [sortB_len]; exact hp)
    obtain ⟨m, hm⟩ : ∃ m, m = (Lib.compact (sortB l)).length := ⟨_, rfl⟩
    have HM := Hd.mk hm
    rw [← hm] at C3
    rw [← hN] at C1 ⊢
    clear hown hz hN hm hp hl
    go_enter Tryz.func120, Tryz.ntmps120
    go_wp2_with (first
      | (go_at_call 61; (with_reducible refine C1.out.mono ?_); rintro e w1 ⟨g1, cap1, rfl, ho1, hb1⟩; have HO1 := Hd.mk ho1; have HB1 := Hd.mk hb1; clear ho1 hb1)
      | (go_at_call 154; (with_reducible refine (C2.out _ _ _ HB1.out.size HO1.out).mono ?_); rintro e w2 ⟨rfl, ho2, hb2⟩; have HO2 := Hd.mk ho2; have HB2 := Hd.mk hb2; clear ho2 hb2)
      | (go_at_call 155; (with_reducible refine (C3.out _ _ _ (Nat.le_trans HB1.out.size HB2.out.size) HO2.out).mono ?_); rintro e w3 ⟨rfl, ho3, hb3⟩; have HO3 := Hd.mk ho3; have HB3 := Hd.mk hb3; clear ho3 hb3))
    go_ret
    exact ⟨_, _, _, rfl, by rw [HM.out]; unfold setB unlB; rw [List.length_map], fun h => by have := HM.out; omega, by unfold setB; rw [enc_unlB]; exact HO3.out, (HB1.out.trans HB2.out).trans HB3.out⟩
theorem set_any (l : List ByteArray) (b : Nat) (A : Option Addr) (c N : Nat) (hN : N = l.length) (hl : l.length ≤ 1000000000000) (w : World) (hz : N = 0 → A = none ∧ c = 0) (hown : w.ownsRow b 9 1 (.slice A N c) N (l.map Value.string)) : Calls Tryz.prog 76 #[.slice A N c] w (Rows' (setB l) w) := by
  subst hN
  have C := Hd.mk (set120 l b A c hl w hz hown)
  obtain ⟨N, hN⟩ : ∃ N, N = l.length := ⟨_, rfl⟩
  rw [← hN] at C ⊢
  clear hN hz hown hl
  go_enter Tryz.func76, Tryz.ntmps76
  go_wp2_with (go_at_call 120; (with_reducible refine C.out.mono ?_); rintro e w1 ⟨A1, c1, N1, rfl, h1, h2, h3, h4⟩; have H1 := Hd.mk h1; have H2 := Hd.mk h2; have H3 := Hd.mk h3; have H4 := Hd.mk h4; clear h1 h2 h3 h4)
  go_ret
  exact ⟨_, _, _, rfl, H1.out, H2.out, H3.out, H4.out⟩
end Go.Proofs.YtbhgpegcdiohlaaGreatDoor.Tr

namespace Go.Proofs.YtbhgpegcdiohlaaGreatDoor.Tr
open Go Go.RowKit Go.Proofs
set_option linter.unusedVariables false
set_option maxRecDepth 100000
set_option maxHeartbeats 8000000
def usD (d : De) : List ByteArray := usL d.e ++ usSs d.bd
theorem usD_le (d : De) : (usD d).length ≤ cntD d := by
  unfold usD cntD
  rw [List.length_append]
  have := usL_le d.e
  have := usSs_le d.bd
  omega
theorem flatD_le (l : List De) (k : Nat) : ((l.take k).flatMap usD).length ≤ sumN cntD l := by
  induction l generalizing k with
  | nil => simp [sumN]
  | cons a l ih =>
    cases k with
    | zero => simp
    | succ k =>
      rw [List.take_succ_cons, List.flatMap_cons, List.length_append, sumN]
      have := ih k
      have := usD_le a
      omega
theorem uses_any (m : Mo) (w : World) (v : Value) (hv : m.Is w v) (hN : sumN cntD m.ds ≤ 100000000000) : Calls Tryz.prog 31 #[v] w (Rows' (setB (m.ds.flatMap usD)) w) := by
  obtain ⟨A0, l0, c0, A, l, c, rfl, s0, hs⟩ := hv
  have hn := hs.2.1
  have HLEN := Hd.mk hs.1
  have G := Hd.mk hs
  have HN := Hd.mk hN
  clear hs hN s0
  go_enter Tryz.func31, Tryz.ntmps31
  go_wp2_with fail
  go_loopw [3, 11] (fun v i w' => ∃ (j : Nat) (A' : Option Addr) (c' N : Nat), j ≤ l ∧ v = .slice A' N c' ∧ i = .int .i64 j ∧ (N = 0 → A' = none ∧ c' = 0) ∧ N = ((m.ds.take j).flatMap usD).length ∧ w'.ownsRow w.heap.size 9 1 (.slice A' N c') N (((m.ds.take j).flatMap usD).map Value.string) ∧ Below w.heap.size w w') (fun _ i _ => l - (intOf i).toNat)
  case atStart => exact ⟨0, none, 0, 0, by omega, rfl, rfl, fun _ => ⟨rfl, rfl⟩, rfl, World.ownsRow_nil _ _ _ _, up (up0 _) _⟩
  case round =>
    obtain ⟨j, A', c', N, hj, rfl, rfl, hz, hN, ho, hb⟩ := hrel
    have HZN := Hd.mk hz
    have HNN := Hd.mk hN
    have HO := Hd.mk ho
    have HB := Hd.mk hb
    clear hz hN ho hb
    by_cases hlt : j < l
    · obtain ⟨x, hx⟩ : ∃ x, m.ds[j]? = some x := ⟨_, List.getElem?_eq_getElem (by rw [← HLEN.out]; exact hlt)⟩
      obtain ⟨B, o, rfl, g1⟩ := G.out.at (by omega)
      have i0 := g1 j x hx
      have hfx := flat_take usD hx
      have hle := flatD_le m.ds (j + 1)
      have hone := sumN_le cntD m.ds (j + 1)
      have hone2 := sumN_take cntD hx
      obtain ⟨k, ex, n, t, ps, e, bd⟩ := x
      obtain ⟨b0, b1, b2, b3, ⟨A1, l1, c1, b4, s1⟩, ⟨A2, l2, c2, b5, s2⟩, ⟨A3, l3, c3, b6, s3⟩⟩ := i0
      dsimp only at b0 b1 b2 b3 s1 s2 s3
      have a0 := keep HB.out b0
      have a1 := keep HB.out b1
      have a2 := keep HB.out b2
      have a3 := keep HB.out b3
      have a4 := keep HB.out b4
      have a5 := keep HB.out b5
      have a6 := keep HB.out b6
      have S2 := Hd.mk s2
      have S3 := Hd.mk s3
      have lt1 : B < wr.heap.size := World.block_lt_of_cell? wr _ a0
      rw [show usD ⟨k, ex, n, t, ps, e, bd⟩ = usL e ++ usSs bd from rfl, usL_flat] at hfx
      rw [show cntD ⟨k, ex, n, t, ps, e, bd⟩ = 1 + ps.length + cntSs bd + cntL e from rfl, cntL_sum] at hone2
      obtain ⟨u1, hu1⟩ : ∃ u, u = usSs bd := ⟨_, rfl⟩
      obtain ⟨xs, hxs⟩ : ∃ u, u = (m.ds.take j).flatMap usD := ⟨_, rfl⟩
      have K3 := Hd.mk (fun w (h : Sl 5 (fun x => x.In w) bd.toList A3 l3) => hu1 ▸ usSs_any bd w A3 l3 c3 h (by have := HN.out; omega))
      rw [← hu1, ← hxs] at hfx
      rw [← hxs] at HNN HO
      have HF := Hd.mk hfx
      have HZ : Hd (xs.length + (e.toList.flatMap usE).length + u1.length ≤ 100000000000 ∧ sumN cntE e.toList ≤ 100000000000) := ⟨by
        have := HN.out
        rw [hfx] at hle
        simp only [List.length_append] at hle
        omega⟩
      clear b0 b1 b2 b3 b4 b5 b6 g1 s1 s2 s3 hx hle hone hone2 hu1 hxs hfx
      obtain ⟨wo, rfl⟩ : ∃ wo : World, wo = wr := ⟨_, rfl⟩
      obtain ⟨K, hK⟩ : ∃ K, K = wo.heap.size := ⟨_, rfl⟩
      have HKK := Hd.mk hK
      clear hK
      go_wp2_with fail
      go_loopw [3, 18] (fun v i w' => ∃ (j2 : Nat) (A' : Option Addr) (c' N : Nat), j2 ≤ l2 ∧ v = .slice A' N c' ∧ i = .int .i64 j2 ∧ (N = 0 → A' = none ∧ c' = 0) ∧ N = (xs ++ (e.toList.take j2).flatMap usE).length ∧ w'.ownsRow w.heap.size 9 1 (.slice A' N c') N ((xs ++ (e.toList.take j2).flatMap usE).map Value.string) ∧ Below w.heap.size w w' ∧ K < w'.heap.size ∧ (Value.slice A' N c').ownBlock ≠ some K ∧ w'.cell? ⟨K, 6, none⟩ = some (.slice A3 l3 c3)) (fun _ i _ => l2 - (intOf i).toNat)
      case atStart =>
        refine ⟨0, A', c', N, by omega, rfl, rfl, HZN.out, by simpa using HNN.out, by simpa using own_below HO.out (up (up0 _) _), up HB.out _, by rw [HKK.out]; simp, fun h => ?_, by rw [HKK.out]; exact new_cell wo _ _ 6⟩
        have := (HO.out.lt K h).2
        rw [HKK.out] at this
        omega
      case round =>
        obtain ⟨j2, A', c', N, hj2, rfl, rfl, hz, hN, ho, hb, hk1, hk2, hk3⟩ := hrel
        have HZN := Hd.mk hz
        have HNN := Hd.mk hN
        have HO := Hd.mk ho
        have HB := Hd.mk hb
        have HK1 := Hd.mk hk1
        have HK2 := Hd.mk hk2
        have HK3 := Hd.mk hk3
        have hn1 := S2.out.2.1
        clear hz hN ho hb hk1 hk2 hk3
        by_cases hlt2 : j2 < l2
        · obtain ⟨x, hx⟩ : ∃ x, e.toList[j2]? = some x := ⟨_, List.getElem?_eq_getElem (by rw [← S2.out.1]; exact hlt2)⟩
          obtain ⟨B', o', rfl, g1⟩ := S2.out.at (by omega)
          have i1 := Ex.In_below HB.out x (g1 j2 x hx)
          obtain ⟨v0, v1, v2, v3, v4, v5, v6, v7, v8, a0, a1, a2, a3, a4, a5, a6, ax⟩ := Ex.In_Is i1
          have hT := sumN_take cntE hx
          have hle := sumN_le cntE e.toList (j2 + 1)
          have hfl := flat_le e.toList (j2 + 1)
          have X := Hd.mk (fun w' (hb : Below wr.heap.size wr w') => us_any x w' _ (Ex.Is_below hb ax) (by have := HZ.out; omega))
          have lt2 : B' < wr.heap.size := World.block_lt_of_cell? wr _ a0
          obtain ⟨ux, hux⟩ : ∃ ux, ux = usE x := ⟨_, rfl⟩
          have hF : Hd (xs ++ (e.toList.take (j2 + 1)).flatMap usE = (xs ++ (e.toList.take j2).flatMap usE) ++ ux) := ⟨by rw [flat_take usE hx, hux, List.append_assoc]⟩
          have hZ : Hd (N + ux.length ≤ 1000000000000) := ⟨by
            have h1 := congrArg List.length hF.out
            have h2 := HZ.out
            have h3 := HNN.out
            rw [List.length_append, List.length_append] at h1
            omega⟩
          rw [← hux] at X
          clear g1 i1 ax hx hT hle hfl hux
          go_wp2_with (first
            | (go_at_call 74; (with_reducible refine ((X.out _ (up (up0 _) _)).mono ?_)); (rintro e w5 ⟨A5, c5, N5, rfl, hN3, hz3, ho3, hb3⟩; have HB3 := Hd.mk hb3; have HZ3 := Hd.mk hz3; have HO3 := Hd.mk ho3; have HN3 := Hd.mk hN3; clear hz3 hb3 ho3 hN3))
            | (at_builtin; refine app_row rfl _ _ rfl w.heap.size _ _ _ _ rfl (own_below HO.out (step (up (up0 _) _) HB3.out)) HZN.out (by have := HB.out.size; have := HB3.out.size; simp at *; omega) _ _ _ _ _ rfl HO3.out HZ3.out (by have := hZ.out; have := HN3.out; omega) ?_; intro A4 c4 N4 w6 hN4 ho4 hz4 hne4 hce4 hb4; have HN4 := Hd.mk hN4; have HZ4 := Hd.mk hz4; have HO4 := Hd.mk ho4; have HB4 := Hd.mk hb4; have HNE := Hd.mk hne4; have HCE := Hd.mk hce4; clear hN4 hz4 ho4 hb4 hne4 hce4))
          go_roundw
          case rel =>
            have hk5 : K < w5.heap.size := by have := HK1.out; have := HB3.out.size; simp at *; omega
            refine ⟨j2 + 1, A4, c4, N4, by omega, rfl, by go_num, HZ4.out, ?_, by rw [hF.out]; exact HO4.out, (step (up HB.out _) HB3.out).trans HB4.out, by have := HB4.out.size; omega, HNE.out K hk5 HK2.out, (HCE.out ⟨K, 6, none⟩ hk5 HK2.out).trans (keep HB3.out (keep (up (up0 _) _) HK3.out))⟩
            rw [hF.out, List.length_append, ← HNN.out, HN4.out, HN3.out]
          case measure => simp [intOf]; omega
        · obtain rfl : j2 = l2 := by omega
          have ht : e.toList.take j2 = e.toList := List.take_of_length_le (by rw [← S2.out.1]; omega)
          have ho := HO.out
          have hn := HNN.out
          rw [ht] at ho hn
          clear ht
          have HO7 := Hd.mk ho
          have HN7 := Hd.mk hn
          have hk6 := HK3.out
          rw [HKK.out] at hk6
          clear ho hn HO HNN
          go_wp2_with (first
            | (go_at_call 75; (with_reducible refine ((K3.out _ (SlS_up HB.out S3.out)).mono ?_)); (rintro e w5 ⟨A5, c5, N5, rfl, hN5, hz5, ho5, hb5⟩; have HB5 := Hd.mk hb5; have HN5 := Hd.mk hN5; have HO5 := Hd.mk ho5; have HZ5 := Hd.mk hz5; clear hb5 hN5 ho5 hz5))
            | (at_builtin; refine app_row rfl _ _ rfl w.heap.size _ _ _ _ rfl (own_below HO7.out HB5.out) HZN.out (by have h1 := HB.out.size; have h2 := HB5.out.size; omega) _ _ _ _ _ rfl HO5.out HZ5.out (by have h1 := HZ.out; have h2 := HN7.out; have h3 := HN5.out; rw [List.length_append] at h2; omega) ?_; intro A8 c8 N8 w8 hN8 ho8 hz8 hne8 hce8 hb8; have HN8 := Hd.mk hN8; have HO8 := Hd.mk ho8; have HZ8 := Hd.mk hz8; have HB8 := Hd.mk hb8; clear hN8 ho8 hz8 hne8 hce8 hb8))
          have HW8 := Hd.mk ((step HB.out HB5.out).trans HB8.out)
          have HL : Hd ((m.ds.take (j + 1)).flatMap usD = xs ++ e.toList.flatMap usE ++ u1) := ⟨by rw [HF.out]; simp only [List.append_assoc]⟩
          have HLN : Hd (N8 = ((m.ds.take (j + 1)).flatMap usD).length) := ⟨by
            have h2 := HN7.out
            have h3 := HN5.out
            have h4 := HN8.out
            rw [HL.out]
            simp only [List.length_append] at *
            omega⟩
          go_roundw
          case rel => exact ⟨j + 1, A8, c8, N8, by omega, rfl, by go_num, HZ8.out, HLN.out, by rw [HL.out]; exact HO8.out, HW8.out⟩
          case measure => simp [intOf]; omega
    · obtain rfl : j = l := by omega
      have ht : m.ds.take j = m.ds := List.take_of_length_le (by rw [← HLEN.out]; omega)
      have ho := HO.out
      have hn := HNN.out
      have hfl := flatD_le m.ds j
      rw [ht] at ho hn hfl
      have C := Hd.mk (set_any _ w.heap.size A' c' N hn (by have := HN.out; omega) wr HZN.out ho)
      clear ht ho hn hfl
      go_wp2_with (go_at_call 76; (with_reducible refine (C.out.mono ?_)); (rintro e w5 ⟨A5, c5, N5, rfl, hN5, hz5, ho5, hb5⟩; have HB5 := Hd.mk hb5; have HN5 := Hd.mk hN5; have HO5 := Hd.mk ho5; have HZ5 := Hd.mk hz5; clear hb5 hN5 ho5 hz5))
      go_ret
      exact ⟨_, _, _, rfl, HN5.out, HZ5.out, own_mono HO5.out HB.out.size, step HB.out HB5.out⟩
end Go.Proofs.YtbhgpegcdiohlaaGreatDoor.Tr
