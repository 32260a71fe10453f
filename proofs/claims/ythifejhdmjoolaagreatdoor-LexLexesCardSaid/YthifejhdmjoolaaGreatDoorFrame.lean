/-
  What all rows of this seat share: the listed variables, a world that meets them, and what they give the walks.
-/
import Derived.Test.YthifejhdmjoolaaGreatDoorTie
import Derived.Test.YthifejhdmjoolaaGreatDoorGivK
import Derived.ProofKit
import Derived.OpenShut
import Derived.LaidMore
import Derived.Lay
import Derived.SevenTiedAt
import Derived.Stop.LaidErr
import Derived.Stop.Joined
import Derived.Lib.LaidTab
namespace Go.Proofs.YthifejhdmjoolaaGreatDoor.Frame
open Go Go.ChangeShapes Go.WideShapes Go.ChangeAt Go.RowKit Go.Proofs.YthifejhdmjoolaaGreatDoorG

theorem own : ownKnob Tryz.prog.godebug = none := by kernel_rfl
def laidL : List (String × DataW Unit) := [("math/bits.deBruijn32tab", Rows.laid_math_bits_deBruijn32tab), ("math/bits.deBruijn64tab", Rows.laid_math_bits_deBruijn64tab), ("internal/strconv.float32info", Rows.laid_internal_strconv_float32info), ("internal/strconv.float64info", Rows.laid_internal_strconv_float64info), ("internal/strconv.optimize", Rows.laid_internal_strconv_optimize), ("internal/strconv.powtab", Rows.laid_internal_strconv_powtab), ("internal/strconv.float64pow10", Rows.laid_internal_strconv_float64pow10), ("internal/strconv.float32pow10", Rows.laid_internal_strconv_float32pow10), ("internal/strconv.uint64pow10", Rows.laid_internal_strconv_uint64pow10), ("strconv.ErrRange", Rows.laid_strconv_ErrRange), ("strconv.ErrSyntax", Rows.laid_strconv_ErrSyntax), ("internal/strconv.leftcheats", Rows.laid_internal_strconv_leftcheats), ("internal/strconv.pow10Tab", Rows.laid_internal_strconv_pow10Tab)]
noncomputable def wit (os : Os) : World := World.laidAll Tryz.prog os laidL
theorem wit_os (os : Os) : (wit os).os = os := World.laidAll_os _ _ _
theorem wit_met (os : Os) (args : Array Value) : laidMetH Tryz.prog laidL ((wit os).forCall (fun _ _ => 0) ⟨#[], args, []⟩).memory := by
  rw [MakeChecks.laidMetH_plain _ _ _ (by kernel_rfl)]
  exact laidMet_laidAll _ (by kernel_rfl) (by kernel_rfl)
theorem shaped (os : Os) (args : Array Value) : ((wit os).forCall (fun _ _ => 0) ⟨#[], args, []⟩).Shaped Tryz.prog := World.shaped_of_ZipB (by kernel_rfl) (by kernel_rfl)
theorem star : "*" ++ "errors.errorString" = "*errors.errorString" := by decide
theorem row166 (u : TypeId) (h : Tryz.prog.typeName? 3 u = some "*errors.errorString") : u = 166 :=
  typeName_ptr_named (nm := "errors.errorString") (by rw [star]; kernel_rfl) (by kernel_rfl) (by decide) u (by rw [star]; exact h)

theorem struct_ints3 {H : Type} {enc : TypeId × Value → H} {P : Program} {w : World} {base : Nat} {spare : Nat → Bool} {held : Bool} {fuel : Nat} {t : TypeId} {cs : List Value} {fs : Array Field} {t0 t1 t2 : TypeId} {k0 k1 k2 : IntKind} {a b c : Int} {p : List MemPlace}
    (ht : P.underlying t = some (.struct fs)) (hf : fs.toList.map (fun f => (f.type, f.offset)) = [(t0, 0), (t1, 1), (t2, 2)])
    (h0 : P.underlying t0 = some (.int k0)) (h1 : P.underlying t1 = some (.int k1)) (h2 : P.underlying t2 = some (.int k2))
    (c0 : P.cellsOf t0 = 1) (c1 : P.cellsOf t1 = 1) (c2 : P.cellsOf t2 = 1) (hc : P.cellsOf t = 3)
    (h : DataW.trod enc P w base spare held fuel t cs = some (.agg [.lit (.int k0 a), .lit (.int k1 b), .lit (.int k2 c)], p)) : cs = [.int k0 a, .int k1 b, .int k2 c] := by
  obtain ⟨xs, n, _, hx, hl, hlen, hF⟩ := DataW.trod_struct ht h
  rw [hc] at hl
  have hcs : ∃ x y z, cs = [x, y, z] := by
    match cs, hl with
    | [x, y, z], _ => exact ⟨x, y, z, rfl⟩
  obtain ⟨x, y, z, rfl⟩ := hcs
  have hxs : ∃ x0 x1 x2, xs = [x0, x1, x2] := by
    have hl3 : (xs.map (·.1)).length = 3 := by
      have := (Prod.mk.inj hx).1
      injection this with this
      rw [← this]; rfl
    rw [List.length_map] at hl3
    match xs, hl3 with
    | [x, y, z], _ => exact ⟨x, y, z, rfl⟩
  obtain ⟨x0, x1, x2, rfl⟩ := hxs
  have hfs : ∃ f0 f1 f2, fs.toList = [f0, f1, f2] := by
    have hl3 : fs.toList.length = 3 := by
      have := congrArg List.length hf
      simpa using this
    match fs.toList, hl3 with
    | [x, y, z], _ => exact ⟨x, y, z, rfl⟩
  obtain ⟨f0, f1, f2, hfl⟩ := hfs
  rw [hfl] at hf
  simp only [List.map_cons, List.map_nil, List.cons.injEq, Prod.mk.injEq, and_true] at hf
  obtain ⟨⟨t0e, o0⟩, ⟨t1e, o1⟩, ⟨t2e, o2⟩⟩ := hf
  have g0 := hF 0 f0 (by rw [← Array.getElem?_toList, hfl]; rfl)
  have g1 := hF 1 f1 (by rw [← Array.getElem?_toList, hfl]; rfl)
  have g2 := hF 2 f2 (by rw [← Array.getElem?_toList, hfl]; rfl)
  rw [o0, t0e, c0] at g0
  rw [o1, t1e, c1] at g1
  rw [o2, t2e, c2] at g2
  obtain ⟨n0, q0, r0, _⟩ := DataW.trod_int h0 g0
  obtain ⟨n1, q1, r1, _⟩ := DataW.trod_int h1 g1
  obtain ⟨n2, q2, r2, _⟩ := DataW.trod_int h2 g2
  subst r0 r1 r2
  simp at q0 q1 q2
  simp at hx
  simp [q0, q1, q2, hx]

theorem info_block {W : World} {name : String} {g : Nat} {a b : Int} {c : Int} {rest : List (String × DataW Unit)} (hg : Tryz.prog.globalNamed name = some g) (ht : (Tryz.prog.globals[g]?).map (·.type) = some 154)
    (h : laidMet Tryz.prog ((name, .agg [.lit (.int .u64 a), .lit (.int .u64 b), .lit (.int .i64 c)]) :: rest) W) : ∃ t, W.heap[g]? = some (.cells #[.int .u64 a, .int .u64 b, .int .i64 c] t (0, 0)) := by
  obtain ⟨cs, t, fuel, p, ht', hd, hh⟩ := laid_block hg h
  obtain rfl := Option.some.inj (ht.symm.trans ht')
  have hu : ∃ fs : Array Field, Tryz.prog.underlying 154 = some (.struct fs) ∧ fs.toList.map (fun f => (f.type, f.offset)) = [(84, 0), (84, 1), (3, 2)] := by
    have e : (match Tryz.prog.underlying 154 with | some (.struct fs) => some (fs.toList.map (fun f => (f.type, f.offset))) | _ => none) = some [(84, 0), (84, 1), (3, 2)] := by kernel_rfl
    split at e
    · rename_i fs hf
      exact ⟨fs, hf, Option.some.inj e⟩
    · cases e
  obtain ⟨fs, hu, hf⟩ := hu
  have e := struct_ints3 (k0 := .u64) (k1 := .u64) (k2 := .i64) hu hf (by kernel_rfl) (by kernel_rfl) (by kernel_rfl) (by kernel_rfl) (by kernel_rfl) (by kernel_rfl) (by kernel_rfl) hd
  have e2 : cs = #[.int .u64 a, .int .u64 b, .int .i64 c] := by
    apply Array.ext'
    rw [e]
  subst e2
  exact hh (by simp)

theorem bool_block {W : World} {name : String} {g : Nat} {b : Bool} {t : TypeId} {rest : List (String × DataW Unit)} (hg : Tryz.prog.globalNamed name = some g) (ht : (Tryz.prog.globals[g]?).map (·.type) = some t) (hu : Tryz.prog.underlying t = some .bool)
    (h : laidMet Tryz.prog ((name, .lit (.bool b)) :: rest) W) : ∃ t, W.heap[g]? = some (.cells #[.bool b] t (0, 0)) := by
  obtain ⟨cs, t', fuel, p, ht', hd, hh⟩ := laid_block hg h
  obtain rfl := Option.some.inj (ht.symm.trans ht')
  obtain ⟨b', e, e2⟩ := DataW.trod_bool hu hd
  simp only [Prod.mk.injEq, DataW.lit.injEq, Lit.bool.injEq] at e2
  obtain ⟨rfl, _⟩ := e2
  have e2 : cs = #[.bool b] := by
    apply Array.ext'
    rw [e]
  subst e2
  exact hh (by simp)

theorem of_laid {W : World} (h : laidMetH Tryz.prog laidL W) : LaidOk W := by
  rw [MakeChecks.laidMetH_plain _ _ _ (by kernel_rfl)] at h
  have h5 := h.tail.tail
  have h3 := h.tail.tail.tail.tail.tail.tail.tail.tail.tail
  obtain ⟨a0, s0, hv0, _⟩ := laid_sentinel (g := 3) (ti := 56) (tp := 166) (te := 168) (ts := 9) h3 (by kernel_rfl) (by kernel_rfl) Tryz.underlying56 row166 Tryz.underlying166 Tryz.underlying168 rfl rfl Tryz.underlying9 (by kernel_rfl) (by kernel_rfl)
  obtain ⟨a1, s1, hv1, _⟩ := laid_sentinel (g := 2) (ti := 56) (tp := 166) (te := 168) (ts := 9) h3.tail (by kernel_rfl) (by kernel_rfl) Tryz.underlying56 row166 Tryz.underlying166 Tryz.underlying168 rfl rfl Tryz.underlying9 (by kernel_rfl) (by kernel_rfl)
  exact ⟨⟨_, _, hv1⟩, ⟨_, _, hv0⟩, bool_block (t := 4) gopt (by kernel_rfl) Tryz.underlying4 h5.tail.tail, info_block ginf32 (by kernel_rfl) h5, info_block ginf64 (by kernel_rfl) h5.tail⟩
end Go.Proofs.YthifejhdmjoolaaGreatDoor.Frame
