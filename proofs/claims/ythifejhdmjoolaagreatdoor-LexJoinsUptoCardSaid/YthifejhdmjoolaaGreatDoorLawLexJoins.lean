/-
  LexJoins, where what it reads is of bulk at most 1048576: tokens joined and compared by the program are joined and compared as the document says.
-/
import Derived.Test.YthifejhdmjoolaaGreatDoorRows
import Derived.Test.YthifejhdmjoolaaGreatDoorCards
import Derived.Test.YthifejhdmjoolaaGreatDoorTie
import Derived.Test.YthifejhdmjoolaaGreatDoorFrame
import Derived.Test.YthifejhdmjoolaaGreatDoorQJ5
import Derived.Test.YthifejhdmjoolaaGreatDoorPureLexJoins
import Derived.WalkKit
import Derived.ProofKit
import Derived.OpenShut
import Derived.ShutString
import Derived.ChangeOld
import Derived.Below
import Derived.SizedLaws
import Derived.SevenTiedAt
import Derived.LaidMore
import Derived.Stop.Joined
import Derived.Deep.DeepHandedRow
namespace Go.Proofs.YthifejhdmjoolaaGreatDoor.lexJoins
open Go Go.ChangeShapes Go.WideShapes Go.ChangeAt Go.RowKit Go.Proofs.YthifejhdmjoolaaGreatDoorW.PrintWords Go.Proofs.YthifejhdmjoolaaGreatDoor.QJ Go.Proofs.YthifejhdmjoolaaGreatDoor.Pure
set_option linter.unusedVariables false
theorem laidOut : laidOutB Tryz.prog = true := by kernel_rfl

theorem one_le {H : Type} (d : DataW H) : 1 ≤ Rows.uptoBulk d := by
  cases d with
  | lit l => cases l <;> simp [Rows.uptoBulk]
  | nil => simp [Rows.uptoBulk]
  | ptr d => simp [Rows.uptoBulk]
  | slice elems spare => simp [Rows.uptoBulk]
  | agg parts => simp [Rows.uptoBulk]
  | iface t d => simp [Rows.uptoBulk]
  | map entries => simp [Rows.uptoBulk]
  | held h => simp [Rows.uptoBulk]

section
variable {H : Type} {enc : TypeId × Value → H} {w : World} {base : Nat} {spare : Nat → Bool} {held : Bool}

theorem fields_of {t : TypeId} {l : List (TypeId × Nat)} (e : (match Tryz.prog.underlying t with | some (.struct fs) => some (fs.toList.map (fun f => (f.type, f.offset))) | _ => none) = some l) : ∃ fs : Array Field, Tryz.prog.underlying t = some (.struct fs) ∧ fs.toList.map (fun f => (f.type, f.offset)) = l := by
  split at e
  · rename_i fs hf
    exact ⟨fs, hf, Option.some.inj e⟩
  · cases e

theorem val_open {n : Nat} {cs : List Value} {x : DataW H × List MemPlace} (h : DataW.trod enc Tryz.prog w base spare held n 41 cs = some x) : ∃ y : S41, cs = [.int .i64 y.f0, .int .u64 y.f1] := by
  obtain ⟨fs, hu, hf⟩ := fields_of (t := 41) (l := [(3, 0), (22, 1)]) (by kernel_rfl)
  obtain ⟨xs, n, _, hx, hl, hlen, hF⟩ := DataW.trod_struct hu h
  have c3 : Tryz.prog.cellsOf 3 = 1 := by kernel_rfl
  have c22 : Tryz.prog.cellsOf 22 = 1 := by kernel_rfl
  have c41 : Tryz.prog.cellsOf 41 = 2 := by kernel_rfl
  rw [c41] at hl
  have hcs : ∃ a b, cs = [a, b] := by
    rcases cs with _ | ⟨a, _ | ⟨b, _ | ⟨c, r⟩⟩⟩
    · simp at hl
    · simp at hl
    · exact ⟨a, b, rfl⟩
    · simp at hl
  obtain ⟨a, b, rfl⟩ := hcs
  have hfs : ∃ f0 f1, fs.toList = [f0, f1] := by
    have hl3 : fs.toList.length = 2 := by
      have := congrArg List.length hf
      simpa using this
    match fs.toList, hl3 with
    | [x, y], _ => exact ⟨x, y, rfl⟩
  obtain ⟨f0, f1, hfl⟩ := hfs
  have hxs : ∃ x0 x1, xs = [x0, x1] := by
    have hl3 : xs.length = 2 := by
      rw [hlen, ← Array.length_toList, hfl]; rfl
    match xs, hl3 with
    | [x, y], _ => exact ⟨x, y, rfl⟩
  obtain ⟨x0, x1, rfl⟩ := hxs
  rw [hfl] at hf
  simp only [List.map_cons, List.map_nil, List.cons.injEq, Prod.mk.injEq, and_true] at hf
  obtain ⟨⟨t0e, o0⟩, ⟨t1e, o1⟩⟩ := hf
  have g0 := hF 0 f0 (by rw [← Array.getElem?_toList, hfl]; rfl)
  have g1 := hF 1 f1 (by rw [← Array.getElem?_toList, hfl]; rfl)
  rw [o0, t0e, c3] at g0
  rw [o1, t1e, c22] at g1
  obtain ⟨n0, q0, r0, _⟩ := DataW.trod_int Tryz.underlying3 g0
  obtain ⟨n1, q1, r1, _⟩ := DataW.trod_int Tryz.underlying22 g1
  simp at q0 q1
  exact ⟨⟨n0, n1⟩, by rw [q0, q1]⟩

theorem tok_open {n : Nat} {cs : List Value} {x : DataW H × List MemPlace} (h : DataW.trod enc Tryz.prog w base spare held n 43 cs = some x) :
    ∃ y : S43, cs = [.int .i64 y.f0, .string y.f1, .int .i64 y.f2.f0, .int .u64 y.f2.f1, .int .i64 y.f3] ∧ y.f1.size + 1 ≤ Rows.uptoBulk x.1 := by
  obtain ⟨fs, hu, hf⟩ := fields_of (t := 43) (l := [(3, 0), (9, 1), (41, 2), (3, 4)]) (by kernel_rfl)
  obtain ⟨xs, n, _, hx, hl, hlen, hF⟩ := DataW.trod_struct hu h
  have c3 : Tryz.prog.cellsOf 3 = 1 := by kernel_rfl
  have c9 : Tryz.prog.cellsOf 9 = 1 := by kernel_rfl
  have c41 : Tryz.prog.cellsOf 41 = 2 := by kernel_rfl
  have c43 : Tryz.prog.cellsOf 43 = 5 := by kernel_rfl
  rw [c43] at hl
  have hcs : ∃ a b c d e, cs = [a, b, c, d, e] := by
    rcases cs with _ | ⟨a, _ | ⟨b, _ | ⟨c, _ | ⟨d, _ | ⟨e, _ | ⟨f, r⟩⟩⟩⟩⟩⟩
    · simp at hl
    · simp at hl
    · simp at hl
    · simp at hl
    · simp at hl
    · exact ⟨a, b, c, d, e, rfl⟩
    · simp at hl
  obtain ⟨a, b, c, d, e, rfl⟩ := hcs
  have hfs : ∃ f0 f1 f2 f3, fs.toList = [f0, f1, f2, f3] := by
    have hl3 : fs.toList.length = 4 := by
      have := congrArg List.length hf
      simpa using this
    match fs.toList, hl3 with
    | [x, y, z, u], _ => exact ⟨x, y, z, u, rfl⟩
  obtain ⟨f0, f1, f2, f3, hfl⟩ := hfs
  have hxs : ∃ x0 x1 x2 x3, xs = [x0, x1, x2, x3] := by
    have hl3 : xs.length = 4 := by
      rw [hlen, ← Array.length_toList, hfl]; rfl
    match xs, hl3 with
    | [x, y, z, u], _ => exact ⟨x, y, z, u, rfl⟩
  obtain ⟨x0, x1, x2, x3, rfl⟩ := hxs
  rw [hfl] at hf
  simp only [List.map_cons, List.map_nil, List.cons.injEq, Prod.mk.injEq, and_true] at hf
  obtain ⟨⟨t0e, o0⟩, ⟨t1e, o1⟩, ⟨t2e, o2⟩, ⟨t3e, o3⟩⟩ := hf
  have g0 := hF 0 f0 (by rw [← Array.getElem?_toList, hfl]; rfl)
  have g1 := hF 1 f1 (by rw [← Array.getElem?_toList, hfl]; rfl)
  have g2 := hF 2 f2 (by rw [← Array.getElem?_toList, hfl]; rfl)
  have g3 := hF 3 f3 (by rw [← Array.getElem?_toList, hfl]; rfl)
  rw [o0, t0e, c3] at g0
  rw [o1, t1e, c9] at g1
  rw [o2, t2e, c41] at g2
  rw [o3, t3e, c3] at g3
  obtain ⟨n0, q0, r0, _⟩ := DataW.trod_int Tryz.underlying3 g0
  obtain ⟨s1, q1, r1, _⟩ := DataW.trod_string Tryz.underlying9 g1
  obtain ⟨y2, q2⟩ := val_open g2
  obtain ⟨n3, q3, r3, _⟩ := DataW.trod_int Tryz.underlying3 g3
  simp at q0 q1 q2 q3
  refine ⟨⟨n0, s1, y2, n3⟩, by rw [q0, q1, q2.1, q2.2, q3], ?_⟩
  rw [hx, r1]
  simp only [List.map_cons, List.map_nil, Rows.uptoBulk, Rows.uptoBulkAll, Array.length_toList]
  have : s1.data.size = s1.size := rfl
  omega

theorem elems_open {n : Nat} {a : Addr} : ∀ (elems : List (DataW H × List MemPlace)) (s : Nat), (∀ i, i < elems.length → (w.cells? base (a.add ((s + i) * 5)) 5).bind (DataW.trod enc Tryz.prog w base spare held n 43) = elems[i]?) →
    ∃ l : List S43, l.length = elems.length ∧ (∀ j p, l[j]? = some p → ∃ c, c.length = 5 ∧ k43.K w p c ∧ ∀ i u, c[i]? = some u → w.cell? (a.add ((s + j) * 5 + i)) = some u) ∧ tot l + l.length ≤ Rows.uptoBulkAll (elems.map (·.1))
  | [], s, h => ⟨[], rfl, fun j p hp => by simp at hp, by simp [tot, Rows.uptoBulkAll]⟩
  | x :: elems, s, h => by
    obtain ⟨l, h1, h2, h3⟩ := elems_open elems (s + 1) (fun i hi => by
      have := h (i + 1) (by simp; omega)
      rw [show s + 1 + i = s + (i + 1) by omega]
      simpa using this)
    have h0 := h 0 (by simp)
    rw [Nat.add_zero, List.getElem?_cons_zero] at h0
    obtain ⟨cs, e1, e2⟩ := Option.bind_eq_some_iff.mp h0
    obtain ⟨y, e3, e4⟩ := tok_open e2
    obtain ⟨_, e5, e6⟩ := World.cells?_some e1
    refine ⟨y :: l, by simp [h1], ?_, ?_⟩
    · intro j p hp
      cases j with
      | zero =>
        obtain rfl : y = p := by simpa using hp
        refine ⟨_, by rw [← e3]; exact e5, k43_mk w y, fun i u hu => ?_⟩
        have hi : i < 5 := by
          rw [← e5, e3]
          exact (List.getElem?_eq_some_iff.1 hu).1
        have := e6 i hi
        rw [e3, hu] at this
        rw [Nat.add_zero]
        have hadd : (a.add (s * 5)).add i = a.add (s * 5 + i) := by
          unfold Addr.add
          by_cases g1 : s * 5 = 0
          · rw [if_pos g1, g1, Nat.zero_add]
          · rw [if_neg g1]
            by_cases g2 : i = 0
            · rw [if_pos g2, g2, Nat.add_zero, if_neg g1]
            · rw [if_neg g2, if_neg (by omega)]
              simp only [Addr.mk.injEq, and_true, true_and]
              omega
        rw [← hadd]
        exact this
      | succ j =>
        obtain ⟨c, k1, k2, k3⟩ := h2 j p (by simpa using hp)
        refine ⟨c, k1, k2, fun i u hu => ?_⟩
        rw [show s + (j + 1) = s + 1 + j by omega]
        exact k3 i u hu
    · simp only [tot, List.length_cons, List.map_cons, Rows.uptoBulkAll]
      omega

theorem toks_open {fuel : Nat} {v : Value} {A : Option Addr} {len cap : Nat} {d : DataW H} {p : List MemPlace} (h : DataW.trod enc Tryz.prog w base spare held fuel 36 [.slice A len cap] = some (d, p)) :
    ∃ l : List S43, l.length = len ∧ len ≤ cap ∧ Kd.C k43 w A l.length l ∧ tot l + l.length ≤ Rows.uptoBulk d := by
  rcases DataW.trod_slice Tryz.underlying36 h with ⟨e, _⟩ | ⟨a, len', cap', elems, rest, n, _, e, hx, hb, hl, hm, hlen, hel, _, _⟩
  · simp only [List.cons.injEq, Value.slice.injEq, and_true] at e
    obtain ⟨rfl, rfl, rfl⟩ := e
    exact ⟨[], rfl, Nat.le_refl _, ⟨rfl, by simp, fun h => absurd h (by simp)⟩, by simp [tot]⟩
  · simp only [List.cons.injEq, Value.slice.injEq, and_true] at e
    obtain ⟨rfl, rfl, rfl⟩ := e
    have c43 : Tryz.prog.cellsOf 43 = 5 := by kernel_rfl
    obtain ⟨l, h1, h2, h3⟩ := elems_open (enc := enc) (w := w) (base := base) (spare := spare) (held := held) (n := n) (a := a) elems 0 (fun i hi => by
      have := hel i (by omega)
      rw [c43] at this
      rw [Nat.zero_add]
      exact this)
    have hmx : maxLen = 9223372036854775807 := by decide
    refine ⟨l, by omega, hl, ⟨rfl, by omega, fun _ => ⟨a, rfl, fun j p hp => ?_⟩⟩, ?_⟩
    · obtain ⟨c, k1, k2, k3⟩ := h2 j p hp
      refine ⟨c, k1, k2, fun i u hu => ?_⟩
      have := k3 i u hu
      rw [Nat.zero_add] at this
      exact this
    · have hd : d = .slice (elems.map (·.1)) (rest.map (·.1)) := (Prod.mk.inj hx).1
      rw [hd]
      simp only [Rows.uptoBulk]
      omega
end

set_option maxRecDepth 100000 in
theorem lifted (os : Os) (started : os.Started) (H : Type) (enc : TypeId × Value → H) (F : Stop.Interp) :
    ReturnsInHanded {} Tryz.checked os 9 .any ((Rows.OpenSpec.upto Rows.lexJoinsSpec).preRow enc Tryz.prog Tryz.f9 Rows.lexJoinsUptoRow.domain false Rows.lexJoinsUptoRow.laid) (((Rows.OpenSpec.upto Rows.lexJoinsSpec).at F).post enc Tryz.prog Tryz.f9 false true false false) := by
  have hok : Input.okWideB Tryz.checked.prog ((Frame.wit os).forCall (fun _ _ => 0) ⟨#[], #[.slice none 0 0, .slice none 0 0], []⟩) 9 ⟨#[], #[.slice none 0 0, .slice none 0 0], []⟩ = true := by kernel_rfl
  refine returnsInHanded_of_row (C := Tryz.checked) (s := Rows.OpenSpec.upto Rows.lexJoinsSpec) Frame.own started (by kernel_rfl) Tryz.func9
    ⟨Frame.wit os, fun _ _ => 0, ⟨#[], #[.slice none 0 0, .slice none 0 0], []⟩, Frame.wit_os os, Frame.shaped os _, (Input.okWide_of_okWideB (base := 0) hok).1, (Input.okWide_of_okWideB hok).2,
      OpenSpec.preRow_of_cond 8 (x := ([.nil, .nil], [], [])) (by kernel_rfl) (by kernel_rfl) (fun k hk => by cases hk; kernel_rfl) (by kernel_rfl) (Frame.wit_met os _), by
        simp only [Assume.holds]
        exact ⟨by simp, by simp, fun _ => Modest.zero, by simp, by simp⟩⟩ ?_
  intro W base args ds gs before hval0 hW _ hcond _ hL _ _
  have hbulk := hcond _ rfl
  have hval : ∀ (j : Nat) t v, Tryz.f9.params[j]? = some t → args[j]? = some v → Value.okWide Tryz.prog W .any base t v := hval0
  have hW' := hW
  obtain ⟨p, q, hA0, hV, rfl, hfz, hnd⟩ := hW
  have hA : DataW.TrodAll enc Tryz.prog W 0 (fun _ => true) true Tryz.f9.params.toList args.toList ds p := hA0
  rw [Tryz.params9] at hA hval
  obtain ⟨v0, vs0, d0, ds0, p0, q0, hargs, rfl, rfl, h0, r0⟩ := trodAll_cons hA
  obtain ⟨v1, vs1, d1, ds1, p1, q1, rfl, rfl, rfl, h1, r1⟩ := trodAll_cons r0
  obtain ⟨rfl, rfl, rfl⟩ := trodAll_nil r1
  obtain rfl : args = #[v0, v1] := by cases args; simp_all
  obtain ⟨rfl, rfl⟩ := trodVars_none hV
  obtain ⟨a0, len0, cap0, rfl⟩ := okWide_slice Tryz.underlying36 (hval 0 36 v0 rfl rfl)
  obtain ⟨a1, len1, cap1, rfl⟩ := okWide_slice Tryz.underlying36 (hval 1 36 v1 rfl rfl)
  have k0 := h0
  have k1 := h1
  have lt0 : ∀ x ∈ p0, x.block < W.heap.size := by obtain ⟨m, hm⟩ := k0; exact DataW.trod_lt m _ _ _ hm
  have lt1 : ∀ x ∈ p1, x.block < W.heap.size := by obtain ⟨m, hm⟩ := k1; exact DataW.trod_lt m _ _ _ hm
  obtain ⟨m0, t0⟩ := h0
  obtain ⟨m1, t1⟩ := h1
  obtain ⟨l0, e0, c0, C0, b0⟩ := toks_open (v := .slice a0 len0 cap0) t0
  obtain ⟨l1, e1, c1, C1, b1⟩ := toks_open (v := .slice a1 len1 cap1) t1
  have hb : Rows.uptoBulkAll [d0, d1] ≤ 1048576 := of_decide_eq_true hbulk
  simp only [Rows.uptoBulkAll] at hb
  obtain ⟨k, hk⟩ := Pure.LexJoins l0 l1 (by omega) (by omega) (by omega)
  have HL := Frame.of_laid hL
  clear hA0 hval0 hL
  subst e0 e1
  refine (foundrylaw05_LexJoins.calls k a0 cap0 l0 a1 cap1 l1 true W HL C0 c0 C1 c1 hk).mono fun e W' ⟨he, bel⟩ => ?_
  subst he
  exact ⟨_, rfl, _, _, _, [], _, [], hW', trodAll_mk1 (shut_bool Tryz.underlying4 _), (trodAll_cons_mk (Below.trod laidOut (by kernel_rfl) (of_decide_eq_true (by kernel_rfl)) k0 bel lt0) (trodAll_cons_mk (Below.trod laidOut (by kernel_rfl) (of_decide_eq_true (by kernel_rfl)) k1 bel lt1) trodAll_mk0)), rfl, bel.frame _, fun h => by cases h⟩

theorem saidUpto : Rows.LexJoinsUptoSaid :=
  OpenClaim.holds_of_cond 9 Tryz.f9 rfl rfl rfl rfl rfl rfl rfl ⟨rfl, rfl, rfl, rfl, rfl⟩ rfl rfl rfl rfl rfl (by kernel_rfl) Tryz.func9 (by kernel_rfl)
    (of_decide_eq_true (by kernel_rfl)) (by unfold Func.isWrapper; rw [if_neg (of_decide_eq_false (by kernel_rfl))]; exact ⟨rfl, rfl⟩)
    (fun os started H enc _ F => by rw [OpenClaim.pre_eq_preRow]; exact lifted os started H enc F)

theorem plain (f : FuncId) (fn : Func) (hf : Tryz.pinned.checked.prog.funcNamed "foundry/foundrylaw05.LexJoins" = some f) (hfn : Tryz.pinned.checked.prog.funcs[f]? = some fn) :
    true = Tryz.pinned.checked.prog.looks [] ∧ ∀ (j : Nat) t, fn.params[j]? = some t → Tryz.pinned.checked.prog.wantsStandIn t = false := by
  obtain rfl : f = 9 := Option.some.inj ((show Tryz.prog.funcNamed "foundry/foundrylaw05.LexJoins" = some 9 by kernel_rfl).symm.trans hf) |>.symm
  obtain rfl : fn = Tryz.f9 := (Option.some.inj (Tryz.func9.symm.trans hfn)).symm
  exact ⟨by kernel_rfl, fun j t ht => by
    rw [Tryz.params9] at ht
    have hm : t ∈ [36, 36] := by simpa using Array.mem_of_getElem? ht
    have hall : ([36, 36].all fun u => !Tryz.prog.wantsStandIn u) = true := by kernel_rfl
    exact (show Tryz.prog.wantsStandIn t = false by simpa using List.all_eq_true.1 hall t hm)⟩
theorem proved : Rows.LexJoinsUptoCardSaid :=
  Claim7.holds_tied_plain_at .later [] _ _ _ _ saidUpto (fun _ h => by cases h) (by kernel_rfl) (fun _ h => by cases h) lexJoinsUpto_row_tie rfl ⟨rfl, rfl⟩ (by kernel_rfl) rfl plain (by kernel_rfl)
#print axioms proved
end Go.Proofs.YthifejhdmjoolaaGreatDoor.lexJoins
namespace Go.Proofs.YthifejhdmjoolaaGreatDoor
/-- The card, under a short name, for the claim. -/
theorem lexJoinsUpto_holds : Rows.LexJoinsUptoCardSaid := lexJoins.proved
end Go.Proofs.YthifejhdmjoolaaGreatDoor
