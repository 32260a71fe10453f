/-
  Natural, Read and Decimal answer as the reference's do, for any text and any number: the plain law behind IntsReads; no condition of its own.
-/
import Derived.Test.YtjgccgjdonjlaaaDoorPureRef
import Derived.Test.YtjgccgjdonjlaaaDoorQAll3
namespace Go.Proofs.YtjgccgjdonjlaaaDoor.Pure
open Go.RowKit Go.Proofs.YtjgccgjdonjlaaaDoor.QAll Go.Proofs.YtjgccgjdonjlaaaDoorW.PrintWords Go.Proofs.YtjgccgjdonjlaaaDoorW.PrintLast
open Go Go.Proofs.YtjgccgjdonjlaaaDoorG
set_option linter.unusedVariables false
set_option linter.unusedSimpArgs false

theorem one_digit (n : Nat) (h : n < 10) (x : Int) (hx : x = 48 + n) : strOfNums [x % 256] = ⟨#[UInt8.ofNat (48 + n)]⟩ := by
  subst hx
  have e : (48 + (n : Int)) % 256 = ((48 + n : Nat) : Int) := by omega
  rw [e]
  show (⟨#[UInt8.ofNat ((48 + n : Nat) : Int).toNat]⟩ : ByteArray) = _
  rw [Int.toNat_natCast]

theorem itoa_len (m : Nat) : ∀ v : Nat, v < 10 ^ m → (Lib.decDigits v).length ≤ m + 1 := by
  induction m with
  | zero => intro v h; rw [decDigits_small (by omega)]; simp
  | succ m ih =>
    intro v h
    by_cases h10 : v < 10
    · rw [decDigits_small h10]; simp
    · rw [decDigits_big h10]
      have := ih (v / 10) (by rw [Nat.pow_succ] at h; omega)
      simp; omega

theorem refdec (m : Nat) : ∀ (k : Nat) (v : Int), v.natAbs < 10 ^ m → I64 v → m + 1 < k → foundryref02_Decimal.f k v = some ⟨(Lib.itoa v).toArray⟩ := by
  induction m with
  | zero =>
    intro k v h hv hk
    obtain rfl : v = 0 := by simp at h; exact h
    obtain ⟨k, rfl⟩ : ∃ m, k = m + 1 + 1 := ⟨k - 2, by omega⟩
    rw [foundryref02_Decimal.f, if_pos (by decide +kernel), foundryref02_Decimal.j0, if_neg (by decide)]
    simp only [Option.bind_some]
    rw [one_digit 0 (by decide) _ (by decide +kernel), if_pos (by decide)]
    unfold Lib.itoa
    rw [if_neg (by decide), decDigits_small (by decide)]
    rfl
  | succ m ih =>
    intro k v h hv hk
    obtain ⟨k, rfl⟩ : ∃ m, k = m + 1 + 1 := ⟨k - 2, by omega⟩
    have hq : (v.tdiv 10).natAbs = v.natAbs / 10 := by rw [Int.natAbs_tdiv]; rfl
    have hr : (v.tmod 10).natAbs = v.natAbs % 10 := by rw [Int.natAbs_tmod]; rfl
    have hs := Int.mul_tdiv_add_tmod v 10
    have hsq : (0 ≤ v → 0 ≤ v.tdiv 10 ∧ 0 ≤ v.tmod 10) := fun h0 => ⟨Int.tdiv_nonneg h0 (by decide), Int.tmod_nonneg 10 h0⟩
    have hsn : (v < 0 → v.tdiv 10 ≤ 0 ∧ v.tmod 10 ≤ 0) := fun h0 => by
      have a1 := Int.tmod_nonneg 10 (a := -v) (by omega)
      have a2 := Int.tdiv_nonneg (a := -v) (b := 10) (by omega) (by decide)
      rw [Int.neg_tmod] at a1
      rw [Int.neg_tdiv] at a2
      omega
    rw [foundryref02_Decimal.f]
    generalize v.tdiv 10 = q at *
    generalize v.tmod 10 = r at *
    unfold I64 at hv
    have hwq : wrap64 q = q := by unfold wrap64; omega
    rw [hwq]
    by_cases hz : q = 0
    · rw [if_pos hz, foundryref02_Decimal.j0]
      by_cases hn : v < 0
      · rw [if_pos hn, if_pos (by rw [ByteArray.toList_eq])]
        simp only [Option.bind_some]
        have e1 : wrap64 (48 + wrap64 (-r)) = 48 + (v.natAbs : Nat) := by unfold wrap64; omega
        rw [one_digit v.natAbs (by omega) _ e1, if_pos (by simp only [ByteArray.size, List.size_toArray, List.length_cons, List.length_nil]; decide)]
        unfold Lib.itoa
        rw [if_pos hn, decDigits_small (by omega)]
        rfl
      · rw [if_neg hn]
        simp only [Option.bind_some]
        have e1 : wrap64 (48 + r) = 48 + (v.natAbs : Nat) := by unfold wrap64; omega
        rw [one_digit v.natAbs (by omega) _ e1, if_pos (by simp only [ByteArray.size, List.size_toArray, List.length_cons, List.length_nil]; decide)]
        unfold Lib.itoa
        rw [if_neg hn, decDigits_small (by omega)]
        have : v.toNat = v.natAbs := by omega
        rw [this]
        rfl
    · rw [if_neg hz, ih (k + 1) q (by rw [Nat.pow_succ] at h; omega) (by unfold I64; omega) (by omega)]
      simp only [Option.bind_some]
      have hlen : (Lib.itoa q).length ≤ 22 := by
        unfold Lib.itoa
        split
        · have := itoa_len 20 q.natAbs (by omega)
          simp; omega
        · have := itoa_len 20 q.toNat (by omega)
          omega
      have hne : (⟨(Lib.itoa q).toArray⟩ : ByteArray).toList ≠ [] := by
        rw [ByteArray.toList_eq]
        show Lib.itoa q ≠ []
        unfold Lib.itoa
        split
        · simp
        · exact (decDigits_tells _).2.1
      rw [foundryref02_Decimal.j0]
      by_cases hn : v < 0
      · rw [if_pos hn, if_neg hne]
        simp only [Option.bind_some]
        have e1 : wrap64 (48 + wrap64 (-r)) = 48 + (v.natAbs % 10 : Nat) := by unfold wrap64; omega
        rw [one_digit (v.natAbs % 10) (by omega) _ e1, if_pos (by simp [ByteArray.size]; omega)]
        unfold Lib.itoa
        rw [if_pos hn, if_pos (by omega), decDigits_big (n := v.natAbs) (by omega), hq]
        apply congrArg some
        apply ByteArray.ext
        simp
      · rw [if_neg hn]
        simp only [Option.bind_some]
        have e1 : wrap64 (48 + r) = 48 + (v.natAbs % 10 : Nat) := by unfold wrap64; omega
        rw [one_digit (v.natAbs % 10) (by omega) _ e1, if_pos (by simp [ByteArray.size]; omega)]
        unfold Lib.itoa
        have t1 : v.toNat = v.natAbs := by omega
        have t2 : q.toNat = v.natAbs / 10 := by omega
        rw [if_neg hn, if_neg (by omega), t1, t2, decDigits_big (n := v.natAbs) (by omega)]
        apply congrArg some
        apply ByteArray.ext
        simp

theorem dec_eq {v : Int} (hv : I64 v) : ints_Decimal.f v = some ⟨(Lib.itoa v).toArray⟩ := by
  unfold ints_Decimal.f
  rw [if_pos (show _ ∧ _ from hv)]

theorem IntsReads : foundrylaw02_IntsReads.Pure := by
  intro s v hs hv
  have V := i64_of hv
  obtain ⟨k, hk⟩ : ∃ k, k = 2 * s.size + 40 := ⟨_, rfl⟩
  refine ⟨k, ?_⟩
  obtain ⟨m, rfl⟩ : ∃ m, k = m + 10 := ⟨k - 10, by omega⟩
  unfold foundrylaw02_IntsReads.f
  rw [nat_eq s hs (m + 9), refnat_eq s hs (by omega)]
  simp only [Option.bind_some, if_true, bne_self_eq_false]
  rw [foundrylaw02_IntsReads.j0, if_neg (by decide), read_eq s hs (m + 7), refread_eq s hs (by omega), dec_eq V]
  simp only [Option.bind_some, if_true]
  rw [refdec 20 _ v (by unfold I64 at V; omega) V (by omega)]
  simp only [Option.bind_some, if_true]
  rw [live_at (m + 4)]
  rfl

end Go.Proofs.YtjgccgjdonjlaaaDoor.Pure
