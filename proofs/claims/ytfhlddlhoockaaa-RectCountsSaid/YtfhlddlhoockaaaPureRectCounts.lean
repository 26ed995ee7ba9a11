/- Statement RectCounts, without the program: each code that is in one has its number; they rise; the first is the low one, the last the high one. -/
import Derived.Test.YtfhlddlhoockaaaSRectCounts
import Derived.Test.YtfhlddlhoockaaaQRect2
set_option linter.unusedVariables false
set_option linter.unusedSimpArgs false
namespace Go.Proofs.Ytfhlddlhoockaaa.Pure
open Go.RowKit Go.Proofs.Ytfhlddlhoockaaa.PNth Go.Proofs.YtfhlddlhoockaaaW.PrintWords Go.Proofs.YtfhlddlhoockaaaW.PrintLast Go.Proofs.YtfhlddlhoockaaaQ
theorem bits_low (x : Int) : 0 ≤ Go.bits .and .i64 x 4294967295 := by
  have h : ((BitVec.ofInt IntKind.i64.bits x &&& BitVec.ofInt IntKind.i64.bits 4294967295).toNat) ≤ 4294967295 := by
    rw [BitVec.toNat_and]
    exact Nat.le_trans Nat.and_le_right (by decide +kernel)
  have e : Go.bits .and .i64 x 4294967295 = IntKind.i64.wrap (((BitVec.ofInt IntKind.i64.bits x &&& BitVec.ofInt IntKind.i64.bits 4294967295).toNat : Nat) : Int) := rfl
  rw [e, wraps_i64 _ (by omega) (by omega)]
  omega
theorem in_range {n lo hi k : Int} (h0 : 0 ≤ k) (h1 : k < sizeB n lo hi) : lo ≤ nthV n lo hi k ∧ nthV n lo hi k ≤ hi := by
  have h := sane_of_size h0 h1
  have hs := size_pos h
  have e1 := nth_first h
  have e2 := nth_last h
  constructor
  · rcases Int.lt_or_eq_of_le h0 with h' | h'
    · have := nth_mono (Int.le_refl 0) h' h1
      omega
    · rw [← h']
      omega
  · rcases Int.lt_or_eq_of_le (show k ≤ sizeB n lo hi - 1 by omega) with h' | h'
    · have := nth_mono (n := n) (lo := lo) (hi := hi) h0 h' (by omega)
      omega
    · rw [h']
      omega
theorem RectCounts : hornbooklaw06_RectCounts.Pure := by
  rintro n lo hi k0 hr hk
  refine Ev.rounds (g := fun k => hornbooklaw06_RectCounts.f k n lo hi k0) ?_
  unfold hornbooklaw06_RectCounts.f
  refine Ev.bind awake ?_
  refine Ev.bind (rect_Size_is n lo hi) ?_
  refine Ev.bind (rect_Sane_is n lo hi) ?_
  by_cases h : rectB n lo hi = true
  · have hs := size_pos h
    have e1 := nth_first h
    have e2 := nth_last h
    simp only [if_pos h, if_neg (show ¬ sizeB n lo hi < 1 by omega), if_neg (show ¬ sizeB n lo hi = 0 by omega)]
    obtain ⟨i, hi'⟩ : ∃ i, i = Int.tmod (Go.bits .and .i64 k0 4294967295) (sizeB n lo hi) := ⟨_, rfl⟩
    have hb := bits_low k0
    have hi0 : 0 ≤ i ∧ i < sizeB n lo hi := by
      rw [hi', Int.tmod_eq_emod_of_nonneg hb]
      exact ⟨Int.emod_nonneg _ (by omega), Int.emod_lt_of_pos _ (by omega)⟩
    rw [← hi', w64 (n := i + 1) (by omega) (by omega), w64 (n := sizeB n lo hi - 1) (by omega) (by omega)]
    refine Ev.bind (rect_Nth_in n lo hi i hi0.1 hi0.2) ?_
    have hin := nth_in hi0.1 hi0.2
    have hra := in_range hi0.1 hi0.2
    by_cases hn : i + 1 < sizeB n lo hi
    · have hin2 := nth_in (show 0 ≤ i + 1 by omega) hn
      have hmo := nth_mono hi0.1 (show i < i + 1 by omega) hn
      refine Ev.bind (rect_Nth_in n lo hi (i + 1) (by omega) hn) ?_
      refine Ev.bind (rect_Nth_in n lo hi 0 (Int.le_refl _) (by omega)) ?_
      refine Ev.bind (rect_Nth_in n lo hi (sizeB n lo hi - 1) (by omega) (by omega)) ?_
      refine Ev.bind (rect_Nth_out n lo hi (sizeB n lo hi) (by omega)) ?_
      simp only [if_true, if_neg (show ¬ (false = true) by decide), if_pos e1, if_pos e2]
      rw [decide_eq_true hn]
      refine Ev.step (fun k => rfl) ?_
      simp only [hornbooklaw06_RectCounts.j0, bne_self_eq_false, if_neg (show ¬ (false = true) by decide), if_true]
      refine Ev.bind (rect_In_is _ _ _ _ _) ?_
      simp only [if_pos hin, if_pos hmo]
      refine Ev.bind (rect_In_is _ _ _ _ _) ?_
      simp only [if_pos hin2, if_pos (show nthV n lo hi i ≥ lo from hra.1)]
      rw [decide_eq_true hra.2]
      exact Ev.now _
    · refine Ev.bind (rect_Nth_out n lo hi (i + 1) (by omega)) ?_
      refine Ev.bind (rect_Nth_in n lo hi 0 (Int.le_refl _) (by omega)) ?_
      refine Ev.bind (rect_Nth_in n lo hi (sizeB n lo hi - 1) (by omega) (by omega)) ?_
      refine Ev.bind (rect_Nth_out n lo hi (sizeB n lo hi) (by omega)) ?_
      simp only [if_true, if_neg (show ¬ (false = true) by decide), if_pos e1, if_pos e2]
      rw [decide_eq_false hn]
      refine Ev.step (fun k => rfl) ?_
      simp only [hornbooklaw06_RectCounts.j0, bne_self_eq_false, if_neg (show ¬ (false = true) by decide), if_true]
      refine Ev.bind (rect_In_is _ _ _ _ _) ?_
      simp only [if_pos hin, if_pos (show nthV n lo hi i ≥ lo from hra.1)]
      rw [decide_eq_true hra.2]
      exact Ev.now _
  · have hf : rectB n lo hi = false := Bool.eq_false_iff.mpr h
    have hz := size_no hf
    simp only [if_neg h]
    refine Ev.bind (rect_Nth_out n lo hi k0 (by omega)) ?_
    simp only [if_true, if_pos hz]
    exact Ev.now _
end Go.Proofs.Ytfhlddlhoockaaa.Pure
