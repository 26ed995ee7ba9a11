/- Statement SpanEnds, without the program: a span ends where it ends. -/
import Derived.Test.YtehknkgplldiiaaSSpanEnds
import Derived.Test.YtehknkgplldiiaaQSpanLaw
set_option linter.unusedVariables false
set_option linter.unusedSimpArgs false
namespace Go.Proofs.Ytehknkgplldiiaa.Pure
open Go.RowKit Go.Proofs.Ytehknkgplldiiaa.PAll Go.Proofs.YtehknkgplldiiaaW.PrintWords Go.Proofs.YtehknkgplldiiaaW.PrintLast Go.Proofs.YtehknkgplldiiaaQ Go.Proofs.Ytehknkgplldiiaa.Tab
theorem SpanEnds : hornbooklaw07_SpanEnds.Pure := by
  rintro l a1 step ⟨hlm, hlw⟩ haw
  refine Ev.rounds (g := fun k => hornbooklaw07_SpanEnds.f k l a1 step) ?_
  unfold hornbooklaw07_SpanEnds.f
  refine Ev.bind awake ?_
  by_cases hl : (l.length : Int) > 60
  · simp only [if_pos hl]
    exact Ev.now _
  · simp only [if_neg hl]
    have hcan := build_canon step l
    obtain ⟨ho, hj, hg, hlen, _⟩ := build_ok step l
    refine Ev.bind (span_Build_is step l (by omega)) ?_
    generalize buildS step l = t at ho hj hg hlen hcan ⊢
    by_cases h0 : (t.length : Int) = 0
    · simp only [if_pos h0]
      exact Ev.now _
    · simp only [if_neg h0, and65535]
      have hp : 0 < (t.length : Int) := by omega
      have hm0 : 0 ≤ a1 % 65536 := Int.emod_nonneg _ (by decide)
      have hidx : Int.tmod (a1 % 65536) (t.length : Int) = (a1 % 65536) % (t.length : Int) := Int.tmod_eq_emod_of_nonneg hm0
      have hi0 : 0 ≤ (a1 % 65536) % (t.length : Int) := Int.emod_nonneg _ (by omega)
      have hi1 : (a1 % 65536) % (t.length : Int) < (t.length : Int) := Int.emod_lt_of_pos _ hp
      rw [hidx]
      obtain ⟨j, hjj⟩ := Int.eq_ofNat_of_zero_le hi0
      rw [hjj] at hi1 ⊢
      have hjl : j < t.length := by omega
      simp only [if_pos (show (0 : Int) ≤ (j : Int) by omega), if_pos hi1, rd_get hjl]
      have hmem : t[j] ∈ t := List.getElem_mem _
      generalize t[j] = x at hmem ⊢
      have gx := hg x hmem
      have gn := gx.num
      obtain ⟨k1, k2, k3, k4, k5⟩ := (saneS_iff x step).1 gx
      have e1 : findV t x.f0 x.f1 step = (x.f3, true) := by
        rw [find_canon hcan, Tb.get_of_mem _ ho hmem (show (TS step).has x x.f0 x.f1 from ⟨rfl, Int.le_refl _, k3⟩)]
        show (x.f3 + riseI (x.f1 - x.f1) step, true) = _
        rw [Int.sub_self, rise_zero, Int.add_zero]
      have e2 : findV t x.f0 x.f2 step = (x.f3 + riseI (x.f2 - x.f1) step, true) := by
        rw [find_canon hcan, Tb.get_of_mem _ ho hmem (show (TS step).has x x.f0 x.f2 from ⟨rfl, k3, Int.le_refl _⟩)]
        rfl
      have e3 := find_canon hcan x.f0 (x.f2 + 1)
      have hnext := Tb.next_not _ ho hj x hmem
      refine Ev.bind (span_Find_is (by omega) x.f0 x.f1 step) ?_
      refine Ev.bind (span_Find_is (by omega) x.f0 x.f2 step) ?_
      rw [w64 (n := x.f2 + 1) (by omega) (by omega)]
      refine Ev.bind (span_Find_is (by omega) x.f0 (x.f2 + 1) step) ?_
      rw [e1, e2, e3]
      have hnx : ∀ w, (TS step).get t x.f0 (x.f2 + 1) = some w → w ≠ x.f3 + riseI (x.f2 + 1 - x.f1) step := hnext
      generalize (TS step).get t x.f0 (x.f2 + 1) = g at hnx ⊢
      cases step with
      | true =>
        have r1 : riseI (x.f2 - x.f1) true = x.f2 - x.f1 := rfl
        have r2 : riseI (x.f2 + 1 - x.f1) true = x.f2 + 1 - x.f1 := rfl
        rw [r1] at k5
        rw [r2] at hnx
        have q : wrap64 (x.f3 + wrap64 (1 * wrap64 (x.f2 - x.f1))) = x.f3 + (x.f2 - x.f1) := by
          rw [w64 (n := x.f2 - x.f1) (by omega) (by omega), Int.one_mul, w64 (n := x.f2 - x.f1) (by omega) (by omega), w64 (by omega) (by omega)]
        simp only [if_true, r1, q]
        rw [w64 (n := x.f3 + (x.f2 - x.f1) + 1) (by omega) (by omega)]
        cases g with
        | none => exact Ev.now _
        | some w =>
          have := hnx w rfl
          show Ev (fun _ => some (w != x.f3 + (x.f2 - x.f1) + 1)) true
          rw [bne_iff_ne.2 (by omega)]
          exact Ev.now _
      | false =>
        have r1 : riseI (x.f2 - x.f1) false = 0 := rfl
        have r2 : riseI (x.f2 + 1 - x.f1) false = 0 := rfl
        rw [r2] at hnx
        have q : wrap64 (x.f3 + wrap64 (0 * wrap64 (x.f2 - x.f1))) = x.f3 + 0 := by
          rw [Int.zero_mul, w64 (n := 0) (by omega) (by omega), w64 (by omega) (by omega)]
        simp only [if_neg (show ¬ (false = true) by decide), if_true, r1, q]
        rw [w64 (n := x.f3 + 0 + 0) (by omega) (by omega)]
        cases g with
        | none => exact Ev.now _
        | some w =>
          have := hnx w rfl
          show Ev (fun _ => some (w != x.f3 + 0 + 0)) true
          rw [bne_iff_ne.2 (by omega)]
          exact Ev.now _
end Go.Proofs.Ytehknkgplldiiaa.Pure
