/- Are two rows the same? -/
import Derived.Test.YtlipfldicjihhaaDoorQBase
import Derived.Test.YtlipfldicjihhaaDoorPTabx10
set_option linter.unusedVariables false
set_option linter.unusedSimpArgs false
namespace Go.Proofs.YtlipfldicjihhaaDoorQ
open Go.RowKit Go.Proofs.YtlipfldicjihhaaDoorW.PrintWords Go.Proofs.YtlipfldicjihhaaDoorW.PrintLast Go.Proofs.YtlipfldicjihhaaDoorW.PrintMore Go.Proofs.YtlipfldicjihhaaDoor.PTab
theorem Same_l0 (a b : List Int) (he : a.length = b.length) (hl : a.length < 9223372036854775807) : ∀ n i : Nat, i + n = a.length → Ev (fun k => hornbookref02_Same.l0 k a b (i : Int)) (decide (a.drop i = b.drop i))
  | 0, i, h => by
    refine Ev.step (fun k => rfl) ?_
    simp only [hornbookref02_Same.l0]
    simp only [if_neg (show ¬ ((i : Int) < (a.length : Int)) by omega)]
    rw [List.drop_of_length_le (by omega), List.drop_of_length_le (by omega)]
    exact Ev.now _
  | n + 1, i, h => by
    have hi : i < a.length := by omega
    have hj : i < b.length := by omega
    refine Ev.step (fun k => rfl) ?_
    simp only [hornbookref02_Same.l0]
    simp only [if_pos (show (i : Int) < (a.length : Int) by omega), if_pos (show (0 : Int) ≤ (i : Int) by omega), if_pos (show (i : Int) < (b.length : Int) by omega)]
    rw [rd_nat hi, rd_nat hj, List.drop_eq_getElem_cons hi, List.drop_eq_getElem_cons hj, w64n (by omega)]
    by_cases h : a[i] = b[i]
    · simp only [if_pos h]
      have e : decide (a[i] :: a.drop (i + 1) = b[i] :: b.drop (i + 1)) = decide (a.drop (i + 1) = b.drop (i + 1)) := by
        rw [decide_eq_decide, h]
        exact ⟨fun e => (List.cons.inj e).2, fun e => by rw [e]⟩
      rw [e]
      exact Same_l0 a b he hl n (i + 1) (by omega)
    · simp only [if_neg h]
      rw [decide_eq_false (fun e => h (List.cons.inj e).1)]
      exact Ev.now _
theorem Same_is (a b : List Int) (hl : a.length < 9223372036854775807) : Ev (fun k => hornbookref02_Same.f k a b) (decide (a = b)) := by
  unfold hornbookref02_Same.f
  by_cases h : a.length = b.length
  · simp only [if_pos (show (a.length : Int) = (b.length : Int) by omega)]
    exact Same_l0 a b h hl a.length 0 (by omega)
  · simp only [if_neg (show ¬ (a.length : Int) = (b.length : Int) by omega)]
    rw [decide_eq_false (fun e => h (by rw [e]))]
    exact Ev.now _
end Go.Proofs.YtlipfldicjihhaaDoorQ
