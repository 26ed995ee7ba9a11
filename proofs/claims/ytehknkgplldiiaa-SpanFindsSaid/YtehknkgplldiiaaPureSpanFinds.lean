/- Statement SpanFinds, without the program: a table tells what the last one of a list tells. -/
import Derived.Test.YtehknkgplldiiaaSSpanFinds
import Derived.Test.YtehknkgplldiiaaQSpanLaw
import Derived.Test.YtehknkgplldiiaaQSpanLast
import Derived.Test.YtehknkgplldiiaaQSpanSame
set_option linter.unusedVariables false
set_option linter.unusedSimpArgs false
namespace Go.Proofs.Ytehknkgplldiiaa.Pure
open Go.RowKit Go.Proofs.Ytehknkgplldiiaa.PAll Go.Proofs.YtehknkgplldiiaaW.PrintWords Go.Proofs.YtehknkgplldiiaaW.PrintLast Go.Proofs.YtehknkgplldiiaaQ Go.Proofs.Ytehknkgplldiiaa.Tab
theorem SpanFinds : hornbooklaw07_SpanFinds.Pure := by
  rintro l n v step ⟨hlm, hlw⟩ hcw
  refine Ev.rounds (g := fun k => hornbooklaw07_SpanFinds.f k l n v step) ?_
  unfold hornbooklaw07_SpanFinds.f
  refine Ev.bind awake ?_
  by_cases hl : (l.length : Int) > 60
  · simp only [if_pos hl]
    exact Ev.now _
  · simp only [if_neg hl, if_true]
    have hln : l.length ≤ 60 := by omega
    have hb4 := (build_ok step l).2.2.2.1
    refine Ev.bind (span_Build_is step l (by omega)) ?_
    refine Ev.bind (span_Find_is (by omega) n v step) ?_
    refine Ev.bind (span_Last_is (by omega) n v step) ?_
    rw [find_build]
    simp only [if_true, beq_self_eq_true]
    refine Ev.bind (span_Canon_is (by omega) step) ?_
    rw [build_canon]
    simp only [if_true]
    refine Ev.bind (span_Build_is step _ (by omega)) ?_
    rw [build_again step (build_canon step l)]
    refine Ev.bind (ref_Same_refl _ (by omega)) ?_
    simp only [if_true]
    rw [w64 (by omega) (by omega), decide_eq_true (by omega)]
    exact Ev.now _
end Go.Proofs.Ytehknkgplldiiaa.Pure
