/- What span.Put answers, in plain words. -/
import Derived.Test.YtehknkgplldiiaaQSpanLaw
import Derived.Test.YtehknkgplldiiaaPAllx17
set_option linter.unusedVariables false
set_option linter.unusedSimpArgs false
namespace Go.Proofs.YtehknkgplldiiaaQ
open Go.RowKit Go.Proofs.YtehknkgplldiiaaW.PrintWords Go.Proofs.YtehknkgplldiiaaW.PrintLast Go.Proofs.YtehknkgplldiiaaW.PrintMore Go.Proofs.Ytehknkgplldiiaa.PAll Go.Proofs.Ytehknkgplldiiaa.Tab
theorem span_Put_is (step : Bool) (l : List S23) (hl : l.length ≤ 9999) (s0 s1 s2 s3 : Int) : Ev (fun k => span_Put.f k l s0 s1 s2 s3 step) (buildS step (l ++ [⟨s0, s1, s2, s3⟩])) := by
  unfold span_Put.f
  refine Ev.bind (a := l) (Ev.congr (fun _ => if_pos (by omega)) (Ev.now _)) ?_
  simp only [Option.bind_some, List.length_singleton]
  simp only [if_pos (show l.length + 1 < 4398046511104 by omega)]
  exact Ev.bind (span_Build_is step _ (by rw [List.length_append, List.length_singleton]; omega)) (Ev.now _)
end Go.Proofs.YtehknkgplldiiaaQ
