/- Statement SpanOverrides, without the program: what is put overrides all of its codes, and nothing else. -/
import Derived.Test.YtehknkgplldiiaaSSpanOverrides
import Derived.Test.YtehknkgplldiiaaQSpanPut
set_option linter.unusedVariables false
set_option linter.unusedSimpArgs false
namespace Go.Proofs.Ytehknkgplldiiaa.Pure
open Go.RowKit Go.Proofs.Ytehknkgplldiiaa.PAll Go.Proofs.YtehknkgplldiiaaW.PrintWords Go.Proofs.YtehknkgplldiiaaW.PrintLast Go.Proofs.YtehknkgplldiiaaQ Go.Proofs.Ytehknkgplldiiaa.Tab
theorem SpanOverrides : hornbooklaw07_SpanOverrides.Pure := by
  rintro l s0 s1 s2 s3 n v step ⟨hlm, hlw⟩ hsw hcw
  refine Ev.rounds (g := fun k => hornbooklaw07_SpanOverrides.f k l s0 s1 s2 s3 n v step) ?_
  unfold hornbooklaw07_SpanOverrides.f
  refine Ev.bind awake ?_
  by_cases hl : (l.length : Int) > 60
  · simp only [if_pos hl]
    exact Ev.now _
  · simp only [if_neg hl, if_true]
    have hln : l.length ≤ 60 := by omega
    have hb4 := (build_ok step l).2.2.2.1
    have hu4 := (build_ok step (buildS step l ++ [⟨s0, s1, s2, s3⟩])).2.2.2.1
    rw [List.length_append, List.length_singleton] at hu4
    refine Ev.bind (span_Build_is step l (by omega)) ?_
    refine Ev.bind (span_Put_is step _ (by omega) s0 s1 s2 s3) ?_
    refine Ev.bind (span_Find_is (by omega) n v step) ?_
    refine Ev.bind (a := toS ⟨s0, s1, s2, s3⟩ n v step) (Ev.congr (fun _ => toS_is ⟨s0, s1, s2, s3⟩ n v step) (Ev.now _)) ?_
    rw [put_tells step (build_canon step l)]
    by_cases hs : (toS ⟨s0, s1, s2, s3⟩ n v step).2 = true
    · simp only [if_pos hs, beq_self_eq_true]
      exact Ev.now _
    · simp only [if_neg hs]
      refine Ev.bind (span_Find_is (by omega) n v step) ?_
      simp only [if_true, beq_self_eq_true]
      exact Ev.now _
end Go.Proofs.Ytehknkgplldiiaa.Pure
