/- Statement SpanIs, without the program: what layer 7 answers is what the document says. -/
import Derived.Test.YtehknkgplldiiaaSSpanIs
import Derived.Test.YtehknkgplldiiaaQSpanIs
set_option linter.unusedVariables false
set_option linter.unusedSimpArgs false
namespace Go.Proofs.Ytehknkgplldiiaa.Pure
open Go.RowKit Go.Proofs.Ytehknkgplldiiaa.PIs Go.Proofs.YtehknkgplldiiaaW.PrintWords Go.Proofs.YtehknkgplldiiaaW.PrintLast Go.Proofs.YtehknkgplldiiaaQ Go.Proofs.Ytehknkgplldiiaa.Tab
theorem SpanIs : hornbooklaw07_SpanIs.Pure := by
  rintro l s0 s1 s2 s3 n v step ⟨hlm, hlw⟩ hsw hcw
  refine Ev.rounds (g := fun k => hornbooklaw07_SpanIs.f k l s0 s1 s2 s3 n v step) ?_
  unfold hornbooklaw07_SpanIs.f
  refine Ev.bind awake ?_
  by_cases hl : (l.length : Int) > 60
  · simp only [if_pos hl]
    exact Ev.now _
  · simp only [if_neg hl, if_true]
    have hln : l.length ≤ 60 := by omega
    have hb4 := (build_ok step l).2.2.2.1
    have hu4 := (build_ok step (l ++ [⟨s0, s1, s2, s3⟩])).2.2.2.1
    rw [List.length_append, List.length_singleton] at hu4
    refine Ev.bind (a := toS ⟨s0, s1, s2, s3⟩ n v step) (Ev.congr (fun _ => toS_is ⟨s0, s1, s2, s3⟩ n v step) (Ev.now _)) ?_
    refine Ev.bind (ref_To_is ⟨s0, s1, s2, s3⟩ n v step) ?_
    refine Ev.bind (span_Last_is (by omega) n v step) ?_
    refine Ev.bind (ref_Last_is l (by omega) n v step) ?_
    refine Ev.bind (span_Find_is (by omega) n v step) ?_
    refine Ev.bind (ref_Find_is (by omega) n v step) ?_
    simp only [if_true, beq_self_eq_true]
    refine Ev.bind (a := saneS ⟨s0, s1, s2, s3⟩ step) (Ev.congr (fun _ => saneS_is ⟨s0, s1, s2, s3⟩ step) (Ev.now _)) ?_
    refine Ev.bind (ref_Sane_is ⟨s0, s1, s2, s3⟩ step) ?_
    simp only [if_true, beq_self_eq_true]
    refine Ev.bind (span_Canon_is (by omega) step) ?_
    refine Ev.bind (ref_Canon_is (by omega) step) ?_
    simp only [if_true, beq_self_eq_true]
    refine Ev.bind (span_Build_is step l (by omega)) ?_
    refine Ev.bind (ref_Build_is step l (by omega)) ?_
    refine Ev.bind (ref_Same_refl _ (by omega)) ?_
    simp only [if_true]
    refine Ev.bind (span_Put_is step l (by omega) s0 s1 s2 s3) ?_
    refine Ev.bind (ref_Put_is step l (by omega) s0 s1 s2 s3) ?_
    exact Ev.bind (ref_Same_refl _ (by omega)) (Ev.now _)
end Go.Proofs.Ytehknkgplldiiaa.Pure
