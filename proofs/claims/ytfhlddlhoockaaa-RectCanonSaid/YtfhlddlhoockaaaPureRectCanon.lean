/- Statement RectCanon, without the program: what rect.Canon answers is what the reference's Canon answers, of any codespaces. -/
import Derived.Test.YtfhlddlhoockaaaSRectCanon
import Derived.Test.YtfhlddlhoockaaaQRect
set_option linter.unusedVariables false
set_option linter.unusedSimpArgs false
namespace Go.Proofs.Ytfhlddlhoockaaa.Pure
open Go.RowKit Go.Proofs.Ytfhlddlhoockaaa.PAll Go.Proofs.YtfhlddlhoockaaaW.PrintWords Go.Proofs.YtfhlddlhoockaaaW.PrintLast Go.Proofs.YtfhlddlhoockaaaQ
theorem RectCanon : hornbooklaw06_RectCanon.Pure := by
  rintro l ⟨hlm, hlw⟩
  refine Ev.rounds (g := fun k => hornbooklaw06_RectCanon.f k l) ?_
  unfold hornbooklaw06_RectCanon.f
  refine Ev.bind awake ?_
  by_cases hl : (l.length : Int) > 100
  · simp only [if_pos hl]
    exact Ev.now _
  · simp only [if_neg hl, if_true]
    have hc := canon_len l
    refine Ev.bind (rect_Canon_is l (by omega)) ?_
    refine Ev.bind (ref_Canon_is l (by omega)) ?_
    exact Ev.bind (ref_Same_is _ (by omega)) (Ev.now _)
end Go.Proofs.Ytfhlddlhoockaaa.Pure
