/- Statement RectIs, without the program: whether one may be, what is in it, fits, is held, how many there are, and which: all as the reference says. -/
import Derived.Test.YtfhlddlhoockaaaSRectIs
import Derived.Test.YtfhlddlhoockaaaQRect4
set_option linter.unusedVariables false
set_option linter.unusedSimpArgs false
namespace Go.Proofs.Ytfhlddlhoockaaa.Pure
open Go.RowKit Go.Proofs.Ytfhlddlhoockaaa.PIsx Go.Proofs.YtfhlddlhoockaaaW.PrintWords Go.Proofs.YtfhlddlhoockaaaW.PrintLast Go.Proofs.YtfhlddlhoockaaaQ
theorem RectIs : hornbooklaw06_RectIs.Pure := by
  rintro a0 a1 a2 b0 b1 b2 c0 c1 l k0 ha hb hc ⟨hlm, hlw⟩ hk
  refine Ev.rounds (g := fun k => hornbooklaw06_RectIs.f k a0 a1 a2 b0 b1 b2 c0 c1 l k0) ?_
  unfold hornbooklaw06_RectIs.f
  refine Ev.bind awake ?_
  by_cases hl : (l.length : Int) > 100
  · simp only [if_pos hl]
    exact Ev.now _
  · simp only [if_neg hl, if_true]
    have nth : ∃ v, Ev (fun q => rect_Nth.f q a0 a1 a2 k0) v ∧ Ev (fun q => hornbookref06_Nth.f q a0 a1 a2 k0) v := by
      by_cases h : 0 ≤ k0 ∧ k0 < sizeB a0 a1 a2
      · exact ⟨_, rect_Nth_in a0 a1 a2 k0 h.1 h.2, ref_Nth_in a0 a1 a2 k0 h.1 h.2⟩
      · exact ⟨_, rect_Nth_out a0 a1 a2 k0 (by omega), ref_Nth_out a0 a1 a2 k0 (by omega)⟩
    obtain ⟨v, e1, e2⟩ := nth
    refine Ev.bind e1 ?_
    refine Ev.bind e2 ?_
    refine Ev.bind (rect_Sane_is _ _ _) ?_
    refine Ev.bind (ref_Sane_is _ _ _) ?_
    refine Ev.bind (rect_In_is _ _ _ _ _) ?_
    refine Ev.bind (ref_In_is _ _ _ _ _) ?_
    refine Ev.bind (rect_Fits_is _ _ _ _) ?_
    refine Ev.bind (ref_Fits_is _ _ _ _) ?_
    refine Ev.bind (rect_Size_is _ _ _) ?_
    refine Ev.bind (ref_Size_is _ _ _) ?_
    refine Ev.bind (rect_Holds_is ⟨a0, a1, a2⟩ ⟨b0, b1, b2⟩) ?_
    refine Ev.bind (ref_Holds_is ⟨a0, a1, a2⟩ ⟨b0, b1, b2⟩) ?_
    simp only [and_self, if_true]
    exact Ev.now _
end Go.Proofs.Ytfhlddlhoockaaa.Pure
