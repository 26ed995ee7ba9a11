/- A list is the same as itself. -/
import Derived.Test.YtehknkgplldiiaaQSpan
import Derived.Test.YtehknkgplldiiaaPAllx18
set_option linter.unusedVariables false
set_option linter.unusedSimpArgs false
namespace Go.Proofs.YtehknkgplldiiaaQ
open Go.RowKit Go.Proofs.YtehknkgplldiiaaW.PrintWords Go.Proofs.YtehknkgplldiiaaW.PrintLast Go.Proofs.YtehknkgplldiiaaW.PrintMore Go.Proofs.Ytehknkgplldiiaa.PAll Go.Proofs.Ytehknkgplldiiaa.Tab
theorem same_l0 (t : List S23) (ht : t.length ≤ 1000000) : ∀ m i : Nat, i + m = t.length → Ev (fun k => hornbookref07_Same.l0 k t t (i : Int)) true
  | 0, i, hi => by
    refine Ev.step (fun k => rfl) ?_
    simp only [hornbookref07_Same.l0]
    simp only [if_neg (show ¬ ((i : Int) < (t.length : Int)) by omega)]
    exact Ev.now _
  | m + 1, i, hi => by
    refine Ev.step (fun k => rfl) ?_
    simp only [hornbookref07_Same.l0]
    simp only [if_pos (show (i : Int) < (t.length : Int) by omega), if_pos (show (0 : Int) ≤ (i : Int) by omega), beq_self_eq_true, Bool.not_true, Bool.or_self, if_neg (show ¬ (false = true) by decide), w64n (show i < 9223372036854775807 by omega)]
    exact same_l0 t ht m (i + 1) (by omega)
theorem ref_Same_refl (t : List S23) (ht : t.length ≤ 1000000) : Ev (fun k => hornbookref07_Same.f k t t) true := by
  unfold hornbookref07_Same.f
  simp only [if_true]
  exact same_l0 t ht t.length 0 (by omega)
end Go.Proofs.YtehknkgplldiiaaQ
