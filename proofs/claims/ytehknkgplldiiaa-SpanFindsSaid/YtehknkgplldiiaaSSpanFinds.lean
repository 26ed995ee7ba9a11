-- made by rowx.py of this session: the one pure statement of SpanFinds
import Derived.Test.YtehknkgplldiiaaPAllx21
import Derived.Test.YtehknkgplldiiaaPAllo
namespace Go.Proofs.Ytehknkgplldiiaa.PAll
open Go.RowKit Go.Proofs.YtehknkgplldiiaaW.PrintWords Go.Proofs.YtehknkgplldiiaaW.PrintLast
def hornbooklaw07_SpanFinds.Pure : Prop := ∀ (l0 : List (S23)) (a1_0 : Int) (a1_1 : Int) (a2 : Bool), (l0.length ≤ maxLen ∧ ∀ y ∈ l0, wf23 y) → wf31 (⟨a1_0, a1_1⟩ : S31) → ∃ k, hornbooklaw07_SpanFinds.f k l0 a1_0 a1_1 a2 = some true
end Go.Proofs.Ytehknkgplldiiaa.PAll
