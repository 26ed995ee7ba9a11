-- made by rowx.py of this session: the one pure statement of SpanOrder
import Derived.Test.YtehknkgplldiiaaPAllx19
import Derived.Test.YtehknkgplldiiaaPAllo
namespace Go.Proofs.Ytehknkgplldiiaa.PAll
open Go.RowKit Go.Proofs.YtehknkgplldiiaaW.PrintWords Go.Proofs.YtehknkgplldiiaaW.PrintLast
def hornbooklaw07_SpanOrder.Pure : Prop := ∀ (l0 : List (S23)) (a1_0 : Int) (a1_1 : Int) (a1_2 : Int) (a1_3 : Int) (a2_0 : Int) (a2_1 : Int) (a2_2 : Int) (a2_3 : Int) (a3 : Bool), (l0.length ≤ maxLen ∧ ∀ y ∈ l0, wf23 y) → wf23 (⟨a1_0, a1_1, a1_2, a1_3⟩ : S23) → wf23 (⟨a2_0, a2_1, a2_2, a2_3⟩ : S23) → ∃ k, hornbooklaw07_SpanOrder.f k l0 a1_0 a1_1 a1_2 a1_3 a2_0 a2_1 a2_2 a2_3 a3 = some true
end Go.Proofs.Ytehknkgplldiiaa.PAll
