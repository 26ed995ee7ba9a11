-- made by rowx.py of this session: the one pure statement of SpanIs
import Derived.Test.YtehknkgplldiiaaPIsx25
import Derived.Test.YtehknkgplldiiaaPIso
namespace Go.Proofs.Ytehknkgplldiiaa.PIs
open Go.RowKit Go.Proofs.YtehknkgplldiiaaW.PrintWords Go.Proofs.YtehknkgplldiiaaW.PrintLast
def hornbooklaw07_SpanIs.Pure : Prop := ∀ (l0 : List (S23)) (a1_0 : Int) (a1_1 : Int) (a1_2 : Int) (a1_3 : Int) (a2_0 : Int) (a2_1 : Int) (a3 : Bool), (l0.length ≤ maxLen ∧ ∀ y ∈ l0, wf23 y) → wf23 (⟨a1_0, a1_1, a1_2, a1_3⟩ : S23) → wf31 (⟨a2_0, a2_1⟩ : S31) → ∃ k, hornbooklaw07_SpanIs.f k l0 a1_0 a1_1 a1_2 a1_3 a2_0 a2_1 a3 = some true
end Go.Proofs.Ytehknkgplldiiaa.PIs
