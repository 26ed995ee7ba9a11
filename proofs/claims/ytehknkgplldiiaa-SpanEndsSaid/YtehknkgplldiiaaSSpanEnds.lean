-- made by rowx.py of this session: the one pure statement of SpanEnds
import Derived.Test.YtehknkgplldiiaaPAllx15
import Derived.Test.YtehknkgplldiiaaPAllo
namespace Go.Proofs.Ytehknkgplldiiaa.PAll
open Go.RowKit Go.Proofs.YtehknkgplldiiaaW.PrintWords Go.Proofs.YtehknkgplldiiaaW.PrintLast
def hornbooklaw07_SpanEnds.Pure : Prop := ∀ (l0 : List (S23)) (a1 : Int) (a2 : Bool), (l0.length ≤ maxLen ∧ ∀ y ∈ l0, wf23 y) → (Lit.int .i64 a1).wf = true → ∃ k, hornbooklaw07_SpanEnds.f k l0 a1 a2 = some true
end Go.Proofs.Ytehknkgplldiiaa.PAll
