-- made by rowx.py of this session: the one pure statement of SpanOne
import Derived.Test.YtehknkgplldiiaaPAllx14
import Derived.Test.YtehknkgplldiiaaPAllo
namespace Go.Proofs.Ytehknkgplldiiaa.PAll
open Go.RowKit Go.Proofs.YtehknkgplldiiaaW.PrintWords Go.Proofs.YtehknkgplldiiaaW.PrintLast
def hornbooklaw07_SpanOne.Pure : Prop := ∀ (a0_0 : Int) (a0_1 : Int) (a0_2 : Int) (a0_3 : Int) (a1 : Int) (a2 : Bool), wf23 (⟨a0_0, a0_1, a0_2, a0_3⟩ : S23) → (Lit.int .i64 a1).wf = true → ∃ k, hornbooklaw07_SpanOne.f k a0_0 a0_1 a0_2 a0_3 a1 a2 = some true
end Go.Proofs.Ytehknkgplldiiaa.PAll
