-- made by rowx.py of this session: the one pure statement of UtfPairs
import Derived.Test.YtlipfldicjihhaaDoorPAllx11
import Derived.Test.YtlipfldicjihhaaDoorPAllo
namespace Go.Proofs.YtlipfldicjihhaaDoor.PAll
open Go.RowKit Go.Proofs.YtlipfldicjihhaaDoorW.PrintWords Go.Proofs.YtlipfldicjihhaaDoorW.PrintLast
def hornbooklaw02_UtfPairs.Pure : Prop := ∀ (a0 : Int) (a1 : Int), (Lit.int .i64 a0).wf = true → (Lit.int .i64 a1).wf = true → ∃ k, hornbooklaw02_UtfPairs.f k a0 a1 = some true
end Go.Proofs.YtlipfldicjihhaaDoor.PAll
