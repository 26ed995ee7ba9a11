-- made by rowx.py of this session: the one pure statement of UtfSizes
import Derived.Test.YtlipfldicjihhaaDoorPAllx8
import Derived.Test.YtlipfldicjihhaaDoorPAllo
namespace Go.Proofs.YtlipfldicjihhaaDoor.PAll
open Go.RowKit Go.Proofs.YtlipfldicjihhaaDoorW.PrintWords Go.Proofs.YtlipfldicjihhaaDoorW.PrintLast
def hornbooklaw02_UtfSizes.Pure : Prop := ∀ (a0 : Int), (Lit.int .i64 a0).wf = true → ∃ k, hornbooklaw02_UtfSizes.f k a0 = some true
end Go.Proofs.YtlipfldicjihhaaDoor.PAll
