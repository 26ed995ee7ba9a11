-- made by rowx.py of this session: the one pure statement of UtfBack
import Derived.Test.YtlipfldicjihhaaDoorPAllx20
import Derived.Test.YtlipfldicjihhaaDoorPAllo
namespace Go.Proofs.YtlipfldicjihhaaDoor.PAll
open Go.RowKit Go.Proofs.YtlipfldicjihhaaDoorW.PrintWords Go.Proofs.YtlipfldicjihhaaDoorW.PrintLast
def hornbooklaw02_UtfBack.Pure : Prop := ∀ (l0 : List Int), (l0.length ≤ maxLen ∧ ∀ y ∈ l0, (Lit.int .i64 y).wf = true) → ∃ k, hornbooklaw02_UtfBack.f k l0 = some true
end Go.Proofs.YtlipfldicjihhaaDoor.PAll
