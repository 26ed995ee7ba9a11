-- made by rowx.py of this session: the one pure statement of UtfWhole
import Derived.Test.YtlipfldicjihhaaDoorPTabx9
import Derived.Test.YtlipfldicjihhaaDoorPTabo
namespace Go.Proofs.YtlipfldicjihhaaDoor.PTab
open Go.RowKit Go.Proofs.YtlipfldicjihhaaDoorW.PrintWords Go.Proofs.YtlipfldicjihhaaDoorW.PrintLast
def hornbooklaw02_UtfWhole.Pure : Prop := ∀ (l0 : List Int) (a1 : ByteArray), (l0.length ≤ maxLen ∧ ∀ y ∈ l0, (Lit.int .i64 y).wf = true) → a1.size ≤ maxLen → ∃ k, hornbooklaw02_UtfWhole.f k l0 a1 = some true
end Go.Proofs.YtlipfldicjihhaaDoor.PTab
