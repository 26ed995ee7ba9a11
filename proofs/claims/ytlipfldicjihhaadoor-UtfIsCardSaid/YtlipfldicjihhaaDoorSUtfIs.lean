-- made by rowx.py of this session: the one pure statement of UtfIs
import Derived.Test.YtlipfldicjihhaaDoorPTabx18
import Derived.Test.YtlipfldicjihhaaDoorPTabo
namespace Go.Proofs.YtlipfldicjihhaaDoor.PTab
open Go.RowKit Go.Proofs.YtlipfldicjihhaaDoorW.PrintWords Go.Proofs.YtlipfldicjihhaaDoorW.PrintLast
def hornbooklaw02_UtfIs.Pure : Prop := ∀ (l0 : List Int) (l1 : List Int) (a2 : ByteArray), (l0.length ≤ maxLen ∧ ∀ y ∈ l0, (Lit.int .i64 y).wf = true) → (l1.length ≤ maxLen ∧ ∀ y ∈ l1, (Lit.int .u8 y).wf = true) → a2.size ≤ maxLen → ∃ k, hornbooklaw02_UtfIs.f k l0 l1 a2 = some true
end Go.Proofs.YtlipfldicjihhaaDoor.PTab
