-- made by rowx.py of this session: the one pure statement of UtfRows
import Derived.Test.YtlipfldicjihhaaDoorPAllx6
import Derived.Test.YtlipfldicjihhaaDoorPAllo
namespace Go.Proofs.YtlipfldicjihhaaDoor.PAll
open Go.RowKit Go.Proofs.YtlipfldicjihhaaDoorW.PrintWords Go.Proofs.YtlipfldicjihhaaDoorW.PrintLast
def hornbooklaw02_UtfRows.Pure : Prop := ∀ (l0 : List Int) (l1 : List Int), (l0.length ≤ maxLen ∧ ∀ y ∈ l0, (Lit.int .i64 y).wf = true) → (l1.length ≤ maxLen ∧ ∀ y ∈ l1, (Lit.int .i64 y).wf = true) → ∃ k, hornbooklaw02_UtfRows.f k l0 l1 = some true
end Go.Proofs.YtlipfldicjihhaaDoor.PAll
