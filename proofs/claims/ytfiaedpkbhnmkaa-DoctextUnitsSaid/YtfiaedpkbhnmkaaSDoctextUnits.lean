-- made by rowx.py of this session: the one pure statement of DoctextUnits
import Derived.Test.YtfiaedpkbhnmkaaPAllx13
import Derived.Test.YtfiaedpkbhnmkaaPAllo
namespace Go.Proofs.Ytfiaedpkbhnmkaa.PAll
open Go.RowKit Go.Proofs.YtfiaedpkbhnmkaaW.PrintWords Go.Proofs.YtfiaedpkbhnmkaaW.PrintLast
def hornbooklaw19_DoctextUnits.Pure : Prop := ∀ (l0 : List Int) (a1 : Int), (l0.length ≤ maxLen ∧ ∀ y ∈ l0, (Lit.int .i64 y).wf = true) → (Lit.int .u8 a1).wf = true → ∃ k, hornbooklaw19_DoctextUnits.f k l0 a1 = some true
end Go.Proofs.Ytfiaedpkbhnmkaa.PAll
