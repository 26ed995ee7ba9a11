-- made by rowx.py of this session: the one pure statement of DoctextRows
import Derived.Test.YtfiaedpkbhnmkaaPAllx14
import Derived.Test.YtfiaedpkbhnmkaaPAllo
namespace Go.Proofs.Ytfiaedpkbhnmkaa.PAll
open Go.RowKit Go.Proofs.YtfiaedpkbhnmkaaW.PrintWords Go.Proofs.YtfiaedpkbhnmkaaW.PrintLast
def hornbooklaw19_DoctextRows.Pure : Prop := ∀ (l0 : List Int) (l1 : List Int), (l0.length ≤ maxLen ∧ ∀ y ∈ l0, (Lit.int .u8 y).wf = true) → (l1.length ≤ maxLen ∧ ∀ y ∈ l1, (Lit.int .u8 y).wf = true) → ∃ k, hornbooklaw19_DoctextRows.f k l0 l1 = some true
end Go.Proofs.Ytfiaedpkbhnmkaa.PAll
