-- made by rowx.py of this session: the one pure statement of DoctextIs
import Derived.Test.YtfiaedpkbhnmkaaPAllx24
import Derived.Test.YtfiaedpkbhnmkaaPAllo
namespace Go.Proofs.Ytfiaedpkbhnmkaa.PAll
open Go.RowKit Go.Proofs.YtfiaedpkbhnmkaaW.PrintWords Go.Proofs.YtfiaedpkbhnmkaaW.PrintLast
def hornbooklaw19_DoctextIs.Pure : Prop := ∀ (a0 : Int) (l1 : List Int) (l2 : List Int), (Lit.int .i64 a0).wf = true → (l1.length ≤ maxLen ∧ ∀ y ∈ l1, (Lit.int .u8 y).wf = true) → (l2.length ≤ maxLen ∧ ∀ y ∈ l2, (Lit.int .i64 y).wf = true) → ∃ k, hornbooklaw19_DoctextIs.f k a0 l1 l2 = some true
end Go.Proofs.Ytfiaedpkbhnmkaa.PAll
