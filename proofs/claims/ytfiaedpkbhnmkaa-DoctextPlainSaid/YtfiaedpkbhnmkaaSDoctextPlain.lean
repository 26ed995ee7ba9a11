-- made by rowx.py of this session: the one pure statement of DoctextPlain
import Derived.Test.YtfiaedpkbhnmkaaPAllx15
import Derived.Test.YtfiaedpkbhnmkaaPAllo
namespace Go.Proofs.Ytfiaedpkbhnmkaa.PAll
open Go.RowKit Go.Proofs.YtfiaedpkbhnmkaaW.PrintWords Go.Proofs.YtfiaedpkbhnmkaaW.PrintLast
def hornbooklaw19_DoctextPlain.Pure : Prop := ∀ (l0 : List Int), (l0.length ≤ maxLen ∧ ∀ y ∈ l0, (Lit.int .u8 y).wf = true) → ∃ k, hornbooklaw19_DoctextPlain.f k l0 = some true
end Go.Proofs.Ytfiaedpkbhnmkaa.PAll
