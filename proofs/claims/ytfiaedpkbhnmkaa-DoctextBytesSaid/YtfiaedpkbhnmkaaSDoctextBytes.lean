-- made by rowx.py of this session: the one pure statement of DoctextBytes
import Derived.Test.YtfiaedpkbhnmkaaPAllx24
import Derived.Test.YtfiaedpkbhnmkaaPAllo
namespace Go.Proofs.Ytfiaedpkbhnmkaa.PAll
open Go.RowKit Go.Proofs.YtfiaedpkbhnmkaaW.PrintWords Go.Proofs.YtfiaedpkbhnmkaaW.PrintLast
def hornbooklaw19_DoctextBytes.Pure : Prop := ∀ (a0 : Int) (a1 : Int), (Lit.int .i64 a0).wf = true → (Lit.int .i64 a1).wf = true → ∃ k, hornbooklaw19_DoctextBytes.f k a0 a1 = some true
end Go.Proofs.Ytfiaedpkbhnmkaa.PAll
