-- made by rowx.py of this session: the one pure statement of MatchNone
import Derived.Test.YtippodpmggcniaaPAllx15
import Derived.Test.YtippodpmggcniaaPAllo
namespace Go.Proofs.Ytippodpmggcniaa.PAll
open Go.RowKit Go.Proofs.YtippodpmggcniaaW.PrintWords Go.Proofs.YtippodpmggcniaaW.PrintLast
def hornbooklaw11_MatchNone.Pure : Prop := ∀ (l0 : List Int), (l0.length ≤ maxLen ∧ ∀ y ∈ l0, (Lit.int .u8 y).wf = true) → ∃ k, hornbooklaw11_MatchNone.f k l0 = some true
end Go.Proofs.Ytippodpmggcniaa.PAll
