-- made by rowx.py of this session: the one pure statement of MatchCodes
import Derived.Test.YtippodpmggcniaaPAllx14
import Derived.Test.YtippodpmggcniaaPAllo
namespace Go.Proofs.Ytippodpmggcniaa.PAll
open Go.RowKit Go.Proofs.YtippodpmggcniaaW.PrintWords Go.Proofs.YtippodpmggcniaaW.PrintLast
def hornbooklaw11_MatchCodes.Pure : Prop := ∀ (l0 : List (S35)) (l1 : List Int), (l0.length ≤ maxLen ∧ ∀ y ∈ l0, wf35 y) → (l1.length ≤ maxLen ∧ ∀ y ∈ l1, (Lit.int .u8 y).wf = true) → ∃ k, hornbooklaw11_MatchCodes.f k l0 l1 = some true
end Go.Proofs.Ytippodpmggcniaa.PAll
