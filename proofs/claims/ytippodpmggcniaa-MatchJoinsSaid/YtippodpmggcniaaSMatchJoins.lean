-- made by rowx.py of this session: the one pure statement of MatchJoins
import Derived.Test.YtippodpmggcniaaPAllx30
import Derived.Test.YtippodpmggcniaaPAllo
namespace Go.Proofs.Ytippodpmggcniaa.PAll
open Go.RowKit Go.Proofs.YtippodpmggcniaaW.PrintWords Go.Proofs.YtippodpmggcniaaW.PrintLast
def hornbooklaw11_MatchJoins.Pure : Prop := ∀ (l0 : List (S35)) (l1 : List Int) (a2 : Int), (l0.length ≤ maxLen ∧ ∀ y ∈ l0, wf35 y) → (l1.length ≤ maxLen ∧ ∀ y ∈ l1, (Lit.int .u8 y).wf = true) → (Lit.int .i64 a2).wf = true → ∃ k, hornbooklaw11_MatchJoins.f k l0 l1 a2 = some true
end Go.Proofs.Ytippodpmggcniaa.PAll
