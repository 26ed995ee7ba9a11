-- made by rowx.py of this session: the one pure statement of MatchSame
import Derived.Test.YtippodpmggcniaaPSamex16
import Derived.Test.YtippodpmggcniaaPSameo
namespace Go.Proofs.Ytippodpmggcniaa.PSame
open Go.RowKit Go.Proofs.YtippodpmggcniaaW.PrintWords Go.Proofs.YtippodpmggcniaaW.PrintLast
def hornbooklaw11_MatchSame.Pure : Prop := ∀ (l0 : List (S35)) (l1 : List Int), (l0.length ≤ maxLen ∧ ∀ y ∈ l0, wf35 y) → (l1.length ≤ maxLen ∧ ∀ y ∈ l1, (Lit.int .u8 y).wf = true) → ∃ k, hornbooklaw11_MatchSame.f k l0 l1 = some true
end Go.Proofs.Ytippodpmggcniaa.PSame
