-- made by rowx.py of this session: the one pure statement of MatchIs
import Derived.Test.YtippodpmggcniaaPAllx29
import Derived.Test.YtippodpmggcniaaPAllo
namespace Go.Proofs.Ytippodpmggcniaa.PAll
open Go.RowKit Go.Proofs.YtippodpmggcniaaW.PrintWords Go.Proofs.YtippodpmggcniaaW.PrintLast
def hornbooklaw11_MatchIs.Pure : Prop := ∀ (l0 : List (S35)) (l1 : List Int) (l2 : List (S49)), (l0.length ≤ maxLen ∧ ∀ y ∈ l0, wf35 y) → (l1.length ≤ maxLen ∧ ∀ y ∈ l1, (Lit.int .u8 y).wf = true) → (l2.length ≤ maxLen ∧ ∀ y ∈ l2, wf49 y) → ∃ k, hornbooklaw11_MatchIs.f k l0 l1 l2 = some true
end Go.Proofs.Ytippodpmggcniaa.PAll
