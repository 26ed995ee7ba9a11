-- made by rowx.py of this session: the one pure statement of MatchMore
import Derived.Test.YtippodpmggcniaaPAllx16
import Derived.Test.YtippodpmggcniaaPAllo
namespace Go.Proofs.Ytippodpmggcniaa.PAll
open Go.RowKit Go.Proofs.YtippodpmggcniaaW.PrintWords Go.Proofs.YtippodpmggcniaaW.PrintLast
def hornbooklaw11_MatchMore.Pure : Prop := ∀ (l0 : List (S35)) (a1_0 : Int) (a1_1 : Int) (a1_2 : Int) (l2 : List Int) (l3 : List Int), (l0.length ≤ maxLen ∧ ∀ y ∈ l0, wf35 y) → wf35 (⟨a1_0, a1_1, a1_2⟩ : S35) → (l2.length ≤ maxLen ∧ ∀ y ∈ l2, (Lit.int .u8 y).wf = true) → (l3.length ≤ maxLen ∧ ∀ y ∈ l3, (Lit.int .u8 y).wf = true) → ∃ k, hornbooklaw11_MatchMore.f k l0 a1_0 a1_1 a1_2 l2 l3 = some true
end Go.Proofs.Ytippodpmggcniaa.PAll
