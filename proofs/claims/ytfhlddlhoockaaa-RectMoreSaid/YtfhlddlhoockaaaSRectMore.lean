-- made by rowx.py of this session: the one pure statement of RectMore
import Derived.Test.YtfhlddlhoockaaaPAllx26
import Derived.Test.YtfhlddlhoockaaaPAllo
namespace Go.Proofs.Ytfhlddlhoockaaa.PAll
open Go.RowKit Go.Proofs.YtfhlddlhoockaaaW.PrintWords Go.Proofs.YtfhlddlhoockaaaW.PrintLast
def hornbooklaw06_RectMore.Pure : Prop := ∀ (l0 : List (S31)) (a1_0 : Int) (a1_1 : Int) (a1_2 : Int), (l0.length ≤ maxLen ∧ ∀ y ∈ l0, wf31 y) → wf31 (⟨a1_0, a1_1, a1_2⟩ : S31) → ∃ k, hornbooklaw06_RectMore.f k l0 a1_0 a1_1 a1_2 = some true
end Go.Proofs.Ytfhlddlhoockaaa.PAll
