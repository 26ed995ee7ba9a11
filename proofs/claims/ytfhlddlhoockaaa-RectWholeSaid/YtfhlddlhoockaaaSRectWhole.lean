-- made by rowx.py of this session: the one pure statement of RectWhole
import Derived.Test.YtfhlddlhoockaaaPAllx24
import Derived.Test.YtfhlddlhoockaaaPAllo
namespace Go.Proofs.Ytfhlddlhoockaaa.PAll
open Go.RowKit Go.Proofs.YtfhlddlhoockaaaW.PrintWords Go.Proofs.YtfhlddlhoockaaaW.PrintLast
def hornbooklaw06_RectWhole.Pure : Prop := ∀ (l0 : List (S31)) (a1_0 : Int) (a1_1 : Int), (l0.length ≤ maxLen ∧ ∀ y ∈ l0, wf31 y) → wf28 (⟨a1_0, a1_1⟩ : S28) → ∃ k, hornbooklaw06_RectWhole.f k l0 a1_0 a1_1 = some true
end Go.Proofs.Ytfhlddlhoockaaa.PAll
