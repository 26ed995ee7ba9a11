-- made by rowx.py of this session: the one pure statement of RectCanon
import Derived.Test.YtfhlddlhoockaaaPAllx22
import Derived.Test.YtfhlddlhoockaaaPAllo
namespace Go.Proofs.Ytfhlddlhoockaaa.PAll
open Go.RowKit Go.Proofs.YtfhlddlhoockaaaW.PrintWords Go.Proofs.YtfhlddlhoockaaaW.PrintLast
def hornbooklaw06_RectCanon.Pure : Prop := ∀ (l0 : List (S31)), (l0.length ≤ maxLen ∧ ∀ y ∈ l0, wf31 y) → ∃ k, hornbooklaw06_RectCanon.f k l0 = some true
end Go.Proofs.Ytfhlddlhoockaaa.PAll
