-- made by rowx.py of this session: the one pure statement of RectFits
import Derived.Test.YtfhlddlhoockaaaPAllx23
import Derived.Test.YtfhlddlhoockaaaPAllo
namespace Go.Proofs.Ytfhlddlhoockaaa.PAll
open Go.RowKit Go.Proofs.YtfhlddlhoockaaaW.PrintWords Go.Proofs.YtfhlddlhoockaaaW.PrintLast
def hornbooklaw06_RectFits.Pure : Prop := ∀ (a0_0 : Int) (a0_1 : Int) (a0_2 : Int) (l1 : List Int) (l2 : List Int), wf31 (⟨a0_0, a0_1, a0_2⟩ : S31) → (l1.length ≤ maxLen ∧ ∀ y ∈ l1, (Lit.int .u8 y).wf = true) → (l2.length ≤ maxLen ∧ ∀ y ∈ l2, (Lit.int .u8 y).wf = true) → ∃ k, hornbooklaw06_RectFits.f k a0_0 a0_1 a0_2 l1 l2 = some true
end Go.Proofs.Ytfhlddlhoockaaa.PAll
