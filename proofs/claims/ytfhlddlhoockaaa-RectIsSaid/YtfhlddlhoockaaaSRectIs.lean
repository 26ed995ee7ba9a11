-- made by rowx.py of this session: the one pure statement of RectIs
import Derived.Test.YtfhlddlhoockaaaPIsxx18
import Derived.Test.YtfhlddlhoockaaaPIsxo
namespace Go.Proofs.Ytfhlddlhoockaaa.PIsx
open Go.RowKit Go.Proofs.YtfhlddlhoockaaaW.PrintWords Go.Proofs.YtfhlddlhoockaaaW.PrintLast
def hornbooklaw06_RectIs.Pure : Prop := ∀ (a0_0 : Int) (a0_1 : Int) (a0_2 : Int) (a1_0 : Int) (a1_1 : Int) (a1_2 : Int) (a2_0 : Int) (a2_1 : Int) (l3 : List Int) (a4 : Int), wf31 (⟨a0_0, a0_1, a0_2⟩ : S31) → wf31 (⟨a1_0, a1_1, a1_2⟩ : S31) → wf28 (⟨a2_0, a2_1⟩ : S28) → (l3.length ≤ maxLen ∧ ∀ y ∈ l3, (Lit.int .u8 y).wf = true) → (Lit.int .i64 a4).wf = true → ∃ k, hornbooklaw06_RectIs.f k a0_0 a0_1 a0_2 a1_0 a1_1 a1_2 a2_0 a2_1 l3 a4 = some true
end Go.Proofs.Ytfhlddlhoockaaa.PIsx
