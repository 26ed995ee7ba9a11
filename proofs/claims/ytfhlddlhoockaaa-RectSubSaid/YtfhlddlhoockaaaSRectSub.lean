-- made by rowx.py of this session: the one pure statement of RectSub
import Derived.Test.YtfhlddlhoockaaaPNthx12
import Derived.Test.YtfhlddlhoockaaaPNtho
namespace Go.Proofs.Ytfhlddlhoockaaa.PNth
open Go.RowKit Go.Proofs.YtfhlddlhoockaaaW.PrintWords Go.Proofs.YtfhlddlhoockaaaW.PrintLast
def hornbooklaw06_RectSub.Pure : Prop := ∀ (a0_0 : Int) (a0_1 : Int) (a0_2 : Int) (a1_0 : Int) (a1_1 : Int) (a1_2 : Int) (a2 : Int), wf31 (⟨a0_0, a0_1, a0_2⟩ : S31) → wf31 (⟨a1_0, a1_1, a1_2⟩ : S31) → (Lit.int .i64 a2).wf = true → ∃ k, hornbooklaw06_RectSub.f k a0_0 a0_1 a0_2 a1_0 a1_1 a1_2 a2 = some true
end Go.Proofs.Ytfhlddlhoockaaa.PNth
