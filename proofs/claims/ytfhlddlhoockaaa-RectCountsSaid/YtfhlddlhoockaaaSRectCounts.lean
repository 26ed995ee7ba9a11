-- made by rowx.py of this session: the one pure statement of RectCounts
import Derived.Test.YtfhlddlhoockaaaPNthx11
import Derived.Test.YtfhlddlhoockaaaPNtho
namespace Go.Proofs.Ytfhlddlhoockaaa.PNth
open Go.RowKit Go.Proofs.YtfhlddlhoockaaaW.PrintWords Go.Proofs.YtfhlddlhoockaaaW.PrintLast
def hornbooklaw06_RectCounts.Pure : Prop := ∀ (a0_0 : Int) (a0_1 : Int) (a0_2 : Int) (a1 : Int), wf31 (⟨a0_0, a0_1, a0_2⟩ : S31) → (Lit.int .i64 a1).wf = true → ∃ k, hornbooklaw06_RectCounts.f k a0_0 a0_1 a0_2 a1 = some true
end Go.Proofs.Ytfhlddlhoockaaa.PNth
