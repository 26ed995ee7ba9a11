-- made by rowx.py of this session: what is told of arguments that read as data
import Derived.Test.YtippodpmggcniaaPSamex0
import Derived.Test.YtippodpmggcniaaXOpen
namespace Go.Proofs.Ytippodpmggcniaa.PSame
open Go.RowKit Go.Proofs.YtippodpmggcniaaW.PrintWords Go.Proofs.YtippodpmggcniaaX
set_option linter.unusedVariables false
def wf35 (x : S35) : Prop := (Lit.int .i64 x.f0).wf = true ∧ (Lit.int .i64 x.f1).wf = true ∧ (Lit.int .i64 x.f2).wf = true
theorem opens35 : Opens Try.prog 35 k35 wf35 :=
  Opens.mono (Opens.iso (fun a => (⟨a.1, a.2.1, a.2.2⟩ : S35)) (fun _ => rfl) (Opens.struct Try.underlying35 (OpensF.cons (Opens.int Try.underlying3) rfl (by kernel_rfl) (OpensF.cons (Opens.int Try.underlying3) rfl (by kernel_rfl) (OpensF.one (Opens.int Try.underlying3) rfl (by kernel_rfl)))) (by kernel_rfl))) (fun _ h => h)
end Go.Proofs.Ytippodpmggcniaa.PSame
