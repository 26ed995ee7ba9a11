-- made by rowx.py of this session: what is told of arguments that read as data
import Derived.Test.YtehknkgplldiiaaPIsx0
import Derived.Test.YtehknkgplldiiaaXOpen
namespace Go.Proofs.Ytehknkgplldiiaa.PIs
open Go.RowKit Go.Proofs.YtehknkgplldiiaaW.PrintWords Go.Proofs.YtehknkgplldiiaaX
set_option linter.unusedVariables false
def wf23 (x : S23) : Prop := (Lit.int .i64 x.f0).wf = true ∧ (Lit.int .i64 x.f1).wf = true ∧ (Lit.int .i64 x.f2).wf = true ∧ (Lit.int .i64 x.f3).wf = true
theorem opens23 : Opens Try.prog 23 k23 wf23 :=
  Opens.mono (Opens.iso (fun a => (⟨a.1, a.2.1, a.2.2.1, a.2.2.2⟩ : S23)) (fun _ => rfl) (Opens.struct Try.underlying23 (OpensF.cons (Opens.int Try.underlying3) rfl (by kernel_rfl) (OpensF.cons (Opens.int Try.underlying3) rfl (by kernel_rfl) (OpensF.cons (Opens.int Try.underlying3) rfl (by kernel_rfl) (OpensF.one (Opens.int Try.underlying3) rfl (by kernel_rfl))))) (by kernel_rfl))) (fun _ h => h)
def wf31 (x : S31) : Prop := (Lit.int .i64 x.f0).wf = true ∧ (Lit.int .i64 x.f1).wf = true
theorem opens31 : Opens Try.prog 31 k31 wf31 :=
  Opens.mono (Opens.iso (fun a => (⟨a.1, a.2⟩ : S31)) (fun _ => rfl) (Opens.struct Try.underlying31 (OpensF.cons (Opens.int Try.underlying3) rfl (by kernel_rfl) (OpensF.one (Opens.int Try.underlying3) rfl (by kernel_rfl))) (by kernel_rfl))) (fun _ h => h)
end Go.Proofs.Ytehknkgplldiiaa.PIs
