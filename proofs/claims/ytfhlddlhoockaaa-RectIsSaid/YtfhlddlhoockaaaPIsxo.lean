-- made by rowx.py of this session: what is told of arguments that read as data
import Derived.Test.YtfhlddlhoockaaaPIsxx0
import Derived.Test.YtfhlddlhoockaaaXOpen
namespace Go.Proofs.Ytfhlddlhoockaaa.PIsx
open Go.RowKit Go.Proofs.YtfhlddlhoockaaaW.PrintWords Go.Proofs.YtfhlddlhoockaaaX
set_option linter.unusedVariables false
def wf31 (x : S31) : Prop := (Lit.int .i64 x.f0).wf = true ∧ (Lit.int .i64 x.f1).wf = true ∧ (Lit.int .i64 x.f2).wf = true
theorem opens31 : Opens Try.prog 31 k31 wf31 :=
  Opens.mono (Opens.iso (fun a => (⟨a.1, a.2.1, a.2.2⟩ : S31)) (fun _ => rfl) (Opens.struct Try.underlying31 (OpensF.cons (Opens.int Try.underlying3) rfl (by kernel_rfl) (OpensF.cons (Opens.int Try.underlying3) rfl (by kernel_rfl) (OpensF.one (Opens.int Try.underlying3) rfl (by kernel_rfl)))) (by kernel_rfl))) (fun _ h => h)
def wf28 (x : S28) : Prop := (Lit.int .i64 x.f0).wf = true ∧ (Lit.int .i64 x.f1).wf = true
theorem opens28 : Opens Try.prog 28 k28 wf28 :=
  Opens.mono (Opens.iso (fun a => (⟨a.1, a.2⟩ : S28)) (fun _ => rfl) (Opens.struct Try.underlying28 (OpensF.cons (Opens.int Try.underlying3) rfl (by kernel_rfl) (OpensF.one (Opens.int Try.underlying3) rfl (by kernel_rfl))) (by kernel_rfl))) (fun _ h => h)
end Go.Proofs.Ytfhlddlhoockaaa.PIsx
