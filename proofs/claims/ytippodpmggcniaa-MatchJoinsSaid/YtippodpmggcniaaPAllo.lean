-- made by rowx.py of this session: what is told of arguments that read as data
import Derived.Test.YtippodpmggcniaaPAllx0
import Derived.Test.YtippodpmggcniaaXOpen
namespace Go.Proofs.Ytippodpmggcniaa.PAll
open Go.RowKit Go.Proofs.YtippodpmggcniaaW.PrintWords Go.Proofs.YtippodpmggcniaaX
set_option linter.unusedVariables false
def wf35 (x : S35) : Prop := (Lit.int .i64 x.f0).wf = true ∧ (Lit.int .i64 x.f1).wf = true ∧ (Lit.int .i64 x.f2).wf = true
theorem opens35 : Opens Try.prog 35 k35 wf35 :=
  Opens.mono (Opens.iso (fun a => (⟨a.1, a.2.1, a.2.2⟩ : S35)) (fun _ => rfl) (Opens.struct Try.underlying35 (OpensF.cons (Opens.int Try.underlying3) rfl (by kernel_rfl) (OpensF.cons (Opens.int Try.underlying3) rfl (by kernel_rfl) (OpensF.one (Opens.int Try.underlying3) rfl (by kernel_rfl)))) (by kernel_rfl))) (fun _ h => h)
def wf28 (x : S28) : Prop := (Lit.int .i64 x.f0).wf = true ∧ (Lit.int .i64 x.f1).wf = true
theorem opens28 : Opens Try.prog 28 k28 wf28 :=
  Opens.mono (Opens.iso (fun a => (⟨a.1, a.2⟩ : S28)) (fun _ => rfl) (Opens.struct Try.underlying28 (OpensF.cons (Opens.int Try.underlying3) rfl (by kernel_rfl) (OpensF.one (Opens.int Try.underlying3) rfl (by kernel_rfl))) (by kernel_rfl))) (fun _ h => h)
def wf49 (x : S49) : Prop := (Lit.int .i64 x.f0).wf = true ∧ (Lit.int .i64 x.f1).wf = true ∧ True ∧ wf28 x.f3
theorem opens49 : Opens Try.prog 49 k49 wf49 :=
  Opens.mono (Opens.iso (fun a => (⟨a.1, a.2.1, a.2.2.1, a.2.2.2⟩ : S49)) (fun _ => rfl) (Opens.struct Try.underlying49 (OpensF.cons (Opens.int Try.underlying3) rfl (by kernel_rfl) (OpensF.cons (Opens.int Try.underlying3) rfl (by kernel_rfl) (OpensF.cons (Opens.bool Try.underlying4) rfl (by kernel_rfl) (OpensF.one opens28 rfl (by kernel_rfl))))) (by kernel_rfl))) (fun _ h => h)
end Go.Proofs.Ytippodpmggcniaa.PAll
