/- Arguments of chapter 8, opened. -/
import Derived.Test.YtmgjojgfocbjfaaDoorADestA
import Derived.Test.YtmgjojgfocbjfaaDoorAbsOpen
set_option linter.all false
set_option maxRecDepth 100000
namespace Go.Abs.Dest
open Go.RowKit Go.Proofs
abbrev wfI (n : Int) : Prop := (Lit.int .i64 n).wf = true
def wfIs (l : List Int) : Prop := l.length ≤ maxLen ∧ ∀ x ∈ l, wfI x
def wfB (b : Bf) : Prop := wfI b.n ∧ wfI b.lo ∧ wfI b.hi ∧ wfIs b.to
theorem opInt : OpA Tryd.prog 3 (fun n : Int => [.int .i64 n]) wfI := OpA.int Tryd.underlying3
theorem opInts : OpA Tryd.prog 29 (fun l : List Int => [aI l]) wfIs := OpA.slice Tryd.underlying29 (by kernel_rfl) ci_emb opInt
theorem opBf : OpA Tryd.prog 46 cBf wfB :=
  OpA.iso (OpA.struct (n := 1 + (1 + (1 + 1))) Tryd.underlying46 (OpAF.cons opInt rfl (by kernel_rfl) (OpAF.cons opInt rfl (by kernel_rfl) (OpAF.cons opInt rfl (by kernel_rfl) (OpAF.one opInts rfl (by kernel_rfl))))) (by kernel_rfl)) (fun a => ⟨a.1, a.2.1, a.2.2.1, a.2.2.2⟩) (fun _ => rfl) (fun _ h => h)
theorem opBfs : OpA Tryd.prog 24 (fun l : List Bf => [aB l]) (fun l => l.length ≤ maxLen ∧ ∀ x ∈ l, wfB x) := OpA.slice Tryd.underlying24 (by kernel_rfl) cBf_emb opBf
theorem opCode : OpA Tryd.prog 44 (fun x : Int × Int => [.int .i64 x.1, .int .i64 x.2]) (fun x => wfI x.1 ∧ wfI x.2) :=
  OpA.iso (OpA.struct (n := 1 + 1) Tryd.underlying44 (OpAF.cons opInt rfl (by kernel_rfl) (OpAF.one opInt rfl (by kernel_rfl))) (by kernel_rfl)) (fun a => a) (fun _ => rfl) (fun _ h => h)
end Go.Abs.Dest
