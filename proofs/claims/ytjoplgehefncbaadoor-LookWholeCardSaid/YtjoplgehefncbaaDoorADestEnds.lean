/- DestEnds by the engine. -/
import Derived.Test.YtjoplgehefncbaaDoorADestAwake
import Derived.Test.YtjoplgehefncbaaDoorADestFew
import Derived.Test.YtjoplgehefncbaaDoorADestOne
set_option linter.all false
set_option maxRecDepth 100000
namespace Go.Abs.Dest
open Go.RowKit Go.Proofs Go.Abs.Tab
/-- What each entry of a table says of its first and its last code, and of the one behind. -/
theorem ends_of {t : List Bf} (h : EB.Tab t) {b : Bf} (hb : b ∈ t) : EB.find t b.n b.lo = some b.to ∧ EB.find t b.n b.hi = some (fur b.to (b.hi - b.lo)) ∧ ∀ w, EB.find t b.n (b.hi + 1) = some w → w ≠ fur b.to (b.hi + 1 - b.lo) := by
  have r := rngB (h.1 b hb)
  rw [EB.find_tab h, EB.find_tab h, EB.find_tab h]
  refine ⟨?_, ?_, fun w hw => ?_⟩
  · refine (Tb.get_of_mem _ h.2.1 hb ⟨rfl, Int.le_refl _, r.2.1.2.1⟩).trans ?_
    exact congrArg some (Tb.val_lo _ b)
  · refine (Tb.get_of_mem _ h.2.1 hb ⟨rfl, r.2.1.2.1, Int.le_refl _⟩).trans ?_
    rfl
  · exact Tb.next_not _ h.2.1 h.2.2 b hb w hw
theorem getMem {l : List Bf} {i : Nat} (h : i < l.length) : l.getD i default ∈ l := by
  rw [getB h]
  exact List.getElem_mem h
def SDestEnds : Sp := ⟨List Bf × Int, fun _ => True, fun (l, k) => [aB l, .int .i64 k], fun _ => .st (.lit true)⟩
end Go.Abs.Dest
