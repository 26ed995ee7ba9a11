/- The document's answer for layer 8: its small functions. -/
import Derived.Test.YtjoplgehefncbaaDoorADestF
set_option linter.all false
set_option maxRecDepth 100000
namespace Go.Abs.Dest
open Go.RowKit Go.Proofs Go.Abs.Tab
theorem upto {p : Nat → Prop} {k : Nat} (hok : ∀ j, j < k → p j) (h : p k) : ∀ j, j < k + 1 → p j := fun j hj => by
  by_cases e : j = k
  · exact e ▸ h
  · exact hok j (by omega)
instance : DecidableEq Bf := fun a b => decidable_of_iff (a.n = b.n ∧ a.lo = b.lo ∧ a.hi = b.hi ∧ a.to = b.to) ⟨fun ⟨h1, h2, h3, h4⟩ => Bf.ext' h1 h2 h3 h4, fun h => by rw [h]; exact ⟨rfl, rfl, rfl, rfl⟩⟩
def SSameB : Sp := ⟨List Bf × List Bf, fun (a, b) => a.length < 9223372036854775807 ∧ ∀ x ∈ a, x.to.length < 9223372036854775807, fun (a, b) => [aB a, aB b], fun (a, b) => .st (.sb (decide (a = b)))⟩
theorem sameB_step {a b : List Bf} {k : Nat} (hk : k < a.length) (hl : a.length = b.length) (he : a.take k = b.take k) (h : a.getD k default = b.getD k default) : a.take (k + 1) = b.take (k + 1) := by
  rw [getB hk, getB (by omega)] at h
  rw [List.take_succ_eq_append_getElem hk, List.take_succ_eq_append_getElem (by omega), he, h]
theorem sameB_no {a b : List Bf} {k : Nat} (h : a.getD k default ≠ b.getD k default) : false = decide (a = b) := by
  symm
  rw [decide_eq_false_iff_not]
  rintro rfl
  exact h rfl
end Go.Abs.Dest
