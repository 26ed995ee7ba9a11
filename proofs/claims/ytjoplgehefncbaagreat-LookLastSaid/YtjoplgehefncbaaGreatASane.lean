/- sem.Sane. -/
import Derived.Test.YtjoplgehefncbaaGreatARectD
set_option linter.all false
set_option maxRecDepth 100000
namespace Go.Abs.Rc
open Go.RowKit Go.Proofs Go.Abs.Tab Go.Abs.Dest Go.Abs.Span Go.Abs.Coll Go.Abs.Hx Go.Abs.Mt
def sameRs (a b : List Rct) : Bool := decide (a.length = b.length) && (List.range a.length).all fun j => eqR (a.getD j default) (b.getD j default)
def SSameR : Sp := ⟨List Rct × List Rct, fun (a, _) => a.length < 9223372036854775807, fun (a, b) => [aR a, aR b], fun (a, b) => .st (.sb (sameRs a b))⟩
theorem sameRs_at (a b : List Rct) : sameRs a b = true ↔ a.length = b.length ∧ ∀ j, j < a.length → a.getD j default = b.getD j default := by
  unfold sameRs
  rw [Bool.and_eq_true, decide_eq_true_iff, List.all_eq_true]
  simp only [List.mem_range, eqR_iff]
theorem sameRs_iff (a b : List Rct) : sameRs a b = true ↔ a = b := by
  rw [sameRs_at]
  constructor
  · rintro ⟨h1, h2⟩
    refine List.ext_getElem h1 fun i hi hj => ?_
    have := h2 i hi
    rwa [getR hi, getR hj] at this
  · rintro rfl
    exact ⟨rfl, fun _ _ => rfl⟩
theorem sameRs_no {a b : List Rct} (h : ¬ (a.length = b.length ∧ ∀ j, j < a.length → a.getD j default = b.getD j default)) : sameRs a b = false := by
  rw [Bool.eq_false_iff, ne_eq, sameRs_at]
  exact h
def saneT (t : Tbl) : Bool := decide (t.wmode = 0 ∨ t.wmode = 1) && (sameRs (canR t.spaces) t.spaces && ((ES true).canon t.cids && ((ES false).canon t.nots && EB.canon t.bfs)))
def SSaneT : Sp := ⟨Tbl, fun t => t.spaces.length ≤ 1000000 ∧ t.cids.length < 9223372036854775807 ∧ t.nots.length < 9223372036854775807 ∧ t.bfs.length < 9223372036854775807, fun t => [.agg (cT t)], fun t => .st (.sb (saneT t))⟩
theorem canR_len (l : List Rct) : (canR l).length ≤ l.length := by
  unfold canR
  refine Nat.le_trans (List.length_filter_le _ _) ?_
  refine Nat.le_trans (cuR_len _ _) ?_
  unfold sortR
  rw [List.length_mergeSort]
  exact List.length_filter_le _ _
end Go.Abs.Rc
