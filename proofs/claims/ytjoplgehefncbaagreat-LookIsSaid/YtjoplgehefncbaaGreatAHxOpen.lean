/- Bytes as arguments, opened. -/
import Derived.Test.YtjoplgehefncbaaGreatAHx
import Derived.Test.YtjoplgehefncbaaGreatADestOpen
set_option linter.all false
set_option maxRecDepth 100000
namespace Go.Abs.Hx
open Go.RowKit Go.Proofs
abbrev wf8 (n : Int) : Prop := (Lit.int .u8 n).wf = true
theorem wf8_rng {n : Int} (h : wf8 n) : 0 ≤ n ∧ n ≤ 255 := by
  have h : (decide (IntKind.u8.min ≤ n) && decide (n ≤ IntKind.u8.max)) = true := h
  rw [Bool.and_eq_true, decide_eq_true_eq, decide_eq_true_eq] at h
  exact h
theorem opB8 : OpA Tryz.prog 29 (fun l : List Int => [a8 l]) (fun l => l.length ≤ maxLen ∧ ∀ x ∈ l, wf8 x) := OpA.slice Tryz.underlying29 (by kernel_rfl) c8_emb (OpA.int Tryz.underlying5)
end Go.Abs.Hx
