/- What span.Last answers, in plain words. -/
import Derived.Test.YtehknkgplldiiaaQSpan
import Derived.Test.YtehknkgplldiiaaPAllx20
set_option linter.unusedVariables false
set_option linter.unusedSimpArgs false
namespace Go.Proofs.YtehknkgplldiiaaQ
open Go.RowKit Go.Proofs.YtehknkgplldiiaaW.PrintWords Go.Proofs.YtehknkgplldiiaaW.PrintLast Go.Proofs.YtehknkgplldiiaaW.PrintMore Go.Proofs.Ytehknkgplldiiaa.PAll Go.Proofs.Ytehknkgplldiiaa.Tab
theorem lastTo_is (l : List S23) (n v : Int) (step : Bool) : ∀ i, i ≤ l.length → lastTo l n v step i = tell ((TS step).get (lastL step (l.take i)) n v)
  | 0, _ => by simp [lastTo, lastL, Tb.get, tell]
  | i + 1, hi => by
    have ih := lastTo_is l n v step i (by omega)
    rw [take_snoc (by omega), lastL_snoc]
    unfold lastTo
    rw [el_get (by omega), ih]
    by_cases hs : saneS l[i] step = true
    · rw [if_pos hs, to_good hs]
      rw [show (TS step).get (l[i] :: lastL step (l.take i)) n v = if (TS step).has l[i] n v then some ((TS step).val l[i] v) else (TS step).get (lastL step (l.take i)) n v from rfl]
      by_cases hh : (TS step).has l[i] n v
      · rw [if_pos hh, if_pos hh]
        rfl
      · rw [if_neg hh, if_neg hh]
        rfl
    · rw [if_neg hs, to_bad hs]
      rfl
theorem span_Last_is {l : List S23} (hl : l.length ≤ 10000) (n v : Int) (step : Bool) : Ev (fun _ => span_Last.f l n v step) (tell ((TS step).get (lastL step l) n v)) := by
  unfold span_Last.f
  rw [if_pos (by omega), lastTo_is l n v step l.length (Nat.le_refl _), List.take_length]
  exact Ev.now _
end Go.Proofs.YtehknkgplldiiaaQ
