/- Statement SpanOrder, without the program: spans that do not meet may be put in any order. -/
import Derived.Test.YtehknkgplldiiaaSSpanOrder
import Derived.Test.YtehknkgplldiiaaQSpanPut
import Derived.Test.YtehknkgplldiiaaQSpanSame
set_option linter.unusedVariables false
set_option linter.unusedSimpArgs false
namespace Go.Proofs.Ytehknkgplldiiaa.Pure
open Go.RowKit Go.Proofs.Ytehknkgplldiiaa.PAll Go.Proofs.YtehknkgplldiiaaW.PrintWords Go.Proofs.YtehknkgplldiiaaW.PrintLast Go.Proofs.YtehknkgplldiiaaQ Go.Proofs.Ytehknkgplldiiaa.Tab
theorem get_snoc (step : Bool) (l : List S23) (s : S23) (n c : Int) :
    (TS step).get (buildS step (l ++ [s])) n c = if saneS s step = true ∧ (TS step).has s n c then some ((TS step).val s c) else (TS step).get (lastL step l) n c := by
  rw [(build_ok step (l ++ [s])).2.2.2.2, lastL_snoc]
  by_cases hs : saneS s step = true
  · rw [if_pos hs]
    by_cases hh : (TS step).has s n c
    · rw [if_pos ⟨hs, hh⟩]
      exact if_pos hh
    · rw [if_neg (fun h => hh h.2)]
      exact if_neg hh
  · rw [if_neg hs, if_neg (fun h => hs h.1)]
theorem order_j0 (l : List S23) (hl : l.length ≤ 50) (step : Bool) (a0 a1 a2 a3 b0 b1 b2 b3 : Int) (hm : ¬ (a0 = b0 ∧ a1 ≤ b2 ∧ b1 ≤ a2)) :
    Ev (fun k => hornbooklaw07_SpanOrder.j0 k l step true false a0 a1 a2 a3 b0 b1 b2 b3) true := by
  have q1 := (build_ok step (l ++ [⟨a0, a1, a2, a3⟩])).2.2.2.1
  have q2 := (build_ok step (l ++ [⟨b0, b1, b2, b3⟩])).2.2.2.1
  have q3 := (build_ok step (buildS step (l ++ [⟨a0, a1, a2, a3⟩]) ++ [⟨b0, b1, b2, b3⟩])).2.2.2.1
  rw [List.length_append, List.length_singleton] at q1 q2 q3
  have he : buildS step (buildS step (l ++ [⟨a0, a1, a2, a3⟩]) ++ [⟨b0, b1, b2, b3⟩]) = buildS step (buildS step (l ++ [⟨b0, b1, b2, b3⟩]) ++ [⟨a0, a1, a2, a3⟩]) := by
    obtain ⟨x1, x2, _⟩ := build_ok step (buildS step (l ++ [⟨a0, a1, a2, a3⟩]) ++ [⟨b0, b1, b2, b3⟩])
    obtain ⟨y1, y2, _⟩ := build_ok step (buildS step (l ++ [⟨b0, b1, b2, b3⟩]) ++ [⟨a0, a1, a2, a3⟩])
    refine same_table x1 x2 y1 y2 fun n c => ?_
    rw [get_put step (build_canon step _), get_put step (build_canon step _), get_snoc, get_snoc]
    by_cases ha : saneS (⟨a0, a1, a2, a3⟩ : S23) step = true ∧ (TS step).has ⟨a0, a1, a2, a3⟩ n c
    · have hb : ¬ (saneS (⟨b0, b1, b2, b3⟩ : S23) step = true ∧ (TS step).has ⟨b0, b1, b2, b3⟩ n c) := by
        rintro ⟨_, p1, p2, p3⟩
        obtain ⟨_, r1, r2, r3⟩ := ha
        have p1' : b0 = n := p1
        have p2' : b1 ≤ c := p2
        have p3' : c ≤ b2 := p3
        have r1' : a0 = n := r1
        have r2' : a1 ≤ c := r2
        have r3' : c ≤ a2 := r3
        exact hm ⟨by omega, by omega, by omega⟩
      rw [if_neg hb, if_pos ha, if_pos ha]
    · rw [if_neg ha, if_neg ha]
  refine Ev.step (fun k => rfl) ?_
  simp only [hornbooklaw07_SpanOrder.j0]
  simp only [if_neg (show ¬ (false = true) by decide)]
  refine Ev.bind (span_Put_is step l (by omega) a0 a1 a2 a3) ?_
  refine Ev.bind (span_Put_is step _ (by omega) b0 b1 b2 b3) ?_
  refine Ev.bind (span_Put_is step l (by omega) b0 b1 b2 b3) ?_
  refine Ev.bind (span_Put_is step _ (by omega) a0 a1 a2 a3) ?_
  simp only [if_true]
  rw [← he]
  refine Ev.bind (ref_Same_refl _ (by omega)) ?_
  simp only [if_true]
  refine Ev.bind (span_Canon_is (by omega) step) ?_
  rw [build_canon]
  exact Ev.now _
theorem SpanOrder : hornbooklaw07_SpanOrder.Pure := by
  rintro l a0 a1 a2 a3 b0 b1 b2 b3 step ⟨hlm, hlw⟩ haw hbw
  refine Ev.rounds (g := fun k => hornbooklaw07_SpanOrder.f k l a0 a1 a2 a3 b0 b1 b2 b3 step) ?_
  unfold hornbooklaw07_SpanOrder.f
  refine Ev.bind awake ?_
  have hyes : Ev (fun k => hornbooklaw07_SpanOrder.j0 k l step true true a0 a1 a2 a3 b0 b1 b2 b3) true := by
    refine Ev.step (fun k => rfl) ?_
    simp only [hornbooklaw07_SpanOrder.j0]
    simp only [if_true]
    exact Ev.now _
  by_cases hl : (l.length : Int) > 50
  · simp only [if_pos hl]
    exact hyes
  · simp only [if_neg hl]
    by_cases e : a0 = b0
    · simp only [if_pos e]
      by_cases h1 : a1 ≤ b2
      · simp only [if_pos h1]
        by_cases h2 : b1 ≤ a2
        · rw [decide_eq_true h2]
          exact hyes
        · rw [decide_eq_false h2]
          exact order_j0 l (by omega) step a0 a1 a2 a3 b0 b1 b2 b3 (fun h => h2 h.2.2)
      · simp only [if_neg h1]
        exact order_j0 l (by omega) step a0 a1 a2 a3 b0 b1 b2 b3 (fun h => h1 h.2.1)
    · simp only [if_neg e]
      exact order_j0 l (by omega) step a0 a1 a2 a3 b0 b1 b2 b3 (fun h => e h.1)
end Go.Proofs.Ytehknkgplldiiaa.Pure
