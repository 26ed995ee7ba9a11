/- Of any two texts, each of at most 150 bytes, that do not begin with the mark FE FF, nor do both, one behind the other: what both are is what the first is, then what the second is, and has as many values as they have bytes. Conditions: none beyond the statement's own. -/
import Derived.Test.YtfiaedpkbhnmkaaQDoc2
import Derived.Test.YtfiaedpkbhnmkaaSDoctextRows
set_option linter.unusedVariables false
set_option linter.unusedSimpArgs false
namespace Go.Proofs.Ytfiaedpkbhnmkaa.Pure
open Go.RowKit Go.Proofs.Ytfiaedpkbhnmkaa.PAll Go.Proofs.YtfiaedpkbhnmkaaW.PrintWords Go.Proofs.YtfiaedpkbhnmkaaW.PrintLast Go.Proofs.YtfiaedpkbhnmkaaW.PrintMore Go.Proofs.YtfiaedpkbhnmkaaQ
theorem marked_is (l : List Int) : hornbooklaw19_marked.f l = some (markB l) := by
  unfold hornbooklaw19_marked.f markB
  match l with
  | [] => rfl
  | [a] => simp
  | a :: b :: t =>
    rw [if_pos (by simp only [List.length_cons]; omega), if_pos (by simp only [List.length_cons]; omega), show rd (a :: b :: t) 0 = a from rfl, show rd (a :: b :: t) 1 = b from rfl]
    by_cases h : a = 254
    · rw [if_pos h, if_pos (by simp only [List.length_cons]; omega)]
      subst h
      congr 1
      rw [Bool.eq_iff_iff, beq_iff_eq, decide_eq_true_iff]
      simp
    · rw [if_neg h, decide_eq_false (by intro e; simp at e; exact h e.1)]
theorem decode_no {l : List Int} (h : markB l = false) : decodeB l = l.map decN := by unfold decodeB; rw [if_neg (by rw [h]; decide)]
theorem rows_j1t (a b c : List Int) : Ev (fun k => hornbooklaw19_DoctextRows.j1 k a b true c true) true := by
  refine Ev.step (fun k => rfl) ?_
  simp only [hornbooklaw19_DoctextRows.j1, if_true]
  exact Ev.now _
theorem rows_j1 (a b : List Int) (ha : Bytes a) (hb : Bytes b) (la : a.length ≤ 150) (lb : b.length ≤ 150) (m1 : markB a = false) (m2 : markB b = false) (m : Bool) (hm : m = markB (a ++ b)) : Ev (fun k => hornbooklaw19_DoctextRows.j1 k a b true (a ++ b) m) true := by
  cases hmm : m with
  | true => exact rows_j1t a b _
  | false =>
    rw [hmm] at hm
    refine Ev.step (fun k => rfl) ?_
    simp only [hornbooklaw19_DoctextRows.j1, if_neg (show ¬ (false = true) by decide), Option.bind_some]
    refine Ev.bind (Decode_is a ha (by omega)) ?_
    simp only [List.nil_append, List.length_nil, Nat.zero_add]
    rw [decode_no m1]
    simp only [if_pos (show (a.map decN).length < 17592186044416 by rw [List.length_map]; omega)]
    refine Ev.bind (Decode_is b hb (by omega)) ?_
    rw [decode_no m2]
    simp only [if_pos (show (a.map decN).length + (b.map decN).length < 17592186044416 by rw [List.length_map, List.length_map]; omega), if_true]
    refine Ev.bind (Decode_is _ (ha.append hb) (by rw [List.length_append]; omega)) ?_
    rw [decode_no hm.symm, List.map_append]
    refine Ev.bind (Same_is _ _ (by rw [List.length_append, List.length_map, List.length_map]; omega)) ?_
    simp only [decide_true, if_true, List.length_append, List.length_map, BEq.rfl]
    exact Ev.now _
theorem rows_j0 (a b : List Int) (ha : Bytes a) (hb : Bytes b) (m : Bool) (hm : m = false → a.length ≤ 150 ∧ b.length ≤ 150) : Ev (fun k => hornbooklaw19_DoctextRows.j0 k a b true m) true := by
  cases m with
  | true =>
    refine Ev.step (fun k => rfl) ?_
    simp only [hornbooklaw19_DoctextRows.j0, if_true]
    exact Ev.now _
  | false =>
    obtain ⟨la, lb⟩ := hm rfl
    refine Ev.step (fun k => rfl) ?_
    simp only [hornbooklaw19_DoctextRows.j0, if_neg (show ¬ (false = true) by decide), Option.bind_some, List.nil_append, List.length_nil, Nat.zero_add]
    simp only [if_pos (show a.length < 140737488355328 by omega), if_pos (show a.length + b.length < 140737488355328 by omega)]
    rw [marked_is, marked_is, marked_is]
    simp only [Option.bind_some]
    by_cases h1 : markB a = true
    · simp only [if_pos h1]
      exact rows_j1t a b _
    · simp only [if_neg h1]
      by_cases h2 : markB b = true
      · simp only [if_pos h2]
        exact rows_j1t a b _
      · simp only [if_neg h2]
        exact rows_j1 a b ha hb la lb (Bool.eq_false_iff.mpr h1) (Bool.eq_false_iff.mpr h2) _ rfl
theorem DoctextRows : hornbooklaw19_DoctextRows.Pure := by
  intro a b h1 h2
  have ha : Bytes a := fun x hx => byte_wf (h1.2 x hx)
  have hb : Bytes b := fun x hx => byte_wf (h2.2 x hx)
  refine Ev.rounds ?_
  unfold hornbooklaw19_DoctextRows.f
  refine Ev.bind awake19 ?_
  by_cases hl : (a.length : Int) > 150
  · simp only [if_pos hl]
    exact rows_j0 a b ha hb true (fun h => by cases h)
  · simp only [if_neg hl]
    refine rows_j0 a b ha hb _ (fun h => ?_)
    have := of_decide_eq_false h
    omega
end Go.Proofs.Ytfiaedpkbhnmkaa.Pure
