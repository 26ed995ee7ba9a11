/- Of any two units one value is read just if the first is a high unit and the second a low one, and as units it is these two; else each of them is read alone. Conditions: none beyond the statement's own. -/
import Derived.Test.YtlipfldicjihhaaDoorQRune
import Derived.Test.YtlipfldicjihhaaDoorSUtfPairs
set_option linter.unusedVariables false
set_option linter.unusedSimpArgs false
namespace Go.Proofs.YtlipfldicjihhaaDoor.Pure
open Go.RowKit Go.Proofs.YtlipfldicjihhaaDoor.PAll Go.Proofs.YtlipfldicjihhaaDoorW.PrintWords Go.Proofs.YtlipfldicjihhaaDoorW.PrintLast Go.Proofs.YtlipfldicjihhaaDoorW.PrintMore Go.Proofs.YtlipfldicjihhaaDoorQ
theorem rd0 (a : Int) (l : List Int) : rd (a :: l) 0 = a := rfl
theorem len1 (a : Int) : ((([a] : List Int).length : Nat) : Int) = 1 := rfl
theorem len2 (a b : Int) : ((([a, b] : List Int).length : Nat) : Int) = 2 := rfl
theorem rd1 (a b : Int) (l : List Int) : rd (a :: b :: l) 1 = b := rfl
theorem pair_j (a b : Int) (h : hiB a = true ∧ loB b = true) : Ev (fun k => hornbooklaw02_UtfPairs.j0 k a b true [pair a b] [one a] [one b] true) true := by
  have ha := of_decide_eq_true h.1
  have hb := of_decide_eq_true h.2
  refine Ev.step (fun k => rfl) ?_
  simp only [hornbooklaw02_UtfPairs.j0]
  simp only [len1, if_true]
  refine Ev.step (fun k => rfl) ?_
  simp only [hornbooklaw02_UtfPairs.j1]
  have hp : 65536 ≤ pair a b ∧ pair a b ≤ 1114111 := by unfold pair; omega
  have hg : gd (pair a b) = pair a b := gd_good (decide_eq_true ⟨by omega, by omega, by omega⟩)
  have he : encL [pair a b] = [a, b] := by
    unfold encL enc1
    rw [List.flatMap_cons, hg, if_neg (by omega)]
    simp only [List.flatMap_nil, List.append_nil, List.cons.injEq, and_true]
    unfold pair
    omega
  have h0 := Enc16_is [pair a b] (by simp)
  rw [he] at h0
  simp only [show (((1 : Int) != 1) = true) = False from by decide, if_false, if_true]
  refine Ev.bind h0 ?_
  simp only [rd0, rd1, len1, len2, if_true, if_pos (show (0 : Int) < 1 by decide), if_pos (show (0 : Int) < 2 by decide), if_pos (show (1 : Int) < 2 by decide), if_pos (show pair a b > 65535 by omega), beq_self_eq_true]
  exact Ev.now _
theorem alone_j (a b : Int) (h : ¬ (hiB a = true ∧ loB b = true)) : Ev (fun k => hornbooklaw02_UtfPairs.j0 k a b true [one a, one b] [one a] [one b] false) true := by
  refine Ev.step (fun k => rfl) ?_
  simp only [hornbooklaw02_UtfPairs.j0]
  simp only [len1, if_true]
  refine Ev.step (fun k => rfl) ?_
  simp only [hornbooklaw02_UtfPairs.j1]
  simp only [show (((1 : Int) != 1) = true) = False from by decide, if_false, if_true, show ((false : Bool) = true) = False from by decide, len1, len2, if_pos (show (0 : Int) < 1 by decide), if_pos (show (0 : Int) < 2 by decide), if_pos (show (1 : Int) < 2 by decide), if_pos (show rd [one a, one b] 0 = rd [one a] 0 from rfl), if_pos (show rd [one a, one b] 1 = rd [one b] 0 from rfl)]
  rw [Good_is]
  simp only [Option.bind_some]
  by_cases hg : goodB a = true
  · simp only [if_pos hg]
    by_cases hl : a ≤ 65535
    · simp only [if_pos hl]
      have e : one a = a := by
        unfold one
        rw [if_neg (by omega), gd_good hg]
      simp only [if_pos (show rd [one a] 0 = a from e)]
      exact Ev.now _
    · simp only [if_neg hl]
      have e : one a = 65533 := if_pos (by omega)
      rw [show rd [one a] 0 = one a from rfl, e]
      exact Ev.now _
  · simp only [if_neg hg]
    have e : one a = 65533 := by
      unfold one
      split
      · rfl
      · exact if_neg hg
    rw [show rd [one a] 0 = one a from rfl, e]
    exact Ev.now _
theorem UtfPairs : hornbooklaw02_UtfPairs.Pure := by
  intro a b _ _
  refine Ev.rounds ?_
  unfold hornbooklaw02_UtfPairs.f
  refine Ev.bind awake02 ?_
  refine Ev.bind (Dec16_is [a, b] (by simp)) (Ev.bind (Dec16_is [a] (by simp)) (Ev.bind (Dec16_is [b] (by simp)) ?_))
  have e1 : decL [a] = [one a] := rfl
  have e2 : decL [b] = [one b] := rfl
  rw [e1, e2]
  by_cases hp : hiB a = true ∧ loB b = true
  · have ha := of_decide_eq_true hp.1
    have hb := of_decide_eq_true hp.2
    have e : decL [a, b] = [pair a b] := by rw [decL, if_pos hp]; rfl
    rw [e]
    simp only [if_pos (show a ≥ 55296 by omega), if_pos (show a < 56320 by omega), if_pos (show b ≥ 56320 by omega)]
    rw [decide_eq_true (show b < 57344 by omega)]
    exact pair_j a b hp
  · have e : decL [a, b] = [one a, one b] := by rw [decL, if_neg hp]; rfl
    rw [e]
    have hj := alone_j a b hp
    by_cases h1 : a ≥ 55296
    · by_cases h2 : a < 56320
      · by_cases h3 : b ≥ 56320
        · have h4 : ¬ b < 57344 := fun h => hp ⟨decide_eq_true ⟨h1, h2⟩, decide_eq_true ⟨h3, by omega⟩⟩
          simp only [if_pos h1, if_pos h2, if_pos h3]
          rw [decide_eq_false h4]
          exact hj
        · simp only [if_pos h1, if_pos h2, if_neg h3]
          exact hj
      · simp only [if_pos h1, if_neg h2]
        exact hj
    · simp only [if_neg h1]
      exact hj
end Go.Proofs.YtlipfldicjihhaaDoor.Pure
