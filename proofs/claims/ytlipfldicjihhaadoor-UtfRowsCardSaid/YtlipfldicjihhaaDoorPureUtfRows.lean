/- Of any two lists of at most 150 values: the units, the bytes and the text of one behind the other are those of the one behind those of the other. Conditions: none beyond the statement's own. -/
import Derived.Test.YtlipfldicjihhaaDoorQRune
import Derived.Test.YtlipfldicjihhaaDoorQSm
import Derived.Test.YtlipfldicjihhaaDoorSUtfRows
set_option linter.unusedVariables false
set_option linter.unusedSimpArgs false
namespace Go.Proofs.YtlipfldicjihhaaDoor.Pure
open Go.RowKit Go.Proofs.YtlipfldicjihhaaDoor.PAll Go.Proofs.YtlipfldicjihhaaDoorW.PrintWords Go.Proofs.YtlipfldicjihhaaDoorW.PrintLast Go.Proofs.YtlipfldicjihhaaDoorW.PrintMore Go.Proofs.YtlipfldicjihhaaDoorQ
theorem UtfRows_j0 (l m : List Int) (hl : l.length ≤ 150) (hm : m.length ≤ 150) : Ev (fun k => hornbooklaw02_UtfRows.j0 k l m true false) true := by
  refine Ev.step (fun k => rfl) ?_
  simp only [hornbooklaw02_UtfRows.j0]
  have h1 := encL_len l
  have h2 := encL_len m
  have h3 := bytL_len l
  have h4 := bytL_len m
  simp only [if_neg (show ¬ (false = true) by decide), Option.bind_some, List.nil_append, if_pos (show ([] : List Int).length + l.length < 17592186044416 by simp; omega), if_pos (show l.length + m.length < 17592186044416 by omega)]
  refine Ev.bind (Enc16_is l (by omega)) ?_
  simp only [if_pos (show ([] : List Int).length + (encL l).length < 17592186044416 by simp; omega)]
  refine Ev.bind (Enc16_is m (by omega)) ?_
  simp only [if_pos (show (encL l).length + (encL m).length < 17592186044416 by omega), if_true]
  refine Ev.bind (Enc16_is (l ++ m) (by rw [List.length_append]; omega)) ?_
  refine Ev.bind (Same_is _ _ (by rw [encL_append, List.length_append]; omega)) ?_
  simp only [if_pos (show decide (encL (l ++ m) = encL l ++ encL m) = true from decide_eq_true (encL_append l m))]
  rw [Text_is (l ++ m) (by rw [List.length_append]; omega), Text_is l (by omega), Text_is m (by omega)]
  have t1 := txt_len l
  have t2 := txt_len m
  simp only [Option.bind_some, if_pos (show (txB l).size + (txB m).size ≤ 9223372036854775807 by rw [txB_size, txB_size]; omega), if_pos (show (txB (l ++ m)).toList = (txB l ++ txB m).toList by rw [txB_append])]
  refine Ev.bind (Bytes_is (l ++ m) (by rw [List.length_append]; omega)) (Ev.bind (Bytes_is l (by omega)) (Ev.bind (Bytes_is m (by omega)) ?_))
  simp only [if_pos (show (strOfNums (bytL l)).size + (strOfNums (bytL m)).size ≤ 9223372036854775807 by rw [str_size, str_size]; omega)]
  rw [bytL_append, str_append, beq_self_eq_true]
  exact Ev.now _
theorem UtfRows : hornbooklaw02_UtfRows.Pure := by
  intro l m _ _
  refine Ev.rounds ?_
  unfold hornbooklaw02_UtfRows.f
  refine Ev.bind awake02 ?_
  by_cases hl : (l.length : Int) > 150
  · simp only [if_pos hl]
    refine Ev.step (fun k => rfl) ?_
    simp only [hornbooklaw02_UtfRows.j0, if_true]
    exact Ev.now _
  · simp only [if_neg hl]
    by_cases hm : (m.length : Int) > 150
    · rw [decide_eq_true hm]
      refine Ev.step (fun k => rfl) ?_
      simp only [hornbooklaw02_UtfRows.j0, if_true]
      exact Ev.now _
    · rw [decide_eq_false hm]
      exact UtfRows_j0 l m (by omega) (by omega)
end Go.Proofs.YtlipfldicjihhaaDoor.Pure
