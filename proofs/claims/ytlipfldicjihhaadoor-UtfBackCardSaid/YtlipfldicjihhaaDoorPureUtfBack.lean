/- Of any at most 300 values: as units, as the bytes of these, and in UTF-8, they are read again, FFFD for what is no scalar value. Conditions: none beyond the statement's own. -/
import Derived.Test.YtlipfldicjihhaaDoorQRune
import Derived.Test.YtlipfldicjihhaaDoorQSm
import Derived.Test.YtlipfldicjihhaaDoorSUtfBack
set_option linter.unusedVariables false
set_option linter.unusedSimpArgs false
namespace Go.Proofs.YtlipfldicjihhaaDoor.Pure
open Go.RowKit Go.Proofs.YtlipfldicjihhaaDoor.PAll Go.Proofs.YtlipfldicjihhaaDoorW.PrintWords Go.Proofs.YtlipfldicjihhaaDoorW.PrintLast Go.Proofs.YtlipfldicjihhaaDoorW.PrintMore Go.Proofs.YtlipfldicjihhaaDoorQ
theorem back_l0 (l : List Int) (hl : l.length ≤ 300) : ∀ (n i : Nat) (acc : List Int), i + n = l.length → acc.length ≤ i → acc ++ (l.drop i).map gd = l.map gd → Ev (fun k => hornbooklaw02_UtfBack.l0 k l true acc (i : Int)) true
  | 0, i, acc, h, _, hacc => by
    rw [List.drop_of_length_le (by omega), List.map_nil, List.append_nil] at hacc
    refine Ev.step (fun k => rfl) ?_
    simp only [hornbooklaw02_UtfBack.l0]
    simp only [if_neg (show ¬ ((i : Int) < (l.length : Int)) by omega)]
    have h1 := encL_len l
    have h2 := bytL_len (encL l)
    have h3 := txt_len l
    refine Ev.bind (Enc16_is l (by omega)) (Ev.bind (Bytes_is _ (by omega)) (Ev.bind (Units_is _ (by omega) (bytL_bytes _)) ?_))
    have hu := unitsL_bytL (encL l) [] (encL_units l)
    rw [List.append_nil] at hu
    have hu1 : unitsL (bytL (encL l)) = (encL l, false) := by rw [hu]; simp [unitsL]
    rw [hu1]
    simp only [if_true]
    refine Ev.bind (Dec16_is _ (by omega)) (Ev.bind (Same_is _ _ (by rw [decL_encL, List.length_map]; omega)) ?_)
    rw [decL_encL, hacc]
    simp only [decide_true, if_true]
    refine Ev.bind (Same_is _ _ (by omega)) ?_
    simp only [decide_true, if_true, if_neg (show ¬ (false = true) by decide)]
    rw [Text_is l (by omega)]
    simp only [Option.bind_some]
    rw [Runes_is _ (by rw [txB_size]; omega), txB_list, rns_txt]
    simp only [Option.bind_some]
    refine Ev.bind (Same_is _ _ (by rw [List.length_map]; omega)) ?_
    rw [decide_eq_true rfl]
    exact Ev.now _
  | n + 1, i, acc, h, ha, hacc => by
    have hi : i < l.length := by omega
    refine Ev.step (fun k => rfl) ?_
    simp only [hornbooklaw02_UtfBack.l0]
    simp only [if_pos (show (i : Int) < (l.length : Int) by omega), if_pos (show (0 : Int) ≤ (i : Int) by omega)]
    rw [rd_nat hi, Good_is, w64n (by omega)]
    simp only [Option.bind_some, if_pos (show acc.length < 17592186044416 by omega)]
    rw [List.drop_eq_getElem_cons hi, List.map_cons] at hacc
    have ih := back_l0 l hl n (i + 1) (acc ++ [gd l[i]]) (by omega) (by simp; omega) (by rw [List.append_assoc]; exact hacc)
    by_cases hg : goodB l[i] = true
    · simp only [if_pos hg]
      rw [gd_good hg] at ih
      exact ih
    · simp only [if_neg hg]
      rw [show gd l[i] = 65533 from if_neg hg] at ih
      exact ih
theorem UtfBack : hornbooklaw02_UtfBack.Pure := by
  intro l _
  refine Ev.rounds ?_
  unfold hornbooklaw02_UtfBack.f
  refine Ev.bind awake02 ?_
  by_cases hl : (l.length : Int) > 300
  · simp only [if_pos hl]
    exact Ev.now _
  · simp only [if_neg hl]
    exact back_l0 l (by omega) l.length 0 [] (by omega) (by simp) (by simp)
end Go.Proofs.YtlipfldicjihhaaDoor.Pure
