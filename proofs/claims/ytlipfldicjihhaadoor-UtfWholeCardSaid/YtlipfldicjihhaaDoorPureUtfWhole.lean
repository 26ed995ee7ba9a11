/- Of any values and texts within the statement's bounds: what is told is whole in UTF-8; each value that is read is a scalar value; a text that is whole is what is written of what is read. Conditions: none beyond the statement's own. -/
import Derived.Test.YtlipfldicjihhaaDoorQRune
import Derived.Test.YtlipfldicjihhaaDoorSUtfWhole
set_option linter.unusedVariables false
set_option linter.unusedSimpArgs false
namespace Go.Proofs.YtlipfldicjihhaaDoor.Pure
open Go.RowKit Go.Proofs.YtlipfldicjihhaaDoor.PTab Go.Proofs.YtlipfldicjihhaaDoorW.PrintWords Go.Proofs.YtlipfldicjihhaaDoorW.PrintLast Go.Proofs.YtlipfldicjihhaaDoorW.PrintMore Go.Proofs.YtlipfldicjihhaaDoorQ
open Go.Lib (validD)
open Go.Maps in
theorem toList_data (s : ByteArray) : s.toList = s.data.toList := by
  cases s
  rw [ByteArray.toList_mk]
theorem Whole_is (s : ByteArray) (hs : s.size ≤ 9223372036854775807) : utf_Whole.f s = some (validD s.data.toList) := if_pos hs
theorem decL_good : ∀ (m : Nat) (l : List Int), l.length ≤ m → ∀ x ∈ decL l, goodB x = true
  | _, [], _, x, hx => by cases hx
  | _, [a], _, x, hx => by
    obtain rfl : x = one a := by simpa [decL] using hx
    unfold one
    split
    · decide +kernel
    · exact goodB_gd a
  | 0, a :: b :: l, h, _, _ => by simp at h
  | m + 1, a :: b :: l, h, x, hx => by
    simp only [List.length_cons] at h
    rw [decL] at hx
    split at hx
    · rename_i hp
      have ha := of_decide_eq_true hp.1
      have hb := of_decide_eq_true hp.2
      rcases List.mem_cons.1 hx with rfl | hx
      · refine decide_eq_true ?_
        unfold pair
        omega
      · exact decL_good m l (by omega) x hx
    · rcases List.mem_cons.1 hx with rfl | hx
      · unfold one
        split
        · decide +kernel
        · exact goodB_gd a
      · exact decL_good m (b :: l) (by simp only [List.length_cons]; omega) x hx
theorem whole_l1 (l : List Int) (s : ByteArray) (hl : l.length ≤ 300) (hs : s.size ≤ 600) : ∀ (n i : Nat), i + n = (decL l).length → Ev (fun k => hornbooklaw02_UtfWhole.l1 k l s true (rns s.data.toList) (decL l) (i : Int)) true
  | 0, i, h => by
    have hr := rns_len _ s.data.toList (Nat.le_refl _)
    have hz : s.data.toList.length = s.size := Array.length_toList
    have hd := decL_len _ l (Nat.le_refl _)
    have h1 := txt_len l
    have h2 := txt_len (rns s.data.toList)
    refine Ev.step (fun k => rfl) ?_
    simp only [hornbooklaw02_UtfWhole.l1]
    simp only [if_neg (show ¬ ((i : Int) < ((decL l).length : Int)) by omega)]
    rw [Text_is _ (by omega), Text_is l (by omega)]
    simp only [Option.bind_some, if_true]
    rw [Whole_is _ (by rw [txB_size]; omega), Whole_is _ (by rw [txB_size]; omega), Whole_is s (by omega), txB_list, txB_list, valid_txt, valid_txt]
    simp only [Option.bind_some, if_true]
    have e : ((txB (rns s.data.toList)).toList == s.toList) = validD s.data.toList := by
      rw [txB_toList, toList_data]
      by_cases hv : validD s.data.toList = true
      · rw [hv, (txt_rns_iff _).mpr hv, beq_self_eq_true]
      · rw [Bool.eq_false_iff.mpr hv]
        exact beq_eq_false_iff_ne.mpr (fun e => hv ((txt_rns_iff _).mp e))
    rw [e, beq_self_eq_true]
    simp only [if_true, if_pos (show ((rns s.data.toList).length : Int) ≤ (s.size : Int) by omega)]
    rw [decide_eq_true (show ((decL l).length : Int) ≤ (l.length : Int) by omega)]
    exact Ev.now _
  | n + 1, i, h => by
    have hi : i < (decL l).length := by omega
    have hd := decL_len _ l (Nat.le_refl _)
    refine Ev.step (fun k => rfl) ?_
    simp only [hornbooklaw02_UtfWhole.l1]
    simp only [if_pos (show (i : Int) < ((decL l).length : Int) by omega), if_pos (show (0 : Int) ≤ (i : Int) by omega)]
    rw [rd_nat hi, Good_is, w64n (by omega)]
    simp only [Option.bind_some, if_pos (decL_good _ l (Nat.le_refl _) _ (List.getElem_mem hi))]
    exact whole_l1 l s hl hs n (i + 1) (by omega)
theorem whole_l0 (l : List Int) (s : ByteArray) (hl : l.length ≤ 300) (hs : s.size ≤ 600) : ∀ (n i : Nat), i + n = (rns s.data.toList).length → Ev (fun k => hornbooklaw02_UtfWhole.l0 k l s true (rns s.data.toList) (decL l) (i : Int)) true
  | 0, i, h => by
    refine Ev.step (fun k => rfl) ?_
    simp only [hornbooklaw02_UtfWhole.l0]
    simp only [if_neg (show ¬ ((i : Int) < ((rns s.data.toList).length : Int)) by omega)]
    exact whole_l1 l s hl hs (decL l).length 0 (Nat.zero_add _)
  | n + 1, i, h => by
    have hi : i < (rns s.data.toList).length := by omega
    have hr := rns_len _ s.data.toList (Nat.le_refl _)
    have hz : s.data.toList.length = s.size := Array.length_toList
    refine Ev.step (fun k => rfl) ?_
    simp only [hornbooklaw02_UtfWhole.l0]
    simp only [if_pos (show (i : Int) < ((rns s.data.toList).length : Int) by omega), if_pos (show (0 : Int) ≤ (i : Int) by omega)]
    rw [rd_nat hi, Good_is, w64n (by omega)]
    simp only [Option.bind_some, if_pos (rns_good _ _ (Nat.le_refl _) _ (List.getElem_mem hi))]
    exact whole_l0 l s hl hs n (i + 1) (by omega)
theorem whole_j0 (l : List Int) (s : ByteArray) (b : Bool) (hb : b = false → l.length ≤ 300 ∧ s.size ≤ 600) : Ev (fun k => hornbooklaw02_UtfWhole.j0 k l s true b) true := by
  refine Ev.step (fun k => rfl) ?_
  simp only [hornbooklaw02_UtfWhole.j0]
  cases b with
  | true =>
    simp only [if_true]
    exact Ev.now _
  | false =>
    obtain ⟨hl, hs⟩ := hb rfl
    simp only [if_neg (show ¬ (false = true) by decide)]
    rw [Runes_is s (by omega)]
    simp only [Option.bind_some]
    refine Ev.bind (Dec16_is l (by omega)) ?_
    exact whole_l0 l s hl hs (rns s.data.toList).length 0 (Nat.zero_add _)
theorem UtfWhole : hornbooklaw02_UtfWhole.Pure := by
  intro l s _ _
  refine Ev.rounds ?_
  unfold hornbooklaw02_UtfWhole.f
  refine Ev.bind awake02 ?_
  by_cases hl : (l.length : Int) > 300
  · simp only [if_pos hl]
    exact whole_j0 l s true (fun h => by cases h)
  · simp only [if_neg hl]
    exact whole_j0 l s _ (fun h => ⟨by omega, by have := of_decide_eq_false h; omega⟩)
end Go.Proofs.YtlipfldicjihhaaDoor.Pure
