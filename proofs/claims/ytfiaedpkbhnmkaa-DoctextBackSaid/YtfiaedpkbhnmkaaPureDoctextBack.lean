/- Of any at most 200 values: what is encoded is decoded to them again, FFFD for what is no scalar value; a plain text has as many bytes as values, another one at least two more than two for each. Conditions: none beyond the statement's own. -/
import Derived.Test.YtfiaedpkbhnmkaaQDoc2
import Derived.Test.YtfiaedpkbhnmkaaSDoctextBack
set_option linter.unusedVariables false
set_option linter.unusedSimpArgs false
namespace Go.Proofs.Ytfiaedpkbhnmkaa.Pure
open Go.RowKit Go.Proofs.Ytfiaedpkbhnmkaa.PAll Go.Proofs.YtfiaedpkbhnmkaaW.PrintWords Go.Proofs.YtfiaedpkbhnmkaaW.PrintLast Go.Proofs.YtfiaedpkbhnmkaaW.PrintMore Go.Proofs.YtfiaedpkbhnmkaaQ
theorem wf_le {l : List Int} (h : l.length ≤ maxLen ∧ ∀ y ∈ l, (Lit.int .i64 y).wf = true) : Wf l := h.2
theorem back_l0 (l : List Int) (hw : Wf l) (hl : l.length ≤ 200) : ∀ (n i : Nat) (acc : List Int), i + n = l.length → acc.length ≤ i → acc ++ (l.drop i).map gd = l.map gd → Ev (fun k => hornbooklaw19_DoctextBack.l0 k l true acc (i : Int)) true
  | 0, i, acc, h, _, hacc => by
    rw [List.drop_of_length_le (by omega), List.map_nil, List.append_nil] at hacc
    refine Ev.step (fun k => rfl) ?_
    simp only [hornbooklaw19_DoctextBack.l0]
    simp only [if_neg (show ¬ ((i : Int) < (l.length : Int)) by omega)]
    have hlen := encode_len l
    refine Ev.bind (Encode_is l hw (by omega)) ?_
    simp only [if_true]
    refine Ev.bind (Decode_is _ (encode_bytes l) (by omega)) ?_
    rw [decode_encode]
    refine Ev.bind (Same_is _ _ (by rw [List.length_map]; omega)) ?_
    rw [Plain_is l hw (by omega), hacc]
    simp only [decide_true, if_true, Option.bind_some]
    by_cases hp : (plainB l).2 = true
    · have e : ((encodeB l).length : Int) = (l.length : Int) := by
        unfold encodeB
        rw [if_pos hp]
        unfold plainB at hp ⊢
        split at hp
        · rename_i ha
          rw [if_pos ha, List.length_map]
        · cases hp
      simp only [if_pos hp, if_pos e]
      exact Ev.now _
    · simp only [if_neg hp]
      have e : encodeB l = [254, 255] ++ bytL (encL l) := by unfold encodeB; rw [if_neg hp]
      have h1 := encL_len l
      have h2 := bytL_len (encL l)
      rw [w64 (n := 2 * (l.length : Int)) (by omega) (by omega), w64 (n := 2 + 2 * (l.length : Int)) (by omega) (by omega), decide_eq_true (show ((encodeB l).length : Int) ≥ 2 + 2 * (l.length : Int) by rw [e, List.length_append, h2, List.length_cons, List.length_cons, List.length_nil]; omega)]
      exact Ev.now _
  | n + 1, i, acc, h, ha, hacc => by
    have hi : i < l.length := by omega
    refine Ev.step (fun k => rfl) ?_
    simp only [hornbooklaw19_DoctextBack.l0]
    simp only [if_pos (show (i : Int) < (l.length : Int) by omega), if_pos (show (0 : Int) ≤ (i : Int) by omega)]
    rw [rd_nat hi, Good_is, w64n (by omega)]
    simp only [Option.bind_some, if_pos (show acc.length < 17592186044416 by omega)]
    rw [List.drop_eq_getElem_cons hi, List.map_cons] at hacc
    have ih := back_l0 l hw hl n (i + 1) (acc ++ [gd l[i]]) (by omega) (by simp; omega) (by rw [List.append_assoc]; exact hacc)
    by_cases hg : goodB l[i] = true
    · simp only [if_pos hg]
      rw [gd_good hg] at ih
      exact ih
    · simp only [if_neg hg]
      rw [show gd l[i] = 65533 from if_neg hg] at ih
      exact ih
theorem DoctextBack : hornbooklaw19_DoctextBack.Pure := by
  intro l h
  refine Ev.rounds ?_
  unfold hornbooklaw19_DoctextBack.f
  refine Ev.bind awake19 ?_
  by_cases hl : (l.length : Int) > 200
  · simp only [if_pos hl]
    exact Ev.now _
  · simp only [if_neg hl]
    exact back_l0 l h.2 (by omega) l.length 0 [] (by omega) (by simp) (by simp)
end Go.Proofs.Ytfiaedpkbhnmkaa.Pure
