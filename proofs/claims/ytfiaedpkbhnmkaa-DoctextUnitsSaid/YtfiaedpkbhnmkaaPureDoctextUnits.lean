/- Of any at most 100 values: their units' bytes behind the mark FE FF are decoded to what the units tell; one byte more is one Repl more. Conditions: none beyond the statement's own. -/
import Derived.Test.YtfiaedpkbhnmkaaQDoc2
import Derived.Test.YtfiaedpkbhnmkaaSDoctextUnits
set_option linter.unusedVariables false
set_option linter.unusedSimpArgs false
namespace Go.Proofs.Ytfiaedpkbhnmkaa.Pure
open Go.RowKit Go.Proofs.Ytfiaedpkbhnmkaa.PAll Go.Proofs.YtfiaedpkbhnmkaaW.PrintWords Go.Proofs.YtfiaedpkbhnmkaaW.PrintLast Go.Proofs.YtfiaedpkbhnmkaaW.PrintMore Go.Proofs.YtfiaedpkbhnmkaaQ
theorem DoctextUnits : hornbooklaw19_DoctextUnits.Pure := by
  intro l a h hc
  have hc := byte_wf hc
  refine Ev.rounds ?_
  unfold hornbooklaw19_DoctextUnits.f
  refine Ev.bind awake19 ?_
  by_cases hl : (l.length : Int) > 100
  · simp only [if_pos hl]
    exact Ev.now _
  · simp only [if_neg hl]
    have h1 := encL_len l
    have h2 := bytL_len (encL l)
    have h3 := decL_len _ (encL l) (Nat.le_refl _)
    refine Ev.bind (Enc16_is l (by omega)) ?_
    simp only [Option.bind_some]
    refine Ev.bind (Bytes_is _ (by omega)) ?_
    have hlen : ([254, 255] ++ bytL (encL l) : List Int).length = 2 + 2 * (encL l).length := by rw [List.length_append, h2]; rfl
    simp only [if_pos (show ([254, 255] : List Int).length + (bytL (encL l)).length < 140737488355328 by rw [show ([254, 255] : List Int).length = 2 from rfl]; omega)]
    have e1 : decodeB ([254, 255] ++ bytL (encL l)) = decL (encL l) := by
      have e := decode_units (encL l) [] (encL_units l)
      rw [List.append_nil] at e
      rw [e]
      simp [unitsL]
    have e2 : decodeB ([254, 255] ++ bytL (encL l) ++ [a]) = decL (encL l) ++ [65533] := by
      rw [List.append_assoc, decode_units (encL l) [a] (encL_units l)]
      simp [unitsL]
    have b1 : Bytes ([254, 255] ++ bytL (encL l)) := bytes2.append (bytL_bytes _)
    refine Ev.bind (Decode_is _ b1 (by omega)) ?_
    simp only [if_pos (show ([254, 255] ++ bytL (encL l) : List Int).length < 140737488355328 by omega)]
    refine Ev.bind (Decode_is _ (b1.append (fun x hx => by obtain rfl : x = a := by simpa using hx
                                                           exact hc)) (by rw [List.length_append, hlen]; simp only [List.length_cons, List.length_nil]; omega)) ?_
    refine Ev.bind (Dec16_is _ (by omega)) ?_
    simp only [List.nil_append, List.length_nil, Nat.zero_add, if_pos (show (decL (encL l)).length < 17592186044416 by omega), if_true]
    rw [e1, e2]
    refine Ev.bind (Same_is _ _ (by omega)) ?_
    simp only [decide_true, if_true]
    refine Ev.bind (Same_is _ _ (by rw [List.length_append]; simp only [List.length_cons, List.length_nil]; omega)) ?_
    simp only [decide_true]
    exact Ev.now _
end Go.Proofs.Ytfiaedpkbhnmkaa.Pure
