/- Of any byte, of at most 300 bytes and at most 200 values: what they are, decoded and encoded, is what the document says. Conditions: none beyond the statement's own. -/
import Derived.Test.YtfiaedpkbhnmkaaQDocRef
import Derived.Test.YtfiaedpkbhnmkaaSDoctextIs
set_option linter.unusedVariables false
set_option linter.unusedSimpArgs false
namespace Go.Proofs.Ytfiaedpkbhnmkaa.Pure
open Go.RowKit Go.Proofs.Ytfiaedpkbhnmkaa.PAll Go.Proofs.YtfiaedpkbhnmkaaW.PrintWords Go.Proofs.YtfiaedpkbhnmkaaW.PrintLast Go.Proofs.YtfiaedpkbhnmkaaW.PrintMore Go.Proofs.YtfiaedpkbhnmkaaQ
theorem is_j0 (c : Int) (b l : List Int) (hc : (Lit.int .i64 c).wf = true) (hb : Bytes b) (hw : Wf l) (m : Bool) (hm : m = false → b.length ≤ 300 ∧ l.length ≤ 200) : Ev (fun k => hornbooklaw19_DoctextIs.j0 k c b l true m) true := by
  cases m with
  | true =>
    refine Ev.step (fun k => rfl) ?_
    simp only [hornbooklaw19_DoctextIs.j0, if_true]
    exact Ev.now _
  | false =>
    obtain ⟨lb, ll⟩ := hm rfl
    refine Ev.step (fun k => rfl) ?_
    simp only [hornbooklaw19_DoctextIs.j0, if_neg (show ¬ (false = true) by decide), if_true]
    rw [show doctext_Doc.f c = some (docN c, docN c != 0) from rfl, show doctext_Byte.f c = some (byteI c, byteH c) from if_pos hc]
    simp only [Option.bind_some]
    refine Ev.bind (rDoc_is c) (Ev.bind (rByte_is c) ?_)
    simp only [if_true, BEq.rfl]
    refine Ev.bind (Decode_is b hb (by omega)) (Ev.bind (rDecode_is b hb (by omega)) ?_)
    have hdl : (decodeB b).length < 9223372036854775807 := by
      unfold decodeB
      split
      · have h1 := unitsL_len (b.drop 2)
        have h2 := decL_len _ (unitsL (b.drop 2)).1 (Nat.le_refl _)
        rw [List.length_drop] at h1
        unfold undec
        rw [List.length_append]
        split <;> simp only [List.length_cons, List.length_nil] <;> omega
      · rw [List.length_map]
        omega
    refine Ev.bind (Same_is _ _ hdl) ?_
    simp only [decide_true, if_true]
    refine Ev.bind (Encode_is l hw (by omega)) (Ev.bind (rEncode_is l (by omega)) ?_)
    simp only [if_true]
    rw [Plain_is l hw (by omega)]
    simp only [Option.bind_some]
    refine Ev.bind (rPlain_is l (by omega)) ?_
    simp only [BEq.rfl]
    exact Ev.now _
theorem DoctextIs : hornbooklaw19_DoctextIs.Pure := by
  intro c b l hc h1 h2
  have hb : Bytes b := fun x hx => byte_wf (h1.2 x hx)
  refine Ev.rounds ?_
  unfold hornbooklaw19_DoctextIs.f
  refine Ev.bind awake19 ?_
  by_cases hl : (b.length : Int) > 300
  · simp only [if_pos hl]
    exact is_j0 c b l hc hb h2.2 true (fun h => by cases h)
  · simp only [if_neg hl]
    refine is_j0 c b l hc hb h2.2 _ (fun h => ?_)
    have := of_decide_eq_false h
    omega
end Go.Proofs.Ytfiaedpkbhnmkaa.Pure
