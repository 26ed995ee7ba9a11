/- Of any values, bytes and text within the statement's bounds what they are in the other forms, and whether they may be, is what the document says. Conditions: none beyond the statement's own. -/
import Derived.Test.YtlipfldicjihhaaDoorQTake
import Derived.Test.YtlipfldicjihhaaDoorQSm
import Derived.Test.YtlipfldicjihhaaDoorSUtfIs
set_option linter.unusedVariables false
set_option linter.unusedSimpArgs false
namespace Go.Proofs.YtlipfldicjihhaaDoor.Pure
open Go.RowKit Go.Proofs.YtlipfldicjihhaaDoor.PTab Go.Proofs.YtlipfldicjihhaaDoorW.PrintWords Go.Proofs.YtlipfldicjihhaaDoorW.PrintLast Go.Proofs.YtlipfldicjihhaaDoorW.PrintMore Go.Proofs.YtlipfldicjihhaaDoorQ
open Go.Lib (validD)
theorem isWhole_is (s : ByteArray) (hs : s.size ≤ 9223372036854775807) : utf_Whole.f s = some (validD s.data.toList) := if_pos hs
theorem is_l0 (l b : List Int) (s : ByteArray) (hl : l.length ≤ 300) (hb : b.length ≤ 600) (hB : Bytes b) (hs : s.size ≤ 600) : ∀ (n i : Nat), i + n = l.length → Ev (fun k => hornbooklaw02_UtfIs.l0 k l b s true (i : Int)) true
  | 0, i, h => by
    have hz : s.data.toList.length = s.size := Array.length_toList
    have h1 := encL_len l
    have h2 := bytL_len l
    have h3 := txt_len l
    have h4 := decL_len _ l (Nat.le_refl _)
    have h5 := unitsL_len b
    have h6 := rns_len _ s.data.toList (Nat.le_refl _)
    refine Ev.step (fun k => rfl) ?_
    simp only [hornbooklaw02_UtfIs.l0]
    simp only [if_neg (show ¬ ((i : Int) < (l.length : Int)) by omega)]
    refine Ev.bind (Units_is b (by omega) hB) (Ev.bind (rUnits_is b (by omega) hB) ?_)
    simp only [if_true]
    refine Ev.bind (Enc16_is l (by omega)) (Ev.bind (rEnc16_is l (by omega)) (Ev.bind (Same_is _ _ (by omega)) ?_))
    simp only [decide_true, if_true]
    refine Ev.bind (Dec16_is l (by omega)) (Ev.bind (rDec16_is l (by omega)) (Ev.bind (Same_is _ _ (by omega)) ?_))
    simp only [decide_true, if_true]
    refine Ev.bind (Bytes_is l (by omega)) (Ev.bind (rBytes_is l (by omega)) ?_)
    simp only [if_true]
    refine Ev.bind (Same_is _ _ (by omega)) ?_
    simp only [decide_true, if_true, beq_self_eq_true]
    rw [Text_is l (by omega)]
    simp only [Option.bind_some]
    refine Ev.bind (rText_is l (by omega)) ?_
    simp only [if_true]
    rw [Runes_is s (by omega)]
    simp only [Option.bind_some]
    refine Ev.bind (rRunes_is s (by omega)) (Ev.bind (Same_is _ _ (by omega)) ?_)
    simp only [decide_true, if_true]
    rw [isWhole_is s (by omega)]
    simp only [Option.bind_some]
    refine Ev.bind (rWhole_is s (by omega)) ?_
    rw [beq_self_eq_true]
    exact Ev.now _
  | n + 1, i, h => by
    have hi : i < l.length := by omega
    refine Ev.step (fun k => rfl) ?_
    simp only [hornbooklaw02_UtfIs.l0]
    simp only [if_pos (show (i : Int) < (l.length : Int) by omega), if_pos (show (0 : Int) ≤ (i : Int) by omega)]
    rw [rd_nat hi, Good_is, rGood_is, w64n (by omega)]
    simp only [Option.bind_some, if_neg (show ¬ ((goodB l[i] != goodB l[i]) = true) by simp)]
    exact is_l0 l b s hl hb hB hs n (i + 1) (by omega)
theorem is_j0 (l b : List Int) (s : ByteArray) (hB : Bytes b) (o : Bool) (ho : o = false → l.length ≤ 300 ∧ b.length ≤ 600 ∧ s.size ≤ 600) : Ev (fun k => hornbooklaw02_UtfIs.j0 k l b s true o) true := by
  refine Ev.step (fun k => rfl) ?_
  simp only [hornbooklaw02_UtfIs.j0]
  cases o with
  | true =>
    simp only [if_true]
    exact Ev.now _
  | false =>
    obtain ⟨h1, h2, h3⟩ := ho rfl
    simp only [if_neg (show ¬ (false = true) by decide)]
    exact is_l0 l b s h1 h2 hB h3 l.length 0 (Nat.zero_add _)
theorem UtfIs : hornbooklaw02_UtfIs.Pure := by
  intro l b s _ hb _
  have hB : Bytes b := fun x hx => byte_wf (hb.2 x hx)
  refine Ev.rounds ?_
  unfold hornbooklaw02_UtfIs.f
  refine Ev.bind awake02 ?_
  by_cases h1 : (l.length : Int) > 300
  · simp only [if_pos h1]
    exact is_j0 l b s hB true (fun h => by cases h)
  · by_cases h2 : (b.length : Int) > 600
    · simp only [if_neg h1, if_pos h2]
      exact is_j0 l b s hB true (fun h => by cases h)
    · simp only [if_neg h1, if_neg h2]
      exact is_j0 l b s hB _ (fun h => ⟨by omega, by omega, by have := of_decide_eq_false h; omega⟩)
end Go.Proofs.YtlipfldicjihhaaDoor.Pure
