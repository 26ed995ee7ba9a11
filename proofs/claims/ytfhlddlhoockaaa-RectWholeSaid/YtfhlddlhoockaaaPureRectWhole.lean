/- Statement RectWhole, without the program: a code is in one that stays just if it is in one; those that stay, once more, are the same; none of them holds another one. -/
import Derived.Test.YtfhlddlhoockaaaSRectWhole
import Derived.Test.YtfhlddlhoockaaaQRect
set_option linter.unusedVariables false
set_option linter.unusedSimpArgs false
namespace Go.Proofs.Ytfhlddlhoockaaa.Pure
open Go.RowKit Go.Proofs.Ytfhlddlhoockaaa.PAll Go.Proofs.YtfhlddlhoockaaaW.PrintWords Go.Proofs.YtfhlddlhoockaaaW.PrintLast Go.Proofs.YtfhlddlhoockaaaQ
theorem whole_l2 (l : List Rc) (hl : l.length ≤ 1000) (a b : Bool) (n v : Int) (i : Nat) (hi : i < (canonB l).length)
    (next : Ev (fun k => hornbooklaw06_RectWhole.l1 k l true (canonB l) a b ((i + 1 : Nat) : Int) n v) true) : ∀ m q : Nat, q + m = (canonB l).length →
    Ev (fun k => hornbooklaw06_RectWhole.l2 k l true (canonB l) a b (i : Int) (q : Int) n v) true
  | 0, q, h => by
    have hc := canon_len l
    refine Ev.step (fun k => rfl) ?_
    simp only [hornbooklaw06_RectWhole.l2]
    simp only [if_neg (show ¬ ((q : Int) < ((canonB l).length : Int)) by omega)]
    rw [w64n (by omega)]
    exact next
  | m + 1, q, h => by
    have hc := canon_len l
    have hq : q < (canonB l).length := by omega
    have ih := whole_l2 l hl a b n v i hi next m (q + 1) (by omega)
    refine Ev.step (fun k => rfl) ?_
    simp only [hornbooklaw06_RectWhole.l2]
    simp only [if_pos (show (q : Int) < ((canonB l).length : Int) by omega)]
    rw [w64n (by omega)]
    by_cases he : q = i
    · simp only [if_pos (show (q : Int) = (i : Int) by omega)]
      exact ih
    · simp only [if_neg (show ¬ (q : Int) = (i : Int) by omega), if_pos (show (0 : Int) ≤ (q : Int) by omega), if_pos (show (0 : Int) ≤ (i : Int) by omega), if_pos (show (i : Int) < ((canonB l).length : Int) by omega)]
      rw [rdc_nat hq, rdc_nat hi]
      refine Ev.bind (rect_Holds_is _ _) ?_
      rw [canon_apart hi hq he]
      simp only [if_neg (show ¬ (false = true) by decide)]
      exact ih
theorem whole_l1 (l : List Rc) (hl : l.length ≤ 1000) (a : Bool) (n v : Int) (ha : a = l.any fun r => inR r n v) : ∀ m i : Nat, i + m = (canonB l).length → ∀ b : Bool, (b || ((canonB l).drop i).any fun r => inR r n v) = a →
    Ev (fun k => hornbooklaw06_RectWhole.l1 k l true (canonB l) a b (i : Int) n v) true
  | 0, i, h, b, hb => by
    have hc := canon_len l
    rw [List.drop_of_length_le (by omega), List.any_nil, Bool.or_false] at hb
    subst hb
    refine Ev.step (fun k => rfl) ?_
    simp only [hornbooklaw06_RectWhole.l1]
    simp only [if_neg (show ¬ ((i : Int) < ((canonB l).length : Int)) by omega), if_true, beq_self_eq_true]
    refine Ev.bind (rect_Canon_is _ (by omega)) ?_
    rw [canon_canon]
    refine Ev.bind (ref_Same_is _ (by omega)) ?_
    simp only [if_true]
    rw [decide_eq_true (show ((canonB l).length : Int) ≤ (l.length : Int) by omega)]
    exact Ev.now _
  | m + 1, i, h, b, hb => by
    have hc := canon_len l
    have hi : i < (canonB l).length := by omega
    rw [List.drop_eq_getElem_cons hi, List.any_cons] at hb
    refine Ev.step (fun k => rfl) ?_
    simp only [hornbooklaw06_RectWhole.l1]
    simp only [if_pos (show (i : Int) < ((canonB l).length : Int) by omega)]
    have j2 : ∀ b' : Bool, (b' || ((canonB l).drop (i + 1)).any fun r => inR r n v) = a → Ev (fun k => hornbooklaw06_RectWhole.j2 k l true (canonB l) a b' (i : Int) n v) true := by
      intro b' hb'
      have next := whole_l1 l hl a n v ha m (i + 1) (by omega) b' hb'
      refine Ev.step (fun k => rfl) ?_
      simp only [hornbooklaw06_RectWhole.j2]
      exact whole_l2 l hl a b' n v i hi next (canonB l).length 0 (by omega)
    cases b with
    | true =>
      simp only [if_true]
      exact j2 true (by rw [← hb]; simp)
    | false =>
      simp only [if_neg (show ¬ (false = true) by decide), if_pos (show (0 : Int) ≤ (i : Int) by omega)]
      rw [rdc_nat hi]
      refine Ev.bind (rect_In_is _ _ _ _ _) ?_
      exact j2 _ (by rw [← hb, Bool.false_or]; rfl)
theorem whole_l0 (l : List Rc) (hl : l.length ≤ 1000) (n v : Int) : ∀ m i : Nat, i + m = l.length → ∀ a : Bool, (a || (l.drop i).any fun r => inR r n v) = (l.any fun r => inR r n v) →
    Ev (fun k => hornbooklaw06_RectWhole.l0 k l true (canonB l) a false (i : Int) n v) true
  | 0, i, h, a, ha => by
    rw [List.drop_of_length_le (by omega), List.any_nil, Bool.or_false] at ha
    refine Ev.step (fun k => rfl) ?_
    simp only [hornbooklaw06_RectWhole.l0]
    simp only [if_neg (show ¬ ((i : Int) < (l.length : Int)) by omega)]
    have := whole_l1 l hl a n v ha (canonB l).length 0 (by omega) false (by rw [List.drop_zero, Bool.false_or, canon_in, ha])
    exact this
  | m + 1, i, h, a, ha => by
    have hi : i < l.length := by omega
    rw [List.drop_eq_getElem_cons hi, List.any_cons] at ha
    refine Ev.step (fun k => rfl) ?_
    simp only [hornbooklaw06_RectWhole.l0]
    simp only [if_pos (show (i : Int) < (l.length : Int) by omega)]
    rw [w64n (by omega)]
    cases a with
    | true =>
      simp only [if_true]
      exact whole_l0 l hl n v m (i + 1) (by omega) true (by rw [← ha]; simp)
    | false =>
      simp only [if_neg (show ¬ (false = true) by decide), if_pos (show (0 : Int) ≤ (i : Int) by omega)]
      rw [rdc_nat hi]
      refine Ev.bind (rect_In_is _ _ _ _ _) ?_
      exact whole_l0 l hl n v m (i + 1) (by omega) _ (by rw [← ha, Bool.false_or]; rfl)
theorem RectWhole : hornbooklaw06_RectWhole.Pure := by
  rintro l n v ⟨hlm, hlw⟩ hr
  refine Ev.rounds (g := fun k => hornbooklaw06_RectWhole.f k l n v) ?_
  unfold hornbooklaw06_RectWhole.f
  refine Ev.bind awake ?_
  by_cases hl : (l.length : Int) > 60
  · simp only [if_pos hl]
    exact Ev.now _
  · simp only [if_neg hl]
    refine Ev.bind (rect_Canon_is l (by omega)) ?_
    exact whole_l0 l (by omega) n v l.length 0 (by omega) false (by rw [List.drop_zero, Bool.false_or])
end Go.Proofs.Ytfhlddlhoockaaa.Pure
