/- Statement RectMore, without the program: one more stays, unless another one holds it; one that may not be changes nothing. -/
import Derived.Test.YtfhlddlhoockaaaSRectMore
import Derived.Test.YtfhlddlhoockaaaQRect3
set_option linter.unusedVariables false
set_option linter.unusedSimpArgs false
namespace Go.Proofs.Ytfhlddlhoockaaa.Pure
open Go.RowKit Go.Proofs.Ytfhlddlhoockaaa.PAll Go.Proofs.YtfhlddlhoockaaaW.PrintWords Go.Proofs.YtfhlddlhoockaaaW.PrintLast Go.Proofs.YtfhlddlhoockaaaQ
def thereB (m : List Rc) (r : Rc) : Bool := m.any fun o => !(neR o r)
def heldR (m : List Rc) (r : Rc) : Bool := m.any fun o => neR o r && holdsB o r
theorem thereB_iff (m : List Rc) (r : Rc) : thereB m r = true ↔ r ∈ m := by
  unfold thereB
  rw [List.any_eq_true]
  constructor
  · rintro ⟨o, ho, h⟩
    rw [Bool.not_eq_true'] at h
    have : ¬ o ≠ r := fun hn => by rw [(neR_iff o r).mpr hn] at h; cases h
    rw [← Classical.not_not.mp this]
    exact ho
  · intro h
    refine ⟨r, h, ?_⟩
    rw [Bool.not_eq_true', Bool.eq_false_iff]
    exact fun hn => (neR_iff r r).mp hn rfl
theorem more_end (l : List Rc) (r : Rc) (h : saneR r = true) : thereB (canonB (l ++ [r])) r ≠ heldR (canonB (l ++ [r])) r := by
  by_cases hm : r ∈ canonB (l ++ [r])
  · rw [(thereB_iff _ _).mpr hm]
    have : heldR (canonB (l ++ [r])) r = false := by
      unfold heldR
      rw [List.any_eq_false]
      intro o ho hc
      rw [Bool.and_eq_true, neR_iff] at hc
      rw [canon_more_there hm o ho hc.1] at hc
      exact absurd hc.2 (by decide)
    rw [this]
    decide
  · rw [Bool.eq_false_iff.mpr fun h => hm ((thereB_iff _ _).mp h)]
    obtain ⟨o, ho, hne, hh⟩ := canon_more_held h hm
    have : heldR (canonB (l ++ [r])) r = true := by
      unfold heldR
      rw [List.any_eq_true]
      exact ⟨o, ho, by rw [(neR_iff o r).mpr hne, hh]; rfl⟩
    rw [this]
    decide
theorem more_no (l : List Rc) (r : Rc) (h : saneR r = false) : thereB (canonB (l ++ [r])) r = false := by
  refine Bool.eq_false_iff.mpr fun hc => ?_
  have := ((canon_mem _ r).mp ((thereB_iff _ _).mp hc)).2.1
  rw [h] at this
  cases this
theorem more_j1 (l : List Rc) (hl : l.length ≤ 1000) (r : Rc) : Ev (fun k => hornbooklaw06_RectMore.j1 k l true (canonB (l ++ [r])) false r.f0 r.f1 r.f2) true := by
  refine Ev.step (fun k => rfl) ?_
  simp only [hornbooklaw06_RectMore.j1, if_neg (show ¬ (false = true) by decide), if_true]
  refine Ev.bind (rect_Sane_is _ _ _) ?_
  show Ev (fun k => if saneR r = true then _ else _) _
  cases hs : saneR r with
  | true => simp only [if_true]; exact Ev.now _
  | false =>
    have hc := canon_len l
    simp only [if_neg (show ¬ (false = true) by decide)]
    rw [canon_more_no hs]
    refine Ev.bind (rect_Canon_is l (by omega)) ?_
    exact Ev.bind (ref_Same_is _ (by omega)) (Ev.now _)
theorem more_l0 (l : List Rc) (hl : l.length ≤ 1000) (r : Rc) : ∀ n i : Nat, i + n = (canonB (l ++ [r])).length → ∀ t h : Bool,
    (t || thereB ((canonB (l ++ [r])).drop i) r) = thereB (canonB (l ++ [r])) r → (h || heldR ((canonB (l ++ [r])).drop i) r) = heldR (canonB (l ++ [r])) r →
    Ev (fun k => hornbooklaw06_RectMore.l0 k l true (canonB (l ++ [r])) t h (i : Int) r.f0 r.f1 r.f2) true
  | 0, i, hi, t, h, ht, hh => by
    rw [List.drop_of_length_le (by omega)] at ht hh
    have ht' : t = thereB (canonB (l ++ [r])) r := by rw [← ht]; simp [thereB]
    have hh' : h = heldR (canonB (l ++ [r])) r := by rw [← hh]; simp [heldR]
    refine Ev.step (fun k => rfl) ?_
    simp only [hornbooklaw06_RectMore.l0]
    simp only [if_neg (show ¬ ((i : Int) < ((canonB (l ++ [r])).length : Int)) by omega)]
    refine Ev.bind (rect_Sane_is _ _ _) ?_
    show Ev (fun k => if saneR r = true then _ else _) _
    cases hs : saneR r with
    | true =>
      simp only [if_true]
      have hne : (t == h) = false := by rw [beq_eq_false_iff_ne, ht', hh']; exact more_end l r hs
      rw [hne]
      simp only [if_neg (show ¬ (false = true) by decide)]
      refine Ev.bind (rect_Sane_is _ _ _) ?_
      rw [show rectB r.f0 r.f1 r.f2 = true from hs]
      simp only [if_true]
      exact more_j1 l hl r
    | false =>
      simp only [if_neg (show ¬ (false = true) by decide)]
      refine Ev.bind (rect_Sane_is _ _ _) ?_
      rw [show rectB r.f0 r.f1 r.f2 = false from hs]
      simp only [if_neg (show ¬ (false = true) by decide)]
      rw [ht', more_no l r hs]
      exact more_j1 l hl r
  | n + 1, i, hi, t, h, ht, hh => by
    have hc := canon_len (l ++ [r])
    rw [List.length_append, List.length_singleton] at hc
    have hi' : i < (canonB (l ++ [r])).length := by omega
    have step : ∀ t' h' : Bool, (t = true → t' = true) → (t = false → t' = !(neR (canonB (l ++ [r]))[i] r)) → (h = true → h' = true) → (h = false → h' = (neR (canonB (l ++ [r]))[i] r && holdsB (canonB (l ++ [r]))[i] r)) →
        Ev (fun k => hornbooklaw06_RectMore.l0 k l true (canonB (l ++ [r])) t' h' ((i + 1 : Nat) : Int) r.f0 r.f1 r.f2) true := by
      intro t' h' e1 e2 e3 e4
      refine more_l0 l hl r n (i + 1) (by omega) t' h' ?_ ?_
      · rw [← ht, List.drop_eq_getElem_cons hi']
        cases t with
        | true => rw [e1 rfl]; simp
        | false => rw [e2 rfl, Bool.false_or]; rfl
      · rw [← hh, List.drop_eq_getElem_cons hi']
        cases h with
        | true => rw [e3 rfl]; simp
        | false => rw [e4 rfl, Bool.false_or]; rfl
    refine Ev.step (fun k => rfl) ?_
    simp only [hornbooklaw06_RectMore.l0]
    simp only [if_pos (show (i : Int) < ((canonB (l ++ [r])).length : Int) by omega), if_pos (show (0 : Int) ≤ (i : Int) by omega)]
    rw [rdc_nat hi', w64n (by omega)]
    have eqs : ∀ o : Rc, ((o.f0 == r.f0) && ((o.f1 == r.f1) && (o.f2 == r.f2))) = !(neR o r) := by
      intro o
      unfold neR
      cases o.f0 == r.f0 <;> cases o.f1 == r.f1 <;> cases o.f2 == r.f2 <;> rfl
    cases t with
    | true =>
      simp only [if_true]
      cases h with
      | true =>
        simp only [if_true]
        exact step true true (fun _ => rfl) (fun h => by cases h) (fun _ => rfl) (fun h => by cases h)
      | false =>
        simp only [if_neg (show ¬ (false = true) by decide)]
        show Ev (fun k => if neR (canonB (l ++ [r]))[i] r = true then _ else _) _
        cases hne : neR (canonB (l ++ [r]))[i] r with
        | true =>
          simp only [if_true]
          refine Ev.bind (rect_Holds_is _ _) ?_
          exact step true _ (fun _ => rfl) (fun h => by cases h) (fun h => by cases h) (fun _ => by rw [hne, Bool.true_and])
        | false =>
          simp only [if_neg (show ¬ (false = true) by decide)]
          exact step true false (fun _ => rfl) (fun h => by cases h) (fun h => by cases h) (fun _ => by rw [hne, Bool.false_and])
    | false =>
      simp only [if_neg (show ¬ (false = true) by decide)]
      rw [eqs]
      cases h with
      | true =>
        simp only [if_true]
        exact step _ true (fun h => by cases h) (fun _ => rfl) (fun _ => rfl) (fun h => by cases h)
      | false =>
        simp only [if_neg (show ¬ (false = true) by decide)]
        show Ev (fun k => if neR (canonB (l ++ [r]))[i] r = true then _ else _) _
        cases hne : neR (canonB (l ++ [r]))[i] r with
        | true =>
          simp only [if_true]
          refine Ev.bind (rect_Holds_is _ _) ?_
          exact step _ _ (fun h => by cases h) (fun _ => by rw [hne]) (fun h => by cases h) (fun _ => by rw [hne, Bool.true_and])
        | false =>
          simp only [if_neg (show ¬ (false = true) by decide)]
          exact step _ false (fun h => by cases h) (fun _ => by rw [hne]) (fun h => by cases h) (fun _ => by rw [hne, Bool.false_and])
theorem RectMore : hornbooklaw06_RectMore.Pure := by
  rintro l r0 r1 r2 ⟨hlm, hlw⟩ hr
  refine Ev.rounds (g := fun k => hornbooklaw06_RectMore.f k l r0 r1 r2) ?_
  unfold hornbooklaw06_RectMore.f
  refine Ev.bind awake ?_
  by_cases hl : (l.length : Int) > 60
  · simp only [if_pos hl]
    exact Ev.now _
  · simp only [if_neg hl, Option.bind_some, List.length_nil, List.nil_append]
    simp only [if_pos (show 0 + l.length < 5864062014805 by omega), if_pos (show l.length < 5864062014805 by omega)]
    refine Ev.bind (rect_Canon_is (l ++ [⟨r0, r1, r2⟩]) (by rw [List.length_append, List.length_singleton]; omega)) ?_
    exact more_l0 l (by omega) ⟨r0, r1, r2⟩ (canonB (l ++ [⟨r0, r1, r2⟩])).length 0 (by omega) false false (by rw [List.drop_zero, Bool.false_or]) (by rw [List.drop_zero, Bool.false_or])
end Go.Proofs.Ytfhlddlhoockaaa.Pure
