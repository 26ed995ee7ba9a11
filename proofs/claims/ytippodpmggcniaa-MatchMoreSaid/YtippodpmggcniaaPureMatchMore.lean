/- With one codespace more a piece that was full is full, and no longer; what is next ahead of all is told by the first four bytes alone. Conditions: none beyond the statement's own. -/
import Derived.Test.YtippodpmggcniaaQMatch
import Derived.Test.YtippodpmggcniaaSMatchMore
namespace Go.Proofs.Ytippodpmggcniaa.Pure
open Go.RowKit Go.Proofs.Ytippodpmggcniaa.PAll Go.Proofs.YtippodpmggcniaaW.PrintWords Go.Proofs.YtippodpmggcniaaW.PrintLast Go.Proofs.YtippodpmggcniaaW.PrintMore Go.Proofs.YtippodpmggcniaaQ
theorem awakeMore : Ev (fun k => hornbooklaw11_awake.f k) true := Ev.of (k := 40) (fun k => hornbooklaw11_awake.mono k) (by decide +kernel)
theorem full_more {l : List Rect} {r : Rect} {b : List Int} (h : fullB l b = true) : fullB (l ++ [r]) b = true := by
  unfold fullB inAny at h ⊢
  rw [Bool.and_eq_true] at h ⊢
  refine ⟨h.1, ?_⟩
  rw [List.any_append, h.2, Bool.true_or]
theorem next_more (l : List Rect) (r : Rect) (b : List Int) (h : (nextB l b).2 = true) : (nextB (l ++ [r]) b).2 = true ∧ (nextB (l ++ [r]) b).1 ≤ (nextB l b).1 := by
  obtain ⟨j, hj, hj4, hjl, _, hjt, _⟩ := nextB_spec l b
  obtain ⟨i, hi, hi4, hil, _, hit, hif⟩ := nextB_spec (l ++ [r]) b
  have hf := full_more (r := r) (hjt h).2.1
  have h2 : (nextB (l ++ [r]) b).2 = true := by
    cases hc : (nextB (l ++ [r]) b).2 with
    | true => rfl
    | false =>
      have := hif hc j (hjt h).1 hj4 hjl
      rw [hf] at this
      cases this
  refine ⟨h2, ?_⟩
  rw [hi, hj]
  by_cases hle : i ≤ j
  · omega
  · have := (hit h2).2.2 j (hjt h).1 (by omega)
    rw [hf] at this
    cases this
theorem firstN_four (l : List Rect) (b c : List Int) (hb : 4 ≤ b.length) (hc : 4 ≤ c.length) (h : b.take 4 = c.take 4) : ∀ m n, firstN l b m n = firstN l c m n
  | 0, _ => rfl
  | m + 1, n => by
    unfold firstN
    by_cases hn : n ≤ 4
    · have e : b.take n = c.take n := by
        have := congrArg (List.take n) h
        rwa [List.take_take, List.take_take, Nat.min_eq_left hn] at this
      rw [e, firstN_four l b c hb hc h m (n + 1), if_pos (show n ≤ 4 ∧ n ≤ b.length by omega), if_pos (show n ≤ 4 ∧ n ≤ c.length by omega)]
    · rw [if_neg (show ¬ (n ≤ 4 ∧ n ≤ b.length) by omega), if_neg (show ¬ (n ≤ 4 ∧ n ≤ c.length) by omega)]
theorem fits_four (l : List Rect) (b c : List Int) (h : b.take 4 = c.take 4) : fitsOf l b = fitsOf l c := by
  unfold fitsOf
  refine List.map_congr_left fun r hr => ?_
  have hs := (List.mem_filter.mp hr).2
  have e : fitsB r.f0 r.f1 r.f2 b = fitsB r.f0 r.f1 r.f2 c := by
    unfold fitsB
    rw [if_pos hs, if_pos hs]
    unfold rectB at hs
    rw [Bool.and_eq_true, Bool.and_eq_true] at hs
    have hlen := bytes4_len hs.1.1
    have hr4 := sane_range hs.1.1
    rw [← fitN_take b _ _ 4 (by omega), ← fitN_take c _ _ 4 (by omega), h]
  rw [e]
theorem next_four (l : List Rect) (b c : List Int) (hb : 4 ≤ b.length) (hc : 4 ≤ c.length) (h : b.take 4 = c.take 4) : nextB l b = nextB l c := by
  unfold nextB
  rw [firstN_four l b c hb hc h, fits_four l b c h]
  have hr := bestP_range l c
  have e : ∀ x : Nat, 4 ≤ x → mn (bestP (fitsOf l c)).2 (x : Int) = (bestP (fitsOf l c)).2 := fun x hx => by unfold mn; rw [if_neg (by omega)]
  rw [e _ hb, e _ hc]
theorem more_j1 (l : List Rect) (hl : l.length ≤ 60) (b c : List Int) (hb : Bytes b) (hc : Bytes c) (hbl : b.length ≤ 100) (hcl : c.length ≤ 100) : Ev (fun k => hornbooklaw11_MatchMore.j1 k l b c true (nextB l b).1 (nextB l b).2 false) true := by
  refine Ev.step (fun k => rfl) ?_
  simp only [hornbooklaw11_MatchMore.j1, if_neg (show ¬ (false = true) by decide)]
  by_cases h4 : (b.length : Int) < 4
  · simp only [if_pos h4]
    exact Ev.now _
  · simp only [if_neg h4, Option.bind_some, List.length_nil, List.nil_append]
    simp only [if_pos (show 0 + b.length < 140737488355328 by omega), if_pos (show b.length + c.length < 140737488355328 by omega)]
    refine Ev.bind (match_Next_is l (by omega) (b ++ c) (hb.append hc) (by rw [List.length_append]; omega)) ?_
    simp only [if_pos (show (4 : Int) ≤ (b.length : Int) by omega)]
    refine Ev.bind (match_Next_is l (by omega) (b.take 4) (hb.take 4) (by rw [List.length_take]; omega)) ?_
    rw [next_four l (b ++ c) b (by rw [List.length_append]; omega) (by omega) (by rw [List.take_append_of_le_length (by omega)])]
    rw [next_four l (b.take 4) b (by rw [List.length_take]; omega) (by omega) (by rw [List.take_take]; rfl)]
    simp only [if_true, beq_self_eq_true]
    exact Ev.now _
theorem MatchMore : hornbooklaw11_MatchMore.Pure := by
  rintro l r0 r1 r2 b c ⟨hlm, hlw⟩ hr ⟨hbm, hbw⟩ ⟨hcm, hcw⟩
  have hb : Bytes b := fun x hx => byte_wf (hbw x hx)
  have hc : Bytes c := fun x hx => byte_wf (hcw x hx)
  refine Ev.rounds (g := fun k => hornbooklaw11_MatchMore.f k l r0 r1 r2 b c) ?_
  unfold hornbooklaw11_MatchMore.f
  refine Ev.bind awakeMore ?_
  have out : Ev (fun k => hornbooklaw11_MatchMore.j0 k l b c true true r0 r1 r2) true := by
    refine Ev.step (fun k => rfl) ?_
    simp only [hornbooklaw11_MatchMore.j0, if_true]
    exact Ev.now _
  by_cases hl : (l.length : Int) > 60
  · simp only [if_pos hl]
    exact out
  · simp only [if_neg hl]
    by_cases hbl : (b.length : Int) > 100
    · simp only [if_pos hbl]
      exact out
    · simp only [if_neg hbl]
      by_cases hcl : (c.length : Int) > 100
      · rw [decide_eq_true hcl]
        exact out
      · rw [decide_eq_false hcl]
        refine Ev.step (fun k => rfl) ?_
        simp only [hornbooklaw11_MatchMore.j0, if_neg (show ¬ (false = true) by decide)]
        refine Ev.bind (match_Next_is l (by omega) b hb (by omega)) ?_
        simp only [Option.bind_some, List.length_nil, List.nil_append]
        simp only [if_pos (show 0 + l.length < 5864062014805 by omega), if_pos (show l.length < 5864062014805 by omega)]
        refine Ev.bind (match_Next_is (l ++ [⟨r0, r1, r2⟩]) (by rw [List.length_append, List.length_singleton]; omega) b hb (by omega)) ?_
        have j1 := more_j1 l (by omega) b c hb hc (by omega) (by omega)
        cases ht : (nextB l b).2 with
        | true =>
          obtain ⟨e1, e2⟩ := next_more l ⟨r0, r1, r2⟩ b ht
          simp only [if_true, e1]
          rw [decide_eq_false (show ¬ ((nextB (l ++ [⟨r0, r1, r2⟩]) b).1 > (nextB l b).1) by omega)]
          rw [ht] at j1
          exact j1
        | false =>
          simp only [if_neg (show ¬ (false = true) by decide)]
          rw [ht] at j1
          exact j1
end Go.Proofs.Ytippodpmggcniaa.Pure
