/- Statement MatchSame, without the program: a text of which each piece is full is cut the same by any codespaces and by those of them that stay. -/
import Derived.Test.YtippodpmggcniaaSMatchSame
import Derived.Test.YtippodpmggcniaaQSame
set_option linter.unusedVariables false
set_option linter.unusedSimpArgs false
namespace Go.Proofs.Ytippodpmggcniaa.Pure
open Go.RowKit Go.Proofs.Ytippodpmggcniaa.PSame Go.Proofs.YtippodpmggcniaaW.PrintWords Go.Proofs.YtippodpmggcniaaW.PrintLast Go.Proofs.YtippodpmggcniaaQ
theorem awakeSame : Ev (fun k => hornbooklaw11_awake.f k) true := Ev.of (k := 40) (fun k => hornbooklaw11_awake.mono k) (by decide +kernel)
theorem inAny_canon (l : List Rect) (n v : Int) : inAny (canonB l) n v = inAny l n v := canon_in l n v
theorem full_canon (l : List Rect) (b : List Int) : fullB (canonB l) b = fullB l b := by
  unfold fullB
  rw [inAny_canon]
theorem firstN_canon (l : List Rect) (b : List Int) : ∀ m n : Nat, firstN (canonB l) b m n = firstN l b m n
  | 0, _ => rfl
  | m + 1, n => by
    unfold firstN
    rw [full_canon, firstN_canon l b m (n + 1)]
theorem next_canon (l : List Rect) (b : List Int) (h : (nextB l b).2 = true) : nextB (canonB l) b = nextB l b := by
  unfold nextB at *
  rw [firstN_canon]
  cases hf : firstN l b 5 1 with
  | some n => rfl
  | none =>
    rw [hf] at h
    cases h
theorem all_canon (l : List Rect) : ∀ (m : Nat) (p : Int) (s : List Int), (∀ q ∈ allG l m p s, q.f2 = true) → allG (canonB l) m p s = allG l m p s
  | 0, _, _, _ => rfl
  | m + 1, p, s, h => by
    unfold allG at h ⊢
    by_cases hs : s.length = 0
    · rw [if_pos hs, if_pos hs]
    · rw [if_neg hs] at h
      rw [if_neg hs, if_neg hs]
      have h1 : (nextB l s).2 = true := h _ (List.mem_cons_self ..)
      rw [next_canon l s h1, all_canon l m _ _ fun q hq => h q (List.mem_cons_of_mem _ hq)]
theorem same_loop (l : List Rect) (hl : l.length ≤ 60) (s : List Int) (hb : Bytes s) (hs : s.length ≤ 200) : ∀ n i : Nat, i + n = (allB l s).length → (∀ j, j < i → ∀ h : j < (allB l s).length, (allB l s)[j].f2 = true) →
    Ev (fun k => hornbooklaw11_MatchSame.l0 k l s true (allB l s) (i : Int)) true
  | 0, i, h, hf => by
    have hlen : (allB l s).length ≤ s.length := allG_le l _ _ _
    have hc := canon_len l
    refine Ev.step (fun k => rfl) ?_
    simp only [hornbooklaw11_MatchSame.l0]
    simp only [if_neg (show ¬ ((i : Int) < ((allB l s).length : Int)) by omega), if_true]
    refine Ev.bind (cut_is _ (by omega)) ?_
    refine Ev.bind (rect_Canon_is l (by omega)) ?_
    refine Ev.bind (match_All_is (canonB l) (by omega) s hb (by omega)) ?_
    have e : allB (canonB l) s = allB l s := by
      refine all_canon l _ _ _ fun q hq => ?_
      obtain ⟨j, hj, rfl⟩ := List.getElem_of_mem hq
      exact hf j (by have : j < (allB l s).length := hj; omega) hj
    rw [e]
    refine Ev.bind (cut_is _ (by omega)) ?_
    exact Ev.bind (same_is _ (by rw [List.length_map]; omega)) (Ev.now _)
  | n + 1, i, h, hf => by
    have hlen : (allB l s).length ≤ s.length := allG_le l _ _ _
    have hi : i < (allB l s).length := by omega
    refine Ev.step (fun k => rfl) ?_
    simp only [hornbooklaw11_MatchSame.l0]
    simp only [if_pos (show (i : Int) < ((allB l s).length : Int) by omega), if_pos (show (0 : Int) ≤ (i : Int) by omega)]
    rw [rdP_nat hi, w64n (by omega)]
    by_cases hc : (allB l s)[i].f2 = true
    · simp only [if_pos hc]
      refine same_loop l hl s hb hs n (i + 1) (by omega) fun j hj hjl => ?_
      rcases Nat.lt_or_ge j i with h' | h'
      · exact hf j h' hjl
      · obtain rfl : j = i := by omega
        exact hc
    · simp only [if_neg hc]
      exact Ev.now _
theorem MatchSame : hornbooklaw11_MatchSame.Pure := by
  rintro l s ⟨hlm, hlw⟩ ⟨hsm, hsw⟩
  have hb : Bytes s := fun x hx => byte_wf (hsw x hx)
  refine Ev.rounds (g := fun k => hornbooklaw11_MatchSame.f k l s) ?_
  unfold hornbooklaw11_MatchSame.f
  refine Ev.bind awakeSame ?_
  have out : Ev (fun k => hornbooklaw11_MatchSame.j0 k l s true true) true := by
    refine Ev.step (fun k => rfl) ?_
    simp only [hornbooklaw11_MatchSame.j0, if_true]
    exact Ev.now _
  by_cases hl : (l.length : Int) > 60
  · simp only [if_pos hl]
    exact out
  · simp only [if_neg hl]
    by_cases hsl : (s.length : Int) > 200
    · rw [decide_eq_true hsl]
      exact out
    · rw [decide_eq_false hsl]
      refine Ev.step (fun k => rfl) ?_
      simp only [hornbooklaw11_MatchSame.j0, if_neg (show ¬ (false = true) by decide)]
      refine Ev.bind (match_All_is l (by omega) s hb (by omega)) ?_
      exact same_loop l (by omega) s hb (by omega) (allB l s).length 0 (by omega) fun j hj => absurd hj (Nat.not_lt_zero j)
end Go.Proofs.Ytippodpmggcniaa.Pure
