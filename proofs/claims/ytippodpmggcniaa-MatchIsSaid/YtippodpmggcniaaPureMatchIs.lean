/- Of any codespaces, bytes and pieces what is next, a text cut, and pieces joined, are what the reference says. Conditions: none beyond the statement's own. -/
import Derived.Test.YtippodpmggcniaaQAllRef
import Derived.Test.YtippodpmggcniaaSMatchIs
namespace Go.Proofs.Ytippodpmggcniaa.Pure
open Go.RowKit Go.Proofs.Ytippodpmggcniaa.PAll Go.Proofs.YtippodpmggcniaaW.PrintWords Go.Proofs.YtippodpmggcniaaW.PrintLast Go.Proofs.YtippodpmggcniaaW.PrintMore Go.Proofs.YtippodpmggcniaaQ
theorem awakeIs : Ev (fun k => hornbooklaw11_awake.f k) true := Ev.of (k := 40) (fun k => hornbooklaw11_awake.mono k) (by decide +kernel)
theorem MatchIs : hornbooklaw11_MatchIs.Pure := by
  rintro l s p ⟨hlm, hlw⟩ ⟨hsm, hsw⟩ ⟨hpm, hpw⟩
  have hb : Bytes s := fun x hx => byte_wf (hsw x hx)
  refine Ev.rounds (g := fun k => hornbooklaw11_MatchIs.f k l s p) ?_
  unfold hornbooklaw11_MatchIs.f
  refine Ev.bind awakeIs ?_
  have out : Ev (fun k => hornbooklaw11_MatchIs.j0 k l s p true true) true := by
    refine Ev.step (fun k => rfl) ?_
    simp only [hornbooklaw11_MatchIs.j0, if_true]
    exact Ev.now _
  by_cases hl : (l.length : Int) > 60
  · simp only [if_pos hl]
    exact out
  · simp only [if_neg hl]
    by_cases hs : (s.length : Int) > 300
    · simp only [if_pos hs]
      exact out
    · simp only [if_neg hs]
      by_cases hp : (p.length : Int) > 100
      · rw [decide_eq_true hp]
        exact out
      · rw [decide_eq_false hp]
        refine Ev.step (fun k => rfl) ?_
        simp only [hornbooklaw11_MatchIs.j0, if_neg (show ¬ (false = true) by decide)]
        refine Ev.bind (match_Next_is l (by omega) s hb (by omega)) ?_
        refine Ev.bind (ref_Next_is l (by omega) s hb (by omega)) ?_
        simp only [if_true, beq_self_eq_true]
        refine Ev.bind (match_All_is l (by omega) s hb (by omega)) ?_
        have hlen : (allB l s).length ≤ s.length := allG_le l _ _ _
        refine Ev.bind (cut_is (allB l s) (by omega)) ?_
        refine Ev.bind (ref_All_is l (by omega) s hb (by omega)) ?_
        refine Ev.bind (same_is _ (by rw [List.length_map]; omega)) ?_
        simp only [if_true]
        refine Ev.bind (pieces_is p (by omega)) ?_
        refine Ev.bind (match_Join_is s (by omega) (p.map vnoc) (by rw [List.length_map]; omega)) ?_
        refine Ev.bind (ref_Join_is s (by omega) p (by omega)) ?_
        simp only [beq_self_eq_true]
        exact Ev.now _
end Go.Proofs.Ytippodpmggcniaa.Pure
