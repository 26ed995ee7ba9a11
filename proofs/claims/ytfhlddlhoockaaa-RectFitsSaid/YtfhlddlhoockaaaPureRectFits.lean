/- Statement RectFits, without the program: all of as many bytes as a codespace has fit just if their code is in it; fewer fit no more; bytes behind change nothing. -/
import Derived.Test.YtfhlddlhoockaaaSRectFits
import Derived.Test.YtfhlddlhoockaaaQRect3
set_option linter.unusedVariables false
set_option linter.unusedSimpArgs false
namespace Go.Proofs.Ytfhlddlhoockaaa.Pure
open Go.RowKit Go.Proofs.Ytfhlddlhoockaaa.PAll Go.Proofs.YtfhlddlhoockaaaW.PrintWords Go.Proofs.YtfhlddlhoockaaaW.PrintLast Go.Proofs.YtfhlddlhoockaaaQ
theorem fitN_append : ∀ b l h c : List Int, fitN b l h ≤ fitN (b ++ c) l h ∧ (fitN b l h < b.length → fitN (b ++ c) l h = fitN b l h)
  | [], l, h, c => by simp [fitN]
  | x :: b, [], h, c => by simp [fitN]
  | x :: b, y :: l, [], c => by simp [fitN]
  | x :: b, y :: l, z :: h, c => by
    obtain ⟨h1, h2⟩ := fitN_append b l h c
    simp only [List.cons_append, fitN, List.length_cons]
    by_cases hc : y ≤ x ∧ x ≤ z
    · rw [if_pos hc, if_pos hc]
      exact ⟨by omega, fun h => by rw [h2 (by omega)]⟩
    · rw [if_neg hc, if_neg hc]
      exact ⟨by omega, fun _ => rfl⟩
theorem val_bytes4 (t : List Int) (hb : Bytes t) (h1 : 1 ≤ t.length) (h4 : t.length ≤ 4) : bytes4 (t.length : Int) (valN t) = t ∧ saneB (t.length : Int) (valN t) = true := by
  match t, hb, h1, h4 with
  | [a], hb, _, _ =>
    have ha := hb a (by simp)
    refine ⟨?_, (sane_iff _ _).mpr ?_⟩
    · simp [bytes4, valN]; omega
    · simp [valN]; omega
  | [a, b], hb, _, _ =>
    have ha := hb a (by simp)
    have hb' := hb b (by simp)
    refine ⟨?_, (sane_iff _ _).mpr ?_⟩
    · simp [bytes4, valN]; omega
    · simp [valN]; omega
  | [a, b, c], hb, _, _ =>
    have ha := hb a (by simp)
    have hb' := hb b (by simp)
    have hc := hb c (by simp)
    refine ⟨?_, (sane_iff _ _).mpr ?_⟩
    · simp [bytes4, valN]; omega
    · simp [valN]; omega
  | [a, b, c, d], hb, _, _ =>
    have ha := hb a (by simp)
    have hb' := hb b (by simp)
    have hc := hb c (by simp)
    have hd := hb d (by simp)
    refine ⟨?_, (sane_iff _ _).mpr ?_⟩
    · simp [bytes4, valN]; omega
    · simp [valN]; omega
theorem fits_j1 (r : Rc) (b more : List Int) (hb : Bytes b) : Ev (fun k => hornbooklaw06_RectFits.j1 k b true ((fitsB r.f0 r.f1 r.f2 b : Nat) : Int) ((fitsB r.f0 r.f1 r.f2 (b ++ more) : Nat) : Int) false r.f0 r.f1 r.f2) true := by
  have out : Ev (fun k => hornbooklaw06_RectFits.j2 k b true ((fitsB r.f0 r.f1 r.f2 b : Nat) : Int) ((fitsB r.f0 r.f1 r.f2 (b ++ more) : Nat) : Int) true r.f0 r.f1 r.f2) true := by
    refine Ev.step (fun k => rfl) ?_
    simp only [hornbooklaw06_RectFits.j2, if_true]
    exact Ev.now _
  refine Ev.step (fun k => rfl) ?_
  simp only [hornbooklaw06_RectFits.j1, if_neg (show ¬ (false = true) by decide)]
  refine Ev.bind (rect_Sane_is _ _ _) ?_
  by_cases hs : rectB r.f0 r.f1 r.f2 = true
  · simp only [if_pos hs]
    by_cases hl : (b.length : Int) < r.f0
    · rw [decide_eq_true hl]
      exact out
    · rw [decide_eq_false hl]
      obtain ⟨p1, p2, p3⟩ := rectB_parts hs
      have hr := sane_range p1
      have l1 := bytes4_len p1
      refine Ev.step (fun k => rfl) ?_
      simp only [hornbooklaw06_RectFits.j2, if_neg (show ¬ (false = true) by decide), if_true]
      simp only [if_pos (show 0 ≤ r.f0 by omega), if_pos (show r.f0 ≤ (b.length : Int) by omega)]
      have ht : ((b.take r.f0.toNat).length : Int) = r.f0 := by rw [List.length_take]; omega
      refine Ev.bind (hex_Val_is (b.take r.f0.toNat) (hb.take _) (by omega) (by omega)) ?_
      simp only [if_true]
      refine Ev.bind (rect_In_is _ _ _ _ _) ?_
      obtain ⟨v1, v2⟩ := val_bytes4 (b.take r.f0.toNat) (hb.take _) (by omega) (by omega)
      have e1 : fitsB r.f0 r.f1 r.f2 b = fitN (b.take r.f0.toNat) (bytes4 r.f0 r.f1) (bytes4 r.f0 r.f2) := by
        unfold fitsB
        rw [if_pos hs, fitN_take _ _ _ _ (by omega)]
      have e2 : fitsB r.f0 r.f1 r.f2 (b ++ more) = fitsB r.f0 r.f1 r.f2 b := by
        rw [e1]
        unfold fitsB
        rw [if_pos hs, ← fitN_take (b ++ more) _ _ r.f0.toNat (by omega), List.take_append_of_le_length (by omega)]
      have e3 : inB r.f0 r.f1 r.f2 ((b.take r.f0.toNat).length : Int) (valN (b.take r.f0.toNat)) = (((fitsB r.f0 r.f1 r.f2 b : Nat) : Int) == r.f0) := by
        unfold inB
        rw [hs, v2, v1, decide_eq_true ht, e1, Bool.true_and, Bool.true_and, Bool.true_and]
        rfl
      rw [e3, e2]
      simp only [beq_self_eq_true, if_true]
      exact Ev.now _
  · simp only [if_neg hs]
    exact out
theorem RectFits : hornbooklaw06_RectFits.Pure := by
  rintro r0 r1 r2 b more hr ⟨hbm, hbw⟩ ⟨hcm, hcw⟩
  have hb : Bytes b := fun x hx => byte_wf (hbw x hx)
  refine Ev.rounds (g := fun k => hornbooklaw06_RectFits.f k r0 r1 r2 b more) ?_
  unfold hornbooklaw06_RectFits.f
  refine Ev.bind awake ?_
  have out : Ev (fun k => hornbooklaw06_RectFits.j0 k b more true true r0 r1 r2) true := by
    refine Ev.step (fun k => rfl) ?_
    simp only [hornbooklaw06_RectFits.j0, if_true]
    exact Ev.now _
  by_cases hl : (b.length : Int) > 50
  · simp only [if_pos hl]
    exact out
  · simp only [if_neg hl]
    by_cases hm : (more.length : Int) > 50
    · rw [decide_eq_true hm]
      exact out
    · rw [decide_eq_false hm]
      refine Ev.step (fun k => rfl) ?_
      simp only [hornbooklaw06_RectFits.j0, if_neg (show ¬ (false = true) by decide)]
      refine Ev.bind (rect_Fits_is _ _ _ _) ?_
      simp only [Option.bind_some, List.length_nil, List.nil_append]
      simp only [if_pos (show 0 + b.length < 140737488355328 by omega), if_pos (show b.length + more.length < 140737488355328 by omega)]
      refine Ev.bind (rect_Fits_is _ _ _ _) ?_
      have j1 := fits_j1 ⟨r0, r1, r2⟩ b more hb
      dsimp only at j1
      have f1 : fitsB r0 r1 r2 b ≤ b.length ∧ fitsB r0 r1 r2 b ≤ fitsB r0 r1 r2 (b ++ more) ∧ (fitsB r0 r1 r2 b < b.length → fitsB r0 r1 r2 (b ++ more) = fitsB r0 r1 r2 b) := by
        unfold fitsB
        by_cases hs : rectB r0 r1 r2 = true
        · simp only [if_pos hs]
          exact ⟨(fitN_le _ _ _).1, fitN_append _ _ _ _⟩
        · simp only [if_neg hs]
          exact ⟨Nat.zero_le _, Nat.le_refl _, by simp⟩
      simp only [if_neg (show ¬ ((fitsB r0 r1 r2 b : Nat) : Int) < 0 by omega), if_neg (show ¬ ((fitsB r0 r1 r2 b : Nat) : Int) > (b.length : Int) by omega), if_neg (show ¬ ((fitsB r0 r1 r2 (b ++ more) : Nat) : Int) < ((fitsB r0 r1 r2 b : Nat) : Int) by omega)]
      by_cases hs : rectB r0 r1 r2 = true
      · have f2 : ((fitsB r0 r1 r2 b : Nat) : Int) ≤ r0 := by
          obtain ⟨p1, p2, p3⟩ := rectB_parts hs
          have l1 := bytes4_len p1
          have := (fitN_le b (bytes4 r0 r1) (bytes4 r0 r2)).2
          unfold fitsB
          rw [if_pos hs]
          omega
        by_cases hg : ((fitsB r0 r1 r2 (b ++ more) : Nat) : Int) > ((fitsB r0 r1 r2 b : Nat) : Int)
        · simp only [if_pos hg, if_pos (show ((fitsB r0 r1 r2 b : Nat) : Int) = (b.length : Int) by omega)]
          refine Ev.bind (rect_Sane_is _ _ _) ?_
          simp only [if_pos hs, if_neg (show ¬ ((fitsB r0 r1 r2 b : Nat) : Int) > r0 by omega)]
          refine Ev.bind (rect_Sane_is _ _ _) ?_
          simp only [if_pos hs]
          exact j1
        · simp only [if_neg hg]
          refine Ev.bind (rect_Sane_is _ _ _) ?_
          simp only [if_pos hs, if_neg (show ¬ ((fitsB r0 r1 r2 b : Nat) : Int) > r0 by omega)]
          refine Ev.bind (rect_Sane_is _ _ _) ?_
          simp only [if_pos hs]
          exact j1
      · have z : ∀ c, fitsB r0 r1 r2 c = 0 := fun c => by unfold fitsB; rw [if_neg hs]
        rw [z, z] at j1 ⊢
        simp only [if_neg (show ¬ (((0 : Nat) : Int) > ((0 : Nat) : Int)) by omega)]
        refine Ev.bind (rect_Sane_is _ _ _) ?_
        simp only [if_neg hs]
        refine Ev.bind (rect_Sane_is _ _ _) ?_
        simp only [if_neg hs]
        exact j1
end Go.Proofs.Ytfhlddlhoockaaa.Pure
