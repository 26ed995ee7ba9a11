/- Statement RectSub, without the program: what one that is held has the other one has, and it is no smaller; each holds itself, if it may be. -/
import Derived.Test.YtfhlddlhoockaaaSRectSub
import Derived.Test.YtfhlddlhoockaaaQRect2
set_option linter.unusedVariables false
set_option linter.unusedSimpArgs false
namespace Go.Proofs.Ytfhlddlhoockaaa.Pure
open Go.RowKit Go.Proofs.Ytfhlddlhoockaaa.PNth Go.Proofs.YtfhlddlhoockaaaW.PrintWords Go.Proofs.YtfhlddlhoockaaaW.PrintLast Go.Proofs.YtfhlddlhoockaaaQ
theorem bits_low2 (x : Int) : 0 ≤ Go.bits .and .i64 x 4294967295 := by
  have h : ((BitVec.ofInt IntKind.i64.bits x &&& BitVec.ofInt IntKind.i64.bits 4294967295).toNat) ≤ 4294967295 := by
    rw [BitVec.toNat_and]
    exact Nat.le_trans Nat.and_le_right (by decide +kernel)
  have e : Go.bits .and .i64 x 4294967295 = IntKind.i64.wrap (((BitVec.ofInt IntKind.i64.bits x &&& BitVec.ofInt IntKind.i64.bits 4294967295).toNat : Nat) : Int) := rfl
  rw [e, wraps_i64 _ (by omega) (by omega)]
  omega
theorem prod_le {u v : List Int} (hu : Wide u) (hv : Wide v) (hl : u.length = v.length) (h : ∀ i, i < u.length → at0 u i ≤ at0 v i) : ∀ m, m ≤ u.length → prodN u m ≤ prodN v m
  | 0, _ => Int.le_refl _
  | m + 1, hm => by
    rw [prodN, prodN]
    have h1 := prodN_bound hu m (by omega)
    have h2 := prodN_bound hv m (by omega)
    have h3 := hu m (by omega)
    exact Int.mul_le_mul (prod_le hu hv hl h m (by omega)) (h m (by omega)) (by omega) (by omega)
theorem holds_size {a b : Rc} (h : holdsB a b = true) : sizeB b.f0 b.f1 b.f2 ≤ sizeB a.f0 a.f1 a.f2 := by
  obtain ⟨a1, a2, a3, a4, a5⟩ := holds_iff.mp h
  unfold saneR at a1 a2
  obtain ⟨p1, p2, p3⟩ := rectB_parts a1
  obtain ⟨q1, q2, q3⟩ := rectB_parts a2
  obtain ⟨l1, l2, l3, l4, l5⟩ := rect_lens a1
  obtain ⟨m1, m2, m3, m4, m5⟩ := rect_lens a2
  unfold sizeB
  rw [if_pos a1, if_pos a2]
  have hw1 := widR_wide a1
  have hw2 := widR_wide a2
  have hlen : (widR b.f0 b.f1 b.f2).length = (widR a.f0 a.f1 a.f2).length := by omega
  rw [← hlen]
  refine prod_le hw2 hw1 hlen (fun i hi => ?_) _ (Nat.le_refl _)
  rw [a3] at m2 m5 hi ⊢
  have e1 : i < (bytes4 a.f0 b.f1).length := by omega
  have e2 : i < (bytes4 a.f0 b.f2).length := by omega
  have e0 : (bytes4 a.f0 b.f1).length = (bytes4 a.f0 a.f1).length := by
    rw [a3] at q1
    exact b4len q1 p1
  have e3 : i < (bytes4 a.f0 a.f1).length := by omega
  have e4 : i < (bytes4 a.f0 a.f2).length := by omega
  unfold widR
  rw [wids_at _ _ i e1 e2, wids_at _ _ i e3 e4, at0_get e1, at0_get e2, at0_get e3, at0_get e4]
  have g1 := leAll_get _ _ i e3 e1 a4
  have g2 := leAll_get _ _ i e2 e4 a5
  omega
theorem holds_self (a : Rc) : holdsB a a = saneR a := by
  cases h : saneR a with
  | true => exact holds_refl h
  | false =>
    refine Bool.eq_false_iff.mpr fun hc => ?_
    rw [(holds_iff.mp hc).1] at h
    cases h
theorem RectSub : hornbooklaw06_RectSub.Pure := by
  rintro a0 a1 a2 b0 b1 b2 k0 ha hb hk
  refine Ev.rounds (g := fun k => hornbooklaw06_RectSub.f k a0 a1 a2 b0 b1 b2 k0) ?_
  unfold hornbooklaw06_RectSub.f
  refine Ev.bind awake ?_
  refine Ev.bind (rect_Holds_is ⟨a0, a1, a2⟩ ⟨a0, a1, a2⟩) ?_
  refine Ev.bind (rect_Sane_is a0 a1 a2) ?_
  rw [holds_self, show saneR ⟨a0, a1, a2⟩ = rectB a0 a1 a2 from rfl]
  simp only [bne_self_eq_false, if_neg (show ¬ (false = true) by decide)]
  refine Ev.bind (rect_Holds_is ⟨a0, a1, a2⟩ ⟨b0, b1, b2⟩) ?_
  by_cases h : holdsB ⟨a0, a1, a2⟩ ⟨b0, b1, b2⟩ = true
  · obtain ⟨h1, h2, _⟩ := holds_iff.mp h
    have hs : 1 ≤ sizeB b0 b1 b2 ∧ sizeB b0 b1 b2 ≤ 4294967296 := size_pos h2
    have hle : sizeB b0 b1 b2 ≤ sizeB a0 a1 a2 := holds_size h
    simp only [if_pos h]
    refine Ev.bind (rect_Size_is b0 b1 b2) ?_
    simp only [if_neg (show ¬ sizeB b0 b1 b2 < 1 by omega), if_neg (show ¬ sizeB b0 b1 b2 = 0 by omega)]
    obtain ⟨i, hi'⟩ : ∃ i, i = Int.tmod (Go.bits .and .i64 k0 4294967295) (sizeB b0 b1 b2) := ⟨_, rfl⟩
    have hbl := bits_low2 k0
    have hi0 : 0 ≤ i ∧ i < sizeB b0 b1 b2 := by
      rw [hi', Int.tmod_eq_emod_of_nonneg hbl]
      exact ⟨Int.emod_nonneg _ (by omega), Int.emod_lt_of_pos _ (by omega)⟩
    rw [← hi']
    have hin := nth_in hi0.1 hi0.2
    have hin2 : inB a0 a1 a2 b0 (nthV b0 b1 b2 i) = true := in_mono h hin
    refine Ev.bind (rect_Nth_in b0 b1 b2 i hi0.1 hi0.2) ?_
    simp only [if_true]
    refine Ev.bind (rect_In_is _ _ _ _ _) ?_
    simp only [if_pos hin]
    refine Ev.bind (rect_In_is _ _ _ _ _) ?_
    simp only [if_pos hin2]
    refine Ev.bind (rect_Size_is a0 a1 a2) ?_
    rw [decide_eq_true (show sizeB a0 a1 a2 ≥ sizeB b0 b1 b2 from hle)]
    exact Ev.now _
  · simp only [if_neg h]
    exact Ev.now _
end Go.Proofs.Ytfhlddlhoockaaa.Pure
