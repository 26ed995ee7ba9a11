/- sem.Sane. -/
import Derived.Test.YtpkgkdcfolmbhaaGreatARectD
set_option linter.all false
set_option maxRecDepth 100000
namespace Go.Abs.Rc
open Go.RowKit Go.Proofs Go.Abs.Tab Go.Abs.Dest Go.Abs.Span Go.Abs.Coll Go.Abs.Hx Go.Abs.Mt
def sameRs (a b : List Rct) : Bool := decide (a.length = b.length) && (List.range a.length).all fun j => eqR (a.getD j default) (b.getD j default)
def SSameR : Sp := ⟨List Rct × List Rct, fun (a, _) => a.length < 9223372036854775807, fun (a, b) => [aR a, aR b], fun (a, b) => .st (.sb (sameRs a b))⟩
theorem sameRs_at (a b : List Rct) : sameRs a b = true ↔ a.length = b.length ∧ ∀ j, j < a.length → a.getD j default = b.getD j default := by
  unfold sameRs
  rw [Bool.and_eq_true, decide_eq_true_iff, List.all_eq_true]
  simp only [List.mem_range, eqR_iff]
theorem sameRs_iff (a b : List Rct) : sameRs a b = true ↔ a = b := by
  rw [sameRs_at]
  constructor
  · rintro ⟨h1, h2⟩
    refine List.ext_getElem h1 fun i hi hj => ?_
    have := h2 i hi
    rwa [getR hi, getR hj] at this
  · rintro rfl
    exact ⟨rfl, fun _ _ => rfl⟩
theorem sameRs_no {a b : List Rct} (h : ¬ (a.length = b.length ∧ ∀ j, j < a.length → a.getD j default = b.getD j default)) : sameRs a b = false := by
  rw [Bool.eq_false_iff, ne_eq, sameRs_at]
  exact h
theorem slEqualR : SpOK Tryz.prog 38 SSameR := fun ⟨a, b⟩ ha => by
  have hC := base
  have ha : a.length < 9223372036854775807 := ha
  ((refine Fn.ofF hC Tryz.func38 Tryz.ntmps38 rfl rfl rfl ?_); (repeat' first | (with_reducible exact trivial) | (with_reducible rfl) | (refine And.intro ?_ ?_) | (refine Need.mk ?_) | exact True.intro | (first | (refine ⟨_, Told.refl _, ?_, ?_⟩) | (refine ⟨⟨_, _⟩, Told.refl _, ?_, ?_⟩) | (refine ⟨⟨_, _, _⟩, Told.refl _, ?_, ?_⟩) | (refine ⟨⟨_, _, _, _⟩, Told.refl _, ?_, ?_⟩) | (refine ⟨⟨_, _, _, _, _⟩, Told.refl _, ?_, ?_⟩) | (refine ⟨(), Told.refl _, ?_, ?_⟩)) | (with_reducible intro _) | (refine fun (_ : Bool) => ?_)))
  · ((try dsimp only at *); (try simp only [decide_eq_true_eq, decide_eq_false_iff_not, beq_iff_eq, bne_iff_ne, beq_eq_false_iff_ne, bne_eq_false_iff_eq, ne_eq, Decidable.not_not, ge_iff_le, gt_iff_lt, Bool.not_eq_true', Bool.not_eq_false', Int.not_lt, Int.not_le, Nat.not_lt, Nat.not_le] at *))
    exact (sameRs_no fun h => by omega).symm
  refine AW.loop (I := fun k : Nat => ⟨26, [(0, aR a), (1, aR b), (12, .int .i64 a.length), (13, .int .i64 k)], []⟩) (fun k => k ≤ a.length ∧ ∀ j, j < k → a.getD j default = b.getD j default) (fun k => a.length - k) 0 ⟨Nat.zero_le _, fun j hj => by omega⟩ ?_ ?_
  · (repeat' first | (with_reducible exact trivial) | (with_reducible rfl) | (refine And.intro ?_ ?_) | (refine Need.mk ?_) | exact True.intro | (first | (refine ⟨_, Told.refl _, ?_, ?_⟩) | (refine ⟨⟨_, _⟩, Told.refl _, ?_, ?_⟩) | (refine ⟨⟨_, _, _⟩, Told.refl _, ?_, ?_⟩) | (refine ⟨⟨_, _, _, _⟩, Told.refl _, ?_, ?_⟩) | (refine ⟨⟨_, _, _, _, _⟩, Told.refl _, ?_, ?_⟩) | (refine ⟨(), Told.refl _, ?_, ?_⟩)) | (with_reducible intro _) | (refine fun (_ : Bool) => ?_)); rfl
  · intro k ⟨hk, he⟩
    ((refine AW.byF ‹_› ?_); (repeat' first | (with_reducible exact trivial) | (with_reducible rfl) | (refine And.intro ?_ ?_) | (refine Need.mk ?_) | exact True.intro | (first | (refine ⟨_, Told.refl _, ?_, ?_⟩) | (refine ⟨⟨_, _⟩, Told.refl _, ?_, ?_⟩) | (refine ⟨⟨_, _, _⟩, Told.refl _, ?_, ?_⟩) | (refine ⟨⟨_, _, _, _⟩, Told.refl _, ?_, ?_⟩) | (refine ⟨⟨_, _, _, _, _⟩, Told.refl _, ?_, ?_⟩) | (refine ⟨(), Told.refl _, ?_, ?_⟩)) | (with_reducible intro _) | (refine fun (_ : Bool) => ?_)))
    any_goals (intros; first | rfl | (((try dsimp only at *); (try simp only [decide_eq_true_eq, decide_eq_false_iff_not, beq_iff_eq, bne_iff_ne, beq_eq_false_iff_ne, bne_eq_false_iff_eq, ne_eq, Decidable.not_not, ge_iff_le, gt_iff_lt, Bool.not_eq_true', Bool.not_eq_false', Int.not_lt, Int.not_le, Nat.not_lt, Nat.not_le] at *)) <;> (try simp only [IntKind.wrap_i64] at *) <;> omega))
    · ((try dsimp only at *); (try simp only [decide_eq_true_eq, decide_eq_false_iff_not, beq_iff_eq, bne_iff_ne, beq_eq_false_iff_ne, bne_eq_false_iff_eq, ne_eq, Decidable.not_not, ge_iff_le, gt_iff_lt, Bool.not_eq_true', Bool.not_eq_false', Int.not_lt, Int.not_le, Nat.not_lt, Nat.not_le] at *))
      refine (sameRs_no fun h => ?_).symm
      have := h.2 k (by omega)
      simp_all [eqA, bval]
    · ((try dsimp only at *); (try simp only [decide_eq_true_eq, decide_eq_false_iff_not, beq_iff_eq, bne_iff_ne, beq_eq_false_iff_ne, bne_eq_false_iff_eq, ne_eq, Decidable.not_not, ge_iff_le, gt_iff_lt, Bool.not_eq_true', Bool.not_eq_false', Int.not_lt, Int.not_le, Nat.not_lt, Nat.not_le] at *))
      refine Exists.intro (k + 1) (And.intro ?_ (And.intro ?_ ?_))
      · refine ⟨by omega, fun j hj => ?_⟩
        by_cases e : j = k
        · subst e
          have : eqR (a.getD j default) (b.getD j default) = true := by simp_all [eqA, bval, eqR]
          exact (eqR_iff _ _).1 this
        · exact he j (by omega)
      · omega
      · (repeat' first | (with_reducible exact trivial) | (with_reducible rfl) | (refine And.intro ?_ ?_) | (refine Need.mk ?_) | exact True.intro | (first | (refine ⟨_, Told.refl _, ?_, ?_⟩) | (refine ⟨⟨_, _⟩, Told.refl _, ?_, ?_⟩) | (refine ⟨⟨_, _, _⟩, Told.refl _, ?_, ?_⟩) | (refine ⟨⟨_, _, _, _⟩, Told.refl _, ?_, ?_⟩) | (refine ⟨⟨_, _, _, _, _⟩, Told.refl _, ?_, ?_⟩) | (refine ⟨(), Told.refl _, ?_, ?_⟩)) | (with_reducible intro _) | (refine fun (_ : Bool) => ?_))
        (intros; first | rfl | (((try dsimp only at *); (try simp only [decide_eq_true_eq, decide_eq_false_iff_not, beq_iff_eq, bne_iff_ne, beq_eq_false_iff_ne, bne_eq_false_iff_eq, ne_eq, Decidable.not_not, ge_iff_le, gt_iff_lt, Bool.not_eq_true', Bool.not_eq_false', Int.not_lt, Int.not_le, Nat.not_lt, Nat.not_le] at *)) <;> (try simp only [IntKind.wrap_i64] at *) <;> omega))
    · ((try dsimp only at *); (try simp only [decide_eq_true_eq, decide_eq_false_iff_not, beq_iff_eq, bne_iff_ne, beq_eq_false_iff_ne, bne_eq_false_iff_eq, ne_eq, Decidable.not_not, ge_iff_le, gt_iff_lt, Bool.not_eq_true', Bool.not_eq_false', Int.not_lt, Int.not_le, Nat.not_lt, Nat.not_le] at *))
      obtain rfl : k = a.length := by omega
      exact ((sameRs_at a b).2 ⟨by omega, he⟩).symm
def saneT (t : Tbl) : Bool := decide (t.wmode = 0 ∨ t.wmode = 1) && (sameRs (canR t.spaces) t.spaces && ((ES true).canon t.cids && ((ES false).canon t.nots && EB.canon t.bfs)))
def SSaneT : Sp := ⟨Tbl, fun t => t.spaces.length ≤ 1000000 ∧ t.cids.length < 9223372036854775807 ∧ t.nots.length < 9223372036854775807 ∧ t.bfs.length < 9223372036854775807, fun t => [.agg (cT t)], fun t => .st (.sb (saneT t))⟩
theorem canR_len (l : List Rct) : (canR l).length ≤ l.length := by
  unfold canR
  refine Nat.le_trans (List.length_filter_le _ _) ?_
  refine Nat.le_trans (cuR_len _ _) ?_
  unfold sortR
  rw [List.length_mergeSort]
  exact List.length_filter_le _ _
set_option maxHeartbeats 4000000 in
theorem saneTC : SpOK Tryz.prog 18 SSaneT := fun (t : Tbl) ⟨h1, h2, h3, h4⟩ => by
  have hC : COK Tryz.prog (cfg [(39, SCanR), (38, SSameR), (40, SCanonS), (41, SCanon)]) := Ty.ty.cfg ⟨rectCanon, slEqualR, canon, canonB, trivial⟩
  have hl := canR_len t.spaces
  ((refine Fn.ofF hC Tryz.func18 Tryz.ntmps18 rfl rfl rfl ?_); (repeat' first | (with_reducible exact trivial) | (with_reducible rfl) | (refine And.intro ?_ ?_) | (refine Need.mk ?_) | exact True.intro | (first | (refine ⟨_, Told.refl _, ?_, ?_⟩) | (refine ⟨⟨_, _⟩, Told.refl _, ?_, ?_⟩) | (refine ⟨⟨_, _, _⟩, Told.refl _, ?_, ?_⟩) | (refine ⟨⟨_, _, _, _⟩, Told.refl _, ?_, ?_⟩) | (refine ⟨⟨_, _, _, _, _⟩, Told.refl _, ?_, ?_⟩) | (refine ⟨(), Told.refl _, ?_, ?_⟩)) | (with_reducible intro _) | (refine fun (_ : Bool) => ?_)))
  any_goals exact h1
  any_goals exact h2
  any_goals exact h3
  any_goals exact h4
  any_goals (show (canR t.spaces).length < 9223372036854775807; omega)
  all_goals unfold saneT
  all_goals simp_all
end Go.Abs.Rc
