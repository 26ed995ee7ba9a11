/- dest's tables: the check, one more, the table of a list. -/
import Derived.Test.YtjoplgehefncbaaDoorADestA
import Derived.Test.YtjoplgehefncbaaDoorAbsInsBf
set_option linter.all false
set_option maxRecDepth 100000
namespace Go.Abs.Dest
open Go.RowKit Go.Proofs Go.Abs.Tab
/-- A table's check. -/
def SCanon : Sp := ⟨List Bf, fun t => t.length < 9223372036854775807, fun t => [aB t], fun t => .st (.sb (EB.canon t))⟩
theorem getB {l : List Bf} {i : Nat} (h : i < l.length) : l.getD i default = l[i] := by simp [List.getD, h]
theorem canon_no {t : List Bf} {k : Nat} (hk : k < t.length) (h : ¬ EB.okAt t k = true) : false = EB.canon t := by
  cases hc : EB.canon t with
  | false => rfl
  | true => exact absurd (List.all_eq_true.1 hc k (List.mem_range.2 hk)) h
theorem canon_all {t : List Bf} (h : ∀ j, j < t.length → EB.okAt t j = true) : true = EB.canon t := (List.all_eq_true.2 fun j hj => h j (List.mem_range.1 hj)).symm
theorem bef_iff {x y : Bf} (hx : sane x = true) (hy : sane y = true) : EB.bef x y ↔ (ordB x y < 0 ∧ ¬ (x.n = y.n ∧ x.hi ≥ y.lo)) := by
  have r1 := rngB hx
  rw [ord_neg]
  show (x.n < y.n ∨ (x.n = y.n ∧ x.hi < y.lo)) ↔ ((x.n < y.n ∨ (x.n = y.n ∧ x.lo < y.lo)) ∧ _)
  omega
theorem ok_sane {t : List Bf} {k : Nat} (h : EB.okAt t k = true) : sane (t.getD k default) = true := ((Bool.and_eq_true _ _).mp h).1
theorem ok_at {t : List Bf} {k : Nat} (hk0 : 0 < k) (hp : sane (t.getD (k - 1) default) = true) : EB.okAt t k = true ↔ (sane (t.getD k default) = true ∧ ordB (t.getD (k - 1) default) (t.getD k default) < 0 ∧ ¬ ((t.getD (k - 1) default).n = (t.getD k default).n ∧ (t.getD k default).lo ≤ (t.getD (k - 1) default).hi) ∧ joins (t.getD (k - 1) default) (t.getD k default) = false) := by
  unfold En.okAt
  show (sane (t.getD k default) && (k == 0 || (decide (EB.bef (t.getD (k - 1) default) (t.getD k default)) && !joins (t.getD (k - 1) default) (t.getD k default)))) = true ↔ _
  rw [Bool.and_eq_true, show (k == 0) = false by rw [beq_eq_false_iff_ne]; omega, Bool.false_or, Bool.and_eq_true, decide_eq_true_eq, Bool.not_eq_true']
  constructor
  · rintro ⟨h1, h2, h3⟩
    have := (bef_iff hp h1).1 h2
    exact ⟨h1, this.1, this.2, h3⟩
  · rintro ⟨h1, h2, h3, h4⟩
    exact ⟨h1, (bef_iff hp h1).2 ⟨h2, h3⟩, h4⟩
theorem ok_zero {t : List Bf} : EB.okAt t 0 = true ↔ sane (t.getD 0 default) = true := by
  unfold En.okAt
  show (sane (t.getD 0 default) && (true || _)) = true ↔ _
  simp
theorem ok_next {t : List Bf} {k : Nat} (hok : ∀ j, j < k → EB.okAt t j = true) (h : EB.okAt t k = true) : ∀ j, j < k + 1 → EB.okAt t j = true := fun j hj => by
  by_cases e : j = k
  · exact e ▸ h
  · exact hok j (by omega)
set_option maxHeartbeats 4000000 in
theorem canonB : SpOK Tryd.prog 38 SCanon := fun (t : List Bf) ht => by
  have hC : COK Tryd.prog (cfg [(55, SBSane), (40, SOrd), (56, SJoins)]) := Ty.ty.cfg ⟨saneB, order, joinsB, trivial⟩
  have ht : t.length < 9223372036854775807 := ht
  ((refine Fn.ofF hC Tryd.func38 Tryd.ntmps38 rfl rfl rfl ?_); (repeat' first | (with_reducible exact trivial) | (with_reducible rfl) | (refine And.intro ?_ ?_) | (refine Need.mk ?_) | exact True.intro | (first | (refine ⟨_, Told.refl _, ?_, ?_⟩) | (refine ⟨⟨_, _⟩, Told.refl _, ?_, ?_⟩) | (refine ⟨⟨_, _, _⟩, Told.refl _, ?_, ?_⟩) | (refine ⟨⟨_, _, _, _⟩, Told.refl _, ?_, ?_⟩) | (refine ⟨⟨_, _, _, _, _⟩, Told.refl _, ?_, ?_⟩) | (refine ⟨(), Told.refl _, ?_, ?_⟩)) | (with_reducible intro _) | (refine fun (_ : Bool) => ?_)))
  refine AW.loop (I := fun k : Nat => ⟨59, [(0, aB t), (5, aB t), (6, .int .i64 t.length), (7, .int .i64 k)], []⟩) (fun k => k ≤ t.length ∧ ∀ j, j < k → EB.okAt t j = true) (fun k => t.length - k) 0 ⟨Nat.zero_le _, fun j hj => by omega⟩ ?_ ?_
  · (repeat' first | (with_reducible exact trivial) | (with_reducible rfl) | (refine And.intro ?_ ?_) | (refine Need.mk ?_) | exact True.intro | (first | (refine ⟨_, Told.refl _, ?_, ?_⟩) | (refine ⟨⟨_, _⟩, Told.refl _, ?_, ?_⟩) | (refine ⟨⟨_, _, _⟩, Told.refl _, ?_, ?_⟩) | (refine ⟨⟨_, _, _, _⟩, Told.refl _, ?_, ?_⟩) | (refine ⟨⟨_, _, _, _, _⟩, Told.refl _, ?_, ?_⟩) | (refine ⟨(), Told.refl _, ?_, ?_⟩)) | (with_reducible intro _) | (refine fun (_ : Bool) => ?_)); rfl
  · intro k ⟨hk, hok⟩
    rcases Nat.eq_zero_or_pos k with rfl | hk0
    · have hz := ok_zero (t := t)
      ((refine AW.byF ‹_› ?_); (repeat' first | (with_reducible exact trivial) | (with_reducible rfl) | (refine And.intro ?_ ?_) | (refine Need.mk ?_) | exact True.intro | (first | (refine ⟨_, Told.refl _, ?_, ?_⟩) | (refine ⟨⟨_, _⟩, Told.refl _, ?_, ?_⟩) | (refine ⟨⟨_, _, _⟩, Told.refl _, ?_, ?_⟩) | (refine ⟨⟨_, _, _, _⟩, Told.refl _, ?_, ?_⟩) | (refine ⟨⟨_, _, _, _, _⟩, Told.refl _, ?_, ?_⟩) | (refine ⟨(), Told.refl _, ?_, ?_⟩)) | (with_reducible intro _) | (refine fun (_ : Bool) => ?_)))
      any_goals (refine Exists.intro (1) (And.intro ?_ (And.intro ?_ ?_)); all_goals (repeat' first | (with_reducible exact trivial) | (with_reducible rfl) | (refine And.intro ?_ ?_) | (refine Need.mk ?_) | exact True.intro | (first | (refine ⟨_, Told.refl _, ?_, ?_⟩) | (refine ⟨⟨_, _⟩, Told.refl _, ?_, ?_⟩) | (refine ⟨⟨_, _, _⟩, Told.refl _, ?_, ?_⟩) | (refine ⟨⟨_, _, _, _⟩, Told.refl _, ?_, ?_⟩) | (refine ⟨⟨_, _, _, _, _⟩, Told.refl _, ?_, ?_⟩) | (refine ⟨(), Told.refl _, ?_, ?_⟩)) | (with_reducible intro _) | (refine fun (_ : Bool) => ?_)))
      all_goals ((try dsimp only at *); (try simp only [decide_eq_true_eq, decide_eq_false_iff_not, beq_iff_eq, bne_iff_ne, beq_eq_false_iff_ne, bne_eq_false_iff_eq, ne_eq, Decidable.not_not, ge_iff_le, gt_iff_lt, Bool.not_eq_true', Bool.not_eq_false', Int.not_lt, Int.not_le, Nat.not_lt, Nat.not_le] at *))
      all_goals try simp only [Int.toNat_natCast] at *
      all_goals first
        | omega
        | exact canon_no (k := 0) (by omega) (fun q => by have := hz.1 q; simp_all)
        | exact ok_next hok (hz.2 ‹_›) _ ‹_›
        | exact canon_all fun j hj => hok j (by omega)
        | (intros; first | rfl | (((try dsimp only at *); (try simp only [decide_eq_true_eq, decide_eq_false_iff_not, beq_iff_eq, bne_iff_ne, beq_eq_false_iff_ne, bne_eq_false_iff_eq, ne_eq, Decidable.not_not, ge_iff_le, gt_iff_lt, Bool.not_eq_true', Bool.not_eq_false', Int.not_lt, Int.not_le, Nat.not_lt, Nat.not_le] at *)) <;> (try simp only [IntKind.wrap_i64] at *) <;> omega))
    · have e1 : IntKind.i64.wrap ((k : Int) - 1) = ((k - 1 : Nat) : Int) := by rw [iw (by omega) (by omega)]; omega
      have hp := ok_sane (hok (k - 1) (by omega))
      have hiff := ok_at hk0 hp
      ((refine AW.byF ‹_› ?_); (repeat' first | (with_reducible exact trivial) | (with_reducible rfl) | (refine And.intro ?_ ?_) | (refine Need.mk ?_) | exact True.intro | (first | (refine ⟨_, Told.refl _, ?_, ?_⟩) | (refine ⟨⟨_, _⟩, Told.refl _, ?_, ?_⟩) | (refine ⟨⟨_, _, _⟩, Told.refl _, ?_, ?_⟩) | (refine ⟨⟨_, _, _, _⟩, Told.refl _, ?_, ?_⟩) | (refine ⟨⟨_, _, _, _, _⟩, Told.refl _, ?_, ?_⟩) | (refine ⟨(), Told.refl _, ?_, ?_⟩)) | (with_reducible intro _) | (refine fun (_ : Bool) => ?_)))
      any_goals (refine Exists.intro (k + 1) (And.intro ?_ (And.intro ?_ ?_)); all_goals (repeat' first | (with_reducible exact trivial) | (with_reducible rfl) | (refine And.intro ?_ ?_) | (refine Need.mk ?_) | exact True.intro | (first | (refine ⟨_, Told.refl _, ?_, ?_⟩) | (refine ⟨⟨_, _⟩, Told.refl _, ?_, ?_⟩) | (refine ⟨⟨_, _, _⟩, Told.refl _, ?_, ?_⟩) | (refine ⟨⟨_, _, _, _⟩, Told.refl _, ?_, ?_⟩) | (refine ⟨⟨_, _, _, _, _⟩, Told.refl _, ?_, ?_⟩) | (refine ⟨(), Told.refl _, ?_, ?_⟩)) | (with_reducible intro _) | (refine fun (_ : Bool) => ?_)))
      all_goals ((try dsimp only at *); (try simp only [decide_eq_true_eq, decide_eq_false_iff_not, beq_iff_eq, bne_iff_ne, beq_eq_false_iff_ne, bne_eq_false_iff_eq, ne_eq, Decidable.not_not, ge_iff_le, gt_iff_lt, Bool.not_eq_true', Bool.not_eq_false', Int.not_lt, Int.not_le, Nat.not_lt, Nat.not_le] at *))
      all_goals simp only [e1, Int.toNat_natCast] at *
      all_goals first
        | omega
        | exact canon_no (k := k) (by omega) (fun q => by have := hiff.1 q; first | omega | simp_all)
        | exact ok_next hok (hiff.2 ⟨‹_›, ‹_›, by omega, ‹_›⟩) _ ‹_›
        | exact canon_all fun j hj => hok j (by omega)
        | assumption
        | (intros; first | rfl | (((try dsimp only at *); (try simp only [decide_eq_true_eq, decide_eq_false_iff_not, beq_iff_eq, bne_iff_ne, beq_eq_false_iff_ne, bne_eq_false_iff_eq, ne_eq, Decidable.not_not, ge_iff_le, gt_iff_lt, Bool.not_eq_true', Bool.not_eq_false', Int.not_lt, Int.not_le, Nat.not_lt, Nat.not_le] at *)) <;> (try simp only [IntKind.wrap_i64] at *) <;> omega))
end Go.Abs.Dest
