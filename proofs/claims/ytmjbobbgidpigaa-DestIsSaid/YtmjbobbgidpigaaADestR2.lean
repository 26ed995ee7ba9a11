/- The document's answer for layer 8: the last one's, tables, borders. -/
import Derived.Test.YtmjbobbgidpigaaADestOrder
set_option linter.all false
set_option maxRecDepth 100000
namespace Go.Abs.Dest
open Go.RowKit Go.Proofs Go.Abs.Tab
def SLastR : Sp := ⟨List Bf × Int × Int, fun (l, n, v) => l.length < 9223372036854775807, fun (l, n, v) => [aB l, aCode n v], fun (l, n, v) => rO (EB.last l n v)⟩
theorem or_some {α : Type} {o p : Option α} (h : o.isSome = true) : o.or p = o := by cases o; cases h; rfl
theorem or_none {α : Type} {o p : Option α} (h : o.isSome = false) : o.or p = p := by cases o; rfl; cases h
set_option maxHeartbeats 4000000 in
theorem rlast : SpOK Try.prog 21 SLastR := fun ⟨l, n, v⟩ hl => by
  have hC : COK Try.prog (cfg [(19, STo)]) := Ty.ty.cfg ⟨rto, trivial⟩
  have hl : l.length < 9223372036854775807 := hl
  ((refine Fn.ofF hC Try.func21 Try.ntmps21 rfl rfl rfl ?_); (repeat' first | (with_reducible exact trivial) | (with_reducible rfl) | (refine And.intro ?_ ?_) | (refine Need.mk ?_) | exact True.intro | (first | (refine ⟨_, Told.refl _, ?_, ?_⟩) | (refine ⟨⟨_, _⟩, Told.refl _, ?_, ?_⟩) | (refine ⟨⟨_, _, _⟩, Told.refl _, ?_, ?_⟩) | (refine ⟨⟨_, _, _, _⟩, Told.refl _, ?_, ?_⟩) | (refine ⟨⟨_, _, _, _, _⟩, Told.refl _, ?_, ?_⟩) | (refine ⟨(), Told.refl _, ?_, ?_⟩)) | (with_reducible intro _) | (refine fun (_ : Bool) => ?_)))
  refine AW.loop (I := fun k : Nat => ⟨27, [(0, aB l), (3, .ptr 0 0), (6, .int .i64 ((k : Int) - 1))], [.box 26 [.int .i64 n, .int .i64 v]]⟩) (fun k => k ≤ l.length ∧ EB.last l n v = EB.last (l.take k) n v) (fun k => k) l.length ⟨Nat.le_refl _, by rw [List.take_length]⟩ ?_ ?_
  · (repeat' first | (with_reducible exact trivial) | (with_reducible rfl) | (refine And.intro ?_ ?_) | (refine Need.mk ?_) | exact True.intro | (first | (refine ⟨_, Told.refl _, ?_, ?_⟩) | (refine ⟨⟨_, _⟩, Told.refl _, ?_, ?_⟩) | (refine ⟨⟨_, _, _⟩, Told.refl _, ?_, ?_⟩) | (refine ⟨⟨_, _, _, _⟩, Told.refl _, ?_, ?_⟩) | (refine ⟨⟨_, _, _, _, _⟩, Told.refl _, ?_, ?_⟩) | (refine ⟨(), Told.refl _, ?_, ?_⟩)) | (with_reducible intro _) | (refine fun (_ : Bool) => ?_))
    all_goals first | rfl | exact iw (by omega) (by omega)
  · intro k ⟨hk, he⟩
    rcases k with _ | m
    · have hd : decide (((0 : Nat) : Int) - 1 ≥ 0) = false := by decide
      have he : EB.last l n v = none := he
      ((refine AW.byF ‹_› ?_); (repeat' first | (with_reducible exact trivial) | (with_reducible rfl) | (refine And.intro ?_ ?_) | (refine Need.mk ?_) | exact True.intro | (first | (refine ⟨_, Told.refl _, ?_, ?_⟩) | (refine ⟨⟨_, _⟩, Told.refl _, ?_, ?_⟩) | (refine ⟨⟨_, _, _⟩, Told.refl _, ?_, ?_⟩) | (refine ⟨⟨_, _, _, _⟩, Told.refl _, ?_, ?_⟩) | (refine ⟨⟨_, _, _, _, _⟩, Told.refl _, ?_, ?_⟩) | (refine ⟨(), Told.refl _, ?_, ?_⟩)) | (with_reducible intro _) | (refine fun (_ : Bool) => ?_)))
      all_goals first | (exact absurd ‹decide (((0 : Nat) : Int) - 1 ≥ 0) = true› (by rw [hd]; decide)) | skip
      all_goals (rw [he]; rfl)
    · have hd : decide (((m + 1 : Nat) : Int) - 1 ≥ 0) = true := decide_eq_true (by omega)
      have e : ((m + 1 : Nat) : Int) - 1 = (m : Int) := by omega
      have hw := iw (n := (m : Int) - 1) (by omega) (by omega)
      have hs : EB.last l n v = (EB.to (l.getD m default) n v).or (EB.last (l.take m) n v) := by rw [he, List.take_succ_eq_append_getElem (by omega), EB.last_snoc, getB (by omega)]
      ((refine AW.byF ‹_› ?_); (repeat' first | (with_reducible exact trivial) | (with_reducible rfl) | (refine And.intro ?_ ?_) | (refine Need.mk ?_) | exact True.intro | (first | (refine ⟨_, Told.refl _, ?_, ?_⟩) | (refine ⟨⟨_, _⟩, Told.refl _, ?_, ?_⟩) | (refine ⟨⟨_, _, _⟩, Told.refl _, ?_, ?_⟩) | (refine ⟨⟨_, _, _, _⟩, Told.refl _, ?_, ?_⟩) | (refine ⟨⟨_, _, _, _, _⟩, Told.refl _, ?_, ?_⟩) | (refine ⟨(), Told.refl _, ?_, ?_⟩)) | (with_reducible intro _) | (refine fun (_ : Bool) => ?_)))
      all_goals first | (exact absurd ‹decide (((m + 1 : Nat) : Int) - 1 ≥ 0) = false› (by rw [hd]; decide)) | skip
      any_goals (refine Exists.intro (m) (And.intro ?_ (And.intro ?_ ?_)); all_goals (repeat' first | (with_reducible exact trivial) | (with_reducible rfl) | (refine And.intro ?_ ?_) | (refine Need.mk ?_) | exact True.intro | (first | (refine ⟨_, Told.refl _, ?_, ?_⟩) | (refine ⟨⟨_, _⟩, Told.refl _, ?_, ?_⟩) | (refine ⟨⟨_, _, _⟩, Told.refl _, ?_, ?_⟩) | (refine ⟨⟨_, _, _, _⟩, Told.refl _, ?_, ?_⟩) | (refine ⟨⟨_, _, _, _, _⟩, Told.refl _, ?_, ?_⟩) | (refine ⟨(), Told.refl _, ?_, ?_⟩)) | (with_reducible intro _) | (refine fun (_ : Bool) => ?_)))
      all_goals try simp only [e, hw, Int.toNat_natCast] at *
      all_goals first
        | omega
        | (have q : (EB.to (l.getD m default) n v).isSome = true := by assumption
           rw [hs, or_some q]
           first | done | exact q.symm)
        | (have q : (EB.to (l.getD m default) n v).isSome = false := by assumption
           exact hs.trans (or_none q))
def SFindR : Sp := ⟨List Bf × Int × Int, fun (t, n, v) => t.length < 9223372036854775807, fun (t, n, v) => [aB t, aCode n v], fun (t, n, v) => rO (EB.find t n v)⟩
theorem ok_at' {t : List Bf} {k : Nat} (hk0 : 0 < k) (hp : sane (t.getD (k - 1) default) = true) : EB.okAt t k = true ↔ (sane (t.getD k default) = true ∧ ¬ (t.getD k default).n < (t.getD (k - 1) default).n ∧ ¬ ((t.getD k default).n = (t.getD (k - 1) default).n ∧ (t.getD k default).lo ≤ (t.getD (k - 1) default).hi) ∧ joins (t.getD (k - 1) default) (t.getD k default) = false) := by
  have hne : (k == 0) = false := by simp; omega
  unfold En.okAt
  rw [hne, Bool.false_or, Bool.and_eq_true, Bool.and_eq_true, decide_eq_true_eq]
  show sane _ = true ∧ (((t.getD (k - 1) default).n < (t.getD k default).n ∨ ((t.getD (k - 1) default).n = (t.getD k default).n ∧ (t.getD (k - 1) default).hi < (t.getD k default).lo)) ∧ (!joins _ _) = true) ↔ _
  rw [Bool.not_eq_true']
  constructor
  · rintro ⟨h1, h2, h3⟩
    exact ⟨h1, by omega, by omega, h3⟩
  · rintro ⟨h1, h2, h3, h4⟩
    exact ⟨h1, by omega, h4⟩
set_option maxHeartbeats 8000000 in
theorem rcanon : SpOK Try.prog 25 SCanon := fun (t : List Bf) ht => by
  have hC : COK Try.prog (cfg [(23, SBSane), (42, SJoins)]) := Ty.ty.cfg ⟨rsane, rjoins, trivial⟩
  have ht : t.length < 9223372036854775807 := ht
  ((refine Fn.ofF hC Try.func25 Try.ntmps25 rfl rfl rfl ?_); (repeat' first | (with_reducible exact trivial) | (with_reducible rfl) | (refine And.intro ?_ ?_) | (refine Need.mk ?_) | exact True.intro | (first | (refine ⟨_, Told.refl _, ?_, ?_⟩) | (refine ⟨⟨_, _⟩, Told.refl _, ?_, ?_⟩) | (refine ⟨⟨_, _, _⟩, Told.refl _, ?_, ?_⟩) | (refine ⟨⟨_, _, _, _⟩, Told.refl _, ?_, ?_⟩) | (refine ⟨⟨_, _, _, _, _⟩, Told.refl _, ?_, ?_⟩) | (refine ⟨(), Told.refl _, ?_, ?_⟩)) | (with_reducible intro _) | (refine fun (_ : Bool) => ?_)))
  refine AW.loop (I := fun k : Nat => ⟨72, [(0, aB t), (3, .int .i64 k)], []⟩) (fun k => k ≤ t.length ∧ ∀ j, j < k → EB.okAt t j = true) (fun k => t.length - k) 0 ⟨Nat.zero_le _, fun j hj => by omega⟩ ?_ ?_
  · (repeat' first | (with_reducible exact trivial) | (with_reducible rfl) | (refine And.intro ?_ ?_) | (refine Need.mk ?_) | exact True.intro | (first | (refine ⟨_, Told.refl _, ?_, ?_⟩) | (refine ⟨⟨_, _⟩, Told.refl _, ?_, ?_⟩) | (refine ⟨⟨_, _, _⟩, Told.refl _, ?_, ?_⟩) | (refine ⟨⟨_, _, _, _⟩, Told.refl _, ?_, ?_⟩) | (refine ⟨⟨_, _, _, _, _⟩, Told.refl _, ?_, ?_⟩) | (refine ⟨(), Told.refl _, ?_, ?_⟩)) | (with_reducible intro _) | (refine fun (_ : Bool) => ?_))
    all_goals rfl
  · intro k ⟨hk, hok⟩
    rcases Nat.lt_or_ge k t.length with hlt | hge
    · have hd : decide ((k : Int) < (t.length : Int)) = true := decide_eq_true (by omega)
      have hw := iw (n := (k : Int) + 1) (by omega) (by omega)
      rcases Nat.eq_zero_or_pos k with rfl | hk0
      · have hz := ok_zero (t := t)
        ((refine AW.byF ‹_› ?_); (repeat' first | (with_reducible exact trivial) | (with_reducible rfl) | (refine And.intro ?_ ?_) | (refine Need.mk ?_) | exact True.intro | (first | (refine ⟨_, Told.refl _, ?_, ?_⟩) | (refine ⟨⟨_, _⟩, Told.refl _, ?_, ?_⟩) | (refine ⟨⟨_, _, _⟩, Told.refl _, ?_, ?_⟩) | (refine ⟨⟨_, _, _, _⟩, Told.refl _, ?_, ?_⟩) | (refine ⟨⟨_, _, _, _, _⟩, Told.refl _, ?_, ?_⟩) | (refine ⟨(), Told.refl _, ?_, ?_⟩)) | (with_reducible intro _) | (refine fun (_ : Bool) => ?_)))
        all_goals first | (exact absurd ‹decide (((0 : Nat) : Int) < (t.length : Int)) = false› (by rw [hd]; decide)) | skip
        any_goals (refine Exists.intro (1) (And.intro ?_ (And.intro ?_ ?_)); all_goals (repeat' first | (with_reducible exact trivial) | (with_reducible rfl) | (refine And.intro ?_ ?_) | (refine Need.mk ?_) | exact True.intro | (first | (refine ⟨_, Told.refl _, ?_, ?_⟩) | (refine ⟨⟨_, _⟩, Told.refl _, ?_, ?_⟩) | (refine ⟨⟨_, _, _⟩, Told.refl _, ?_, ?_⟩) | (refine ⟨⟨_, _, _, _⟩, Told.refl _, ?_, ?_⟩) | (refine ⟨⟨_, _, _, _, _⟩, Told.refl _, ?_, ?_⟩) | (refine ⟨(), Told.refl _, ?_, ?_⟩)) | (with_reducible intro _) | (refine fun (_ : Bool) => ?_)))
        all_goals ((try dsimp only at *); (try simp only [decide_eq_true_eq, decide_eq_false_iff_not, beq_iff_eq, bne_iff_ne, beq_eq_false_iff_ne, bne_eq_false_iff_eq, ne_eq, Decidable.not_not, ge_iff_le, gt_iff_lt, Bool.not_eq_true', Bool.not_eq_false', Int.not_lt, Int.not_le, Nat.not_lt, Nat.not_le] at *))
        all_goals try simp only [Int.toNat_natCast, hw] at *
        all_goals first
          | omega
          | exact canon_no (k := 0) (by omega) (fun q => by have := hz.1 q; simp_all)
          | exact ok_next hok (hz.2 ‹_›) _ ‹_›
          | (intros; first | rfl | (((try dsimp only at *); (try simp only [decide_eq_true_eq, decide_eq_false_iff_not, beq_iff_eq, bne_iff_ne, beq_eq_false_iff_ne, bne_eq_false_iff_eq, ne_eq, Decidable.not_not, ge_iff_le, gt_iff_lt, Bool.not_eq_true', Bool.not_eq_false', Int.not_lt, Int.not_le, Nat.not_lt, Nat.not_le] at *)) <;> (try simp only [IntKind.wrap_i64] at *) <;> omega))
      · have e1 : IntKind.i64.wrap ((k : Int) - 1) = ((k - 1 : Nat) : Int) := by rw [iw (by omega) (by omega)]; omega
        have hp := ok_sane (hok (k - 1) (by omega))
        have hiff := ok_at' hk0 hp
        ((refine AW.byF ‹_› ?_); (repeat' first | (with_reducible exact trivial) | (with_reducible rfl) | (refine And.intro ?_ ?_) | (refine Need.mk ?_) | exact True.intro | (first | (refine ⟨_, Told.refl _, ?_, ?_⟩) | (refine ⟨⟨_, _⟩, Told.refl _, ?_, ?_⟩) | (refine ⟨⟨_, _, _⟩, Told.refl _, ?_, ?_⟩) | (refine ⟨⟨_, _, _, _⟩, Told.refl _, ?_, ?_⟩) | (refine ⟨⟨_, _, _, _, _⟩, Told.refl _, ?_, ?_⟩) | (refine ⟨(), Told.refl _, ?_, ?_⟩)) | (with_reducible intro _) | (refine fun (_ : Bool) => ?_)))
        all_goals first | (exact absurd ‹decide ((k : Int) < (t.length : Int)) = false› (by rw [hd]; decide)) | skip
        any_goals (refine Exists.intro (k + 1) (And.intro ?_ (And.intro ?_ ?_)); all_goals (repeat' first | (with_reducible exact trivial) | (with_reducible rfl) | (refine And.intro ?_ ?_) | (refine Need.mk ?_) | exact True.intro | (first | (refine ⟨_, Told.refl _, ?_, ?_⟩) | (refine ⟨⟨_, _⟩, Told.refl _, ?_, ?_⟩) | (refine ⟨⟨_, _, _⟩, Told.refl _, ?_, ?_⟩) | (refine ⟨⟨_, _, _, _⟩, Told.refl _, ?_, ?_⟩) | (refine ⟨⟨_, _, _, _, _⟩, Told.refl _, ?_, ?_⟩) | (refine ⟨(), Told.refl _, ?_, ?_⟩)) | (with_reducible intro _) | (refine fun (_ : Bool) => ?_)))
        all_goals ((try dsimp only at *); (try simp only [decide_eq_true_eq, decide_eq_false_iff_not, beq_iff_eq, bne_iff_ne, beq_eq_false_iff_ne, bne_eq_false_iff_eq, ne_eq, Decidable.not_not, ge_iff_le, gt_iff_lt, Bool.not_eq_true', Bool.not_eq_false', Int.not_lt, Int.not_le, Nat.not_lt, Nat.not_le] at *))
        all_goals try simp only [e1, hw, Int.toNat_natCast] at *
        all_goals first
          | omega
          | exact hp
          | assumption
          | exact canon_no (k := k) (by omega) (fun q => by have := hiff.1 q; first | omega | simp_all)
          | (refine ok_next hok (hiff.2 ⟨‹_›, by omega, by omega, ?_⟩) _ ‹_›; first | assumption | (simp_all; done))
          | skip
    · obtain rfl : k = t.length := by omega
      have hd : decide ((t.length : Int) < (t.length : Int)) = false := decide_eq_false (by omega)
      ((refine AW.byF ‹_› ?_); (repeat' first | (with_reducible exact trivial) | (with_reducible rfl) | (refine And.intro ?_ ?_) | (refine Need.mk ?_) | exact True.intro | (first | (refine ⟨_, Told.refl _, ?_, ?_⟩) | (refine ⟨⟨_, _⟩, Told.refl _, ?_, ?_⟩) | (refine ⟨⟨_, _, _⟩, Told.refl _, ?_, ?_⟩) | (refine ⟨⟨_, _, _, _⟩, Told.refl _, ?_, ?_⟩) | (refine ⟨⟨_, _, _, _, _⟩, Told.refl _, ?_, ?_⟩) | (refine ⟨(), Told.refl _, ?_, ?_⟩)) | (with_reducible intro _) | (refine fun (_ : Bool) => ?_)))
      all_goals first | (exact absurd ‹decide ((t.length : Int) < (t.length : Int)) = true› (by rw [hd]; decide)) | skip
      exact canon_all hok
theorem rfind : SpOK Try.prog 22 SFindR := fun ⟨t, n, v⟩ hl => by
  have hC : COK Try.prog (cfg [(25, SCanon), (21, SLastR)]) := Ty.ty.cfg ⟨rcanon, rlast, trivial⟩
  have hl : t.length < 9223372036854775807 := hl
  have hy : EB.canon t = true → EB.find t n v = EB.last t n v := fun h => by
    rw [find_yes h]
    exact (last_tab ((EB.canon_iff t).1 h) n v).symm
  ((refine Fn.ofF hC Try.func22 Try.ntmps22 rfl rfl rfl ?_); (repeat' first | (with_reducible exact trivial) | (with_reducible rfl) | (refine And.intro ?_ ?_) | (refine Need.mk ?_) | exact True.intro | (first | (refine ⟨_, Told.refl _, ?_, ?_⟩) | (refine ⟨⟨_, _⟩, Told.refl _, ?_, ?_⟩) | (refine ⟨⟨_, _, _⟩, Told.refl _, ?_, ?_⟩) | (refine ⟨⟨_, _, _, _⟩, Told.refl _, ?_, ?_⟩) | (refine ⟨⟨_, _, _, _, _⟩, Told.refl _, ?_, ?_⟩) | (refine ⟨(), Told.refl _, ?_, ?_⟩)) | (with_reducible intro _) | (refine fun (_ : Bool) => ?_)))
  · exact hl
  · rename_i h
    rw [find_no (by simpa using h)]
    rfl
  · rename_i h
    rw [find_no (by simpa using h)]
    rfl
  · exact hl
  all_goals rw [hy (by simpa using ‹(!EB.canon t) = false›)]
def SPut : Sp := ⟨List Int × Int, fun (l, v) => l.length ≤ 1000000000, fun (l, v) => [aI l, .int .i64 v], fun (l, v) => .row 3 1 (insU l v).length (els ci (insU l v))⟩
/-- What is behind, once done or not. -/
def restU (d : Bool) (l : List Int) (v : Int) : List Int := cond d l (insU l v)
set_option maxHeartbeats 4000000 in
theorem rput : SpOK Try.prog 51 SPut := fun ⟨l, v⟩ hl => by
  have hC := base
  have hl : l.length ≤ 1000000000 := hl
  ((refine Fn.ofF hC Try.func51 Try.ntmps51 rfl rfl rfl ?_); (repeat' first | (with_reducible exact trivial) | (with_reducible rfl) | (refine And.intro ?_ ?_) | (refine Need.mk ?_) | exact True.intro | (first | (refine ⟨_, Told.refl _, ?_, ?_⟩) | (refine ⟨⟨_, _⟩, Told.refl _, ?_, ?_⟩) | (refine ⟨⟨_, _, _⟩, Told.refl _, ?_, ?_⟩) | (refine ⟨⟨_, _, _, _⟩, Told.refl _, ?_, ?_⟩) | (refine ⟨⟨_, _, _, _, _⟩, Told.refl _, ?_, ?_⟩) | (refine ⟨(), Told.refl _, ?_, ?_⟩)) | (with_reducible intro _) | (refine fun (_ : Bool) => ?_)))
  refine AW.loop (I := fun x : Nat × List Int × Bool => ⟨48, [(0, aI l), (1, .int .i64 v), (5, .own 0), (6, .sb x.2.2), (7, .int .i64 x.1)], [.row 3 1 x.2.1.length (els ci x.2.1)]⟩) (fun x => x.1 ≤ l.length ∧ x.2.1.length ≤ x.1 + cond x.2.2 1 0 ∧ insU l v = x.2.1 ++ restU x.2.2 (l.drop x.1) v) (fun x => l.length - x.1) (0, [], false) ⟨Nat.zero_le _, Nat.zero_le _, rfl⟩ ?_ ?_
  · (repeat' first | (with_reducible exact trivial) | (with_reducible rfl) | (refine And.intro ?_ ?_) | (refine Need.mk ?_) | exact True.intro | (first | (refine ⟨_, Told.refl _, ?_, ?_⟩) | (refine ⟨⟨_, _⟩, Told.refl _, ?_, ?_⟩) | (refine ⟨⟨_, _, _⟩, Told.refl _, ?_, ?_⟩) | (refine ⟨⟨_, _, _, _⟩, Told.refl _, ?_, ?_⟩) | (refine ⟨⟨_, _, _, _, _⟩, Told.refl _, ?_, ?_⟩) | (refine ⟨(), Told.refl _, ?_, ?_⟩)) | (with_reducible intro _) | (refine fun (_ : Bool) => ?_))
    all_goals rfl
  · rintro ⟨k, out, d⟩ ⟨hk, ho, he⟩
    dsimp only at hk ho he ⊢
    have ho' : out.length ≤ k + 1 := by cases d <;> simp at ho <;> omega
    rcases Nat.lt_or_ge k l.length with hlt | hge
    · have hd : decide ((k : Int) < (l.length : Int)) = true := decide_eq_true (by omega)
      have hw := iw (n := (k : Int) + 1) (by omega) (by omega)
      obtain ⟨x, hx⟩ : ∃ x, x = l.getD k default := ⟨_, rfl⟩
      have hdr : l.drop k = x :: l.drop (k + 1) := by rw [hx, getD_at hlt]; exact List.drop_eq_getElem_cons hlt
      rw [hdr] at he
      have hlx : l.getD ((k : Int)).toNat default = x := by rw [Int.toNat_natCast]; exact hx.symm
      have hsnoc : ∀ (o : List Int) (n : Nat) (y : Int) (el : Nat → List AV), n = o.length → y = x → (∀ i, i < o.length → el i = ci (o.getD i default)) → ∀ i, i < (o ++ [x]).length → catEl n el (elt [ci y]) i = ci ((o ++ [x]).getD i default) := fun o n y el hn hy hel => by
        subst hy
        exact cat_snoc' hn hel
      ((refine AW.byF ‹_› ?_); (repeat' first | (with_reducible exact trivial) | (with_reducible rfl) | (refine And.intro ?_ ?_) | (refine Need.mk ?_) | exact True.intro | (first | (refine ⟨_, Told.refl _, ?_, ?_⟩) | (refine ⟨⟨_, _⟩, Told.refl _, ?_, ?_⟩) | (refine ⟨⟨_, _, _⟩, Told.refl _, ?_, ?_⟩) | (refine ⟨⟨_, _, _, _⟩, Told.refl _, ?_, ?_⟩) | (refine ⟨⟨_, _, _, _, _⟩, Told.refl _, ?_, ?_⟩) | (refine ⟨(), Told.refl _, ?_, ?_⟩)) | (with_reducible intro _) | (refine fun (_ : Bool) => ?_)))
      all_goals first | (exact absurd ‹decide ((k : Int) < (l.length : Int)) = false› (by rw [hd]; decide)) | skip
      all_goals first | omega | (dsimp only; omega) | skip
      · have q : x = v := by rw [← hlx]; simpa using ‹(l.getD (k : Int).toNat default == v) = true›
        refine Exists.intro (k + 1, out ++ [x], true) (And.intro ?_ (And.intro ?_ ?_))
        · refine ⟨by dsimp only; omega, by dsimp only; rw [List.length_append]; show out.length + 1 ≤ k + 1 + 1; omega, ?_⟩
          show insU l v = (out ++ [x]) ++ l.drop (k + 1)
          rw [he, List.append_assoc]
          cases d
          · show out ++ insU (x :: l.drop (k + 1)) v = _
            unfold insU
            rw [if_pos q]
            rfl
          · rfl
        · dsimp only
          omega
        · (repeat' first | (with_reducible exact trivial) | (with_reducible rfl) | (refine And.intro ?_ ?_) | (refine Need.mk ?_) | exact True.intro | (first | (refine ⟨_, Told.refl _, ?_, ?_⟩) | (refine ⟨⟨_, _⟩, Told.refl _, ?_, ?_⟩) | (refine ⟨⟨_, _, _⟩, Told.refl _, ?_, ?_⟩) | (refine ⟨⟨_, _, _, _⟩, Told.refl _, ?_, ?_⟩) | (refine ⟨⟨_, _, _, _, _⟩, Told.refl _, ?_, ?_⟩) | (refine ⟨(), Told.refl _, ?_, ?_⟩)) | (with_reducible intro _) | (refine fun (_ : Bool) => ?_))
          · simp
          · rename_i i hi
            exact els_of ci_emb (n := 0) (hsnoc out _ _ _ rfl hlx (fun _ _ => rfl)) i hi
          · rw [hw]
            dsimp only
            omega
      · have q : ¬ x = v := by rw [← hlx]; simpa using ‹(l.getD (k : Int).toNat default == v) = false›
        have qd : d = false := by simpa using ‹(!d) = true›
        have qg : x > v := by rw [← hlx]; simpa using ‹decide (l.getD (k : Int).toNat default > v) = true›
        subst qd
        refine Exists.intro (k + 1, out ++ [v] ++ [x], true) (And.intro ?_ (And.intro ?_ ?_))
        · refine ⟨by dsimp only; omega, ?_, ?_⟩
          · dsimp only
            rw [List.length_append, List.length_append]
            show out.length + 1 + 1 ≤ _
            have : out.length ≤ k + 0 := ho
            show _ ≤ k + 1 + 1
            omega
          show insU l v = (out ++ [v] ++ [x]) ++ l.drop (k + 1)
          rw [he]
          show out ++ insU (x :: l.drop (k + 1)) v = _
          unfold insU
          rw [if_neg q, if_pos qg]
          simp
        · dsimp only
          omega
        · (repeat' first | (with_reducible exact trivial) | (with_reducible rfl) | (refine And.intro ?_ ?_) | (refine Need.mk ?_) | exact True.intro | (first | (refine ⟨_, Told.refl _, ?_, ?_⟩) | (refine ⟨⟨_, _⟩, Told.refl _, ?_, ?_⟩) | (refine ⟨⟨_, _, _⟩, Told.refl _, ?_, ?_⟩) | (refine ⟨⟨_, _, _, _⟩, Told.refl _, ?_, ?_⟩) | (refine ⟨⟨_, _, _, _, _⟩, Told.refl _, ?_, ?_⟩) | (refine ⟨(), Told.refl _, ?_, ?_⟩)) | (with_reducible intro _) | (refine fun (_ : Bool) => ?_))
          · simp
          · rename_i i hi
            exact els_of ci_emb (n := 0) (hsnoc (out ++ [v]) _ _ _ (by simp) hlx (cat_snoc' rfl (fun _ _ => rfl))) i hi
          · rw [hw]
            dsimp only
            omega
      · have q : ¬ x = v := by rw [← hlx]; simpa using ‹(l.getD (k : Int).toNat default == v) = false›
        have qd : d = false := by simpa using ‹(!d) = true›
        have qg : ¬ x > v := by rw [← hlx]; simpa using ‹decide (l.getD (k : Int).toNat default > v) = false›
        subst qd
        refine Exists.intro (k + 1, out ++ [x], false) (And.intro ?_ (And.intro ?_ ?_))
        · refine ⟨by dsimp only; omega, by dsimp only; rw [List.length_append]; show out.length + 1 ≤ k + 1 + 0; have : out.length ≤ k + 0 := ho; omega, ?_⟩
          show insU l v = (out ++ [x]) ++ insU (l.drop (k + 1)) v
          rw [he]
          show out ++ insU (x :: l.drop (k + 1)) v = _
          rw [show insU (x :: l.drop (k + 1)) v = x :: insU (l.drop (k + 1)) v by conv => lhs; unfold insU; rw [if_neg q, if_neg qg]]
          simp
        · dsimp only
          omega
        · (repeat' first | (with_reducible exact trivial) | (with_reducible rfl) | (refine And.intro ?_ ?_) | (refine Need.mk ?_) | exact True.intro | (first | (refine ⟨_, Told.refl _, ?_, ?_⟩) | (refine ⟨⟨_, _⟩, Told.refl _, ?_, ?_⟩) | (refine ⟨⟨_, _, _⟩, Told.refl _, ?_, ?_⟩) | (refine ⟨⟨_, _, _, _⟩, Told.refl _, ?_, ?_⟩) | (refine ⟨⟨_, _, _, _, _⟩, Told.refl _, ?_, ?_⟩) | (refine ⟨(), Told.refl _, ?_, ?_⟩)) | (with_reducible intro _) | (refine fun (_ : Bool) => ?_))
          · simp
          · rename_i i hi
            exact els_of ci_emb (n := 0) (hsnoc out _ _ _ rfl hlx (fun _ _ => rfl)) i hi
          · rw [hw]
            dsimp only
            omega
      · have q : ¬ x = v := by rw [← hlx]; simpa using ‹(l.getD (k : Int).toNat default == v) = false›
        have qd : d = true := by simpa using ‹(!d) = false›
        subst qd
        refine Exists.intro (k + 1, out ++ [x], true) (And.intro ?_ (And.intro ?_ ?_))
        · refine ⟨by dsimp only; omega, by dsimp only; rw [List.length_append]; show out.length + 1 ≤ k + 1 + 1; omega, ?_⟩
          show insU l v = (out ++ [x]) ++ l.drop (k + 1)
          rw [he]
          show out ++ x :: l.drop (k + 1) = _
          simp
        · dsimp only
          omega
        · (repeat' first | (with_reducible exact trivial) | (with_reducible rfl) | (refine And.intro ?_ ?_) | (refine Need.mk ?_) | exact True.intro | (first | (refine ⟨_, Told.refl _, ?_, ?_⟩) | (refine ⟨⟨_, _⟩, Told.refl _, ?_, ?_⟩) | (refine ⟨⟨_, _, _⟩, Told.refl _, ?_, ?_⟩) | (refine ⟨⟨_, _, _, _⟩, Told.refl _, ?_, ?_⟩) | (refine ⟨⟨_, _, _, _, _⟩, Told.refl _, ?_, ?_⟩) | (refine ⟨(), Told.refl _, ?_, ?_⟩)) | (with_reducible intro _) | (refine fun (_ : Bool) => ?_))
          · simp
          · rename_i i hi
            exact els_of ci_emb (n := 0) (hsnoc out _ _ _ rfl hlx (fun _ _ => rfl)) i hi
          · rw [hw]
            dsimp only
            omega
    · obtain rfl : k = l.length := by omega
      have hd : decide ((l.length : Int) < (l.length : Int)) = false := decide_eq_false (by omega)
      rw [List.drop_length] at he
      ((refine AW.byF ‹_› ?_); (repeat' first | (with_reducible exact trivial) | (with_reducible rfl) | (refine And.intro ?_ ?_) | (refine Need.mk ?_) | exact True.intro | (first | (refine ⟨_, Told.refl _, ?_, ?_⟩) | (refine ⟨⟨_, _⟩, Told.refl _, ?_, ?_⟩) | (refine ⟨⟨_, _, _⟩, Told.refl _, ?_, ?_⟩) | (refine ⟨⟨_, _, _, _⟩, Told.refl _, ?_, ?_⟩) | (refine ⟨⟨_, _, _, _, _⟩, Told.refl _, ?_, ?_⟩) | (refine ⟨(), Told.refl _, ?_, ?_⟩)) | (with_reducible intro _) | (refine fun (_ : Bool) => ?_)))
      all_goals first | (exact absurd ‹decide ((l.length : Int) < (l.length : Int)) = true› (by rw [hd]; decide)) | skip
      all_goals first | omega | (dsimp only; omega) | skip
      · have qd : d = false := by simpa using ‹(!d) = true›
        subst qd
        have he : insU l v = out ++ [v] := he
        rw [he, List.length_append]
        rfl
      · rename_i i hi
        have qd : d = false := by simpa using ‹(!d) = true›
        subst qd
        have he : insU l v = out ++ [v] := he
        rw [he] at hi ⊢
        exact els_of ci_emb (n := 0) (cat_snoc' rfl (fun _ _ => rfl)) i hi
      all_goals
        have qd : d = true := by simpa using ‹(!d) = false›
        subst qd
        have he : insU l v = out ++ [] := he
        rw [he, List.append_nil]
end Go.Abs.Dest
