/- Several texts of this claim, merged (ARefX). -/
import Derived.Test.YtpkgkdcfolmbhaaGreatASpanB
import Derived.Test.YtpkgkdcfolmbhaaGreatASpanK
import Derived.Test.YtpkgkdcfolmbhaaGreatADestC
import Derived.Test.YtpkgkdcfolmbhaaGreatAHx
import Derived.Test.YtpkgkdcfolmbhaaGreatADestR
import Derived.Test.YtpkgkdcfolmbhaaGreatARectP
import Derived.Test.YtpkgkdcfolmbhaaGreatADestOrder
set_option linter.all false
set_option maxRecDepth 100000
namespace Go.Abs.Span
open Go.RowKit Go.Proofs Go.Abs.Tab
theorem rmore : SpOK Tryz.prog 131 SRise := fun ⟨d, st⟩ _ => by
  have hC := base
  cases st
  · ((refine Fn.ofF hC Tryz.func131 Tryz.ntmps131 rfl rfl rfl ?_); (repeat' first | (with_reducible exact trivial) | (with_reducible rfl) | (refine And.intro ?_ ?_) | (refine Need.mk ?_) | exact True.intro | (first | (refine ⟨_, Told.refl _, ?_, ?_⟩) | (refine ⟨⟨_, _⟩, Told.refl _, ?_, ?_⟩) | (refine ⟨⟨_, _, _⟩, Told.refl _, ?_, ?_⟩) | (refine ⟨⟨_, _, _, _⟩, Told.refl _, ?_, ?_⟩) | (refine ⟨⟨_, _, _, _, _⟩, Told.refl _, ?_, ?_⟩) | (refine ⟨(), Told.refl _, ?_, ?_⟩)) | (with_reducible intro _) | (refine fun (_ : Bool) => ?_)))
    rfl
  · ((refine Fn.ofF hC Tryz.func131 Tryz.ntmps131 rfl rfl rfl ?_); (repeat' first | (with_reducible exact trivial) | (with_reducible rfl) | (refine And.intro ?_ ?_) | (refine Need.mk ?_) | exact True.intro | (first | (refine ⟨_, Told.refl _, ?_, ?_⟩) | (refine ⟨⟨_, _⟩, Told.refl _, ?_, ?_⟩) | (refine ⟨⟨_, _, _⟩, Told.refl _, ?_, ?_⟩) | (refine ⟨⟨_, _, _, _⟩, Told.refl _, ?_, ?_⟩) | (refine ⟨⟨_, _, _, _, _⟩, Told.refl _, ?_, ?_⟩) | (refine ⟨(), Told.refl _, ?_, ?_⟩)) | (with_reducible intro _) | (refine fun (_ : Bool) => ?_)))
    rfl
theorem rsaneS : SpOK Tryz.prog 97 SSaneS := fun ⟨s, st⟩ _ => by
  have hC : COK Tryz.prog (cfg [(130, SSane), (131, SRise)]) := Ty.ty.cfg ⟨refSane, rmore, trivial⟩
  ((refine Fn.ofF hC Tryz.func97 Tryz.ntmps97 rfl rfl rfl ?_); (repeat' first | (with_reducible exact trivial) | (with_reducible rfl) | (refine And.intro ?_ ?_) | (refine Need.mk ?_) | exact True.intro | (first | (refine ⟨_, Told.refl _, ?_, ?_⟩) | (refine ⟨⟨_, _⟩, Told.refl _, ?_, ?_⟩) | (refine ⟨⟨_, _, _⟩, Told.refl _, ?_, ?_⟩) | (refine ⟨⟨_, _, _, _⟩, Told.refl _, ?_, ?_⟩) | (refine ⟨⟨_, _, _, _, _⟩, Told.refl _, ?_, ?_⟩) | (refine ⟨(), Told.refl _, ?_, ?_⟩)) | (with_reducible intro _) | (refine fun (_ : Bool) => ?_)))
  all_goals first
    | (refine saneS_no fun h => ?_
       obtain ⟨k1, k2, k3, k4, k5⟩ := (saneS_iff st s).1 h
       ((try dsimp only at *); (try simp only [decide_eq_true_eq, decide_eq_false_iff_not, beq_iff_eq, bne_iff_ne, beq_eq_false_iff_ne, bne_eq_false_iff_eq, ne_eq, Decidable.not_not, ge_iff_le, gt_iff_lt, Bool.not_eq_true', Bool.not_eq_false', Int.not_lt, Int.not_le, Nat.not_lt, Nat.not_le] at *))
       first | omega | (simp_all; done))
    | skip
  have q1 : saneC s.n s.lo = true := by simpa using ‹(!saneC s.n s.lo) = false›
  have q2 : saneC s.n s.hi = true := by simpa using ‹(!saneC s.n s.hi) = false›
  have q3 := of_decide_eq_false ‹decide (s.lo > s.hi) = false›
  have q4 := of_decide_eq_true ‹decide (s.to ≥ 0) = true›
  have r1 := (saneC_iff _ _).1 q1
  have r2 := (saneC_iff _ _).1 q2
  rw [iw (n := s.hi - s.lo) (by omega) (by omega)]
  have hm : 0 ≤ more st (s.hi - s.lo) ∧ more st (s.hi - s.lo) ≤ s.hi - s.lo := by cases st <;> simp only [more, cond_true, cond_false] <;> omega
  rw [iw (by omega) (by omega), Bool.eq_iff_iff, decide_eq_true_eq, saneS_iff]
  exact ⟨fun h => ⟨q1, q2, by omega, q4, h⟩, fun h => h.2.2.2.2⟩
theorem rtoS : SpOK Tryz.prog 151 SToS := fun ⟨s, n, v, st⟩ _ => by
  have hC : COK Tryz.prog (cfg [(97, SSaneS), (130, SSane), (131, SRise)]) := Ty.ty.cfg ⟨rsaneS, refSane, rmore, trivial⟩
  have no : ¬ (saneS st s = true ∧ saneC n v = true ∧ n = s.n ∧ s.lo ≤ v ∧ v ≤ s.hi) → 0 = ((ES st).to s n v).getD 0 ∧ false = ((ES st).to s n v).isSome := fun h => by
    rw [to_no h]
    exact ⟨rfl, rfl⟩
  ((refine Fn.ofF hC Tryz.func151 Tryz.ntmps151 rfl rfl rfl ?_); (repeat' first | (with_reducible exact trivial) | (with_reducible rfl) | (refine And.intro ?_ ?_) | (refine Need.mk ?_) | exact True.intro | (first | (refine ⟨_, Told.refl _, ?_, ?_⟩) | (refine ⟨⟨_, _⟩, Told.refl _, ?_, ?_⟩) | (refine ⟨⟨_, _, _⟩, Told.refl _, ?_, ?_⟩) | (refine ⟨⟨_, _, _, _⟩, Told.refl _, ?_, ?_⟩) | (refine ⟨⟨_, _, _, _, _⟩, Told.refl _, ?_, ?_⟩) | (refine ⟨(), Told.refl _, ?_, ?_⟩)) | (with_reducible intro _) | (refine fun (_ : Bool) => ?_)))
  all_goals ((try dsimp only at *); (try simp only [decide_eq_true_eq, decide_eq_false_iff_not, beq_iff_eq, bne_iff_ne, beq_eq_false_iff_ne, bne_eq_false_iff_eq, ne_eq, Decidable.not_not, ge_iff_le, gt_iff_lt, Bool.not_eq_true', Bool.not_eq_false', Int.not_lt, Int.not_le, Nat.not_lt, Nat.not_le] at *))
  all_goals first
    | (first | refine (no fun q => ?_).1 | refine (no fun q => ?_).2
       obtain ⟨h1, h2, h3, h4, h5⟩ := q
       first | omega | (simp_all; done))
    | (have q1 := ‹saneS st s = true›
       have q3 := ‹n = s.n›
       have q4 := ‹s.lo ≤ v›
       have q5 := ‹v ≤ s.hi›
       have r := rngS q1
       have hm : 0 ≤ more st (v - s.lo) ∧ more st (v - s.lo) ≤ 4294967296 := by cases st <;> simp only [more, cond_true, cond_false] <;> omega
       have hm2 : 0 ≤ more st (s.hi - s.lo) := by cases st <;> simp only [more, cond_true, cond_false] <;> omega
       subst q3
       rw [to_yes q1 q4 q5]
       first
         | rfl
         | (rw [iw (n := v - s.lo) (by omega) (by omega), iw (by omega) (by omega)]; rfl))
theorem rjoinsS : SpOK Tryz.prog 98 SJoinsS := fun ⟨a, b, st⟩ ⟨ha, hb⟩ => by
  have hC : COK Tryz.prog (cfg [(131, SRise)]) := Ty.ty.cfg ⟨rmore, trivial⟩
  have ra := rngS ha
  have rb := rngS hb
  have e1 := iw (n := a.hi + 1) (by omega) (by omega)
  have e2 := iw (n := b.lo - a.lo) (by omega) (by omega)
  have hm : -4294967296 ≤ more st (b.lo - a.lo) ∧ more st (b.lo - a.lo) ≤ 4294967296 := by cases st <;> simp only [more, cond_true, cond_false] <;> omega
  have hm2 : 0 ≤ more st (a.hi - a.lo) := by cases st <;> simp only [more, cond_true, cond_false] <;> omega
  have e3 := iw (n := a.to + more st (b.lo - a.lo)) (by omega) (by omega)
  ((refine Fn.ofF hC Tryz.func98 Tryz.ntmps98 rfl rfl rfl ?_); (repeat' first | (with_reducible exact trivial) | (with_reducible rfl) | (refine And.intro ?_ ?_) | (refine Need.mk ?_) | exact True.intro | (first | (refine ⟨_, Told.refl _, ?_, ?_⟩) | (refine ⟨⟨_, _⟩, Told.refl _, ?_, ?_⟩) | (refine ⟨⟨_, _, _⟩, Told.refl _, ?_, ?_⟩) | (refine ⟨⟨_, _, _, _⟩, Told.refl _, ?_, ?_⟩) | (refine ⟨⟨_, _, _, _, _⟩, Told.refl _, ?_, ?_⟩) | (refine ⟨(), Told.refl _, ?_, ?_⟩)) | (with_reducible intro _) | (refine fun (_ : Bool) => ?_)))
  all_goals simp only [e1, e2, e3] at *
  all_goals unfold joinsS
  all_goals ((try dsimp only at *); (try simp only [decide_eq_true_eq, decide_eq_false_iff_not, beq_iff_eq, bne_iff_ne, beq_eq_false_iff_ne, bne_eq_false_iff_eq, ne_eq, Decidable.not_not, ge_iff_le, gt_iff_lt, Bool.not_eq_true', Bool.not_eq_false', Int.not_lt, Int.not_le, Nat.not_lt, Nat.not_le] at *))
  all_goals first
    | (rw [Bool.eq_iff_iff, beq_iff_eq, decide_eq_true_eq]; omega)
    | (symm; rw [decide_eq_false_iff_not]; omega)
    | (symm; rw [decide_eq_false_iff_not]; intro h; simp_all; done)
def SLastS : Sp := ⟨List Spn × Int × Int × Bool, fun (l, n, v, st) => l.length < 9223372036854775807, fun (l, n, v, st) => [aS l, aCode n v, .lit st], fun (l, n, v, st) => rI ((ES st).last l n v)⟩
theorem orI_some {α : Type} {o p : Option α} (h : o.isSome = true) : o.or p = o := by cases o; cases h; rfl
theorem orI_none {α : Type} {o p : Option α} (h : o.isSome = false) : o.or p = p := by cases o; rfl; cases h
set_option maxHeartbeats 4000000 in
theorem rlastS : SpOK Tryz.prog 123 SLastS := fun ⟨l, n, v, st⟩ hl => by
  have hC : COK Tryz.prog (cfg [(151, SToS)]) := Ty.ty.cfg ⟨rtoS, trivial⟩
  have hl : l.length < 9223372036854775807 := hl
  ((refine Fn.ofF hC Tryz.func123 Tryz.ntmps123 rfl rfl rfl ?_); (repeat' first | (with_reducible exact trivial) | (with_reducible rfl) | (refine And.intro ?_ ?_) | (refine Need.mk ?_) | exact True.intro | (first | (refine ⟨_, Told.refl _, ?_, ?_⟩) | (refine ⟨⟨_, _⟩, Told.refl _, ?_, ?_⟩) | (refine ⟨⟨_, _, _⟩, Told.refl _, ?_, ?_⟩) | (refine ⟨⟨_, _, _, _⟩, Told.refl _, ?_, ?_⟩) | (refine ⟨⟨_, _, _, _, _⟩, Told.refl _, ?_, ?_⟩) | (refine ⟨(), Told.refl _, ?_, ?_⟩)) | (with_reducible intro _) | (refine fun (_ : Bool) => ?_)))
  refine AW.loop (I := fun k : Nat => ⟨30, [(0, aS l), (2, .lit st), (4, .ptr 0 0), (8, .int .i64 ((k : Int) - 1))], [.box 56 [.int .i64 n, .int .i64 v]]⟩) (fun k => k ≤ l.length ∧ (ES st).last l n v = (ES st).last (l.take k) n v) (fun k => k) l.length ⟨Nat.le_refl _, by rw [List.take_length]⟩ ?_ ?_
  · (repeat' first | (with_reducible exact trivial) | (with_reducible rfl) | (refine And.intro ?_ ?_) | (refine Need.mk ?_) | exact True.intro | (first | (refine ⟨_, Told.refl _, ?_, ?_⟩) | (refine ⟨⟨_, _⟩, Told.refl _, ?_, ?_⟩) | (refine ⟨⟨_, _, _⟩, Told.refl _, ?_, ?_⟩) | (refine ⟨⟨_, _, _, _⟩, Told.refl _, ?_, ?_⟩) | (refine ⟨⟨_, _, _, _, _⟩, Told.refl _, ?_, ?_⟩) | (refine ⟨(), Told.refl _, ?_, ?_⟩)) | (with_reducible intro _) | (refine fun (_ : Bool) => ?_))
    all_goals first | rfl | exact iw (by omega) (by omega)
  · intro k ⟨hk, he⟩
    rcases k with _ | m
    · have hd : decide (((0 : Nat) : Int) - 1 ≥ 0) = false := by decide
      have he : (ES st).last l n v = none := he
      ((refine AW.byF ‹_› ?_); (repeat' first | (with_reducible exact trivial) | (with_reducible rfl) | (refine And.intro ?_ ?_) | (refine Need.mk ?_) | exact True.intro | (first | (refine ⟨_, Told.refl _, ?_, ?_⟩) | (refine ⟨⟨_, _⟩, Told.refl _, ?_, ?_⟩) | (refine ⟨⟨_, _, _⟩, Told.refl _, ?_, ?_⟩) | (refine ⟨⟨_, _, _, _⟩, Told.refl _, ?_, ?_⟩) | (refine ⟨⟨_, _, _, _, _⟩, Told.refl _, ?_, ?_⟩) | (refine ⟨(), Told.refl _, ?_, ?_⟩)) | (with_reducible intro _) | (refine fun (_ : Bool) => ?_)))
      all_goals first | (exact absurd ‹decide (((0 : Nat) : Int) - 1 ≥ 0) = true› (by rw [hd]; decide)) | skip
      all_goals (rw [he]; rfl)
    · have hd : decide (((m + 1 : Nat) : Int) - 1 ≥ 0) = true := decide_eq_true (by omega)
      have e : ((m + 1 : Nat) : Int) - 1 = (m : Int) := by omega
      have hw := iw (n := (m : Int) - 1) (by omega) (by omega)
      have hs : (ES st).last l n v = ((ES st).to (l.getD m default) n v).or ((ES st).last (l.take m) n v) := by rw [he, List.take_succ_eq_append_getElem (by omega), (ES st).last_snoc, getB (by omega)]
      ((refine AW.byF ‹_› ?_); (repeat' first | (with_reducible exact trivial) | (with_reducible rfl) | (refine And.intro ?_ ?_) | (refine Need.mk ?_) | exact True.intro | (first | (refine ⟨_, Told.refl _, ?_, ?_⟩) | (refine ⟨⟨_, _⟩, Told.refl _, ?_, ?_⟩) | (refine ⟨⟨_, _, _⟩, Told.refl _, ?_, ?_⟩) | (refine ⟨⟨_, _, _, _⟩, Told.refl _, ?_, ?_⟩) | (refine ⟨⟨_, _, _, _, _⟩, Told.refl _, ?_, ?_⟩) | (refine ⟨(), Told.refl _, ?_, ?_⟩)) | (with_reducible intro _) | (refine fun (_ : Bool) => ?_)))
      all_goals first | (exact absurd ‹decide (((m + 1 : Nat) : Int) - 1 ≥ 0) = false› (by rw [hd]; decide)) | skip
      any_goals (first | (refine Exists.intro ((m : Nat)) (And.intro ?_ (And.intro ?_ ?_)); all_goals (repeat' first | (with_reducible exact trivial) | (with_reducible rfl) | (refine And.intro ?_ ?_) | (refine Need.mk ?_) | exact True.intro | (first | (refine ⟨_, Told.refl _, ?_, ?_⟩) | (refine ⟨⟨_, _⟩, Told.refl _, ?_, ?_⟩) | (refine ⟨⟨_, _, _⟩, Told.refl _, ?_, ?_⟩) | (refine ⟨⟨_, _, _, _⟩, Told.refl _, ?_, ?_⟩) | (refine ⟨⟨_, _, _, _, _⟩, Told.refl _, ?_, ?_⟩) | (refine ⟨(), Told.refl _, ?_, ?_⟩)) | (with_reducible intro _) | (refine fun (_ : Bool) => ?_))) | fail)
      all_goals try simp only [e, hw, Int.toNat_natCast] at *
      all_goals first
        | omega
        | (have q : ((ES st).to (l.getD m default) n v).isSome = true := by assumption
           rw [hs, orI_some q]
           first | done | exact q.symm)
        | (have q : ((ES st).to (l.getD m default) n v).isSome = false := by assumption
           exact hs.trans (orI_none q))
theorem ok_at' {st : Bool} {t : List Spn} {k : Nat} (hk0 : 0 < k) (hp : saneS st (t.getD (k - 1) default) = true) : (ES st).okAt t k = true ↔ (saneS st (t.getD k default) = true ∧ ¬ (t.getD k default).n < (t.getD (k - 1) default).n ∧ ¬ ((t.getD k default).n = (t.getD (k - 1) default).n ∧ (t.getD k default).lo ≤ (t.getD (k - 1) default).hi) ∧ joinsS st (t.getD (k - 1) default) (t.getD k default) = false) := by
  have hne : (k == 0) = false := by simp; omega
  unfold En.okAt
  rw [hne, Bool.false_or, Bool.and_eq_true, Bool.and_eq_true, decide_eq_true_eq]
  show saneS st _ = true ∧ (((t.getD (k - 1) default).n < (t.getD k default).n ∨ ((t.getD (k - 1) default).n = (t.getD k default).n ∧ (t.getD (k - 1) default).hi < (t.getD k default).lo)) ∧ (!joinsS st _ _) = true) ↔ _
  rw [Bool.not_eq_true']
  constructor
  · rintro ⟨h1, h2, h3⟩
    exact ⟨h1, by omega, by omega, h3⟩
  · rintro ⟨h1, h2, h3, h4⟩
    exact ⟨h1, by omega, h4⟩
set_option maxHeartbeats 8000000 in
theorem rcanonS : SpOK Tryz.prog 48 SCanonS := fun ⟨t, st⟩ ht => by
  have hC : COK Tryz.prog (cfg [(97, SSaneS), (98, SJoinsS)]) := Ty.ty.cfg ⟨rsaneS, rjoinsS, trivial⟩
  have ht : t.length < 9223372036854775807 := ht
  ((refine Fn.ofF hC Tryz.func48 Tryz.ntmps48 rfl rfl rfl ?_); (repeat' first | (with_reducible exact trivial) | (with_reducible rfl) | (refine And.intro ?_ ?_) | (refine Need.mk ?_) | exact True.intro | (first | (refine ⟨_, Told.refl _, ?_, ?_⟩) | (refine ⟨⟨_, _⟩, Told.refl _, ?_, ?_⟩) | (refine ⟨⟨_, _, _⟩, Told.refl _, ?_, ?_⟩) | (refine ⟨⟨_, _, _, _⟩, Told.refl _, ?_, ?_⟩) | (refine ⟨⟨_, _, _, _, _⟩, Told.refl _, ?_, ?_⟩) | (refine ⟨(), Told.refl _, ?_, ?_⟩)) | (with_reducible intro _) | (refine fun (_ : Bool) => ?_)))
  refine AW.loop (I := fun k : Nat => ⟨76, [(0, aS t), (1, .lit st), (5, .int .i64 k)], []⟩) (fun k => k ≤ t.length ∧ ∀ j, j < k → (ES st).okAt t j = true) (fun k => t.length - k) 0 ⟨Nat.zero_le _, fun j hj => by omega⟩ ?_ ?_
  · (repeat' first | (with_reducible exact trivial) | (with_reducible rfl) | (refine And.intro ?_ ?_) | (refine Need.mk ?_) | exact True.intro | (first | (refine ⟨_, Told.refl _, ?_, ?_⟩) | (refine ⟨⟨_, _⟩, Told.refl _, ?_, ?_⟩) | (refine ⟨⟨_, _, _⟩, Told.refl _, ?_, ?_⟩) | (refine ⟨⟨_, _, _, _⟩, Told.refl _, ?_, ?_⟩) | (refine ⟨⟨_, _, _, _, _⟩, Told.refl _, ?_, ?_⟩) | (refine ⟨(), Told.refl _, ?_, ?_⟩)) | (with_reducible intro _) | (refine fun (_ : Bool) => ?_))
    all_goals rfl
  · intro k ⟨hk, hok⟩
    rcases Nat.lt_or_ge k t.length with hlt | hge
    · have hd : decide ((k : Int) < (t.length : Int)) = true := decide_eq_true (by omega)
      have hw := iw (n := (k : Int) + 1) (by omega) (by omega)
      rcases Nat.eq_zero_or_pos k with rfl | hk0
      · have hz := ok_zero (st := st) (t := t)
        ((refine AW.byF ‹_› ?_); (repeat' first | (with_reducible exact trivial) | (with_reducible rfl) | (refine And.intro ?_ ?_) | (refine Need.mk ?_) | exact True.intro | (first | (refine ⟨_, Told.refl _, ?_, ?_⟩) | (refine ⟨⟨_, _⟩, Told.refl _, ?_, ?_⟩) | (refine ⟨⟨_, _, _⟩, Told.refl _, ?_, ?_⟩) | (refine ⟨⟨_, _, _, _⟩, Told.refl _, ?_, ?_⟩) | (refine ⟨⟨_, _, _, _, _⟩, Told.refl _, ?_, ?_⟩) | (refine ⟨(), Told.refl _, ?_, ?_⟩)) | (with_reducible intro _) | (refine fun (_ : Bool) => ?_)))
        all_goals first | (exact absurd ‹decide (((0 : Nat) : Int) < (t.length : Int)) = false› (by rw [hd]; decide)) | skip
        any_goals (refine Exists.intro (1) (And.intro ?_ (And.intro ?_ ?_)); all_goals (repeat' first | (with_reducible exact trivial) | (with_reducible rfl) | (refine And.intro ?_ ?_) | (refine Need.mk ?_) | exact True.intro | (first | (refine ⟨_, Told.refl _, ?_, ?_⟩) | (refine ⟨⟨_, _⟩, Told.refl _, ?_, ?_⟩) | (refine ⟨⟨_, _, _⟩, Told.refl _, ?_, ?_⟩) | (refine ⟨⟨_, _, _, _⟩, Told.refl _, ?_, ?_⟩) | (refine ⟨⟨_, _, _, _, _⟩, Told.refl _, ?_, ?_⟩) | (refine ⟨(), Told.refl _, ?_, ?_⟩)) | (with_reducible intro _) | (refine fun (_ : Bool) => ?_)))
        all_goals ((try dsimp only at *); (try simp only [decide_eq_true_eq, decide_eq_false_iff_not, beq_iff_eq, bne_iff_ne, beq_eq_false_iff_ne, bne_eq_false_iff_eq, ne_eq, Decidable.not_not, ge_iff_le, gt_iff_lt, Bool.not_eq_true', Bool.not_eq_false', Int.not_lt, Int.not_le, Nat.not_lt, Nat.not_le] at *))
        all_goals try simp only [Int.toNat_natCast, hw] at *
        all_goals first
          | omega
          | exact canon_no (k := 0) (by omega) (fun q => by have := hz.1 q; simp_all)
          | exact ok_next hok (hz.2 ‹_›) _ ‹_›
          | (intros; first | rfl | (((try dsimp only at *); (try simp only [decide_eq_true_eq, decide_eq_false_iff_not, beq_iff_eq, bne_iff_ne, beq_eq_false_iff_ne, bne_eq_false_iff_eq, ne_eq, Decidable.not_not, ge_iff_le, gt_iff_lt, Bool.not_eq_true', Bool.not_eq_false', Int.not_lt, Int.not_le, Nat.not_lt, Nat.not_le] at *)) <;> (try simp only [IntKind.wrap_i64] at *) <;> omega))
      · have e1 : IntKind.i64.wrap ((k : Int) - 1) = ((k - 1 : Nat) : Int) := by rw [iw (by omega) (by omega)]; omega
        have hp := ok_sane (hok (k - 1) (by omega))
        have hiff := ok_at' hk0 hp
        ((refine AW.byF ‹_› ?_); (repeat' first | (with_reducible exact trivial) | (with_reducible rfl) | (refine And.intro ?_ ?_) | (refine Need.mk ?_) | exact True.intro | (first | (refine ⟨_, Told.refl _, ?_, ?_⟩) | (refine ⟨⟨_, _⟩, Told.refl _, ?_, ?_⟩) | (refine ⟨⟨_, _, _⟩, Told.refl _, ?_, ?_⟩) | (refine ⟨⟨_, _, _, _⟩, Told.refl _, ?_, ?_⟩) | (refine ⟨⟨_, _, _, _, _⟩, Told.refl _, ?_, ?_⟩) | (refine ⟨(), Told.refl _, ?_, ?_⟩)) | (with_reducible intro _) | (refine fun (_ : Bool) => ?_)))
        all_goals first | (exact absurd ‹decide ((k : Int) < (t.length : Int)) = false› (by rw [hd]; decide)) | skip
        any_goals (refine Exists.intro (k + 1) (And.intro ?_ (And.intro ?_ ?_)); all_goals (repeat' first | (with_reducible exact trivial) | (with_reducible rfl) | (refine And.intro ?_ ?_) | (refine Need.mk ?_) | exact True.intro | (first | (refine ⟨_, Told.refl _, ?_, ?_⟩) | (refine ⟨⟨_, _⟩, Told.refl _, ?_, ?_⟩) | (refine ⟨⟨_, _, _⟩, Told.refl _, ?_, ?_⟩) | (refine ⟨⟨_, _, _, _⟩, Told.refl _, ?_, ?_⟩) | (refine ⟨⟨_, _, _, _, _⟩, Told.refl _, ?_, ?_⟩) | (refine ⟨(), Told.refl _, ?_, ?_⟩)) | (with_reducible intro _) | (refine fun (_ : Bool) => ?_)))
        all_goals ((try dsimp only at *); (try simp only [decide_eq_true_eq, decide_eq_false_iff_not, beq_iff_eq, bne_iff_ne, beq_eq_false_iff_ne, bne_eq_false_iff_eq, ne_eq, Decidable.not_not, ge_iff_le, gt_iff_lt, Bool.not_eq_true', Bool.not_eq_false', Int.not_lt, Int.not_le, Nat.not_lt, Nat.not_le] at *))
        all_goals try simp only [e1, hw, Int.toNat_natCast] at *
        all_goals first
          | omega
          | exact hp
          | assumption
          | exact canon_no (k := k) (by omega) (fun q => by have := hiff.1 q; first | omega | simp_all)
          | (refine ok_next hok (hiff.2 ⟨‹_›, by omega, by omega, ?_⟩) _ ‹_›; first | assumption | (simp_all; done))
          | skip
    · obtain rfl : k = t.length := by omega
      have hd : decide ((t.length : Int) < (t.length : Int)) = false := decide_eq_false (by omega)
      ((refine AW.byF ‹_› ?_); (repeat' first | (with_reducible exact trivial) | (with_reducible rfl) | (refine And.intro ?_ ?_) | (refine Need.mk ?_) | exact True.intro | (first | (refine ⟨_, Told.refl _, ?_, ?_⟩) | (refine ⟨⟨_, _⟩, Told.refl _, ?_, ?_⟩) | (refine ⟨⟨_, _, _⟩, Told.refl _, ?_, ?_⟩) | (refine ⟨⟨_, _, _, _⟩, Told.refl _, ?_, ?_⟩) | (refine ⟨⟨_, _, _, _, _⟩, Told.refl _, ?_, ?_⟩) | (refine ⟨(), Told.refl _, ?_, ?_⟩)) | (with_reducible intro _) | (refine fun (_ : Bool) => ?_)))
      all_goals first | (exact absurd ‹decide ((t.length : Int) < (t.length : Int)) = true› (by rw [hd]; decide)) | skip
      exact canon_all hok
def SFindRS : Sp := ⟨List Spn × Int × Int × Bool, fun (t, n, v, st) => t.length < 9223372036854775807, fun (t, n, v, st) => [aS t, aCode n v, .lit st], fun (t, n, v, st) => rI ((ES st).find t n v)⟩
theorem lastS_tab {st : Bool} {t : List Spn} (h : (ES st).Tab t) (n c : Int) : (ES st).last t n c = (ES st).get t n c := (ES st).get_lastL h.2.1 h.1 n c
end Go.Abs.Span
set_option maxRecDepth 100000
namespace Go.Abs.Span
open Go.RowKit Go.Proofs Go.Abs.Tab
open Go.Abs.Dest (cat_snoc')
def SPutS : Sp := ⟨List Int × Int, fun (l, v) => l.length ≤ 1000000000, fun (l, v) => [aI l, .int .i64 v], fun (l, v) => .row 3 1 (insU l v).length (els ci (insU l v))⟩
/-- What is behind, once done or not. -/
def restU (d : Bool) (l : List Int) (v : Int) : List Int := cond d l (insU l v)
set_option maxHeartbeats 4000000 in
theorem rputS : SpOK Tryz.prog 150 SPutS := fun ⟨l, v⟩ hl => by
  have hC := base
  have hl : l.length ≤ 1000000000 := hl
  ((refine Fn.ofF hC Tryz.func150 Tryz.ntmps150 rfl rfl rfl ?_); (repeat' first | (with_reducible exact trivial) | (with_reducible rfl) | (refine And.intro ?_ ?_) | (refine Need.mk ?_) | exact True.intro | (first | (refine ⟨_, Told.refl _, ?_, ?_⟩) | (refine ⟨⟨_, _⟩, Told.refl _, ?_, ?_⟩) | (refine ⟨⟨_, _, _⟩, Told.refl _, ?_, ?_⟩) | (refine ⟨⟨_, _, _, _⟩, Told.refl _, ?_, ?_⟩) | (refine ⟨⟨_, _, _, _, _⟩, Told.refl _, ?_, ?_⟩) | (refine ⟨(), Told.refl _, ?_, ?_⟩)) | (with_reducible intro _) | (refine fun (_ : Bool) => ?_)))
  refine AW.loop (I := fun x : Nat × List Int × Bool => ⟨48, [(0, aI l), (1, .int .i64 v), (5, .own 0), (6, .sb x.2.2), (7, .int .i64 x.1)], [.row 3 1 x.2.1.length (els ci x.2.1)]⟩) (fun x => x.1 ≤ l.length ∧ x.2.1.length ≤ x.1 + cond x.2.2 1 0 ∧ insU l v = x.2.1 ++ restU x.2.2 (l.drop x.1) v) (fun x => l.length - x.1) (0, [], false) ⟨Nat.zero_le _, Nat.zero_le _, rfl⟩ ?_ ?_
  · (repeat' first | (with_reducible exact trivial) | (with_reducible rfl) | (refine And.intro ?_ ?_) | (refine Need.mk ?_) | exact True.intro | (first | (refine ⟨_, Told.refl _, ?_, ?_⟩) | (refine ⟨⟨_, _⟩, Told.refl _, ?_, ?_⟩) | (refine ⟨⟨_, _, _⟩, Told.refl _, ?_, ?_⟩) | (refine ⟨⟨_, _, _, _⟩, Told.refl _, ?_, ?_⟩) | (refine ⟨⟨_, _, _, _, _⟩, Told.refl _, ?_, ?_⟩) | (refine ⟨(), Told.refl _, ?_, ?_⟩)) | (with_reducible intro _) | (refine fun (_ : Bool) => ?_))
    all_goals rfl
  · rintro ⟨k, out, d⟩ ⟨hk, ho, he⟩
    dsimp only at hk ho he ⊢
    have ho' : out.length ≤ k + 1 := by cases d <;> simp at ho <;> omega
    rcases Nat.lt_or_ge k l.length with hlt | hge
    · have hd : decide ((k : Int) < (l.length : Int)) = true := decide_eq_true (by omega)
      have hw := iw (n := (k : Int) + 1) (by omega) (by omega)
      obtain ⟨x, hx⟩ : ∃ x, x = l.getD k default := ⟨_, rfl⟩
      have hdr : l.drop k = x :: l.drop (k + 1) := by rw [hx, getD_at hlt]; exact List.drop_eq_getElem_cons hlt
      rw [hdr] at he
      have hlx : l.getD ((k : Int)).toNat default = x := by rw [Int.toNat_natCast]; exact hx.symm
      have hsnoc : ∀ (o : List Int) (n : Nat) (y : Int) (el : Nat → List AV), n = o.length → y = x → (∀ i, i < o.length → el i = ci (o.getD i default)) → ∀ i, i < (o ++ [x]).length → catEl n el (elt [ci y]) i = ci ((o ++ [x]).getD i default) := fun o n y el hn hy hel => by
        subst hy
        exact cat_snoc' hn hel
      ((refine AW.byF ‹_› ?_); (repeat' first | (with_reducible exact trivial) | (with_reducible rfl) | (refine And.intro ?_ ?_) | (refine Need.mk ?_) | exact True.intro | (first | (refine ⟨_, Told.refl _, ?_, ?_⟩) | (refine ⟨⟨_, _⟩, Told.refl _, ?_, ?_⟩) | (refine ⟨⟨_, _, _⟩, Told.refl _, ?_, ?_⟩) | (refine ⟨⟨_, _, _, _⟩, Told.refl _, ?_, ?_⟩) | (refine ⟨⟨_, _, _, _, _⟩, Told.refl _, ?_, ?_⟩) | (refine ⟨(), Told.refl _, ?_, ?_⟩)) | (with_reducible intro _) | (refine fun (_ : Bool) => ?_)))
      all_goals first | (exact absurd ‹decide ((k : Int) < (l.length : Int)) = false› (by rw [hd]; decide)) | skip
      all_goals first | omega | (dsimp only; omega) | skip
      · have q : x = v := by rw [← hlx]; simpa using ‹(l.getD (k : Int).toNat default == v) = true›
        refine Exists.intro (k + 1, out ++ [x], true) (And.intro ?_ (And.intro ?_ ?_))
        · refine ⟨by dsimp only; omega, by dsimp only; rw [List.length_append]; show out.length + 1 ≤ k + 1 + 1; omega, ?_⟩
          show insU l v = (out ++ [x]) ++ l.drop (k + 1)
          rw [he, List.append_assoc]
          cases d
          · show out ++ insU (x :: l.drop (k + 1)) v = _
            unfold insU
            rw [if_pos q]
            rfl
          · rfl
        · dsimp only
          omega
        · (repeat' first | (with_reducible exact trivial) | (with_reducible rfl) | (refine And.intro ?_ ?_) | (refine Need.mk ?_) | exact True.intro | (first | (refine ⟨_, Told.refl _, ?_, ?_⟩) | (refine ⟨⟨_, _⟩, Told.refl _, ?_, ?_⟩) | (refine ⟨⟨_, _, _⟩, Told.refl _, ?_, ?_⟩) | (refine ⟨⟨_, _, _, _⟩, Told.refl _, ?_, ?_⟩) | (refine ⟨⟨_, _, _, _, _⟩, Told.refl _, ?_, ?_⟩) | (refine ⟨(), Told.refl _, ?_, ?_⟩)) | (with_reducible intro _) | (refine fun (_ : Bool) => ?_))
          · simp
          · rename_i i hi
            exact els_of ci_emb (n := 0) (hsnoc out _ _ _ rfl hlx (fun _ _ => rfl)) i hi
          · rw [hw]
            dsimp only
            omega
      · have q : ¬ x = v := by rw [← hlx]; simpa using ‹(l.getD (k : Int).toNat default == v) = false›
        have qd : d = false := by simpa using ‹(!d) = true›
        have qg : x > v := by rw [← hlx]; simpa using ‹decide (l.getD (k : Int).toNat default > v) = true›
        subst qd
        refine Exists.intro (k + 1, out ++ [v] ++ [x], true) (And.intro ?_ (And.intro ?_ ?_))
        · refine ⟨by dsimp only; omega, ?_, ?_⟩
          · dsimp only
            rw [List.length_append, List.length_append]
            show out.length + 1 + 1 ≤ _
            have : out.length ≤ k + 0 := ho
            show _ ≤ k + 1 + 1
            omega
          show insU l v = (out ++ [v] ++ [x]) ++ l.drop (k + 1)
          rw [he]
          show out ++ insU (x :: l.drop (k + 1)) v = _
          unfold insU
          rw [if_neg q, if_pos qg]
          simp
        · dsimp only
          omega
        · (repeat' first | (with_reducible exact trivial) | (with_reducible rfl) | (refine And.intro ?_ ?_) | (refine Need.mk ?_) | exact True.intro | (first | (refine ⟨_, Told.refl _, ?_, ?_⟩) | (refine ⟨⟨_, _⟩, Told.refl _, ?_, ?_⟩) | (refine ⟨⟨_, _, _⟩, Told.refl _, ?_, ?_⟩) | (refine ⟨⟨_, _, _, _⟩, Told.refl _, ?_, ?_⟩) | (refine ⟨⟨_, _, _, _, _⟩, Told.refl _, ?_, ?_⟩) | (refine ⟨(), Told.refl _, ?_, ?_⟩)) | (with_reducible intro _) | (refine fun (_ : Bool) => ?_))
          · simp
          · rename_i i hi
            exact els_of ci_emb (n := 0) (hsnoc (out ++ [v]) _ _ _ (by simp) hlx (cat_snoc' rfl (fun _ _ => rfl))) i hi
          · rw [hw]
            dsimp only
            omega
      · have q : ¬ x = v := by rw [← hlx]; simpa using ‹(l.getD (k : Int).toNat default == v) = false›
        have qd : d = false := by simpa using ‹(!d) = true›
        have qg : ¬ x > v := by rw [← hlx]; simpa using ‹decide (l.getD (k : Int).toNat default > v) = false›
        subst qd
        refine Exists.intro (k + 1, out ++ [x], false) (And.intro ?_ (And.intro ?_ ?_))
        · refine ⟨by dsimp only; omega, by dsimp only; rw [List.length_append]; show out.length + 1 ≤ k + 1 + 0; have : out.length ≤ k + 0 := ho; omega, ?_⟩
          show insU l v = (out ++ [x]) ++ insU (l.drop (k + 1)) v
          rw [he]
          show out ++ insU (x :: l.drop (k + 1)) v = _
          rw [show insU (x :: l.drop (k + 1)) v = x :: insU (l.drop (k + 1)) v by conv => lhs; unfold insU; rw [if_neg q, if_neg qg]]
          simp
        · dsimp only
          omega
        · (repeat' first | (with_reducible exact trivial) | (with_reducible rfl) | (refine And.intro ?_ ?_) | (refine Need.mk ?_) | exact True.intro | (first | (refine ⟨_, Told.refl _, ?_, ?_⟩) | (refine ⟨⟨_, _⟩, Told.refl _, ?_, ?_⟩) | (refine ⟨⟨_, _, _⟩, Told.refl _, ?_, ?_⟩) | (refine ⟨⟨_, _, _, _⟩, Told.refl _, ?_, ?_⟩) | (refine ⟨⟨_, _, _, _, _⟩, Told.refl _, ?_, ?_⟩) | (refine ⟨(), Told.refl _, ?_, ?_⟩)) | (with_reducible intro _) | (refine fun (_ : Bool) => ?_))
          · simp
          · rename_i i hi
            exact els_of ci_emb (n := 0) (hsnoc out _ _ _ rfl hlx (fun _ _ => rfl)) i hi
          · rw [hw]
            dsimp only
            omega
      · have q : ¬ x = v := by rw [← hlx]; simpa using ‹(l.getD (k : Int).toNat default == v) = false›
        have qd : d = true := by simpa using ‹(!d) = false›
        subst qd
        refine Exists.intro (k + 1, out ++ [x], true) (And.intro ?_ (And.intro ?_ ?_))
        · refine ⟨by dsimp only; omega, by dsimp only; rw [List.length_append]; show out.length + 1 ≤ k + 1 + 1; omega, ?_⟩
          show insU l v = (out ++ [x]) ++ l.drop (k + 1)
          rw [he]
          show out ++ x :: l.drop (k + 1) = _
          simp
        · dsimp only
          omega
        · (repeat' first | (with_reducible exact trivial) | (with_reducible rfl) | (refine And.intro ?_ ?_) | (refine Need.mk ?_) | exact True.intro | (first | (refine ⟨_, Told.refl _, ?_, ?_⟩) | (refine ⟨⟨_, _⟩, Told.refl _, ?_, ?_⟩) | (refine ⟨⟨_, _, _⟩, Told.refl _, ?_, ?_⟩) | (refine ⟨⟨_, _, _, _⟩, Told.refl _, ?_, ?_⟩) | (refine ⟨⟨_, _, _, _, _⟩, Told.refl _, ?_, ?_⟩) | (refine ⟨(), Told.refl _, ?_, ?_⟩)) | (with_reducible intro _) | (refine fun (_ : Bool) => ?_))
          · simp
          · rename_i i hi
            exact els_of ci_emb (n := 0) (hsnoc out _ _ _ rfl hlx (fun _ _ => rfl)) i hi
          · rw [hw]
            dsimp only
            omega
    · obtain rfl : k = l.length := by omega
      have hd : decide ((l.length : Int) < (l.length : Int)) = false := decide_eq_false (by omega)
      rw [List.drop_length] at he
      ((refine AW.byF ‹_› ?_); (repeat' first | (with_reducible exact trivial) | (with_reducible rfl) | (refine And.intro ?_ ?_) | (refine Need.mk ?_) | exact True.intro | (first | (refine ⟨_, Told.refl _, ?_, ?_⟩) | (refine ⟨⟨_, _⟩, Told.refl _, ?_, ?_⟩) | (refine ⟨⟨_, _, _⟩, Told.refl _, ?_, ?_⟩) | (refine ⟨⟨_, _, _, _⟩, Told.refl _, ?_, ?_⟩) | (refine ⟨⟨_, _, _, _, _⟩, Told.refl _, ?_, ?_⟩) | (refine ⟨(), Told.refl _, ?_, ?_⟩)) | (with_reducible intro _) | (refine fun (_ : Bool) => ?_)))
      all_goals first | (exact absurd ‹decide ((l.length : Int) < (l.length : Int)) = true› (by rw [hd]; decide)) | skip
      all_goals first | omega | (dsimp only; omega) | skip
      · have qd : d = false := by simpa using ‹(!d) = true›
        subst qd
        have he : insU l v = out ++ [v] := he
        rw [he, List.length_append]
        rfl
      · rename_i i hi
        have qd : d = false := by simpa using ‹(!d) = true›
        subst qd
        have he : insU l v = out ++ [v] := he
        rw [he] at hi ⊢
        exact els_of ci_emb (n := 0) (cat_snoc' rfl (fun _ _ => rfl)) i hi
      all_goals
        have qd : d = true := by simpa using ‹(!d) = false›
        subst qd
        have he : insU l v = out ++ [] := he
        rw [he, List.append_nil]
def SBordS : Sp := ⟨List Spn × Int × Bool, fun (l, n, st) => l.length ≤ 100000000, fun (l, n, st) => [aS l, .int .i64 n, .lit st], fun (l, n, st) => .st (aI ((ES st).bs l n))⟩
theorem bs_next {st : Bool} {l : List Spn} {k : Nat} (hk : k < l.length) (n : Int) : (ES st).bs (l.take (k + 1)) n = if (l.getD k default).n = n ∧ saneS st (l.getD k default) = true then insU (insU ((ES st).bs (l.take k) n) (l.getD k default).lo) ((l.getD k default).hi + 1) else (ES st).bs (l.take k) n := by
  rw [List.take_succ_eq_append_getElem hk, (ES st).bs_snoc, Go.Abs.Span.getB hk]
  rfl
set_option maxHeartbeats 4000000 in
theorem rbordersS : SpOK Tryz.prog 122 SBordS := fun ⟨l, n, st⟩ hl => by
  have hC : COK Tryz.prog (cfg [(97, SSaneS), (150, SPutS)]) := Ty.ty.cfg ⟨rsaneS, rputS, trivial⟩
  have hl : l.length ≤ 100000000 := hl
  ((refine Fn.ofF hC Tryz.func122 Tryz.ntmps122 rfl rfl rfl ?_); (repeat' first | (with_reducible exact trivial) | (with_reducible rfl) | (refine And.intro ?_ ?_) | (refine Need.mk ?_) | exact True.intro | (first | (refine ⟨_, Told.refl _, ?_, ?_⟩) | (refine ⟨⟨_, _⟩, Told.refl _, ?_, ?_⟩) | (refine ⟨⟨_, _, _⟩, Told.refl _, ?_, ?_⟩) | (refine ⟨⟨_, _, _, _⟩, Told.refl _, ?_, ?_⟩) | (refine ⟨⟨_, _, _, _, _⟩, Told.refl _, ?_, ?_⟩) | (refine ⟨(), Told.refl _, ?_, ?_⟩)) | (with_reducible intro _) | (refine fun (_ : Bool) => ?_)))
  refine AW.loop (I := fun k : Nat => ⟨45, [(0, aS l), (1, .int .i64 n), (2, .lit st), (7, aI ((ES st).bs (l.take k) n)), (8, .int .i64 k)], []⟩) (fun k => k ≤ l.length) (fun k => l.length - k) 0 (Nat.zero_le _) ?_ ?_
  · (repeat' first | (with_reducible exact trivial) | (with_reducible rfl) | (refine And.intro ?_ ?_) | (refine Need.mk ?_) | exact True.intro | (first | (refine ⟨_, Told.refl _, ?_, ?_⟩) | (refine ⟨⟨_, _⟩, Told.refl _, ?_, ?_⟩) | (refine ⟨⟨_, _, _⟩, Told.refl _, ?_, ?_⟩) | (refine ⟨⟨_, _, _, _⟩, Told.refl _, ?_, ?_⟩) | (refine ⟨⟨_, _, _, _, _⟩, Told.refl _, ?_, ?_⟩) | (refine ⟨(), Told.refl _, ?_, ?_⟩)) | (with_reducible intro _) | (refine fun (_ : Bool) => ?_))
    all_goals first | rfl | (rename_i hi; exact absurd hi (Nat.not_lt_zero _))
  · intro k hk
    rcases Nat.lt_or_ge k l.length with hlt | hge
    · have hd : decide ((k : Int) < (l.length : Int)) = true := decide_eq_true (by omega)
      have hw := iw (n := (k : Int) + 1) (by omega) (by omega)
      have hnx := bs_next (st := st) hlt n
      have hbl := ((ES st).bs_rng (l.take k) n).2
      have htl : (l.take k).length ≤ l.length := by rw [List.length_take]; omega
      have hil := insU_len (l.getD k default).lo ((ES st).bs (l.take k) n)
      ((refine AW.byF ‹_› ?_); (repeat' first | (with_reducible exact trivial) | (with_reducible rfl) | (refine And.intro ?_ ?_) | (refine Need.mk ?_) | exact True.intro | (first | (refine ⟨_, Told.refl _, ?_, ?_⟩) | (refine ⟨⟨_, _⟩, Told.refl _, ?_, ?_⟩) | (refine ⟨⟨_, _, _⟩, Told.refl _, ?_, ?_⟩) | (refine ⟨⟨_, _, _, _⟩, Told.refl _, ?_, ?_⟩) | (refine ⟨⟨_, _, _, _, _⟩, Told.refl _, ?_, ?_⟩) | (refine ⟨(), Told.refl _, ?_, ?_⟩)) | (with_reducible intro _) | (refine fun (_ : Bool) => ?_)))
      all_goals first | (exact absurd ‹decide ((k : Int) < (l.length : Int)) = false› (by rw [hd]; decide)) | skip
      any_goals (refine Exists.intro (k + 1) (And.intro ?_ (And.intro ?_ ?_)); all_goals (repeat' first | (with_reducible exact trivial) | (with_reducible rfl) | (refine And.intro ?_ ?_) | (refine Need.mk ?_) | exact True.intro | (first | (refine ⟨_, Told.refl _, ?_, ?_⟩) | (refine ⟨⟨_, _⟩, Told.refl _, ?_, ?_⟩) | (refine ⟨⟨_, _, _⟩, Told.refl _, ?_, ?_⟩) | (refine ⟨⟨_, _, _, _⟩, Told.refl _, ?_, ?_⟩) | (refine ⟨⟨_, _, _, _, _⟩, Told.refl _, ?_, ?_⟩) | (refine ⟨(), Told.refl _, ?_, ?_⟩)) | (with_reducible intro _) | (refine fun (_ : Bool) => ?_)))
      all_goals try simp only [Int.toNat_natCast, hw] at *
      all_goals first
        | omega
        | exact Int.natCast_nonneg k
        | (have q : saneS st (l.getD k default) = true := by assumption
           have r := rngS q
           have hq : (l.getD k default).n = n := by simpa using ‹((l.getD k default).n == n) = true›
           have hw2 := iw (n := (l.getD k default).hi + 1) (by omega) (by omega)
           rw [if_pos ⟨hq, q⟩] at hnx
           first
             | (show ((ES st).bs (l.take k) n).length ≤ 1000000000; omega)
             | (show (insU ((ES st).bs (l.take k) n) (l.getD k default).lo).length ≤ 1000000000; omega)
             | (rw [hnx, hw2]; done))
        | (rw [if_neg (fun h => by have := h.2; simp_all)] at hnx; rw [hnx]; done)
        | (rw [if_neg (fun h => by have := h.1; simp_all)] at hnx; rw [hnx]; done)
    · obtain rfl : k = l.length := by omega
      have hd : decide ((l.length : Int) < (l.length : Int)) = false := decide_eq_false (by omega)
      ((refine AW.byF ‹_› ?_); (repeat' first | (with_reducible exact trivial) | (with_reducible rfl) | (refine And.intro ?_ ?_) | (refine Need.mk ?_) | exact True.intro | (first | (refine ⟨_, Told.refl _, ?_, ?_⟩) | (refine ⟨⟨_, _⟩, Told.refl _, ?_, ?_⟩) | (refine ⟨⟨_, _, _⟩, Told.refl _, ?_, ?_⟩) | (refine ⟨⟨_, _, _, _⟩, Told.refl _, ?_, ?_⟩) | (refine ⟨⟨_, _, _, _, _⟩, Told.refl _, ?_, ?_⟩) | (refine ⟨(), Told.refl _, ?_, ?_⟩)) | (with_reducible intro _) | (refine fun (_ : Bool) => ?_)))
      all_goals first | (exact absurd ‹decide ((l.length : Int) < (l.length : Int)) = true› (by rw [hd]; decide)) | skip
      all_goals rw [List.take_length]
/-! ### From border to border -/
def tailS (st : Bool) (l : List Spn) : Nat → List Spn
  | 0 => []
  | k + 1 => (ES st).sg l (4 - (k : Int)) ++ tailS st l k
def fullS (st : Bool) (l : List Spn) : List Spn := tailS st l 4
theorem full_eq (st : Bool) (l : List Spn) : fullS st l = (ES st).sg l 1 ++ ((ES st).sg l 2 ++ ((ES st).sg l 3 ++ (ES st).sg l 4)) := by
  show (ES st).sg l 1 ++ ((ES st).sg l 2 ++ ((ES st).sg l 3 ++ ((ES st).sg l 4 ++ []))) = _
  rw [List.append_nil]
theorem full_build (st : Bool) (l : List Spn) : (ES st).joined (ES st).jb (fullS st l) = (ES st).build l := by rw [full_eq]; exact (ES st).build_segs l
theorem full_ok (st : Bool) (l : List Spn) : (ES st).OD (fullS st l) ∧ ∀ x ∈ fullS st l, saneS st x = true := by
  have hmemb : ∀ n, SA ((ES st).bs l n) := fun n => (Tb.bord_ok (ES st).toTb (ES st).sane n l [] trivial).1
  have hst := Tb.strm_ok (ES st).toTb (u := (ES st).lastL l) (bs := (ES st).bs l) (fun q hq => ((ES st).rng (((ES st).mem_lastL l q).1 hq).2).1) hmemb (fun n q hq hn => by
    obtain ⟨q1, q2⟩ := ((ES st).mem_lastL l q).1 hq
    have hb := (Tb.bord_ok (ES st).toTb (ES st).sane n l [] trivial).2.1
    exact ⟨(hb _).2 (.inr ⟨q, q1, q2, hn, .inl rfl⟩), (hb _).2 (.inr ⟨q, q1, q2, hn, .inr rfl⟩)⟩)
  obtain ⟨s1, s2, s3⟩ := hst
  have good : ∀ s ∈ (ES st).strm ((ES st).lastL l) ((ES st).bs l), (ES st).sane s = true := fun s hs => by
    obtain ⟨n, q, hq, p1, p2, p3, p4, p5, p6⟩ := s2 s hs
    have gq := (((ES st).mem_lastL l q).1 hq).2
    have gp := (ES st).part q ((ES st).lo s) ((ES st).hi s) gq p3 p4 p5
    have e1 : (ES st).v s = (ES st).sh ((ES st).v q) ((ES st).lo s - (ES st).lo q) := p6
    rw [p1.trans p2.symm, ← e1, (ES st).eta] at gp
    exact gp
  rw [full_eq]
  exact ⟨s1, good⟩
def remS (st : Bool) (l : List Spn) (n : Int) (i : Nat) : List Spn := (ES st).segs ((ES st).gl l n) n (((ES st).bs l n).drop i)
theorem remS_zero (st : Bool) (l : List Spn) (n : Int) : remS st l n 0 = (ES st).sg l n := rfl
theorem remS_end {st : Bool} {l : List Spn} {n : Int} {i : Nat} (h : ¬ i + 1 < ((ES st).bs l n).length) : remS st l n i = [] := by
  unfold remS
  have : (((ES st).bs l n).drop i).length ≤ 1 := by rw [List.length_drop]; omega
  match hd : ((ES st).bs l n).drop i, this with
  | [], _ => rfl
  | [x], _ => rfl
theorem remS_next {st : Bool} {l : List Spn} {n : Int} {i : Nat} (h : i + 1 < ((ES st).bs l n).length) : remS st l n i = (match (ES st).last l n (((ES st).bs l n).getD i default) with | some v => [(⟨n, ((ES st).bs l n).getD i default, ((ES st).bs l n).getD (i + 1) default - 1, v⟩ : Spn)] | none => []) ++ remS st l n (i + 1) := by
  unfold remS
  rw [List.drop_eq_getElem_cons (show i < ((ES st).bs l n).length by omega), List.drop_eq_getElem_cons h, (ES st).segs_two, getD_at (show i < ((ES st).bs l n).length by omega), getD_at h]
  congr 1
  show Tb.seg1 _ ((ES st).last l n _) n _ _ = _
  cases (ES st).last l n ((ES st).bs l n)[i] <;> rfl
theorem remS_none {st : Bool} {l : List Spn} {n : Int} {i : Nat} (h : i + 1 < ((ES st).bs l n).length) (hn : (ES st).last l n (((ES st).bs l n).getD i default) = none) : remS st l n i = remS st l n (i + 1) := by
  rw [remS_next h, hn]
  rfl
theorem remS_some {st : Bool} {l : List Spn} {n : Int} {i : Nat} {v : Int} (h : i + 1 < ((ES st).bs l n).length) (hn : (ES st).last l n (((ES st).bs l n).getD i default) = some v) : remS st l n i = (⟨n, ((ES st).bs l n).getD i default, ((ES st).bs l n).getD (i + 1) default - 1, v⟩ : Spn) :: remS st l n (i + 1) := by
  rw [remS_next h, hn]
  rfl
theorem drop_next {α : Type} [Inhabited α] {l : List α} {j : Nat} {x : α} {r : List α} (h : l.drop j = x :: r) : j < l.length ∧ l.getD j default = x ∧ l.drop (j + 1) = r := by
  have hj : j < l.length := by
    rcases Nat.lt_or_ge j l.length with q | q
    · exact q
    · rw [List.drop_eq_nil_of_le q] at h
      cases h
  rw [List.drop_eq_getElem_cons hj] at h
  obtain ⟨h1, h2⟩ := List.cons.inj h
  exact ⟨hj, by rw [getD_at hj]; exact h1, h2⟩
theorem full_len (st : Bool) (l : List Spn) : (fullS st l).length ≤ 8 * l.length := by
  have h : ∀ n, ((ES st).sg l n).length ≤ 2 * l.length := fun n => Nat.le_trans (Tb.segs_len (ES st).toTb _ n _) ((ES st).bs_rng l n).2
  rw [full_eq]
  simp only [List.length_append]
  have := h 1
  have := h 2
  have := h 3
  have := h 4
  omega
theorem getD_init {α : Type} [Inhabited α] {init : List α} {q : α} {i : Nat} (h : i < init.length) : (init ++ [q]).getD i default = init.getD i default := by
  simp [List.getD, List.getElem?_append_left h]
def SBuildRS : Sp := ⟨List Spn × Bool, fun (l, _) => l.length ≤ 10000000, fun (l, st) => [aS l, .lit st], fun (l, st) => .row 83 4 ((ES st).build l).length (els cSp ((ES st).build l))⟩
set_option maxHeartbeats 16000000 in
theorem rbuildS : SpOK Tryz.prog 91 SBuildRS := fun ⟨l, st⟩ hl => by
  have hC : COK Tryz.prog (cfg [(122, SBordS), (123, SLastS), (98, SJoinsS)]) := Ty.ty.cfg ⟨rbordersS, rlastS, rjoinsS, trivial⟩
  have hl : l.length ≤ 10000000 := hl
  obtain ⟨fo, fg⟩ := full_ok st l
  have hfl := full_len st l
  ((refine Fn.ofF hC Tryz.func91 Tryz.ntmps91 rfl rfl rfl ?_); (repeat' first | (with_reducible exact trivial) | (with_reducible rfl) | (refine And.intro ?_ ?_) | (refine Need.mk ?_) | exact True.intro | (first | (refine ⟨_, Told.refl _, ?_, ?_⟩) | (refine ⟨⟨_, _⟩, Told.refl _, ?_, ?_⟩) | (refine ⟨⟨_, _, _⟩, Told.refl _, ?_, ?_⟩) | (refine ⟨⟨_, _, _, _⟩, Told.refl _, ?_, ?_⟩) | (refine ⟨⟨_, _, _, _, _⟩, Told.refl _, ?_, ?_⟩) | (refine ⟨(), Told.refl _, ?_, ?_⟩)) | (with_reducible intro _) | (refine fun (_ : Bool) => ?_)))
  refine AW.loop (I := fun x : Nat × Nat => ⟨93, [(0, aS l), (1, .lit st), (5, .own 0), (6, .int .i64 (5 - (x.1 : Int)))], [.row 83 4 (JS st (fullS st l) x.2).length (els cSp (JS st (fullS st l) x.2))]⟩) (fun x => x.1 ≤ 4 ∧ (fullS st l).drop x.2 = tailS st l x.1) (fun x => x.1) (4, 0) ⟨Nat.le_refl _, rfl⟩ ?_ ?_
  · (repeat' first | (with_reducible exact trivial) | (with_reducible rfl) | (refine And.intro ?_ ?_) | (refine Need.mk ?_) | exact True.intro | (first | (refine ⟨_, Told.refl _, ?_, ?_⟩) | (refine ⟨⟨_, _⟩, Told.refl _, ?_, ?_⟩) | (refine ⟨⟨_, _, _⟩, Told.refl _, ?_, ?_⟩) | (refine ⟨⟨_, _, _, _⟩, Told.refl _, ?_, ?_⟩) | (refine ⟨⟨_, _, _, _, _⟩, Told.refl _, ?_, ?_⟩) | (refine ⟨(), Told.refl _, ?_, ?_⟩)) | (with_reducible intro _) | (refine fun (_ : Bool) => ?_))
    all_goals rfl
  · rintro ⟨k, j⟩ ⟨hk, hdr⟩
    dsimp only at hk hdr ⊢
    rcases k with _ | m
    · have hd : decide (5 - ((0 : Nat) : Int) ≤ 4) = false := by decide
      have hJ : JS st (fullS st l) j = (ES st).build l := by
        have : (fullS st l).length ≤ j := List.drop_eq_nil_iff.1 hdr
        rw [← full_build st l]
        unfold JS
        rw [List.take_of_length_le this]
        rfl
      ((refine AW.byF ‹_› ?_); (repeat' first | (with_reducible exact trivial) | (with_reducible rfl) | (refine And.intro ?_ ?_) | (refine Need.mk ?_) | exact True.intro | (first | (refine ⟨_, Told.refl _, ?_, ?_⟩) | (refine ⟨⟨_, _⟩, Told.refl _, ?_, ?_⟩) | (refine ⟨⟨_, _, _⟩, Told.refl _, ?_, ?_⟩) | (refine ⟨⟨_, _, _, _⟩, Told.refl _, ?_, ?_⟩) | (refine ⟨⟨_, _, _, _, _⟩, Told.refl _, ?_, ?_⟩) | (refine ⟨(), Told.refl _, ?_, ?_⟩)) | (with_reducible intro _) | (refine fun (_ : Bool) => ?_)))
      all_goals first | (exact absurd ‹decide (5 - ((0 : Nat) : Int) ≤ 4) = true› (by rw [hd]; decide)) | skip
      all_goals rw [hJ]
    · have hd : decide (5 - ((m + 1 : Nat) : Int) ≤ 4) = true := decide_eq_true (by omega)
      have en : 5 - ((m + 1 : Nat) : Int) = 4 - (m : Int) := by omega
      obtain ⟨n, hn⟩ : ∃ n, n = 4 - (m : Int) := ⟨_, rfl⟩
      have hdr : (fullS st l).drop j = remS st l n 0 ++ tailS st l m := by rw [hdr, remS_zero, hn]; rfl
      have hbr := (ES st).bs_rng l n
      rw [en] at hd ⊢
      rw [← hn] at hd ⊢
      ((refine AW.byF ‹_› ?_); (repeat' first | (with_reducible exact trivial) | (with_reducible rfl) | (refine And.intro ?_ ?_) | (refine Need.mk ?_) | exact True.intro | (first | (refine ⟨_, Told.refl _, ?_, ?_⟩) | (refine ⟨⟨_, _⟩, Told.refl _, ?_, ?_⟩) | (refine ⟨⟨_, _, _⟩, Told.refl _, ?_, ?_⟩) | (refine ⟨⟨_, _, _, _⟩, Told.refl _, ?_, ?_⟩) | (refine ⟨⟨_, _, _, _, _⟩, Told.refl _, ?_, ?_⟩) | (refine ⟨(), Told.refl _, ?_, ?_⟩)) | (with_reducible intro _) | (refine fun (_ : Bool) => ?_)))
      all_goals first | (exact absurd ‹decide (n ≤ 4) = false› (by rw [hd]; decide)) | skip
      · show l.length ≤ 100000000
        omega
      refine AW.loop (I := fun x : Nat × Nat => ⟨93, [(0, aS l), (1, .lit st), (5, .own 0), (6, .int .i64 n), (7, aI ((ES st).bs l n)), (8, .int .i64 x.1)], [.row 83 4 (JS st (fullS st l) x.2).length (els cSp (JS st (fullS st l) x.2))]⟩) (fun x => x.1 ≤ ((ES st).bs l n).length ∧ (fullS st l).drop x.2 = remS st l n x.1 ++ tailS st l m) (fun x => ((ES st).bs l n).length - x.1) (0, j) ⟨Nat.zero_le _, hdr⟩ ?_ ?_
      · (repeat' first | (with_reducible exact trivial) | (with_reducible rfl) | (refine And.intro ?_ ?_) | (refine Need.mk ?_) | exact True.intro | (first | (refine ⟨_, Told.refl _, ?_, ?_⟩) | (refine ⟨⟨_, _⟩, Told.refl _, ?_, ?_⟩) | (refine ⟨⟨_, _, _⟩, Told.refl _, ?_, ?_⟩) | (refine ⟨⟨_, _, _, _⟩, Told.refl _, ?_, ?_⟩) | (refine ⟨⟨_, _, _, _, _⟩, Told.refl _, ?_, ?_⟩) | (refine ⟨(), Told.refl _, ?_, ?_⟩)) | (with_reducible intro _) | (refine fun (_ : Bool) => ?_))
        all_goals rfl
      · rintro ⟨i, j⟩ ⟨hi, hdr⟩
        dsimp only at hi hdr ⊢
        have hw := iw (n := (i : Int) + 1) (by omega) (by omega)
        rcases Nat.lt_or_ge (i + 1) ((ES st).bs l n).length with hlt | hge
        · have hd2 : decide (IntKind.i64.wrap ((i : Int) + 1) < (((ES st).bs l n).length : Int)) = true := by rw [hw]; exact decide_eq_true (by omega)
          have hjl := JS_len st (fullS st l) j
          have ei : ((i : Int) + 1).toNat = i + 1 := by omega
          cases hv : (ES st).last l n (((ES st).bs l n).getD i default) with
          | none =>
            have hN := remS_none hlt hv
            rw [hN] at hdr
            ((refine AW.byF ‹_› ?_); (repeat' first | (with_reducible exact trivial) | (with_reducible rfl) | (refine And.intro ?_ ?_) | (refine Need.mk ?_) | exact True.intro | (first | (refine ⟨_, Told.refl _, ?_, ?_⟩) | (refine ⟨⟨_, _⟩, Told.refl _, ?_, ?_⟩) | (refine ⟨⟨_, _, _⟩, Told.refl _, ?_, ?_⟩) | (refine ⟨⟨_, _, _, _⟩, Told.refl _, ?_, ?_⟩) | (refine ⟨⟨_, _, _, _, _⟩, Told.refl _, ?_, ?_⟩) | (refine ⟨(), Told.refl _, ?_, ?_⟩)) | (with_reducible intro _) | (refine fun (_ : Bool) => ?_)))
            all_goals first | (exact absurd ‹decide (IntKind.i64.wrap ((i : Int) + 1) < (((ES st).bs l n).length : Int)) = false› (by rw [hd2]; decide)) | skip
            all_goals first | (exact absurd ‹(!((ES st).last l n (((ES st).bs l n).getD (i : Int).toNat default)).isSome) = false› (by rw [Int.toNat_natCast, hv]; decide)) | skip
            any_goals (refine Exists.intro (i + 1, j) (And.intro ?_ (And.intro ?_ ?_)); all_goals (repeat' first | (with_reducible exact trivial) | (with_reducible rfl) | (refine And.intro ?_ ?_) | (refine Need.mk ?_) | exact True.intro | (first | (refine ⟨_, Told.refl _, ?_, ?_⟩) | (refine ⟨⟨_, _⟩, Told.refl _, ?_, ?_⟩) | (refine ⟨⟨_, _, _⟩, Told.refl _, ?_, ?_⟩) | (refine ⟨⟨_, _, _, _⟩, Told.refl _, ?_, ?_⟩) | (refine ⟨⟨_, _, _, _, _⟩, Told.refl _, ?_, ?_⟩) | (refine ⟨(), Told.refl _, ?_, ?_⟩)) | (with_reducible intro _) | (refine fun (_ : Bool) => ?_)))
            all_goals first
              | omega
              | (show l.length < 9223372036854775807; omega)
              | (dsimp only; omega)
              | (dsimp only; exact hdr)
              | (rw [hw]; dsimp only; omega)
          | some v =>
            have hN := remS_some hlt hv
            obtain ⟨x, hx⟩ : ∃ x : Spn, x = ⟨n, ((ES st).bs l n).getD i default, ((ES st).bs l n).getD (i + 1) default - 1, v⟩ := ⟨_, rfl⟩
            have hb1 := hbr.1 (((ES st).bs l n).getD (i + 1) default) (by rw [getD_at hlt]; exact List.getElem_mem hlt)
            have hw3 := iw (n := ((ES st).bs l n).getD (i + 1) default - 1) (by omega) (by omega)
            rw [← hx] at hN
            obtain ⟨jlt, jx, jdr⟩ := drop_next (hdr.trans (by rw [hN]; rfl))
            have hxs : saneS st x = true := by rw [← jx, Go.Abs.Span.getB jlt]; exact fg _ (List.getElem_mem jlt)
            have hjs := JS_sane fo fg j
            have hxr : (⟨n, ((ES st).bs l n).getD (i : Int).toNat default, IntKind.i64.wrap (((ES st).bs l n).getD (IntKind.i64.wrap ((i : Int) + 1)).toNat default - 1), ((ES st).last l n (((ES st).bs l n).getD (i : Int).toNat default)).getD 0⟩ : Spn) = x := by
              rw [hx, hw, ei, Int.toNat_natCast, hw3, hv]
              rfl
            rw [← hxr] at hxs
            rcases JS_next jlt with ⟨j1, j2⟩ | ⟨init, q, j1, j2⟩
            · rw [jx, ← hxr] at j2
              rw [j1] at hjl ⊢
              ((refine AW.byF ‹_› ?_); (repeat' first | (with_reducible exact trivial) | (with_reducible rfl) | (refine And.intro ?_ ?_) | (refine Need.mk ?_) | exact True.intro | (first | (refine ⟨_, Told.refl _, ?_, ?_⟩) | (refine ⟨⟨_, _⟩, Told.refl _, ?_, ?_⟩) | (refine ⟨⟨_, _, _⟩, Told.refl _, ?_, ?_⟩) | (refine ⟨⟨_, _, _, _⟩, Told.refl _, ?_, ?_⟩) | (refine ⟨⟨_, _, _, _, _⟩, Told.refl _, ?_, ?_⟩) | (refine ⟨(), Told.refl _, ?_, ?_⟩)) | (with_reducible intro _) | (refine fun (_ : Bool) => ?_)))
              all_goals first | (exact absurd ‹decide (IntKind.i64.wrap ((i : Int) + 1) < (((ES st).bs l n).length : Int)) = false› (by rw [hd2]; decide)) | skip
              all_goals first | (exact absurd ‹(!((ES st).last l n (((ES st).bs l n).getD (i : Int).toNat default)).isSome) = true› (by rw [Int.toNat_natCast, hv]; simp)) | skip
              all_goals first | (exact absurd ‹decide (IntKind.i64.wrap ((([] : List Spn).length : Int) - 1) ≥ 0) = true› (by decide)) | skip
              any_goals (refine Exists.intro (i + 1, j + 1) (And.intro ?_ (And.intro ?_ ?_)); all_goals (repeat' first | (with_reducible exact trivial) | (with_reducible rfl) | (refine And.intro ?_ ?_) | (refine Need.mk ?_) | exact True.intro | (first | (refine ⟨_, Told.refl _, ?_, ?_⟩) | (refine ⟨⟨_, _⟩, Told.refl _, ?_, ?_⟩) | (refine ⟨⟨_, _, _⟩, Told.refl _, ?_, ?_⟩) | (refine ⟨⟨_, _, _, _⟩, Told.refl _, ?_, ?_⟩) | (refine ⟨⟨_, _, _, _, _⟩, Told.refl _, ?_, ?_⟩) | (refine ⟨(), Told.refl _, ?_, ?_⟩)) | (with_reducible intro _) | (refine fun (_ : Bool) => ?_)))
              all_goals first
                | omega
                | (rw [hw]; omega)
                | (show l.length < 9223372036854775807; omega)
                | (dsimp only; omega)
                | (dsimp only; exact jdr)
                | (rw [hw]; dsimp only; omega)
                | (rw [j2]; rfl)
                | (have hi := ‹_ < (JS st (fullS st l) (j + 1)).length›
                   rw [j2] at hi ⊢
                   exact els_of cSp_emb (n := 0) (cat_snoc' (l := []) (x := ⟨n, ((ES st).bs l n).getD (i : Int).toNat default, IntKind.i64.wrap (((ES st).bs l n).getD (IntKind.i64.wrap ((i : Int) + 1)).toNat default - 1), ((ES st).last l n (((ES st).bs l n).getD (i : Int).toNat default)).getD 0⟩) rfl (fun _ _ => rfl)) _ hi)
            · rw [jx, ← hxr] at j2
              rw [j1] at hjl hjs ⊢
              have hq : saneS st q = true := hjs q (by simp)
              have hlen : (init ++ [q]).length = init.length + 1 := by simp
              have e3 : IntKind.i64.wrap (((init ++ [q]).length : Int) - 1) = ((init.length : Nat) : Int) := by rw [iw (by omega) (by omega)]; omega
              have hgl : (init ++ [q]).getD (IntKind.i64.wrap (((init ++ [q]).length : Int) - 1)).toNat default = q := by rw [e3, Int.toNat_natCast, getD_last]
              have hd3 : decide (IntKind.i64.wrap (((init ++ [q]).length : Int) - 1) ≥ 0) = true := by rw [e3]; exact decide_eq_true (by omega)
              have hJ1 : joinsS st ((init ++ [q]).getD (IntKind.i64.wrap (((init ++ [q]).length : Int) - 1)).toNat default) ⟨n, ((ES st).bs l n).getD (i : Int).toNat default, IntKind.i64.wrap (((ES st).bs l n).getD (IntKind.i64.wrap ((i : Int) + 1)).toNat default - 1), ((ES st).last l n (((ES st).bs l n).getD (i : Int).toNat default)).getD 0⟩ = true → JS st (fullS st l) (j + 1) = init ++ [⟨q.n, q.lo, IntKind.i64.wrap (((ES st).bs l n).getD (IntKind.i64.wrap ((i : Int) + 1)).toNat default - 1), q.to⟩] := fun h => by
                rw [hgl] at h
                rw [j2]
                exact if_pos h
              have hJ2 : joinsS st ((init ++ [q]).getD (IntKind.i64.wrap (((init ++ [q]).length : Int) - 1)).toNat default) ⟨n, ((ES st).bs l n).getD (i : Int).toNat default, IntKind.i64.wrap (((ES st).bs l n).getD (IntKind.i64.wrap ((i : Int) + 1)).toNat default - 1), ((ES st).last l n (((ES st).bs l n).getD (i : Int).toNat default)).getD 0⟩ = false → JS st (fullS st l) (j + 1) = init ++ [q] ++ [⟨n, ((ES st).bs l n).getD (i : Int).toNat default, IntKind.i64.wrap (((ES st).bs l n).getD (IntKind.i64.wrap ((i : Int) + 1)).toNat default - 1), ((ES st).last l n (((ES st).bs l n).getD (i : Int).toNat default)).getD 0⟩] := fun h => by
                rw [hgl] at h
                rw [j2, if_neg (by rw [h]; decide)]
              have hel : ∀ r : Spn, r = ⟨q.n, q.lo, IntKind.i64.wrap (((ES st).bs l n).getD (IntKind.i64.wrap ((i : Int) + 1)).toNat default - 1), q.to⟩ → ∀ z, z < (init ++ [r]).length → catEl (0 + (IntKind.i64.wrap (((init ++ [q]).length : Int) - 1) - 0).toNat) (catEl 0 (elt []) fun i => els cSp (init ++ [q]) (Int.toNat 0 + i)) (elt [cSp ⟨((init ++ [q]).getD (IntKind.i64.wrap (((init ++ [q]).length : Int) - 1)).toNat default).n, ((init ++ [q]).getD (IntKind.i64.wrap (((init ++ [q]).length : Int) - 1)).toNat default).lo, IntKind.i64.wrap (((ES st).bs l n).getD (IntKind.i64.wrap ((i : Int) + 1)).toNat default - 1), ((init ++ [q]).getD (IntKind.i64.wrap (((init ++ [q]).length : Int) - 1)).toNat default).to⟩]) z = cSp ((init ++ [r]).getD z default) := fun r hr z hz => by
                rw [hgl, ← hr]
                refine cat_snoc' (l := init) (by rw [e3]; omega) (fun z hz => ?_) z hz
                show cSp ((init ++ [q]).getD (Int.toNat 0 + z) default) = _
                rw [show Int.toNat 0 + z = z by simp, getD_init hz]
              ((refine AW.byF ‹_› ?_); (repeat' first | (with_reducible exact trivial) | (with_reducible rfl) | (refine And.intro ?_ ?_) | (refine Need.mk ?_) | exact True.intro | (first | (refine ⟨_, Told.refl _, ?_, ?_⟩) | (refine ⟨⟨_, _⟩, Told.refl _, ?_, ?_⟩) | (refine ⟨⟨_, _, _⟩, Told.refl _, ?_, ?_⟩) | (refine ⟨⟨_, _, _, _⟩, Told.refl _, ?_, ?_⟩) | (refine ⟨⟨_, _, _, _, _⟩, Told.refl _, ?_, ?_⟩) | (refine ⟨(), Told.refl _, ?_, ?_⟩)) | (with_reducible intro _) | (refine fun (_ : Bool) => ?_)))
              all_goals first | (exact absurd ‹decide (IntKind.i64.wrap ((i : Int) + 1) < (((ES st).bs l n).length : Int)) = false› (by rw [hd2]; decide)) | skip
              all_goals first | (exact absurd ‹(!((ES st).last l n (((ES st).bs l n).getD (i : Int).toNat default)).isSome) = true› (by rw [Int.toNat_natCast, hv]; simp)) | skip
              all_goals first | (exact absurd ‹decide (IntKind.i64.wrap (((init ++ [q]).length : Int) - 1) ≥ 0) = false› (by rw [hd3]; decide)) | skip
              all_goals first | (refine Exists.intro ⟨_, ⟨_, _, _, _⟩, _⟩ (And.intro (Told.refl _) (And.intro ?_ ?_)) <;> (repeat' first | (with_reducible exact trivial) | (with_reducible rfl) | (refine And.intro ?_ ?_) | (refine Need.mk ?_) | exact True.intro | (first | (refine ⟨_, Told.refl _, ?_, ?_⟩) | (refine ⟨⟨_, _⟩, Told.refl _, ?_, ?_⟩) | (refine ⟨⟨_, _, _⟩, Told.refl _, ?_, ?_⟩) | (refine ⟨⟨_, _, _, _⟩, Told.refl _, ?_, ?_⟩) | (refine ⟨⟨_, _, _, _, _⟩, Told.refl _, ?_, ?_⟩) | (refine ⟨(), Told.refl _, ?_, ?_⟩)) | (with_reducible intro _) | (refine fun (_ : Bool) => ?_))) | skip
              any_goals (refine Exists.intro (i + 1, j + 1) (And.intro ?_ (And.intro ?_ ?_)); all_goals (repeat' first | (with_reducible exact trivial) | (with_reducible rfl) | (refine And.intro ?_ ?_) | (refine Need.mk ?_) | exact True.intro | (first | (refine ⟨_, Told.refl _, ?_, ?_⟩) | (refine ⟨⟨_, _⟩, Told.refl _, ?_, ?_⟩) | (refine ⟨⟨_, _, _⟩, Told.refl _, ?_, ?_⟩) | (refine ⟨⟨_, _, _, _⟩, Told.refl _, ?_, ?_⟩) | (refine ⟨⟨_, _, _, _, _⟩, Told.refl _, ?_, ?_⟩) | (refine ⟨(), Told.refl _, ?_, ?_⟩)) | (with_reducible intro _) | (refine fun (_ : Bool) => ?_)))
              all_goals first
                | omega
                | (rw [hw]; omega)
                | (show l.length < 9223372036854775807; omega)
                | (dsimp only; omega)
                | (dsimp only; exact jdr)
                | (rw [hw]; dsimp only; omega)
                | (rw [e3]; omega)
                | (rw [e3]; dsimp only; omega)
                | exact hxs
                | (rw [hgl]; exact hq)
                | (dsimp only; rw [hJ1 ‹_›, e3, List.length_append]; show _ = init.length + 1; omega)
                | (dsimp only; rw [hJ2 ‹_›]; simp only [List.length_append, List.length_cons, List.length_nil]; done)
                | (have hi := ‹_ < (JS st (fullS st l) (j + 1)).length›
                   rw [hJ2 ‹_›] at hi
                   dsimp only
                   rw [hJ2 ‹_›]
                   exact els_of cSp_emb (n := 0) (cat_snoc' rfl (fun _ _ => rfl)) _ hi)
                | (have hi := ‹_ < (JS st (fullS st l) (j + 1)).length›
                   rw [hJ1 ‹_›] at hi
                   dsimp only
                   rw [hJ1 ‹_›]
                   exact els_of cSp_emb (n := 0) (hel _ rfl) _ hi)
        · have hd2 : decide (IntKind.i64.wrap ((i : Int) + 1) < (((ES st).bs l n).length : Int)) = false := by rw [hw]; exact decide_eq_false (by omega)
          have hE := remS_end (st := st) (l := l) (n := n) (i := i) (by omega)
          rw [hE, List.nil_append] at hdr
          ((refine AW.byF ‹_› ?_); (repeat' first | (with_reducible exact trivial) | (with_reducible rfl) | (refine And.intro ?_ ?_) | (refine Need.mk ?_) | exact True.intro | (first | (refine ⟨_, Told.refl _, ?_, ?_⟩) | (refine ⟨⟨_, _⟩, Told.refl _, ?_, ?_⟩) | (refine ⟨⟨_, _, _⟩, Told.refl _, ?_, ?_⟩) | (refine ⟨⟨_, _, _, _⟩, Told.refl _, ?_, ?_⟩) | (refine ⟨⟨_, _, _, _, _⟩, Told.refl _, ?_, ?_⟩) | (refine ⟨(), Told.refl _, ?_, ?_⟩)) | (with_reducible intro _) | (refine fun (_ : Bool) => ?_)))
          all_goals first | (exact absurd ‹decide (IntKind.i64.wrap ((i : Int) + 1) < (((ES st).bs l n).length : Int)) = true› (by rw [hd2]; decide)) | skip
          any_goals (refine Exists.intro (m, j) (And.intro ?_ (And.intro ?_ ?_)); all_goals (repeat' first | (with_reducible exact trivial) | (with_reducible rfl) | (refine And.intro ?_ ?_) | (refine Need.mk ?_) | exact True.intro | (first | (refine ⟨_, Told.refl _, ?_, ?_⟩) | (refine ⟨⟨_, _⟩, Told.refl _, ?_, ?_⟩) | (refine ⟨⟨_, _, _⟩, Told.refl _, ?_, ?_⟩) | (refine ⟨⟨_, _, _, _⟩, Told.refl _, ?_, ?_⟩) | (refine ⟨⟨_, _, _, _, _⟩, Told.refl _, ?_, ?_⟩) | (refine ⟨(), Told.refl _, ?_, ?_⟩)) | (with_reducible intro _) | (refine fun (_ : Bool) => ?_)))
          all_goals first
            | omega
            | (dsimp only; omega)
            | (dsimp only; exact hdr)
            | (rw [iw (by omega) (by omega)]; dsimp only; omega)
end Go.Abs.Span
set_option maxRecDepth 100000
namespace Go.Abs.Hx
open Go.RowKit Go.Proofs Go.Abs.Tab Go.Abs.Coll
/-- The bytes behind a place; 0 ahead of it. -/
def bytesD (n v : Int) (m : Nat) : List Int := (List.range n.toNat).map (fun i => if i < m then 0 else byteAt v (n.toNat - 1 - i))
theorem bytesD_len (n v : Int) (m : Nat) : (bytesD n v m).length = n.toNat := by simp [bytesD]
theorem bytesD_all (n v : Int) : bytesD n v n.toNat = List.replicate n.toNat 0 := by
  refine List.ext_getElem (by simp [bytesD]) fun i h1 h2 => ?_
  rw [bytesD_len] at h1
  simp only [bytesD, List.getElem_map, List.getElem_range, if_pos h1, List.getElem_replicate]
theorem bytesD_set (n v : Int) (m : Nat) (hm : m < n.toNat) : (bytesD n v (m + 1)).set m (byteAt v (n.toNat - 1 - m)) = bytesD n v m := by
  refine List.ext_getElem (by simp [bytesD]) fun i h1 h2 => ?_
  rw [bytesD_len] at h2
  rw [List.getElem_set]
  simp only [bytesD, List.getElem_map, List.getElem_range]
  by_cases e : m = i
  · subst e
    simp
  · rw [if_neg e]
    by_cases q : i < m
    · rw [if_pos q, if_pos (by omega)]
    · rw [if_neg q, if_neg (by omega)]
/-- What is left of a value, so many bytes taken. -/
def rest (v : Int) (k : Nat) : Int := v / 256 ^ k
theorem rest_next (v : Int) (k : Nat) (h : 0 ≤ v) : rest v (k + 1) = (rest v k) / 256 := by
  unfold rest
  rw [Int.pow_succ, Int.ediv_ediv_of_nonneg (Int.pow_nonneg (by decide))]
theorem rest_rng {v : Int} (h : 0 ≤ v) (h2 : v < 4294967296) (k : Nat) : 0 ≤ rest v k ∧ rest v k < 4294967296 := by
  unfold rest
  exact ⟨Int.ediv_nonneg h (Int.pow_nonneg (by decide)), Int.lt_of_le_of_lt (Int.ediv_le_self _ h) h2⟩
set_option maxHeartbeats 4000000 in
theorem rbytes : SpOK Tryz.prog 154 SBytes := fun ⟨n, v⟩ _ => by
  have hC : COK Tryz.prog (cfg [(130, SSane)]) := Ty.ty.cfg ⟨refSane, trivial⟩
  ((refine Fn.ofF hC Tryz.func154 Tryz.ntmps154 rfl rfl rfl ?_); (repeat' first | (with_reducible exact trivial) | (with_reducible rfl) | (refine And.intro ?_ ?_) | (refine Need.mk ?_) | exact True.intro | (first | (refine ⟨_, Told.refl _, ?_, ?_⟩) | (refine ⟨⟨_, _⟩, Told.refl _, ?_, ?_⟩) | (refine ⟨⟨_, _, _⟩, Told.refl _, ?_, ?_⟩) | (refine ⟨⟨_, _, _, _⟩, Told.refl _, ?_, ?_⟩) | (refine ⟨⟨_, _, _, _, _⟩, Told.refl _, ?_, ?_⟩) | (refine ⟨(), Told.refl _, ?_, ?_⟩)) | (with_reducible intro _) | (refine fun (_ : Bool) => ?_)))
  · have hs : ¬ saneC n v = true := by simpa using ‹(!saneC n v) = true›
    rw [bytesC_len, if_neg hs]
  all_goals
    have hs : saneC n v = true := by simpa using ‹(!saneC n v) = false›
    have hn := (saneC_iff n v).1 hs
    have hn : (1 ≤ n ∧ n ≤ 4) ∧ 0 ≤ v ∧ v < 4294967296 := by omega
  · omega
  · omega
  · show (1 : Int) * n ≤ 281474976710656
    omega
  have e1 : bytesC n v = bytesD n v 0 := by
    unfold bytesC bytesD
    rw [if_pos hs]
    simp
  have hw1 := iw (n := n - 1) (by omega) (by omega)
  refine AW.loop (I := fun k : Nat => ⟨30, [(1, .ptr 0 0), (3, .own 1), (4, .int .i64 (rest v k)), (5, .int .i64 (n - 1 - k))], [.box 56 [.int .i64 n, .int .i64 v], .row 5 1 n.toNat (els c8 (bytesD n v (n.toNat - k)))]⟩) (fun k => (k : Int) ≤ n) (fun k => n.toNat - k) 0 (by show ((0 : Nat) : Int) ≤ n; omega) ?_ ?_
  · (repeat' first | (with_reducible exact trivial) | (with_reducible rfl) | (refine And.intro ?_ ?_) | (refine Need.mk ?_) | exact True.intro | (first | (refine ⟨_, Told.refl _, ?_, ?_⟩) | (refine ⟨⟨_, _⟩, Told.refl _, ?_, ?_⟩) | (refine ⟨⟨_, _, _⟩, Told.refl _, ?_, ?_⟩) | (refine ⟨⟨_, _, _, _⟩, Told.refl _, ?_, ?_⟩) | (refine ⟨⟨_, _, _, _, _⟩, Told.refl _, ?_, ?_⟩) | (refine ⟨(), Told.refl _, ?_, ?_⟩)) | (with_reducible intro _) | (refine fun (_ : Bool) => ?_))
    all_goals first
      | rfl
      | (rw [hw1]; show n - 1 = n - 1 - ((0 : Nat) : Int); omega)
      | (show v = v / 256 ^ 0; simp; done)
      | (rename_i i hi
         have e : bytesD n v (n.toNat - 0) = List.replicate n.toNat 0 := bytesD_all n v
         have e2 : (bytesD n v (n.toNat - 0)).getD i default = 0 := by
           rw [e]
           simp [List.getD, hi]
         show _ = (bytesD n v (n.toNat - 0)).getD i default
         rw [e2])
  · intro k hk
    rcases Int.lt_or_le k n with hlt | hge
    · have hd : decide (n - 1 - (k : Int) ≥ 0) = true := decide_eq_true (by omega)
      have hw := iw (n := n - 1 - (k : Int) - 1) (by omega) (by omega)
      have hk2 : n - 1 - (k : Int) = ((n.toNat - 1 - k : Nat) : Int) := by omega
      have hrr := rest_rng hn.2.1 hn.2.2 k
      have hrn := rest_next v k hn.2.1
      have hq : IntKind.i64.wrap ((rest v k).tdiv 256) = rest v (k + 1) := by
        rw [Int.tdiv_eq_ediv_of_nonneg hrr.1, iw (by omega) (by omega), hrn]
      have hm : IntKind.u8.wrap ((rest v k).tmod 256) = byteAt v k := by
        rw [Int.tmod_eq_emod_of_nonneg hrr.1, IntKind.wrap_u8]
        show rest v k % 256 % 256 = rest v k % 256
        omega
      have hset := bytesD_set n v (n.toNat - 1 - k) (by omega)
      rw [show n.toNat - 1 - k + 1 = n.toNat - k by omega, show n.toNat - 1 - (n.toNat - 1 - k) = k by omega] at hset
      have hix : (n - 1 - (k : Int)).toNat = n.toNat - 1 - k := by omega
      ((refine AW.byF ‹_› ?_); (repeat' first | (with_reducible exact trivial) | (with_reducible rfl) | (refine And.intro ?_ ?_) | (refine Need.mk ?_) | exact True.intro | (first | (refine ⟨_, Told.refl _, ?_, ?_⟩) | (refine ⟨⟨_, _⟩, Told.refl _, ?_, ?_⟩) | (refine ⟨⟨_, _, _⟩, Told.refl _, ?_, ?_⟩) | (refine ⟨⟨_, _, _, _⟩, Told.refl _, ?_, ?_⟩) | (refine ⟨⟨_, _, _, _, _⟩, Told.refl _, ?_, ?_⟩) | (refine ⟨(), Told.refl _, ?_, ?_⟩)) | (with_reducible intro _) | (refine fun (_ : Bool) => ?_)))
      all_goals first | (exact absurd ‹decide (n - 1 - (k : Int) ≥ 0) = false› (by rw [hd]; decide)) | skip
      any_goals (first | (refine Exists.intro ((k + 1 : Nat)) (And.intro ?_ (And.intro ?_ ?_)); all_goals (repeat' first | (with_reducible exact trivial) | (with_reducible rfl) | (refine And.intro ?_ ?_) | (refine Need.mk ?_) | exact True.intro | (first | (refine ⟨_, Told.refl _, ?_, ?_⟩) | (refine ⟨⟨_, _⟩, Told.refl _, ?_, ?_⟩) | (refine ⟨⟨_, _, _⟩, Told.refl _, ?_, ?_⟩) | (refine ⟨⟨_, _, _, _⟩, Told.refl _, ?_, ?_⟩) | (refine ⟨⟨_, _, _, _, _⟩, Told.refl _, ?_, ?_⟩) | (refine ⟨(), Told.refl _, ?_, ?_⟩)) | (with_reducible intro _) | (refine fun (_ : Bool) => ?_))) | fail)
      all_goals first
        | omega
        | (show (256 : Int) ≠ 0; decide)
        | exact hq
        | (rw [hw]; omega)
        | (show _ = n - 1 - ((k + 1 : Nat) : Int); rw [hw]; omega)
        | (rename_i i hi
           rw [hm, hix]
           have hp := put_set (f := c8) (l := bytesD n v (n.toNat - k)) (k := n.toNat - 1 - k) (x := byteAt v k) (by rw [bytesD_len]; omega)
           rw [hset, show n.toNat - 1 - k = n.toNat - (k + 1) by omega] at hp
           refine els_of c8_emb (n := 0) (fun j hj => ?_) i (by rw [bytesD_len]; exact hi)
           rw [show n.toNat - 1 - k = n.toNat - (k + 1) by omega]
           exact hp j hj)
    · obtain rfl : n = (k : Int) := by omega
      have hd : decide ((k : Int) - 1 - (k : Int) ≥ 0) = false := decide_eq_false (by omega)
      ((refine AW.byF ‹_› ?_); (repeat' first | (with_reducible exact trivial) | (with_reducible rfl) | (refine And.intro ?_ ?_) | (refine Need.mk ?_) | exact True.intro | (first | (refine ⟨_, Told.refl _, ?_, ?_⟩) | (refine ⟨⟨_, _⟩, Told.refl _, ?_, ?_⟩) | (refine ⟨⟨_, _, _⟩, Told.refl _, ?_, ?_⟩) | (refine ⟨⟨_, _, _, _⟩, Told.refl _, ?_, ?_⟩) | (refine ⟨⟨_, _, _, _, _⟩, Told.refl _, ?_, ?_⟩) | (refine ⟨(), Told.refl _, ?_, ?_⟩)) | (with_reducible intro _) | (refine fun (_ : Bool) => ?_)))
      all_goals first | (exact absurd ‹decide ((k : Int) - 1 - (k : Int) ≥ 0) = true› (by rw [hd]; decide)) | skip
      all_goals first
        | (rw [e1, bytesD_len]; done)
        | (rw [e1, show ((k : Int).toNat - k) = 0 by omega]; done)
end Go.Abs.Hx
set_option maxRecDepth 100000
namespace Go.Abs.Hx
open Go.RowKit Go.Proofs Go.Abs.Tab Go.Abs.Coll
def SLo : Sp := ⟨Rct, fun _ => True, fun r => [.agg (cR r)], fun r => .row 5 1 (lo r).length (els c8 (lo r))⟩
def SHi : Sp := ⟨Rct, fun _ => True, fun r => [.agg (cR r)], fun r => .row 5 1 (hi r).length (els c8 (hi r))⟩
theorem rlows : SpOK Tryz.prog 126 SLo := fun (r : Rct) _ => by
  have hC : COK Tryz.prog (cfg [(154, SBytes)]) := Ty.ty.cfg ⟨rbytes, trivial⟩
  ((refine Fn.ofF hC Tryz.func126 Tryz.ntmps126 rfl rfl rfl ?_); (repeat' first | (with_reducible exact trivial) | (with_reducible rfl) | (refine And.intro ?_ ?_) | (refine Need.mk ?_) | exact True.intro | (first | (refine ⟨_, Told.refl _, ?_, ?_⟩) | (refine ⟨⟨_, _⟩, Told.refl _, ?_, ?_⟩) | (refine ⟨⟨_, _, _⟩, Told.refl _, ?_, ?_⟩) | (refine ⟨⟨_, _, _, _⟩, Told.refl _, ?_, ?_⟩) | (refine ⟨⟨_, _, _, _, _⟩, Told.refl _, ?_, ?_⟩) | (refine ⟨(), Told.refl _, ?_, ?_⟩)) | (with_reducible intro _) | (refine fun (_ : Bool) => ?_)))
  all_goals rfl
theorem rhighs : SpOK Tryz.prog 127 SHi := fun (r : Rct) _ => by
  have hC : COK Tryz.prog (cfg [(154, SBytes)]) := Ty.ty.cfg ⟨rbytes, trivial⟩
  ((refine Fn.ofF hC Tryz.func127 Tryz.ntmps127 rfl rfl rfl ?_); (repeat' first | (with_reducible exact trivial) | (with_reducible rfl) | (refine And.intro ?_ ?_) | (refine Need.mk ?_) | exact True.intro | (first | (refine ⟨_, Told.refl _, ?_, ?_⟩) | (refine ⟨⟨_, _⟩, Told.refl _, ?_, ?_⟩) | (refine ⟨⟨_, _, _⟩, Told.refl _, ?_, ?_⟩) | (refine ⟨⟨_, _, _, _⟩, Told.refl _, ?_, ?_⟩) | (refine ⟨⟨_, _, _, _, _⟩, Told.refl _, ?_, ?_⟩) | (refine ⟨(), Told.refl _, ?_, ?_⟩)) | (with_reducible intro _) | (refine fun (_ : Bool) => ?_)))
  all_goals rfl
set_option maxHeartbeats 4000000 in
theorem rsaneR : SpOK Tryz.prog 94 SRS := fun (r : Rct) _ => by
  have hC : COK Tryz.prog (cfg [(126, SLo), (127, SHi)]) := Ty.ty.cfg ⟨rlows, rhighs, trivial⟩
  have hl := lo_len r
  ((refine Fn.ofF hC Tryz.func94 Tryz.ntmps94 rfl rfl rfl ?_); (repeat' first | (with_reducible exact trivial) | (with_reducible rfl) | (refine And.intro ?_ ?_) | (refine Need.mk ?_) | exact True.intro | (first | (refine ⟨_, Told.refl _, ?_, ?_⟩) | (refine ⟨⟨_, _⟩, Told.refl _, ?_, ?_⟩) | (refine ⟨⟨_, _, _⟩, Told.refl _, ?_, ?_⟩) | (refine ⟨⟨_, _, _, _⟩, Told.refl _, ?_, ?_⟩) | (refine ⟨⟨_, _, _, _, _⟩, Told.refl _, ?_, ?_⟩) | (refine ⟨(), Told.refl _, ?_, ?_⟩)) | (with_reducible intro _) | (refine fun (_ : Bool) => ?_)))
  any_goals
    have hb : (lo r).length = 0 ∨ (hi r).length = 0 := by ((try dsimp only at *); (try simp only [decide_eq_true_eq, decide_eq_false_iff_not, beq_iff_eq, bne_iff_ne, beq_eq_false_iff_ne, bne_eq_false_iff_eq, ne_eq, Decidable.not_not, ge_iff_le, gt_iff_lt, Bool.not_eq_true', Bool.not_eq_false', Int.not_lt, Int.not_le, Nat.not_lt, Nat.not_le] at *)); omega
    exact (decide_eq_false (by omega)).symm
  have h1 : 1 ≤ (lo r).length := by ((try dsimp only at *); (try simp only [decide_eq_true_eq, decide_eq_false_iff_not, beq_iff_eq, bne_iff_ne, beq_eq_false_iff_ne, bne_eq_false_iff_eq, ne_eq, Decidable.not_not, ge_iff_le, gt_iff_lt, Bool.not_eq_true', Bool.not_eq_false', Int.not_lt, Int.not_le, Nat.not_lt, Nat.not_le] at *)); omega
  have h2 : 1 ≤ (hi r).length := by ((try dsimp only at *); (try simp only [decide_eq_true_eq, decide_eq_false_iff_not, beq_iff_eq, bne_iff_ne, beq_eq_false_iff_ne, bne_eq_false_iff_eq, ne_eq, Decidable.not_not, ge_iff_le, gt_iff_lt, Bool.not_eq_true', Bool.not_eq_false', Int.not_lt, Int.not_le, Nat.not_lt, Nat.not_le] at *)); omega
  obtain ⟨hle, hln⟩ := len_eq r h1 h2
  refine AW.loop (I := fun k : Nat => ⟨33, [(1, .ptr 0 0), (3, .own 1), (4, .own 2), (5, .int .i64 k)], [.box 64 (cR r), .row 5 1 (lo r).length (els c8 (lo r)), .row 5 1 (hi r).length (els c8 (hi r))]⟩) (fun k => k ≤ (lo r).length ∧ ∀ j, j < k → (lo r).getD j default ≤ (hi r).getD j default) (fun k => (lo r).length - k) 0 ⟨Nat.zero_le _, fun j hj => by omega⟩ ?_ ?_
  · (repeat' first | (with_reducible exact trivial) | (with_reducible rfl) | (refine And.intro ?_ ?_) | (refine Need.mk ?_) | exact True.intro | (first | (refine ⟨_, Told.refl _, ?_, ?_⟩) | (refine ⟨⟨_, _⟩, Told.refl _, ?_, ?_⟩) | (refine ⟨⟨_, _, _⟩, Told.refl _, ?_, ?_⟩) | (refine ⟨⟨_, _, _, _⟩, Told.refl _, ?_, ?_⟩) | (refine ⟨⟨_, _, _, _, _⟩, Told.refl _, ?_, ?_⟩) | (refine ⟨(), Told.refl _, ?_, ?_⟩)) | (with_reducible intro _) | (refine fun (_ : Bool) => ?_))
    all_goals first | rfl
  · intro k ⟨hk, hok⟩
    rcases Nat.lt_or_ge k (lo r).length with hlt | hge
    · have hd : decide ((k : Int) < ((lo r).length : Int)) = true := decide_eq_true (by omega)
      have hw := iw (n := (k : Int) + 1) (by omega) (by omega)
      ((refine AW.byF ‹_› ?_); (repeat' first | (with_reducible exact trivial) | (with_reducible rfl) | (refine And.intro ?_ ?_) | (refine Need.mk ?_) | exact True.intro | (first | (refine ⟨_, Told.refl _, ?_, ?_⟩) | (refine ⟨⟨_, _⟩, Told.refl _, ?_, ?_⟩) | (refine ⟨⟨_, _, _⟩, Told.refl _, ?_, ?_⟩) | (refine ⟨⟨_, _, _, _⟩, Told.refl _, ?_, ?_⟩) | (refine ⟨⟨_, _, _, _, _⟩, Told.refl _, ?_, ?_⟩) | (refine ⟨(), Told.refl _, ?_, ?_⟩)) | (with_reducible intro _) | (refine fun (_ : Bool) => ?_)))
      all_goals first | (exact absurd ‹decide ((k : Int) < ((lo r).length : Int)) = false› (by rw [hd]; decide)) | skip
      any_goals (first | (refine Exists.intro ((k + 1 : Nat)) (And.intro ?_ (And.intro ?_ ?_)); all_goals (repeat' first | (with_reducible exact trivial) | (with_reducible rfl) | (refine And.intro ?_ ?_) | (refine Need.mk ?_) | exact True.intro | (first | (refine ⟨_, Told.refl _, ?_, ?_⟩) | (refine ⟨⟨_, _⟩, Told.refl _, ?_, ?_⟩) | (refine ⟨⟨_, _, _⟩, Told.refl _, ?_, ?_⟩) | (refine ⟨⟨_, _, _, _⟩, Told.refl _, ?_, ?_⟩) | (refine ⟨⟨_, _, _, _, _⟩, Told.refl _, ?_, ?_⟩) | (refine ⟨(), Told.refl _, ?_, ?_⟩)) | (with_reducible intro _) | (refine fun (_ : Bool) => ?_))) | fail)
      all_goals try simp only [Int.toNat_natCast] at *
      all_goals first
        | omega
        | (rw [hw]; rfl)
        | (have q := of_decide_eq_true ‹decide ((lo r).getD k default > (hi r).getD k default) = true›
           exact (decide_eq_false (fun h => by have := h.2.2 k hlt; omega)).symm)
        | (have q := of_decide_eq_false ‹decide ((lo r).getD k default > (hi r).getD k default) = false›
           rename_i j hj
           by_cases e : j = k
           · rw [e]; omega
           · exact hok j (by omega))
    · obtain rfl : k = (lo r).length := by omega
      have hd : decide (((lo r).length : Int) < ((lo r).length : Int)) = false := decide_eq_false (by omega)
      have ho : okR r = true := decide_eq_true ⟨h1, h2, hok⟩
      ((refine AW.byF ‹_› ?_); (repeat' first | (with_reducible exact trivial) | (with_reducible rfl) | (refine And.intro ?_ ?_) | (refine Need.mk ?_) | exact True.intro | (first | (refine ⟨_, Told.refl _, ?_, ?_⟩) | (refine ⟨⟨_, _⟩, Told.refl _, ?_, ?_⟩) | (refine ⟨⟨_, _, _⟩, Told.refl _, ?_, ?_⟩) | (refine ⟨⟨_, _, _, _⟩, Told.refl _, ?_, ?_⟩) | (refine ⟨⟨_, _, _, _, _⟩, Told.refl _, ?_, ?_⟩) | (refine ⟨(), Told.refl _, ?_, ?_⟩)) | (with_reducible intro _) | (refine fun (_ : Bool) => ?_)))
      all_goals first | (exact absurd ‹decide (((lo r).length : Int) < ((lo r).length : Int)) = true› (by rw [hd]; decide)) | skip
      all_goals exact ho.symm
set_option maxHeartbeats 8000000 in
theorem rfitsR : SpOK Tryz.prog 155 SFits := fun ⟨r, b⟩ hl => by
  have hC : COK Tryz.prog (cfg [(94, SRS), (126, SLo), (127, SHi)]) := Ty.ty.cfg ⟨rsaneR, rlows, rhighs, trivial⟩
  have hl : b.length < 4611686018427387904 := hl
  ((refine Fn.ofF hC Tryz.func155 Tryz.ntmps155 rfl rfl rfl ?_); (repeat' first | (with_reducible exact trivial) | (with_reducible rfl) | (refine And.intro ?_ ?_) | (refine Need.mk ?_) | exact True.intro | (first | (refine ⟨_, Told.refl _, ?_, ?_⟩) | (refine ⟨⟨_, _⟩, Told.refl _, ?_, ?_⟩) | (refine ⟨⟨_, _, _⟩, Told.refl _, ?_, ?_⟩) | (refine ⟨⟨_, _, _, _⟩, Told.refl _, ?_, ?_⟩) | (refine ⟨⟨_, _, _, _, _⟩, Told.refl _, ?_, ?_⟩) | (refine ⟨(), Told.refl _, ?_, ?_⟩)) | (with_reducible intro _) | (refine fun (_ : Bool) => ?_)))
  · have hb : okR r = false := by simpa using ‹(!okR r) = true›
    have : fits r b = 0 := if_neg (by rw [hb]; decide)
    rw [this]
    rfl
  have ho : okR r = true := by simpa using ‹(!okR r) = false›
  have hr := ok_len ho
  obtain ⟨M, hM⟩ : ∃ M, M = min b.length r.n.toNat := ⟨_, rfl⟩
  have ef : fits r b = fitTo r b M 0 := by rw [hM]; exact if_pos ho
  have hMl : M ≤ b.length ∧ (M : Int) ≤ r.n := by omega
  refine AW.loop (I := fun k : Nat => ⟨50, [(1, a8 b), (2, .ptr 0 0), (5, .own 1), (6, .own 2), (7, .int .i64 k)], [.box 64 (cR r), .row 5 1 (lo r).length (els c8 (lo r)), .row 5 1 (hi r).length (els c8 (hi r))]⟩) (fun k => k ≤ M ∧ ∀ j, j < k → inK r b j = true) (fun k => M - k) 0 ⟨Nat.zero_le _, fun j hj => by omega⟩ ?_ ?_
  · (repeat' first | (with_reducible exact trivial) | (with_reducible rfl) | (refine And.intro ?_ ?_) | (refine Need.mk ?_) | exact True.intro | (first | (refine ⟨_, Told.refl _, ?_, ?_⟩) | (refine ⟨⟨_, _⟩, Told.refl _, ?_, ?_⟩) | (refine ⟨⟨_, _, _⟩, Told.refl _, ?_, ?_⟩) | (refine ⟨⟨_, _, _, _⟩, Told.refl _, ?_, ?_⟩) | (refine ⟨⟨_, _, _, _, _⟩, Told.refl _, ?_, ?_⟩) | (refine ⟨(), Told.refl _, ?_, ?_⟩)) | (with_reducible intro _) | (refine fun (_ : Bool) => ?_))
    all_goals first | rfl
  · intro k ⟨hk, hok⟩
    rcases Nat.lt_or_ge k M with hlt | hge
    · have hd : decide ((k : Int) < (b.length : Int)) = true := decide_eq_true (by omega)
      have hd2 : decide ((k : Int) < r.n) = true := decide_eq_true (by omega)
      have hw := iw (n := (k : Int) + 1) (by omega) (by omega)
      ((refine AW.byF ‹_› ?_); (repeat' first | (with_reducible exact trivial) | (with_reducible rfl) | (refine And.intro ?_ ?_) | (refine Need.mk ?_) | exact True.intro | (first | (refine ⟨_, Told.refl _, ?_, ?_⟩) | (refine ⟨⟨_, _⟩, Told.refl _, ?_, ?_⟩) | (refine ⟨⟨_, _, _⟩, Told.refl _, ?_, ?_⟩) | (refine ⟨⟨_, _, _, _⟩, Told.refl _, ?_, ?_⟩) | (refine ⟨⟨_, _, _, _, _⟩, Told.refl _, ?_, ?_⟩) | (refine ⟨(), Told.refl _, ?_, ?_⟩)) | (with_reducible intro _) | (refine fun (_ : Bool) => ?_)))
      all_goals first | (exact absurd ‹decide ((k : Int) < (b.length : Int)) = false› (by rw [hd]; decide)) | (exact absurd ‹decide ((k : Int) < r.n) = false› (by rw [hd2]; decide)) | skip
      any_goals (first | (refine Exists.intro ((k + 1 : Nat)) (And.intro ?_ (And.intro ?_ ?_)); all_goals (repeat' first | (with_reducible exact trivial) | (with_reducible rfl) | (refine And.intro ?_ ?_) | (refine Need.mk ?_) | exact True.intro | (first | (refine ⟨_, Told.refl _, ?_, ?_⟩) | (refine ⟨⟨_, _⟩, Told.refl _, ?_, ?_⟩) | (refine ⟨⟨_, _, _⟩, Told.refl _, ?_, ?_⟩) | (refine ⟨⟨_, _, _, _⟩, Told.refl _, ?_, ?_⟩) | (refine ⟨⟨_, _, _, _, _⟩, Told.refl _, ?_, ?_⟩) | (refine ⟨(), Told.refl _, ?_, ?_⟩)) | (with_reducible intro _) | (refine fun (_ : Bool) => ?_))) | fail)
      all_goals try simp only [Int.toNat_natCast] at *
      all_goals first
        | omega
        | (rw [hw]; rfl)
        | (have q := of_decide_eq_false ‹decide (b.getD k default ≥ (lo r).getD k default) = false›
           rw [ef, fitTo_stop hlt hok (decide_eq_false (by omega))]
           done)
        | (have q := of_decide_eq_false ‹decide (b.getD k default ≤ (hi r).getD k default) = false›
           rw [ef, fitTo_stop hlt hok (decide_eq_false (by omega))]
           done)
        | (have q := of_decide_eq_true ‹decide (b.getD k default ≥ (lo r).getD k default) = true›
           have q2 := of_decide_eq_true ‹decide (b.getD k default ≤ (hi r).getD k default) = true›
           rename_i j hj
           by_cases e : j = k
           · rw [e]; exact decide_eq_true (by omega)
           · exact hok j (by omega))
    · obtain rfl : k = M := by omega
      have ef2 := ef.trans (fitTo_all hok)
      ((refine AW.byF ‹_› ?_); (repeat' first | (with_reducible exact trivial) | (with_reducible rfl) | (refine And.intro ?_ ?_) | (refine Need.mk ?_) | exact True.intro | (first | (refine ⟨_, Told.refl _, ?_, ?_⟩) | (refine ⟨⟨_, _⟩, Told.refl _, ?_, ?_⟩) | (refine ⟨⟨_, _, _⟩, Told.refl _, ?_, ?_⟩) | (refine ⟨⟨_, _, _, _⟩, Told.refl _, ?_, ?_⟩) | (refine ⟨⟨_, _, _, _, _⟩, Told.refl _, ?_, ?_⟩) | (refine ⟨(), Told.refl _, ?_, ?_⟩)) | (with_reducible intro _) | (refine fun (_ : Bool) => ?_)))
      all_goals first
        | (exfalso
           have q := of_decide_eq_true ‹decide ((k : Int) < (b.length : Int)) = true›
           have q2 := of_decide_eq_true ‹decide ((k : Int) < r.n) = true›
           omega)
        | (rw [ef2]; done)
end Go.Abs.Hx
set_option maxRecDepth 100000
namespace Go.Abs.Rc
open Go.RowKit Go.Proofs Go.Abs.Tab Go.Abs.Dest Go.Abs.Span Go.Abs.Coll Go.Abs.Hx Go.Abs.Mt
theorem rholds : SpOK Tryz.prog 128 SHolds := fun ⟨a, b⟩ _ => by
  have hC : COK Tryz.prog (cfg [(94, SRS), (126, SLo), (127, SHi), (155, SFits)]) := Ty.ty.cfg ⟨rsaneR, rlows, rhighs, rfitsR, trivial⟩
  have h1 := lo_len b
  have h2 : (hi b).length ≤ 4 := by
    unfold hi
    rw [bytesC_len]
    split
    · rename_i h
      have := (saneC_iff _ _).1 h
      omega
    · omega
  have hf : holds a b = (okR b && (okR a && saneC b.n b.lo && (b.n == a.n) && ((fits a (lo b) : Int) == a.n)) && (okR a && saneC b.n b.hi && (b.n == a.n) && ((fits a (hi b) : Int) == a.n))) := rfl
  have hs : okR b = true → saneC b.n b.lo = true ∧ saneC b.n b.hi = true := ok_sane
  ((refine Fn.ofF hC Tryz.func128 Tryz.ntmps128 rfl rfl rfl ?_); (repeat' first | (with_reducible exact trivial) | (with_reducible rfl) | (refine And.intro ?_ ?_) | (refine Need.mk ?_) | exact True.intro | (first | (refine ⟨_, Told.refl _, ?_, ?_⟩) | (refine ⟨⟨_, _⟩, Told.refl _, ?_, ?_⟩) | (refine ⟨⟨_, _, _⟩, Told.refl _, ?_, ?_⟩) | (refine ⟨⟨_, _, _, _⟩, Told.refl _, ?_, ?_⟩) | (refine ⟨⟨_, _, _, _, _⟩, Told.refl _, ?_, ?_⟩) | (refine ⟨(), Told.refl _, ?_, ?_⟩)) | (with_reducible intro _) | (refine fun (_ : Bool) => ?_)))
  all_goals first
    | (show (lo b).length < 4611686018427387904; omega)
    | (show (hi b).length < 4611686018427387904; omega)
    | skip
  all_goals rw [hf]
  all_goals ((try dsimp only at *); (try simp only [decide_eq_true_eq, decide_eq_false_iff_not, beq_iff_eq, bne_iff_ne, beq_eq_false_iff_ne, bne_eq_false_iff_eq, ne_eq, Decidable.not_not, ge_iff_le, gt_iff_lt, Bool.not_eq_true', Bool.not_eq_false', Int.not_lt, Int.not_le, Nat.not_lt, Nat.not_le] at *))
  all_goals first
    | (simp_all; done)
    | (have e := ‹a.n ≠ b.n›; have e2 : (b.n == a.n) = false := by rw [beq_eq_false_iff_ne]; exact fun h => e h.symm
       rw [e2]; simp; done)
def SLess : Sp := ⟨Rct × Rct, fun _ => True, fun (a, b) => [.agg (cR a), .agg (cR b)], fun (a, b) => .st (.sb (ltR a b))⟩
theorem ltR_no {a b : Rct} (h : ¬ (a.n < b.n ∨ (a.n = b.n ∧ (a.lo < b.lo ∨ (a.lo = b.lo ∧ a.hi < b.hi))))) : ltR a b = false := by
  rw [← Bool.not_eq_true, ltR_iff]
  exact h
theorem rless : SpOK Tryz.prog 129 SLess := fun ⟨a, b⟩ _ => by
  have hC := base
  ((refine Fn.ofF hC Tryz.func129 Tryz.ntmps129 rfl rfl rfl ?_); (repeat' first | (with_reducible exact trivial) | (with_reducible rfl) | (refine And.intro ?_ ?_) | (refine Need.mk ?_) | exact True.intro | (first | (refine ⟨_, Told.refl _, ?_, ?_⟩) | (refine ⟨⟨_, _⟩, Told.refl _, ?_, ?_⟩) | (refine ⟨⟨_, _, _⟩, Told.refl _, ?_, ?_⟩) | (refine ⟨⟨_, _, _, _⟩, Told.refl _, ?_, ?_⟩) | (refine ⟨⟨_, _, _, _, _⟩, Told.refl _, ?_, ?_⟩) | (refine ⟨(), Told.refl _, ?_, ?_⟩)) | (with_reducible intro _) | (refine fun (_ : Bool) => ?_)))
  all_goals
    cases hL : ltR a b with
    | true =>
      have h := (ltR_iff a b).1 hL
      ((try dsimp only at *); (try simp only [decide_eq_true_eq, decide_eq_false_iff_not, beq_iff_eq, bne_iff_ne, beq_eq_false_iff_ne, bne_eq_false_iff_eq, ne_eq, Decidable.not_not, ge_iff_le, gt_iff_lt, Bool.not_eq_true', Bool.not_eq_false', Int.not_lt, Int.not_le, Nat.not_lt, Nat.not_le] at *))
      first | omega | (rw [decide_eq_true_eq]; omega)
    | false =>
      have h : ¬ (a.n < b.n ∨ (a.n = b.n ∧ (a.lo < b.lo ∨ (a.lo = b.lo ∧ a.hi < b.hi)))) := by rw [← ltR_iff, hL]; decide
      ((try dsimp only at *); (try simp only [decide_eq_true_eq, decide_eq_false_iff_not, beq_iff_eq, bne_iff_ne, beq_eq_false_iff_ne, bne_eq_false_iff_eq, ne_eq, Decidable.not_not, ge_iff_le, gt_iff_lt, Bool.not_eq_true', Bool.not_eq_false', Int.not_lt, Int.not_le, Nat.not_lt, Nat.not_le] at *))
      first | omega | (rw [decide_eq_false_iff_not]; omega)
def insR : List Rct → Rct → List Rct
  | [], r => [r]
  | x :: l, r => if ltR r x = true then r :: x :: l else x :: insR l r
theorem insR_len (l : List Rct) (r : Rct) : (insR l r).length = l.length + 1 := by
  induction l with
  | nil => rfl
  | cons x l ih =>
    unfold insR
    split
    · rfl
    · rw [List.length_cons, ih, List.length_cons]
theorem mem_insR {l : List Rct} {r x : Rct} : x ∈ insR l r ↔ x = r ∨ x ∈ l := by
  induction l with
  | nil => simp [insR]
  | cons y l ih =>
    unfold insR
    split
    · simp [List.mem_cons]
    · rw [List.mem_cons, ih, List.mem_cons]
      constructor
      · rintro (h | h | h)
        · exact .inr (.inl h)
        · exact .inl h
        · exact .inr (.inr h)
      · rintro (h | h | h)
        · exact .inr (.inl h)
        · exact .inl h
        · exact .inr (.inr h)
theorem lt_tri {a b : Rct} (h1 : ltR a b ≠ true) (h2 : a ≠ b) : ltR b a = true := by
  rw [ne_eq, ltR_iff] at h1
  rw [ltR_iff]
  have h3 : ¬ (a.n = b.n ∧ a.lo = b.lo ∧ a.hi = b.hi) := fun ⟨e1, e2, e3⟩ => h2 (by cases a; cases b; simp_all)
  omega
theorem lt_trans {a b c : Rct} (h1 : ltR a b = true) (h2 : ltR b c = true) : ltR a c = true := by
  rw [ltR_iff] at *
  omega
theorem insR_srt {l : List Rct} {r : Rct} (hs : l.Pairwise fun x y => ltR x y = true) (hr : r ∉ l) : (insR l r).Pairwise fun x y => ltR x y = true := by
  induction l with
  | nil => exact List.pairwise_singleton _ _
  | cons y l ih =>
    rw [List.pairwise_cons] at hs
    unfold insR
    split
    · rename_i h
      rw [List.pairwise_cons]
      refine ⟨fun z hz => ?_, List.pairwise_cons.2 hs⟩
      rcases List.mem_cons.1 hz with rfl | q
      · exact h
      · exact lt_trans h (hs.1 z q)
    · rename_i h
      rw [List.pairwise_cons]
      refine ⟨fun z hz => ?_, ih hs.2 (fun q => hr (List.mem_cons_of_mem _ q))⟩
      rcases mem_insR.1 hz with rfl | q
      · exact lt_tri h (fun e => hr (e ▸ List.mem_cons_self))
      · exact hs.1 z q
def restR (d : Bool) (l : List Rct) (r : Rct) : List Rct := cond d l (insR l r)
def SInsR : Sp := ⟨List Rct × Rct, fun (l, _) => l.length ≤ 1000000000, fun (l, r) => [aR l, .agg (cR r)], fun (l, r) => .row 64 3 (insR l r).length (els cR (insR l r))⟩
set_option maxHeartbeats 8000000 in
theorem rinsert : SpOK Tryz.prog 96 SInsR := fun ⟨l, r⟩ hl => by
  have hC : COK Tryz.prog (cfg [(129, SLess)]) := Ty.ty.cfg ⟨rless, trivial⟩
  have hl : l.length ≤ 1000000000 := hl
  ((refine Fn.ofF hC Tryz.func96 Tryz.ntmps96 rfl rfl rfl ?_); (repeat' first | (with_reducible exact trivial) | (with_reducible rfl) | (refine And.intro ?_ ?_) | (refine Need.mk ?_) | exact True.intro | (first | (refine ⟨_, Told.refl _, ?_, ?_⟩) | (refine ⟨⟨_, _⟩, Told.refl _, ?_, ?_⟩) | (refine ⟨⟨_, _, _⟩, Told.refl _, ?_, ?_⟩) | (refine ⟨⟨_, _, _, _⟩, Told.refl _, ?_, ?_⟩) | (refine ⟨⟨_, _, _, _, _⟩, Told.refl _, ?_, ?_⟩) | (refine ⟨(), Told.refl _, ?_, ?_⟩)) | (with_reducible intro _) | (refine fun (_ : Bool) => ?_)))
  refine AW.loop (I := fun x : Nat × List Rct × Bool => ⟨42, [(0, aR l), (3, .ptr 0 0), (5, .own 1), (6, .sb x.2.2), (7, .int .i64 x.1)], [.box 64 (cR r), .row 64 3 x.2.1.length (els cR x.2.1)]⟩) (fun x => x.1 ≤ l.length ∧ x.2.1.length = x.1 + cond x.2.2 1 0 ∧ insR l r = x.2.1 ++ restR x.2.2 (l.drop x.1) r) (fun x => l.length - x.1) (0, [], false) ⟨Nat.zero_le _, rfl, rfl⟩ ?_ ?_
  · (repeat' first | (with_reducible exact trivial) | (with_reducible rfl) | (refine And.intro ?_ ?_) | (refine Need.mk ?_) | exact True.intro | (first | (refine ⟨_, Told.refl _, ?_, ?_⟩) | (refine ⟨⟨_, _⟩, Told.refl _, ?_, ?_⟩) | (refine ⟨⟨_, _, _⟩, Told.refl _, ?_, ?_⟩) | (refine ⟨⟨_, _, _, _⟩, Told.refl _, ?_, ?_⟩) | (refine ⟨⟨_, _, _, _, _⟩, Told.refl _, ?_, ?_⟩) | (refine ⟨(), Told.refl _, ?_, ?_⟩)) | (with_reducible intro _) | (refine fun (_ : Bool) => ?_))
    all_goals rfl
  · rintro ⟨k, out, d⟩ ⟨hk, ho, he⟩
    dsimp only at hk ho he ⊢
    have ho' : out.length ≤ k + 1 := by cases d <;> simp at ho <;> omega
    rcases Nat.lt_or_ge k l.length with hlt | hge
    · have hd : decide ((k : Int) < (l.length : Int)) = true := decide_eq_true (by omega)
      have hw := iw (n := (k : Int) + 1) (by omega) (by omega)
      obtain ⟨x, hx⟩ : ∃ x, x = l.getD k default := ⟨_, rfl⟩
      have hdr : l.drop k = x :: l.drop (k + 1) := by rw [hx, getR hlt]; exact List.drop_eq_getElem_cons hlt
      rw [hdr] at he
      have h1 : d = true → insR l r = (out ++ [x]) ++ restR true (l.drop (k + 1)) r := fun h => by
        subst h
        rw [he, List.append_assoc]
        rfl
      have h2 : d = false → ltR r x = true → insR l r = (out ++ [r] ++ [x]) ++ restR true (l.drop (k + 1)) r := fun h g => by
        subst h
        rw [he]
        show out ++ insR (x :: l.drop (k + 1)) r = _
        unfold insR
        rw [if_pos g]
        simp [restR]
      have h3 : d = false → ltR r x = false → insR l r = (out ++ [x]) ++ restR false (l.drop (k + 1)) r := fun h g => by
        subst h
        rw [he]
        show out ++ insR (x :: l.drop (k + 1)) r = _
        rw [show insR (x :: l.drop (k + 1)) r = x :: insR (l.drop (k + 1)) r by conv => lhs; unfold insR; rw [if_neg (by rw [g]; decide)]]
        simp [restR]
      have g1 : d = true → k + 1 ≤ l.length ∧ (out ++ [x]).length = k + 1 + cond true 1 0 ∧ insR l r = (out ++ [x]) ++ restR true (l.drop (k + 1)) r := fun h => by
        refine ⟨hlt, ?_, h1 h⟩
        rw [h] at ho
        rw [List.length_append, ho]
        rfl
      have g2 : d = false → ltR r x = true → k + 1 ≤ l.length ∧ (out ++ [r] ++ [x]).length = k + 1 + cond true 1 0 ∧ insR l r = (out ++ [r] ++ [x]) ++ restR true (l.drop (k + 1)) r := fun h g => by
        refine ⟨hlt, ?_, h2 h g⟩
        rw [h] at ho
        rw [List.length_append, List.length_append, ho]
        rfl
      have g3 : d = false → ltR r x = false → k + 1 ≤ l.length ∧ (out ++ [x]).length = k + 1 + cond false 1 0 ∧ insR l r = (out ++ [x]) ++ restR false (l.drop (k + 1)) r := fun h g => by
        refine ⟨hlt, ?_, h3 h g⟩
        rw [h] at ho
        rw [List.length_append, ho]
        rfl
      have e2 : ∀ (n : Nat) (el : Nat → List AV), n = out.length + 1 → (∀ i, i < (out ++ [r]).length → el i = cR ((out ++ [r]).getD i default)) → ∀ i, i < (out ++ [r] ++ [x]).length → catEl n el (elt [cR x]) i = cR ((out ++ [r] ++ [x]).getD i default) := fun n el hn hel => cat_snoc' (by rw [hn, List.length_append]; rfl) hel
      ((refine AW.byF ‹_› ?_); (repeat' first | (with_reducible exact trivial) | (with_reducible rfl) | (refine And.intro ?_ ?_) | (refine Need.mk ?_) | exact True.intro | (first | (refine ⟨_, Told.refl _, ?_, ?_⟩) | (refine ⟨⟨_, _⟩, Told.refl _, ?_, ?_⟩) | (refine ⟨⟨_, _, _⟩, Told.refl _, ?_, ?_⟩) | (refine ⟨⟨_, _, _, _⟩, Told.refl _, ?_, ?_⟩) | (refine ⟨⟨_, _, _, _, _⟩, Told.refl _, ?_, ?_⟩) | (refine ⟨(), Told.refl _, ?_, ?_⟩)) | (with_reducible intro _) | (refine fun (_ : Bool) => ?_)))
      all_goals first | (exact absurd ‹decide ((k : Int) < (l.length : Int)) = false› (by rw [hd]; decide)) | skip
      any_goals (first | (refine Exists.intro ((k + 1, out ++ [r] ++ [x], true) : Nat × List Rct × Bool) (And.intro (g2 (by simpa using ‹(!d) = true›) (by rw [hx]; exact ‹ltR r (l.getD (k : Int).toNat default) = true›)) (And.intro ?_ ?_)); all_goals (repeat' first | (with_reducible exact trivial) | (with_reducible rfl) | (refine And.intro ?_ ?_) | (refine Need.mk ?_) | exact True.intro | (first | (refine ⟨_, Told.refl _, ?_, ?_⟩) | (refine ⟨⟨_, _⟩, Told.refl _, ?_, ?_⟩) | (refine ⟨⟨_, _, _⟩, Told.refl _, ?_, ?_⟩) | (refine ⟨⟨_, _, _, _⟩, Told.refl _, ?_, ?_⟩) | (refine ⟨⟨_, _, _, _, _⟩, Told.refl _, ?_, ?_⟩) | (refine ⟨(), Told.refl _, ?_, ?_⟩)) | (with_reducible intro _) | (refine fun (_ : Bool) => ?_))) | fail)
      any_goals (first | (refine Exists.intro ((k + 1, out ++ [x], true) : Nat × List Rct × Bool) (And.intro (g1 (by simpa using ‹(!d) = false›)) (And.intro ?_ ?_)); all_goals (repeat' first | (with_reducible exact trivial) | (with_reducible rfl) | (refine And.intro ?_ ?_) | (refine Need.mk ?_) | exact True.intro | (first | (refine ⟨_, Told.refl _, ?_, ?_⟩) | (refine ⟨⟨_, _⟩, Told.refl _, ?_, ?_⟩) | (refine ⟨⟨_, _, _⟩, Told.refl _, ?_, ?_⟩) | (refine ⟨⟨_, _, _, _⟩, Told.refl _, ?_, ?_⟩) | (refine ⟨⟨_, _, _, _, _⟩, Told.refl _, ?_, ?_⟩) | (refine ⟨(), Told.refl _, ?_, ?_⟩)) | (with_reducible intro _) | (refine fun (_ : Bool) => ?_))) | fail)
      any_goals (first | (refine Exists.intro ((k + 1, out ++ [x], false) : Nat × List Rct × Bool) (And.intro (g3 (by simpa using ‹(!d) = true›) (by rw [hx]; exact ‹ltR r (l.getD (k : Int).toNat default) = false›)) (And.intro ?_ ?_)); all_goals (repeat' first | (with_reducible exact trivial) | (with_reducible rfl) | (refine And.intro ?_ ?_) | (refine Need.mk ?_) | exact True.intro | (first | (refine ⟨_, Told.refl _, ?_, ?_⟩) | (refine ⟨⟨_, _⟩, Told.refl _, ?_, ?_⟩) | (refine ⟨⟨_, _, _⟩, Told.refl _, ?_, ?_⟩) | (refine ⟨⟨_, _, _, _⟩, Told.refl _, ?_, ?_⟩) | (refine ⟨⟨_, _, _, _, _⟩, Told.refl _, ?_, ?_⟩) | (refine ⟨(), Told.refl _, ?_, ?_⟩)) | (with_reducible intro _) | (refine fun (_ : Bool) => ?_))) | fail)
      all_goals first
        | omega
        | (dsimp only; omega)
        | (simp; done)
        | (rw [hw]; dsimp only; omega)
        | (show (out.length + 1) * 24 ≤ _; omega)
        | (show (out.length + 1 + 1) * 24 ≤ _; omega)
        | (have q : d = true := by simpa using ‹(!d) = false›
           rw [q]; done)
        | (have q : d = false := by simpa using ‹(!d) = true›
           rw [q]; done)
        | (rename_i i hi
           rw [hx] at hi ⊢
           exact els_of cR_emb (n := 0) (cat_snoc' (by simp) (cat_snoc' rfl (fun _ _ => rfl))) i hi)
        | (rename_i i hi
           rw [hx] at hi ⊢
           exact els_of cR_emb (n := 0) (cat_snoc' rfl (fun _ _ => rfl)) i hi)
    · obtain rfl : k = l.length := by omega
      have hd : decide ((l.length : Int) < (l.length : Int)) = false := decide_eq_false (by omega)
      rw [List.drop_length] at he
      have h1 : d = true → insR l r = out := fun h => by
        subst h
        rw [he]
        simp [restR]
      have h2 : d = false → insR l r = out ++ [r] := fun h => by
        subst h
        rw [he]
        rfl
      ((refine AW.byF ‹_› ?_); (repeat' first | (with_reducible exact trivial) | (with_reducible rfl) | (refine And.intro ?_ ?_) | (refine Need.mk ?_) | exact True.intro | (first | (refine ⟨_, Told.refl _, ?_, ?_⟩) | (refine ⟨⟨_, _⟩, Told.refl _, ?_, ?_⟩) | (refine ⟨⟨_, _, _⟩, Told.refl _, ?_, ?_⟩) | (refine ⟨⟨_, _, _, _⟩, Told.refl _, ?_, ?_⟩) | (refine ⟨⟨_, _, _, _, _⟩, Told.refl _, ?_, ?_⟩) | (refine ⟨(), Told.refl _, ?_, ?_⟩)) | (with_reducible intro _) | (refine fun (_ : Bool) => ?_)))
      all_goals first | (exact absurd ‹decide ((l.length : Int) < (l.length : Int)) = true› (by rw [hd]; decide)) | skip
      all_goals first
        | omega
        | (show (out.length + 1) * 24 ≤ _; omega)
        | (rw [h2 (by simpa using ‹(!d) = true›), List.length_append]; rfl)
        | (rename_i i hi
           rw [h2 (by simpa using ‹(!d) = true›)] at hi ⊢
           exact els_of cR_emb (n := 0) (cat_snoc' rfl (fun _ _ => rfl)) i hi)
        | (rw [h1 (by simpa using ‹(!d) = false›)]; done)
end Go.Abs.Rc
set_option maxRecDepth 100000
namespace Go.Abs.Rc
open Go.RowKit Go.Proofs Go.Abs.Tab Go.Abs.Dest Go.Abs.Span Go.Abs.Coll Go.Abs.Hx Go.Abs.Mt
def heldP (l : List Rct) (i k : Nat) : Bool := decide (k ≠ i) && (holds (l.getD k default) (l.getD i default) && (!eqR (l.getD k default) (l.getD i default) || decide (k < i)))
def heldAt (l : List Rct) (i : Nat) : Bool := (List.range l.length).any (heldP l i)
theorem heldAt_yes {l : List Rct} {i k : Nat} (hk : k < l.length) (h : heldP l i k = true) : heldAt l i = true := List.any_eq_true.2 ⟨k, List.mem_range.2 hk, h⟩
theorem heldAt_no {l : List Rct} {i : Nat} (h : ∀ j, j < l.length → heldP l i j = false) : heldAt l i = false := by
  unfold heldAt
  rw [List.any_eq_false]
  intro j hj
  rw [h j (List.mem_range.1 hj)]
  decide
def SHeldR : Sp := ⟨List Rct × Nat, fun (l, i) => i < l.length ∧ l.length ≤ 1000000000, fun (l, i) => [aR l, .int .i64 i], fun (l, i) => .st (.sb (heldAt l i))⟩
set_option maxHeartbeats 8000000 in
theorem rheld : SpOK Tryz.prog 95 SHeldR := fun ⟨l, i⟩ ⟨hi, hl⟩ => by
  have hC : COK Tryz.prog (cfg [(128, SHolds)]) := Ty.ty.cfg ⟨rholds, trivial⟩
  have hi : i < l.length := hi
  have hl : l.length ≤ 1000000000 := hl
  ((refine Fn.ofF hC Tryz.func95 Tryz.ntmps95 rfl rfl rfl ?_); (repeat' first | (with_reducible exact trivial) | (with_reducible rfl) | (refine And.intro ?_ ?_) | (refine Need.mk ?_) | exact True.intro | (first | (refine ⟨_, Told.refl _, ?_, ?_⟩) | (refine ⟨⟨_, _⟩, Told.refl _, ?_, ?_⟩) | (refine ⟨⟨_, _, _⟩, Told.refl _, ?_, ?_⟩) | (refine ⟨⟨_, _, _, _⟩, Told.refl _, ?_, ?_⟩) | (refine ⟨⟨_, _, _, _, _⟩, Told.refl _, ?_, ?_⟩) | (refine ⟨(), Told.refl _, ?_, ?_⟩)) | (with_reducible intro _) | (refine fun (_ : Bool) => ?_)))
  refine AW.loop (I := fun k : Nat => ⟨42, [(0, aR l), (1, .int .i64 i), (5, .int .i64 k)], []⟩) (fun k => k ≤ l.length ∧ ∀ j, j < k → heldP l i j = false) (fun k => l.length - k) 0 ⟨Nat.zero_le _, fun j hj => by omega⟩ ?_ ?_
  · (repeat' first | (with_reducible exact trivial) | (with_reducible rfl) | (refine And.intro ?_ ?_) | (refine Need.mk ?_) | exact True.intro | (first | (refine ⟨_, Told.refl _, ?_, ?_⟩) | (refine ⟨⟨_, _⟩, Told.refl _, ?_, ?_⟩) | (refine ⟨⟨_, _, _⟩, Told.refl _, ?_, ?_⟩) | (refine ⟨⟨_, _, _, _⟩, Told.refl _, ?_, ?_⟩) | (refine ⟨⟨_, _, _, _, _⟩, Told.refl _, ?_, ?_⟩) | (refine ⟨(), Told.refl _, ?_, ?_⟩)) | (with_reducible intro _) | (refine fun (_ : Bool) => ?_))
    all_goals rfl
  · intro k ⟨hk, hok⟩
    rcases Nat.lt_or_ge k l.length with hlt | hge
    · have hd : decide ((k : Int) < (l.length : Int)) = true := decide_eq_true (by omega)
      have hw := iw (n := (k : Int) + 1) (by omega) (by omega)
      have he : eqA [.int .i64 (l.getD k default).n, .int .i64 (l.getD k default).lo, .int .i64 (l.getD k default).hi] [.int .i64 (l.getD i default).n, .int .i64 (l.getD i default).lo, .int .i64 (l.getD i default).hi] = eqR (l.getD k default) (l.getD i default) := by simp [eqA, eqR]
      have hki : ((k : Int) != (i : Int)) = decide (k ≠ i) := by
        rw [Bool.eq_iff_iff, bne_iff_ne, decide_eq_true_eq]
        omega
      have hkl : decide ((k : Int) < (i : Int)) = decide (k < i) := by
        rw [Bool.eq_iff_iff, decide_eq_true_eq, decide_eq_true_eq]
        omega
      have hp : heldP l i k = (decide (k ≠ i) && (holds (l.getD k default) (l.getD i default) && (!eqR (l.getD k default) (l.getD i default) || decide (k < i)))) := rfl
      ((refine AW.byF ‹_› ?_); (repeat' first | (with_reducible exact trivial) | (with_reducible rfl) | (refine And.intro ?_ ?_) | (refine Need.mk ?_) | exact True.intro | (first | (refine ⟨_, Told.refl _, ?_, ?_⟩) | (refine ⟨⟨_, _⟩, Told.refl _, ?_, ?_⟩) | (refine ⟨⟨_, _, _⟩, Told.refl _, ?_, ?_⟩) | (refine ⟨⟨_, _, _, _⟩, Told.refl _, ?_, ?_⟩) | (refine ⟨⟨_, _, _, _, _⟩, Told.refl _, ?_, ?_⟩) | (refine ⟨(), Told.refl _, ?_, ?_⟩)) | (with_reducible intro _) | (refine fun (_ : Bool) => ?_)))
      all_goals first | (exact absurd ‹decide ((k : Int) < (l.length : Int)) = false› (by rw [hd]; decide)) | skip
      any_goals (first | (refine Exists.intro ((k + 1 : Nat)) (And.intro ?_ (And.intro ?_ ?_)); all_goals (repeat' first | (with_reducible exact trivial) | (with_reducible rfl) | (refine And.intro ?_ ?_) | (refine Need.mk ?_) | exact True.intro | (first | (refine ⟨_, Told.refl _, ?_, ?_⟩) | (refine ⟨⟨_, _⟩, Told.refl _, ?_, ?_⟩) | (refine ⟨⟨_, _, _⟩, Told.refl _, ?_, ?_⟩) | (refine ⟨⟨_, _, _, _⟩, Told.refl _, ?_, ?_⟩) | (refine ⟨⟨_, _, _, _, _⟩, Told.refl _, ?_, ?_⟩) | (refine ⟨(), Told.refl _, ?_, ?_⟩)) | (with_reducible intro _) | (refine fun (_ : Bool) => ?_))) | fail)
      all_goals try simp only [Int.toNat_natCast, hki, hkl, he] at *
      all_goals first
        | omega
        | (rw [hw]; rfl)
        | (exact (heldAt_yes hlt (by rw [hp]; simp_all; done)).symm)
        | (have hj := ‹(_ : Nat) < k + 1›
           rcases Nat.lt_succ_iff_lt_or_eq.1 hj with q | q
           · exact hok _ q
           · rw [q, hp]; simp_all; done)
    · obtain rfl : k = l.length := by omega
      have hd : decide ((l.length : Int) < (l.length : Int)) = false := decide_eq_false (by omega)
      ((refine AW.byF ‹_› ?_); (repeat' first | (with_reducible exact trivial) | (with_reducible rfl) | (refine And.intro ?_ ?_) | (refine Need.mk ?_) | exact True.intro | (first | (refine ⟨_, Told.refl _, ?_, ?_⟩) | (refine ⟨⟨_, _⟩, Told.refl _, ?_, ?_⟩) | (refine ⟨⟨_, _, _⟩, Told.refl _, ?_, ?_⟩) | (refine ⟨⟨_, _, _, _⟩, Told.refl _, ?_, ?_⟩) | (refine ⟨⟨_, _, _, _, _⟩, Told.refl _, ?_, ?_⟩) | (refine ⟨(), Told.refl _, ?_, ?_⟩)) | (with_reducible intro _) | (refine fun (_ : Bool) => ?_)))
      all_goals first | (exact absurd ‹decide ((l.length : Int) < (l.length : Int)) = true› (by rw [hd]; decide)) | skip
      all_goals exact (heldAt_no hok).symm
def stayB (l : List Rct) (k : Nat) : Bool := okR (l.getD k default) && !heldAt l k
def canF (l : List Rct) : Nat → List Rct
  | 0 => []
  | k + 1 => if stayB l k = true then insR (canF l k) (l.getD k default) else canF l k
theorem canF_len (l : List Rct) : ∀ k, (canF l k).length ≤ k
  | 0 => Nat.le_refl _
  | k + 1 => by
    have := canF_len l k
    unfold canF
    split
    · rw [insR_len]; omega
    · omega
theorem mem_canF {l : List Rct} {x : Rct} : ∀ k, x ∈ canF l k ↔ ∃ i, i < k ∧ l.getD i default = x ∧ stayB l i = true
  | 0 => by
    constructor
    · intro h; cases h
    · rintro ⟨i, h, _⟩; omega
  | k + 1 => by
    unfold canF
    split
    · rename_i h
      rw [mem_insR, mem_canF k]
      constructor
      · rintro (rfl | ⟨i, h1, h2, h3⟩)
        · exact ⟨k, by omega, rfl, h⟩
        · exact ⟨i, by omega, h2, h3⟩
      · rintro ⟨i, h1, h2, h3⟩
        by_cases e : i = k
        · subst e; exact .inl h2.symm
        · exact .inr ⟨i, by omega, h2, h3⟩
    · rename_i h
      rw [mem_canF k]
      constructor
      · rintro ⟨i, h1, h2, h3⟩
        exact ⟨i, by omega, h2, h3⟩
      · rintro ⟨i, h1, h2, h3⟩
        by_cases e : i = k
        · subst e; exact absurd h3 h
        · exact ⟨i, by omega, h2, h3⟩
theorem getMemR {l : List Rct} {i : Nat} (h : i < l.length) : l.getD i default ∈ l := by rw [getR h]; exact List.getElem_mem h
theorem canF_srt (l : List Rct) : ∀ k, k ≤ l.length → (canF l k).Pairwise fun x y => ltR x y = true
  | 0, _ => List.Pairwise.nil
  | k + 1, hk => by
    unfold canF
    split
    · rename_i h
      refine insR_srt (canF_srt l k (by omega)) fun hm => ?_
      obtain ⟨i, h1, h2, h3⟩ := (mem_canF k).1 hm
      obtain ⟨h4, h5⟩ := (Bool.and_eq_true _ _).mp h
      have : heldAt l k = true := heldAt_yes (k := i) (by omega) (by
        unfold heldP
        rw [h2, (holds_iff _ _).2 (cov_refl h4), decide_eq_true (show i ≠ k by omega), decide_eq_true h1]
        simp)
      rw [this] at h5
      cases h5
    · exact canF_srt l k (by omega)
theorem first_at {l : List Rct} {x : Rct} (h : x ∈ l) : ∃ i, i < l.length ∧ l.getD i default = x ∧ ∀ j, j < i → l.getD j default ≠ x := by
  induction l with
  | nil => cases h
  | cons y l ih =>
    by_cases e : y = x
    · exact ⟨0, by simp, e, fun j hj => by omega⟩
    · obtain ⟨i, h1, h2, h3⟩ := ih (by rcases List.mem_cons.1 h with q | q; exact absurd q.symm e; exact q)
      refine ⟨i + 1, by rw [List.length_cons]; omega, h2, fun j hj => ?_⟩
      cases j with
      | zero => exact e
      | succ j => exact h3 j (by omega)
theorem canF_can (l : List Rct) : canF l l.length = canR l := by
  refine srt_uniq (canF_srt l _ (Nat.le_refl _)) (canR_srt l) fun x => ?_
  rw [mem_canF, mem_canR]
  constructor
  · rintro ⟨i, h1, rfl, h3⟩
    obtain ⟨h4, h5⟩ := (Bool.and_eq_true _ _).mp h3
    refine ⟨getMemR h1, h4, fun o ho h6 => ?_⟩
    cases h7 : oth o (l.getD i default) with
    | false => rfl
    | true =>
      exfalso
      obtain ⟨h8, h9⟩ := (oth_iff _ _).1 h7
      obtain ⟨k, hk, rfl⟩ := List.getElem_of_mem ho
      rw [← getR hk] at h8 h9
      have : heldAt l i = true := heldAt_yes hk (by
        unfold heldP
        have e1 : eqR (l.getD k default) (l.getD i default) = false := by rw [← Bool.not_eq_true, eqR_iff]; exact h8
        rw [(holds_iff _ _).2 h9, e1, decide_eq_true (show k ≠ i from fun e => h8 (by rw [e]))]
        rfl)
      rw [this] at h5
      cases h5
  · rintro ⟨h1, h2, h3⟩
    obtain ⟨i, hi, rfl, hf⟩ := first_at h1
    refine ⟨i, hi, rfl, ?_⟩
    unfold stayB
    rw [h2, heldAt_no, Bool.not_false, Bool.and_self]
    intro j hj
    unfold heldP
    cases hh : holds (l.getD j default) (l.getD i default) with
    | false => simp
    | true =>
      have hc := (holds_iff _ _).1 hh
      have h4 := h3 _ (getMemR hj) hc.1
      have h5 : l.getD j default = l.getD i default := by
        by_cases e : l.getD j default = l.getD i default
        · exact e
        · rw [(oth_iff _ _).2 ⟨e, hc⟩] at h4
          cases h4
      have h6 : ¬ j < i := fun q => hf j q h5
      rw [(eqR_iff _ _).2 h5, decide_eq_false h6]
      simp
set_option maxHeartbeats 8000000 in
theorem rcanonR : SpOK Tryz.prog 47 SCanR := fun (l : List Rct) hl => by
  have hC : COK Tryz.prog (cfg [(94, SRS), (95, SHeldR), (96, SInsR)]) := Ty.ty.cfg ⟨rsaneR, rheld, rinsert, trivial⟩
  have hl : l.length ≤ 1000000 := hl
  ((refine Fn.ofF hC Tryz.func47 Tryz.ntmps47 rfl rfl rfl ?_); (repeat' first | (with_reducible exact trivial) | (with_reducible rfl) | (refine And.intro ?_ ?_) | (refine Need.mk ?_) | exact True.intro | (first | (refine ⟨_, Told.refl _, ?_, ?_⟩) | (refine ⟨⟨_, _⟩, Told.refl _, ?_, ?_⟩) | (refine ⟨⟨_, _, _⟩, Told.refl _, ?_, ?_⟩) | (refine ⟨⟨_, _, _, _⟩, Told.refl _, ?_, ?_⟩) | (refine ⟨⟨_, _, _, _, _⟩, Told.refl _, ?_, ?_⟩) | (refine ⟨(), Told.refl _, ?_, ?_⟩)) | (with_reducible intro _) | (refine fun (_ : Bool) => ?_)))
  refine AW.loop (I := fun k : Nat => ⟨29, [(0, aR l), (3, .own 0), (4, .int .i64 k)], [.row 64 3 (canF l k).length (els cR (canF l k))]⟩) (fun k => k ≤ l.length) (fun k => l.length - k) 0 (Nat.zero_le _) ?_ ?_
  · (repeat' first | (with_reducible exact trivial) | (with_reducible rfl) | (refine And.intro ?_ ?_) | (refine Need.mk ?_) | exact True.intro | (first | (refine ⟨_, Told.refl _, ?_, ?_⟩) | (refine ⟨⟨_, _⟩, Told.refl _, ?_, ?_⟩) | (refine ⟨⟨_, _, _⟩, Told.refl _, ?_, ?_⟩) | (refine ⟨⟨_, _, _, _⟩, Told.refl _, ?_, ?_⟩) | (refine ⟨⟨_, _, _, _, _⟩, Told.refl _, ?_, ?_⟩) | (refine ⟨(), Told.refl _, ?_, ?_⟩)) | (with_reducible intro _) | (refine fun (_ : Bool) => ?_))
    all_goals rfl
  · intro k hk
    rcases Nat.lt_or_ge k l.length with hlt | hge
    · have hd : decide ((k : Int) < (l.length : Int)) = true := decide_eq_true (by omega)
      have hw := iw (n := (k : Int) + 1) (by omega) (by omega)
      have hc := canF_len l k
      have hs : stayB l k = (okR (l.getD k default) && !heldAt l k) := rfl
      have hn : canF l (k + 1) = if stayB l k = true then insR (canF l k) (l.getD k default) else canF l k := rfl
      ((refine AW.byF ‹_› ?_); (repeat' first | (with_reducible exact trivial) | (with_reducible rfl) | (refine And.intro ?_ ?_) | (refine Need.mk ?_) | exact True.intro | (first | (refine ⟨_, Told.refl _, ?_, ?_⟩) | (refine ⟨⟨_, _⟩, Told.refl _, ?_, ?_⟩) | (refine ⟨⟨_, _, _⟩, Told.refl _, ?_, ?_⟩) | (refine ⟨⟨_, _, _, _⟩, Told.refl _, ?_, ?_⟩) | (refine ⟨⟨_, _, _, _, _⟩, Told.refl _, ?_, ?_⟩) | (refine ⟨(), Told.refl _, ?_, ?_⟩)) | (with_reducible intro _) | (refine fun (_ : Bool) => ?_)))
      all_goals first | (exact absurd ‹decide ((k : Int) < (l.length : Int)) = false› (by rw [hd]; decide)) | skip
      any_goals (first | (refine Exists.intro ((k + 1 : Nat)) (And.intro ?_ (And.intro ?_ ?_)); all_goals (repeat' first | (with_reducible exact trivial) | (with_reducible rfl) | (refine And.intro ?_ ?_) | (refine Need.mk ?_) | exact True.intro | (first | (refine ⟨_, Told.refl _, ?_, ?_⟩) | (refine ⟨⟨_, _⟩, Told.refl _, ?_, ?_⟩) | (refine ⟨⟨_, _, _⟩, Told.refl _, ?_, ?_⟩) | (refine ⟨⟨_, _, _, _⟩, Told.refl _, ?_, ?_⟩) | (refine ⟨⟨_, _, _, _, _⟩, Told.refl _, ?_, ?_⟩) | (refine ⟨(), Told.refl _, ?_, ?_⟩)) | (with_reducible intro _) | (refine fun (_ : Bool) => ?_))) | fail)
      all_goals try simp only [Int.toNat_natCast] at *
      all_goals first
        | omega
        | exact ⟨hlt, by omega⟩
        | (show (canF l k).length ≤ 1000000000; omega)
        | (rw [hw]; rfl)
        | (have q : stayB l k = true := by rw [hs]; simp_all; done
           rw [if_pos q] at hn
           rw [hn]
           done)
        | (have q : ¬ stayB l k = true := by rw [hs]; simp_all; done
           rw [if_neg q] at hn
           rw [hn]
           done)
    · obtain rfl : k = l.length := by omega
      have hd : decide ((l.length : Int) < (l.length : Int)) = false := decide_eq_false (by omega)
      have hcan := canF_can l
      ((refine AW.byF ‹_› ?_); (repeat' first | (with_reducible exact trivial) | (with_reducible rfl) | (refine And.intro ?_ ?_) | (refine Need.mk ?_) | exact True.intro | (first | (refine ⟨_, Told.refl _, ?_, ?_⟩) | (refine ⟨⟨_, _⟩, Told.refl _, ?_, ?_⟩) | (refine ⟨⟨_, _, _⟩, Told.refl _, ?_, ?_⟩) | (refine ⟨⟨_, _, _, _⟩, Told.refl _, ?_, ?_⟩) | (refine ⟨⟨_, _, _, _, _⟩, Told.refl _, ?_, ?_⟩) | (refine ⟨(), Told.refl _, ?_, ?_⟩)) | (with_reducible intro _) | (refine fun (_ : Bool) => ?_)))
      all_goals first | (exact absurd ‹decide ((l.length : Int) < (l.length : Int)) = true› (by rw [hd]; decide)) | skip
      all_goals (rw [hcan])
end Go.Abs.Rc
set_option maxRecDepth 100000
namespace Go.Abs.Dest
open Go.RowKit Go.Proofs Go.Abs.Tab
def SLastR : Sp := ⟨List Bf × Int × Int, fun (l, n, v) => l.length < 9223372036854775807, fun (l, n, v) => [aB l, aCode n v], fun (l, n, v) => rO (EB.last l n v)⟩
theorem or_some {α : Type} {o p : Option α} (h : o.isSome = true) : o.or p = o := by cases o; cases h; rfl
theorem or_none {α : Type} {o p : Option α} (h : o.isSome = false) : o.or p = p := by cases o; rfl; cases h
set_option maxHeartbeats 4000000 in
theorem rlast : SpOK Tryz.prog 125 SLastR := fun ⟨l, n, v⟩ hl => by
  have hC : COK Tryz.prog (cfg [(153, STo)]) := Ty.ty.cfg ⟨rto, trivial⟩
  have hl : l.length < 9223372036854775807 := hl
  ((refine Fn.ofF hC Tryz.func125 Tryz.ntmps125 rfl rfl rfl ?_); (repeat' first | (with_reducible exact trivial) | (with_reducible rfl) | (refine And.intro ?_ ?_) | (refine Need.mk ?_) | exact True.intro | (first | (refine ⟨_, Told.refl _, ?_, ?_⟩) | (refine ⟨⟨_, _⟩, Told.refl _, ?_, ?_⟩) | (refine ⟨⟨_, _, _⟩, Told.refl _, ?_, ?_⟩) | (refine ⟨⟨_, _, _, _⟩, Told.refl _, ?_, ?_⟩) | (refine ⟨⟨_, _, _, _, _⟩, Told.refl _, ?_, ?_⟩) | (refine ⟨(), Told.refl _, ?_, ?_⟩)) | (with_reducible intro _) | (refine fun (_ : Bool) => ?_)))
  refine AW.loop (I := fun k : Nat => ⟨27, [(0, aB l), (3, .ptr 0 0), (6, .int .i64 ((k : Int) - 1))], [.box 56 [.int .i64 n, .int .i64 v]]⟩) (fun k => k ≤ l.length ∧ EB.last l n v = EB.last (l.take k) n v) (fun k => k) l.length ⟨Nat.le_refl _, by rw [List.take_length]⟩ ?_ ?_
  · (repeat' first | (with_reducible exact trivial) | (with_reducible rfl) | (refine And.intro ?_ ?_) | (refine Need.mk ?_) | exact True.intro | (first | (refine ⟨_, Told.refl _, ?_, ?_⟩) | (refine ⟨⟨_, _⟩, Told.refl _, ?_, ?_⟩) | (refine ⟨⟨_, _, _⟩, Told.refl _, ?_, ?_⟩) | (refine ⟨⟨_, _, _, _⟩, Told.refl _, ?_, ?_⟩) | (refine ⟨⟨_, _, _, _, _⟩, Told.refl _, ?_, ?_⟩) | (refine ⟨(), Told.refl _, ?_, ?_⟩)) | (with_reducible intro _) | (refine fun (_ : Bool) => ?_))
    all_goals first | rfl | exact iw (by omega) (by omega)
  · intro k ⟨hk, he⟩
    rcases k with _ | m
    · have hd : decide (((0 : Nat) : Int) - 1 ≥ 0) = false := by decide
      have he : EB.last l n v = none := he
      ((refine AW.byF ‹_› ?_); (repeat' first | (with_reducible exact trivial) | (with_reducible rfl) | (refine And.intro ?_ ?_) | (refine Need.mk ?_) | exact True.intro | (first | (refine ⟨_, Told.refl _, ?_, ?_⟩) | (refine ⟨⟨_, _⟩, Told.refl _, ?_, ?_⟩) | (refine ⟨⟨_, _, _⟩, Told.refl _, ?_, ?_⟩) | (refine ⟨⟨_, _, _, _⟩, Told.refl _, ?_, ?_⟩) | (refine ⟨⟨_, _, _, _, _⟩, Told.refl _, ?_, ?_⟩) | (refine ⟨(), Told.refl _, ?_, ?_⟩)) | (with_reducible intro _) | (refine fun (_ : Bool) => ?_)))
      all_goals first | (exact absurd ‹decide (((0 : Nat) : Int) - 1 ≥ 0) = true› (by rw [hd]; decide)) | skip
      all_goals (rw [he]; rfl)
    · have hd : decide (((m + 1 : Nat) : Int) - 1 ≥ 0) = true := decide_eq_true (by omega)
      have e : ((m + 1 : Nat) : Int) - 1 = (m : Int) := by omega
      have hw := iw (n := (m : Int) - 1) (by omega) (by omega)
      have hs : EB.last l n v = (EB.to (l.getD m default) n v).or (EB.last (l.take m) n v) := by rw [he, List.take_succ_eq_append_getElem (by omega), EB.last_snoc, getB (by omega)]
      ((refine AW.byF ‹_› ?_); (repeat' first | (with_reducible exact trivial) | (with_reducible rfl) | (refine And.intro ?_ ?_) | (refine Need.mk ?_) | exact True.intro | (first | (refine ⟨_, Told.refl _, ?_, ?_⟩) | (refine ⟨⟨_, _⟩, Told.refl _, ?_, ?_⟩) | (refine ⟨⟨_, _, _⟩, Told.refl _, ?_, ?_⟩) | (refine ⟨⟨_, _, _, _⟩, Told.refl _, ?_, ?_⟩) | (refine ⟨⟨_, _, _, _, _⟩, Told.refl _, ?_, ?_⟩) | (refine ⟨(), Told.refl _, ?_, ?_⟩)) | (with_reducible intro _) | (refine fun (_ : Bool) => ?_)))
      all_goals first | (exact absurd ‹decide (((m + 1 : Nat) : Int) - 1 ≥ 0) = false› (by rw [hd]; decide)) | skip
      any_goals (refine Exists.intro (m) (And.intro ?_ (And.intro ?_ ?_)); all_goals (repeat' first | (with_reducible exact trivial) | (with_reducible rfl) | (refine And.intro ?_ ?_) | (refine Need.mk ?_) | exact True.intro | (first | (refine ⟨_, Told.refl _, ?_, ?_⟩) | (refine ⟨⟨_, _⟩, Told.refl _, ?_, ?_⟩) | (refine ⟨⟨_, _, _⟩, Told.refl _, ?_, ?_⟩) | (refine ⟨⟨_, _, _, _⟩, Told.refl _, ?_, ?_⟩) | (refine ⟨⟨_, _, _, _, _⟩, Told.refl _, ?_, ?_⟩) | (refine ⟨(), Told.refl _, ?_, ?_⟩)) | (with_reducible intro _) | (refine fun (_ : Bool) => ?_)))
      all_goals try simp only [e, hw, Int.toNat_natCast] at *
      all_goals first
        | omega
        | (have q : (EB.to (l.getD m default) n v).isSome = true := by assumption
           rw [hs, or_some q]
           first | done | exact q.symm)
        | (have q : (EB.to (l.getD m default) n v).isSome = false := by assumption
           exact hs.trans (or_none q))
def SFindR : Sp := ⟨List Bf × Int × Int, fun (t, n, v) => t.length < 9223372036854775807, fun (t, n, v) => [aB t, aCode n v], fun (t, n, v) => rO (EB.find t n v)⟩
theorem ok_at' {t : List Bf} {k : Nat} (hk0 : 0 < k) (hp : sane (t.getD (k - 1) default) = true) : EB.okAt t k = true ↔ (sane (t.getD k default) = true ∧ ¬ (t.getD k default).n < (t.getD (k - 1) default).n ∧ ¬ ((t.getD k default).n = (t.getD (k - 1) default).n ∧ (t.getD k default).lo ≤ (t.getD (k - 1) default).hi) ∧ joins (t.getD (k - 1) default) (t.getD k default) = false) := by
  have hne : (k == 0) = false := by simp; omega
  unfold En.okAt
  rw [hne, Bool.false_or, Bool.and_eq_true, Bool.and_eq_true, decide_eq_true_eq]
  show sane _ = true ∧ (((t.getD (k - 1) default).n < (t.getD k default).n ∨ ((t.getD (k - 1) default).n = (t.getD k default).n ∧ (t.getD (k - 1) default).hi < (t.getD k default).lo)) ∧ (!joins _ _) = true) ↔ _
  rw [Bool.not_eq_true']
  constructor
  · rintro ⟨h1, h2, h3⟩
    exact ⟨h1, by omega, by omega, h3⟩
  · rintro ⟨h1, h2, h3, h4⟩
    exact ⟨h1, by omega, h4⟩
set_option maxHeartbeats 8000000 in
theorem rcanon : SpOK Tryz.prog 49 SCanon := fun (t : List Bf) ht => by
  have hC : COK Tryz.prog (cfg [(99, SBSane), (100, SJoins)]) := Ty.ty.cfg ⟨rsane, rjoins, trivial⟩
  have ht : t.length < 9223372036854775807 := ht
  ((refine Fn.ofF hC Tryz.func49 Tryz.ntmps49 rfl rfl rfl ?_); (repeat' first | (with_reducible exact trivial) | (with_reducible rfl) | (refine And.intro ?_ ?_) | (refine Need.mk ?_) | exact True.intro | (first | (refine ⟨_, Told.refl _, ?_, ?_⟩) | (refine ⟨⟨_, _⟩, Told.refl _, ?_, ?_⟩) | (refine ⟨⟨_, _, _⟩, Told.refl _, ?_, ?_⟩) | (refine ⟨⟨_, _, _, _⟩, Told.refl _, ?_, ?_⟩) | (refine ⟨⟨_, _, _, _, _⟩, Told.refl _, ?_, ?_⟩) | (refine ⟨(), Told.refl _, ?_, ?_⟩)) | (with_reducible intro _) | (refine fun (_ : Bool) => ?_)))
  refine AW.loop (I := fun k : Nat => ⟨72, [(0, aB t), (3, .int .i64 k)], []⟩) (fun k => k ≤ t.length ∧ ∀ j, j < k → EB.okAt t j = true) (fun k => t.length - k) 0 ⟨Nat.zero_le _, fun j hj => by omega⟩ ?_ ?_
  · (repeat' first | (with_reducible exact trivial) | (with_reducible rfl) | (refine And.intro ?_ ?_) | (refine Need.mk ?_) | exact True.intro | (first | (refine ⟨_, Told.refl _, ?_, ?_⟩) | (refine ⟨⟨_, _⟩, Told.refl _, ?_, ?_⟩) | (refine ⟨⟨_, _, _⟩, Told.refl _, ?_, ?_⟩) | (refine ⟨⟨_, _, _, _⟩, Told.refl _, ?_, ?_⟩) | (refine ⟨⟨_, _, _, _, _⟩, Told.refl _, ?_, ?_⟩) | (refine ⟨(), Told.refl _, ?_, ?_⟩)) | (with_reducible intro _) | (refine fun (_ : Bool) => ?_))
    all_goals rfl
  · intro k ⟨hk, hok⟩
    rcases Nat.lt_or_ge k t.length with hlt | hge
    · have hd : decide ((k : Int) < (t.length : Int)) = true := decide_eq_true (by omega)
      have hw := iw (n := (k : Int) + 1) (by omega) (by omega)
      rcases Nat.eq_zero_or_pos k with rfl | hk0
      · have hz := ok_zero (t := t)
        ((refine AW.byF ‹_› ?_); (repeat' first | (with_reducible exact trivial) | (with_reducible rfl) | (refine And.intro ?_ ?_) | (refine Need.mk ?_) | exact True.intro | (first | (refine ⟨_, Told.refl _, ?_, ?_⟩) | (refine ⟨⟨_, _⟩, Told.refl _, ?_, ?_⟩) | (refine ⟨⟨_, _, _⟩, Told.refl _, ?_, ?_⟩) | (refine ⟨⟨_, _, _, _⟩, Told.refl _, ?_, ?_⟩) | (refine ⟨⟨_, _, _, _, _⟩, Told.refl _, ?_, ?_⟩) | (refine ⟨(), Told.refl _, ?_, ?_⟩)) | (with_reducible intro _) | (refine fun (_ : Bool) => ?_)))
        all_goals first | (exact absurd ‹decide (((0 : Nat) : Int) < (t.length : Int)) = false› (by rw [hd]; decide)) | skip
        any_goals (refine Exists.intro (1) (And.intro ?_ (And.intro ?_ ?_)); all_goals (repeat' first | (with_reducible exact trivial) | (with_reducible rfl) | (refine And.intro ?_ ?_) | (refine Need.mk ?_) | exact True.intro | (first | (refine ⟨_, Told.refl _, ?_, ?_⟩) | (refine ⟨⟨_, _⟩, Told.refl _, ?_, ?_⟩) | (refine ⟨⟨_, _, _⟩, Told.refl _, ?_, ?_⟩) | (refine ⟨⟨_, _, _, _⟩, Told.refl _, ?_, ?_⟩) | (refine ⟨⟨_, _, _, _, _⟩, Told.refl _, ?_, ?_⟩) | (refine ⟨(), Told.refl _, ?_, ?_⟩)) | (with_reducible intro _) | (refine fun (_ : Bool) => ?_)))
        all_goals ((try dsimp only at *); (try simp only [decide_eq_true_eq, decide_eq_false_iff_not, beq_iff_eq, bne_iff_ne, beq_eq_false_iff_ne, bne_eq_false_iff_eq, ne_eq, Decidable.not_not, ge_iff_le, gt_iff_lt, Bool.not_eq_true', Bool.not_eq_false', Int.not_lt, Int.not_le, Nat.not_lt, Nat.not_le] at *))
        all_goals try simp only [Int.toNat_natCast, hw] at *
        all_goals first
          | omega
          | exact canon_no (k := 0) (by omega) (fun q => by have := hz.1 q; simp_all)
          | exact ok_next hok (hz.2 ‹_›) _ ‹_›
          | (intros; first | rfl | (((try dsimp only at *); (try simp only [decide_eq_true_eq, decide_eq_false_iff_not, beq_iff_eq, bne_iff_ne, beq_eq_false_iff_ne, bne_eq_false_iff_eq, ne_eq, Decidable.not_not, ge_iff_le, gt_iff_lt, Bool.not_eq_true', Bool.not_eq_false', Int.not_lt, Int.not_le, Nat.not_lt, Nat.not_le] at *)) <;> (try simp only [IntKind.wrap_i64] at *) <;> omega))
      · have e1 : IntKind.i64.wrap ((k : Int) - 1) = ((k - 1 : Nat) : Int) := by rw [iw (by omega) (by omega)]; omega
        have hp := ok_sane (hok (k - 1) (by omega))
        have hiff := ok_at' hk0 hp
        ((refine AW.byF ‹_› ?_); (repeat' first | (with_reducible exact trivial) | (with_reducible rfl) | (refine And.intro ?_ ?_) | (refine Need.mk ?_) | exact True.intro | (first | (refine ⟨_, Told.refl _, ?_, ?_⟩) | (refine ⟨⟨_, _⟩, Told.refl _, ?_, ?_⟩) | (refine ⟨⟨_, _, _⟩, Told.refl _, ?_, ?_⟩) | (refine ⟨⟨_, _, _, _⟩, Told.refl _, ?_, ?_⟩) | (refine ⟨⟨_, _, _, _, _⟩, Told.refl _, ?_, ?_⟩) | (refine ⟨(), Told.refl _, ?_, ?_⟩)) | (with_reducible intro _) | (refine fun (_ : Bool) => ?_)))
        all_goals first | (exact absurd ‹decide ((k : Int) < (t.length : Int)) = false› (by rw [hd]; decide)) | skip
        any_goals (refine Exists.intro (k + 1) (And.intro ?_ (And.intro ?_ ?_)); all_goals (repeat' first | (with_reducible exact trivial) | (with_reducible rfl) | (refine And.intro ?_ ?_) | (refine Need.mk ?_) | exact True.intro | (first | (refine ⟨_, Told.refl _, ?_, ?_⟩) | (refine ⟨⟨_, _⟩, Told.refl _, ?_, ?_⟩) | (refine ⟨⟨_, _, _⟩, Told.refl _, ?_, ?_⟩) | (refine ⟨⟨_, _, _, _⟩, Told.refl _, ?_, ?_⟩) | (refine ⟨⟨_, _, _, _, _⟩, Told.refl _, ?_, ?_⟩) | (refine ⟨(), Told.refl _, ?_, ?_⟩)) | (with_reducible intro _) | (refine fun (_ : Bool) => ?_)))
        all_goals ((try dsimp only at *); (try simp only [decide_eq_true_eq, decide_eq_false_iff_not, beq_iff_eq, bne_iff_ne, beq_eq_false_iff_ne, bne_eq_false_iff_eq, ne_eq, Decidable.not_not, ge_iff_le, gt_iff_lt, Bool.not_eq_true', Bool.not_eq_false', Int.not_lt, Int.not_le, Nat.not_lt, Nat.not_le] at *))
        all_goals try simp only [e1, hw, Int.toNat_natCast] at *
        all_goals first
          | omega
          | exact hp
          | assumption
          | exact canon_no (k := k) (by omega) (fun q => by have := hiff.1 q; first | omega | simp_all)
          | (refine ok_next hok (hiff.2 ⟨‹_›, by omega, by omega, ?_⟩) _ ‹_›; first | assumption | (simp_all; done))
          | skip
    · obtain rfl : k = t.length := by omega
      have hd : decide ((t.length : Int) < (t.length : Int)) = false := decide_eq_false (by omega)
      ((refine AW.byF ‹_› ?_); (repeat' first | (with_reducible exact trivial) | (with_reducible rfl) | (refine And.intro ?_ ?_) | (refine Need.mk ?_) | exact True.intro | (first | (refine ⟨_, Told.refl _, ?_, ?_⟩) | (refine ⟨⟨_, _⟩, Told.refl _, ?_, ?_⟩) | (refine ⟨⟨_, _, _⟩, Told.refl _, ?_, ?_⟩) | (refine ⟨⟨_, _, _, _⟩, Told.refl _, ?_, ?_⟩) | (refine ⟨⟨_, _, _, _, _⟩, Told.refl _, ?_, ?_⟩) | (refine ⟨(), Told.refl _, ?_, ?_⟩)) | (with_reducible intro _) | (refine fun (_ : Bool) => ?_)))
      all_goals first | (exact absurd ‹decide ((t.length : Int) < (t.length : Int)) = true› (by rw [hd]; decide)) | skip
      exact canon_all hok
def SPut : Sp := ⟨List Int × Int, fun (l, v) => l.length ≤ 1000000000, fun (l, v) => [aI l, .int .i64 v], fun (l, v) => .row 3 1 (insU l v).length (els ci (insU l v))⟩
/-- What is behind, once done or not. -/
def restU (d : Bool) (l : List Int) (v : Int) : List Int := cond d l (insU l v)
set_option maxHeartbeats 4000000 in
theorem rput : SpOK Tryz.prog 152 SPut := fun ⟨l, v⟩ hl => by
  have hC := base
  have hl : l.length ≤ 1000000000 := hl
  ((refine Fn.ofF hC Tryz.func152 Tryz.ntmps152 rfl rfl rfl ?_); (repeat' first | (with_reducible exact trivial) | (with_reducible rfl) | (refine And.intro ?_ ?_) | (refine Need.mk ?_) | exact True.intro | (first | (refine ⟨_, Told.refl _, ?_, ?_⟩) | (refine ⟨⟨_, _⟩, Told.refl _, ?_, ?_⟩) | (refine ⟨⟨_, _, _⟩, Told.refl _, ?_, ?_⟩) | (refine ⟨⟨_, _, _, _⟩, Told.refl _, ?_, ?_⟩) | (refine ⟨⟨_, _, _, _, _⟩, Told.refl _, ?_, ?_⟩) | (refine ⟨(), Told.refl _, ?_, ?_⟩)) | (with_reducible intro _) | (refine fun (_ : Bool) => ?_)))
  refine AW.loop (I := fun x : Nat × List Int × Bool => ⟨48, [(0, aI l), (1, .int .i64 v), (5, .own 0), (6, .sb x.2.2), (7, .int .i64 x.1)], [.row 3 1 x.2.1.length (els ci x.2.1)]⟩) (fun x => x.1 ≤ l.length ∧ x.2.1.length ≤ x.1 + cond x.2.2 1 0 ∧ insU l v = x.2.1 ++ restU x.2.2 (l.drop x.1) v) (fun x => l.length - x.1) (0, [], false) ⟨Nat.zero_le _, Nat.zero_le _, rfl⟩ ?_ ?_
  · (repeat' first | (with_reducible exact trivial) | (with_reducible rfl) | (refine And.intro ?_ ?_) | (refine Need.mk ?_) | exact True.intro | (first | (refine ⟨_, Told.refl _, ?_, ?_⟩) | (refine ⟨⟨_, _⟩, Told.refl _, ?_, ?_⟩) | (refine ⟨⟨_, _, _⟩, Told.refl _, ?_, ?_⟩) | (refine ⟨⟨_, _, _, _⟩, Told.refl _, ?_, ?_⟩) | (refine ⟨⟨_, _, _, _, _⟩, Told.refl _, ?_, ?_⟩) | (refine ⟨(), Told.refl _, ?_, ?_⟩)) | (with_reducible intro _) | (refine fun (_ : Bool) => ?_))
    all_goals rfl
  · rintro ⟨k, out, d⟩ ⟨hk, ho, he⟩
    dsimp only at hk ho he ⊢
    have ho' : out.length ≤ k + 1 := by cases d <;> simp at ho <;> omega
    rcases Nat.lt_or_ge k l.length with hlt | hge
    · have hd : decide ((k : Int) < (l.length : Int)) = true := decide_eq_true (by omega)
      have hw := iw (n := (k : Int) + 1) (by omega) (by omega)
      obtain ⟨x, hx⟩ : ∃ x, x = l.getD k default := ⟨_, rfl⟩
      have hdr : l.drop k = x :: l.drop (k + 1) := by rw [hx, getD_at hlt]; exact List.drop_eq_getElem_cons hlt
      rw [hdr] at he
      have hlx : l.getD ((k : Int)).toNat default = x := by rw [Int.toNat_natCast]; exact hx.symm
      have hsnoc : ∀ (o : List Int) (n : Nat) (y : Int) (el : Nat → List AV), n = o.length → y = x → (∀ i, i < o.length → el i = ci (o.getD i default)) → ∀ i, i < (o ++ [x]).length → catEl n el (elt [ci y]) i = ci ((o ++ [x]).getD i default) := fun o n y el hn hy hel => by
        subst hy
        exact cat_snoc' hn hel
      ((refine AW.byF ‹_› ?_); (repeat' first | (with_reducible exact trivial) | (with_reducible rfl) | (refine And.intro ?_ ?_) | (refine Need.mk ?_) | exact True.intro | (first | (refine ⟨_, Told.refl _, ?_, ?_⟩) | (refine ⟨⟨_, _⟩, Told.refl _, ?_, ?_⟩) | (refine ⟨⟨_, _, _⟩, Told.refl _, ?_, ?_⟩) | (refine ⟨⟨_, _, _, _⟩, Told.refl _, ?_, ?_⟩) | (refine ⟨⟨_, _, _, _, _⟩, Told.refl _, ?_, ?_⟩) | (refine ⟨(), Told.refl _, ?_, ?_⟩)) | (with_reducible intro _) | (refine fun (_ : Bool) => ?_)))
      all_goals first | (exact absurd ‹decide ((k : Int) < (l.length : Int)) = false› (by rw [hd]; decide)) | skip
      all_goals first | omega | (dsimp only; omega) | skip
      · have q : x = v := by rw [← hlx]; simpa using ‹(l.getD (k : Int).toNat default == v) = true›
        refine Exists.intro (k + 1, out ++ [x], true) (And.intro ?_ (And.intro ?_ ?_))
        · refine ⟨by dsimp only; omega, by dsimp only; rw [List.length_append]; show out.length + 1 ≤ k + 1 + 1; omega, ?_⟩
          show insU l v = (out ++ [x]) ++ l.drop (k + 1)
          rw [he, List.append_assoc]
          cases d
          · show out ++ insU (x :: l.drop (k + 1)) v = _
            unfold insU
            rw [if_pos q]
            rfl
          · rfl
        · dsimp only
          omega
        · (repeat' first | (with_reducible exact trivial) | (with_reducible rfl) | (refine And.intro ?_ ?_) | (refine Need.mk ?_) | exact True.intro | (first | (refine ⟨_, Told.refl _, ?_, ?_⟩) | (refine ⟨⟨_, _⟩, Told.refl _, ?_, ?_⟩) | (refine ⟨⟨_, _, _⟩, Told.refl _, ?_, ?_⟩) | (refine ⟨⟨_, _, _, _⟩, Told.refl _, ?_, ?_⟩) | (refine ⟨⟨_, _, _, _, _⟩, Told.refl _, ?_, ?_⟩) | (refine ⟨(), Told.refl _, ?_, ?_⟩)) | (with_reducible intro _) | (refine fun (_ : Bool) => ?_))
          · simp
          · rename_i i hi
            exact els_of ci_emb (n := 0) (hsnoc out _ _ _ rfl hlx (fun _ _ => rfl)) i hi
          · rw [hw]
            dsimp only
            omega
      · have q : ¬ x = v := by rw [← hlx]; simpa using ‹(l.getD (k : Int).toNat default == v) = false›
        have qd : d = false := by simpa using ‹(!d) = true›
        have qg : x > v := by rw [← hlx]; simpa using ‹decide (l.getD (k : Int).toNat default > v) = true›
        subst qd
        refine Exists.intro (k + 1, out ++ [v] ++ [x], true) (And.intro ?_ (And.intro ?_ ?_))
        · refine ⟨by dsimp only; omega, ?_, ?_⟩
          · dsimp only
            rw [List.length_append, List.length_append]
            show out.length + 1 + 1 ≤ _
            have : out.length ≤ k + 0 := ho
            show _ ≤ k + 1 + 1
            omega
          show insU l v = (out ++ [v] ++ [x]) ++ l.drop (k + 1)
          rw [he]
          show out ++ insU (x :: l.drop (k + 1)) v = _
          unfold insU
          rw [if_neg q, if_pos qg]
          simp
        · dsimp only
          omega
        · (repeat' first | (with_reducible exact trivial) | (with_reducible rfl) | (refine And.intro ?_ ?_) | (refine Need.mk ?_) | exact True.intro | (first | (refine ⟨_, Told.refl _, ?_, ?_⟩) | (refine ⟨⟨_, _⟩, Told.refl _, ?_, ?_⟩) | (refine ⟨⟨_, _, _⟩, Told.refl _, ?_, ?_⟩) | (refine ⟨⟨_, _, _, _⟩, Told.refl _, ?_, ?_⟩) | (refine ⟨⟨_, _, _, _, _⟩, Told.refl _, ?_, ?_⟩) | (refine ⟨(), Told.refl _, ?_, ?_⟩)) | (with_reducible intro _) | (refine fun (_ : Bool) => ?_))
          · simp
          · rename_i i hi
            exact els_of ci_emb (n := 0) (hsnoc (out ++ [v]) _ _ _ (by simp) hlx (cat_snoc' rfl (fun _ _ => rfl))) i hi
          · rw [hw]
            dsimp only
            omega
      · have q : ¬ x = v := by rw [← hlx]; simpa using ‹(l.getD (k : Int).toNat default == v) = false›
        have qd : d = false := by simpa using ‹(!d) = true›
        have qg : ¬ x > v := by rw [← hlx]; simpa using ‹decide (l.getD (k : Int).toNat default > v) = false›
        subst qd
        refine Exists.intro (k + 1, out ++ [x], false) (And.intro ?_ (And.intro ?_ ?_))
        · refine ⟨by dsimp only; omega, by dsimp only; rw [List.length_append]; show out.length + 1 ≤ k + 1 + 0; have : out.length ≤ k + 0 := ho; omega, ?_⟩
          show insU l v = (out ++ [x]) ++ insU (l.drop (k + 1)) v
          rw [he]
          show out ++ insU (x :: l.drop (k + 1)) v = _
          rw [show insU (x :: l.drop (k + 1)) v = x :: insU (l.drop (k + 1)) v by conv => lhs; unfold insU; rw [if_neg q, if_neg qg]]
          simp
        · dsimp only
          omega
        · (repeat' first | (with_reducible exact trivial) | (with_reducible rfl) | (refine And.intro ?_ ?_) | (refine Need.mk ?_) | exact True.intro | (first | (refine ⟨_, Told.refl _, ?_, ?_⟩) | (refine ⟨⟨_, _⟩, Told.refl _, ?_, ?_⟩) | (refine ⟨⟨_, _, _⟩, Told.refl _, ?_, ?_⟩) | (refine ⟨⟨_, _, _, _⟩, Told.refl _, ?_, ?_⟩) | (refine ⟨⟨_, _, _, _, _⟩, Told.refl _, ?_, ?_⟩) | (refine ⟨(), Told.refl _, ?_, ?_⟩)) | (with_reducible intro _) | (refine fun (_ : Bool) => ?_))
          · simp
          · rename_i i hi
            exact els_of ci_emb (n := 0) (hsnoc out _ _ _ rfl hlx (fun _ _ => rfl)) i hi
          · rw [hw]
            dsimp only
            omega
      · have q : ¬ x = v := by rw [← hlx]; simpa using ‹(l.getD (k : Int).toNat default == v) = false›
        have qd : d = true := by simpa using ‹(!d) = false›
        subst qd
        refine Exists.intro (k + 1, out ++ [x], true) (And.intro ?_ (And.intro ?_ ?_))
        · refine ⟨by dsimp only; omega, by dsimp only; rw [List.length_append]; show out.length + 1 ≤ k + 1 + 1; omega, ?_⟩
          show insU l v = (out ++ [x]) ++ l.drop (k + 1)
          rw [he]
          show out ++ x :: l.drop (k + 1) = _
          simp
        · dsimp only
          omega
        · (repeat' first | (with_reducible exact trivial) | (with_reducible rfl) | (refine And.intro ?_ ?_) | (refine Need.mk ?_) | exact True.intro | (first | (refine ⟨_, Told.refl _, ?_, ?_⟩) | (refine ⟨⟨_, _⟩, Told.refl _, ?_, ?_⟩) | (refine ⟨⟨_, _, _⟩, Told.refl _, ?_, ?_⟩) | (refine ⟨⟨_, _, _, _⟩, Told.refl _, ?_, ?_⟩) | (refine ⟨⟨_, _, _, _, _⟩, Told.refl _, ?_, ?_⟩) | (refine ⟨(), Told.refl _, ?_, ?_⟩)) | (with_reducible intro _) | (refine fun (_ : Bool) => ?_))
          · simp
          · rename_i i hi
            exact els_of ci_emb (n := 0) (hsnoc out _ _ _ rfl hlx (fun _ _ => rfl)) i hi
          · rw [hw]
            dsimp only
            omega
    · obtain rfl : k = l.length := by omega
      have hd : decide ((l.length : Int) < (l.length : Int)) = false := decide_eq_false (by omega)
      rw [List.drop_length] at he
      ((refine AW.byF ‹_› ?_); (repeat' first | (with_reducible exact trivial) | (with_reducible rfl) | (refine And.intro ?_ ?_) | (refine Need.mk ?_) | exact True.intro | (first | (refine ⟨_, Told.refl _, ?_, ?_⟩) | (refine ⟨⟨_, _⟩, Told.refl _, ?_, ?_⟩) | (refine ⟨⟨_, _, _⟩, Told.refl _, ?_, ?_⟩) | (refine ⟨⟨_, _, _, _⟩, Told.refl _, ?_, ?_⟩) | (refine ⟨⟨_, _, _, _, _⟩, Told.refl _, ?_, ?_⟩) | (refine ⟨(), Told.refl _, ?_, ?_⟩)) | (with_reducible intro _) | (refine fun (_ : Bool) => ?_)))
      all_goals first | (exact absurd ‹decide ((l.length : Int) < (l.length : Int)) = true› (by rw [hd]; decide)) | skip
      all_goals first | omega | (dsimp only; omega) | skip
      · have qd : d = false := by simpa using ‹(!d) = true›
        subst qd
        have he : insU l v = out ++ [v] := he
        rw [he, List.length_append]
        rfl
      · rename_i i hi
        have qd : d = false := by simpa using ‹(!d) = true›
        subst qd
        have he : insU l v = out ++ [v] := he
        rw [he] at hi ⊢
        exact els_of ci_emb (n := 0) (cat_snoc' rfl (fun _ _ => rfl)) i hi
      all_goals
        have qd : d = true := by simpa using ‹(!d) = false›
        subst qd
        have he : insU l v = out ++ [] := he
        rw [he, List.append_nil]
end Go.Abs.Dest
set_option maxRecDepth 100000
namespace Go.Abs.Dest
open Go.RowKit Go.Proofs Go.Abs.Tab
def SBord : Sp := ⟨List Bf × Int, fun (l, n) => l.length ≤ 100000000, fun (l, n) => [aB l, .int .i64 n], fun (l, n) => .st (aI (EB.bs l n))⟩
theorem bs_next {l : List Bf} {k : Nat} (hk : k < l.length) (n : Int) : EB.bs (l.take (k + 1)) n = if (l.getD k default).n = n ∧ sane (l.getD k default) = true then insU (insU (EB.bs (l.take k) n) (l.getD k default).lo) ((l.getD k default).hi + 1) else EB.bs (l.take k) n := by
  rw [List.take_succ_eq_append_getElem hk, EB.bs_snoc, getB hk]
  rfl
set_option maxHeartbeats 4000000 in
theorem rborders : SpOK Tryz.prog 124 SBord := fun ⟨l, n⟩ hl => by
  have hC : COK Tryz.prog (cfg [(99, SBSane), (152, SPut)]) := Ty.ty.cfg ⟨rsane, rput, trivial⟩
  have hl : l.length ≤ 100000000 := hl
  ((refine Fn.ofF hC Tryz.func124 Tryz.ntmps124 rfl rfl rfl ?_); (repeat' first | (with_reducible exact trivial) | (with_reducible rfl) | (refine And.intro ?_ ?_) | (refine Need.mk ?_) | exact True.intro | (first | (refine ⟨_, Told.refl _, ?_, ?_⟩) | (refine ⟨⟨_, _⟩, Told.refl _, ?_, ?_⟩) | (refine ⟨⟨_, _, _⟩, Told.refl _, ?_, ?_⟩) | (refine ⟨⟨_, _, _, _⟩, Told.refl _, ?_, ?_⟩) | (refine ⟨⟨_, _, _, _, _⟩, Told.refl _, ?_, ?_⟩) | (refine ⟨(), Told.refl _, ?_, ?_⟩)) | (with_reducible intro _) | (refine fun (_ : Bool) => ?_)))
  refine AW.loop (I := fun k : Nat => ⟨42, [(0, aB l), (1, .int .i64 n), (5, aI (EB.bs (l.take k) n)), (6, .int .i64 k)], []⟩) (fun k => k ≤ l.length) (fun k => l.length - k) 0 (Nat.zero_le _) ?_ ?_
  · (repeat' first | (with_reducible exact trivial) | (with_reducible rfl) | (refine And.intro ?_ ?_) | (refine Need.mk ?_) | exact True.intro | (first | (refine ⟨_, Told.refl _, ?_, ?_⟩) | (refine ⟨⟨_, _⟩, Told.refl _, ?_, ?_⟩) | (refine ⟨⟨_, _, _⟩, Told.refl _, ?_, ?_⟩) | (refine ⟨⟨_, _, _, _⟩, Told.refl _, ?_, ?_⟩) | (refine ⟨⟨_, _, _, _, _⟩, Told.refl _, ?_, ?_⟩) | (refine ⟨(), Told.refl _, ?_, ?_⟩)) | (with_reducible intro _) | (refine fun (_ : Bool) => ?_))
    all_goals first | rfl | (rename_i hi; exact absurd hi (Nat.not_lt_zero _))
  · intro k hk
    rcases Nat.lt_or_ge k l.length with hlt | hge
    · have hd : decide ((k : Int) < (l.length : Int)) = true := decide_eq_true (by omega)
      have hw := iw (n := (k : Int) + 1) (by omega) (by omega)
      have hnx := bs_next hlt n
      have hbl := (EB.bs_rng (l.take k) n).2
      have htl : (l.take k).length ≤ l.length := by rw [List.length_take]; omega
      have hil := insU_len (l.getD k default).lo (EB.bs (l.take k) n)
      ((refine AW.byF ‹_› ?_); (repeat' first | (with_reducible exact trivial) | (with_reducible rfl) | (refine And.intro ?_ ?_) | (refine Need.mk ?_) | exact True.intro | (first | (refine ⟨_, Told.refl _, ?_, ?_⟩) | (refine ⟨⟨_, _⟩, Told.refl _, ?_, ?_⟩) | (refine ⟨⟨_, _, _⟩, Told.refl _, ?_, ?_⟩) | (refine ⟨⟨_, _, _, _⟩, Told.refl _, ?_, ?_⟩) | (refine ⟨⟨_, _, _, _, _⟩, Told.refl _, ?_, ?_⟩) | (refine ⟨(), Told.refl _, ?_, ?_⟩)) | (with_reducible intro _) | (refine fun (_ : Bool) => ?_)))
      all_goals first | (exact absurd ‹decide ((k : Int) < (l.length : Int)) = false› (by rw [hd]; decide)) | skip
      any_goals (refine Exists.intro (k + 1) (And.intro ?_ (And.intro ?_ ?_)); all_goals (repeat' first | (with_reducible exact trivial) | (with_reducible rfl) | (refine And.intro ?_ ?_) | (refine Need.mk ?_) | exact True.intro | (first | (refine ⟨_, Told.refl _, ?_, ?_⟩) | (refine ⟨⟨_, _⟩, Told.refl _, ?_, ?_⟩) | (refine ⟨⟨_, _, _⟩, Told.refl _, ?_, ?_⟩) | (refine ⟨⟨_, _, _, _⟩, Told.refl _, ?_, ?_⟩) | (refine ⟨⟨_, _, _, _, _⟩, Told.refl _, ?_, ?_⟩) | (refine ⟨(), Told.refl _, ?_, ?_⟩)) | (with_reducible intro _) | (refine fun (_ : Bool) => ?_)))
      all_goals try simp only [Int.toNat_natCast, hw] at *
      all_goals first
        | omega
        | exact Int.natCast_nonneg k
        | (have q : sane (l.getD k default) = true := by assumption
           have r := rngB q
           have hq : (l.getD k default).n = n := by simpa using ‹((l.getD k default).n == n) = true›
           have hw2 := iw (n := (l.getD k default).hi + 1) (by omega) (by omega)
           rw [if_pos ⟨hq, q⟩] at hnx
           first
             | (show (EB.bs (l.take k) n).length ≤ 1000000000; omega)
             | (show (insU (EB.bs (l.take k) n) (l.getD k default).lo).length ≤ 1000000000; omega)
             | (rw [hnx, hw2]; done))
        | (rw [if_neg (fun h => by have := h.2; simp_all)] at hnx; rw [hnx]; done)
        | (rw [if_neg (fun h => by have := h.1; simp_all)] at hnx; rw [hnx]; done)
    · obtain rfl : k = l.length := by omega
      have hd : decide ((l.length : Int) < (l.length : Int)) = false := decide_eq_false (by omega)
      ((refine AW.byF ‹_› ?_); (repeat' first | (with_reducible exact trivial) | (with_reducible rfl) | (refine And.intro ?_ ?_) | (refine Need.mk ?_) | exact True.intro | (first | (refine ⟨_, Told.refl _, ?_, ?_⟩) | (refine ⟨⟨_, _⟩, Told.refl _, ?_, ?_⟩) | (refine ⟨⟨_, _, _⟩, Told.refl _, ?_, ?_⟩) | (refine ⟨⟨_, _, _, _⟩, Told.refl _, ?_, ?_⟩) | (refine ⟨⟨_, _, _, _, _⟩, Told.refl _, ?_, ?_⟩) | (refine ⟨(), Told.refl _, ?_, ?_⟩)) | (with_reducible intro _) | (refine fun (_ : Bool) => ?_)))
      all_goals first | (exact absurd ‹decide ((l.length : Int) < (l.length : Int)) = true› (by rw [hd]; decide)) | skip
      all_goals rw [List.take_length]
/-! ### From border to border -/
def tailS (l : List Bf) : Nat → List Bf
  | 0 => []
  | k + 1 => EB.sg l (4 - (k : Int)) ++ tailS l k
def fullS (l : List Bf) : List Bf := tailS l 4
theorem full_eq (l : List Bf) : fullS l = EB.sg l 1 ++ (EB.sg l 2 ++ (EB.sg l 3 ++ EB.sg l 4)) := by
  show EB.sg l 1 ++ (EB.sg l 2 ++ (EB.sg l 3 ++ (EB.sg l 4 ++ []))) = _
  rw [List.append_nil]
theorem full_build (l : List Bf) : EB.joined EB.jb (fullS l) = EB.build l := by rw [full_eq]; exact EB.build_segs l
theorem full_ok (l : List Bf) : EB.OD (fullS l) ∧ ∀ x ∈ fullS l, sane x = true := by
  have hmemb : ∀ n, SA (EB.bs l n) := fun n => (Tb.bord_ok EB.toTb EB.sane n l [] trivial).1
  have hst := Tb.strm_ok EB.toTb (u := EB.lastL l) (bs := EB.bs l) (fun q hq => (EB.rng ((EB.mem_lastL l q).1 hq).2).1) hmemb (fun n q hq hn => by
    obtain ⟨q1, q2⟩ := (EB.mem_lastL l q).1 hq
    have hb := (Tb.bord_ok EB.toTb EB.sane n l [] trivial).2.1
    exact ⟨(hb _).2 (.inr ⟨q, q1, q2, hn, .inl rfl⟩), (hb _).2 (.inr ⟨q, q1, q2, hn, .inr rfl⟩)⟩)
  obtain ⟨s1, s2, s3⟩ := hst
  have good : ∀ s ∈ EB.strm (EB.lastL l) (EB.bs l), EB.sane s = true := fun s hs => by
    obtain ⟨n, q, hq, p1, p2, p3, p4, p5, p6⟩ := s2 s hs
    have gq := ((EB.mem_lastL l q).1 hq).2
    have gp := EB.part q (EB.lo s) (EB.hi s) gq p3 p4 p5
    have e1 : EB.v s = EB.sh (EB.v q) (EB.lo s - EB.lo q) := p6
    rw [p1.trans p2.symm, ← e1, EB.eta] at gp
    exact gp
  rw [full_eq]
  exact ⟨s1, good⟩
def remS (l : List Bf) (n : Int) (i : Nat) : List Bf := EB.segs (EB.gl l n) n ((EB.bs l n).drop i)
theorem remS_zero (l : List Bf) (n : Int) : remS l n 0 = EB.sg l n := rfl
theorem remS_end {l : List Bf} {n : Int} {i : Nat} (h : ¬ i + 1 < (EB.bs l n).length) : remS l n i = [] := by
  unfold remS
  have : ((EB.bs l n).drop i).length ≤ 1 := by rw [List.length_drop]; omega
  match hd : (EB.bs l n).drop i, this with
  | [], _ => rfl
  | [x], _ => rfl
theorem remS_next {l : List Bf} {n : Int} {i : Nat} (h : i + 1 < (EB.bs l n).length) : remS l n i = (match EB.last l n ((EB.bs l n).getD i default) with | some v => [(⟨n, (EB.bs l n).getD i default, (EB.bs l n).getD (i + 1) default - 1, v⟩ : Bf)] | none => []) ++ remS l n (i + 1) := by
  unfold remS
  rw [List.drop_eq_getElem_cons (show i < (EB.bs l n).length by omega), List.drop_eq_getElem_cons h, EB.segs_two, getD_at (show i < (EB.bs l n).length by omega), getD_at h]
  congr 1
  show Tb.seg1 _ (EB.last l n _) n _ _ = _
  cases EB.last l n (EB.bs l n)[i] <;> rfl
theorem remS_none {l : List Bf} {n : Int} {i : Nat} (h : i + 1 < (EB.bs l n).length) (hn : EB.last l n ((EB.bs l n).getD i default) = none) : remS l n i = remS l n (i + 1) := by
  rw [remS_next h, hn]
  rfl
theorem remS_some {l : List Bf} {n : Int} {i : Nat} {v : List Int} (h : i + 1 < (EB.bs l n).length) (hn : EB.last l n ((EB.bs l n).getD i default) = some v) : remS l n i = (⟨n, (EB.bs l n).getD i default, (EB.bs l n).getD (i + 1) default - 1, v⟩ : Bf) :: remS l n (i + 1) := by
  rw [remS_next h, hn]
  rfl
theorem drop_next {α : Type} [Inhabited α] {l : List α} {j : Nat} {x : α} {r : List α} (h : l.drop j = x :: r) : j < l.length ∧ l.getD j default = x ∧ l.drop (j + 1) = r := by
  have hj : j < l.length := by
    rcases Nat.lt_or_ge j l.length with q | q
    · exact q
    · rw [List.drop_eq_nil_of_le q] at h
      cases h
  rw [List.drop_eq_getElem_cons hj] at h
  obtain ⟨h1, h2⟩ := List.cons.inj h
  exact ⟨hj, by rw [getD_at hj]; exact h1, h2⟩
theorem full_len (l : List Bf) : (fullS l).length ≤ 8 * l.length := by
  have h : ∀ n, (EB.sg l n).length ≤ 2 * l.length := fun n => Nat.le_trans (Tb.segs_len EB.toTb _ n _) (EB.bs_rng l n).2
  rw [full_eq]
  simp only [List.length_append]
  have := h 1
  have := h 2
  have := h 3
  have := h 4
  omega
theorem getD_init {α : Type} [Inhabited α] {init : List α} {q : α} {i : Nat} (h : i < init.length) : (init ++ [q]).getD i default = init.getD i default := by
  simp [List.getD, List.getElem?_append_left h]
def SBuildR : Sp := ⟨List Bf, fun l => l.length ≤ 10000000, fun l => [aB l], fun l => .row 73 4 (EB.build l).length (els cBf (EB.build l))⟩
set_option maxHeartbeats 16000000 in
theorem rbuild : SpOK Tryz.prog 92 SBuildR := fun (l : List Bf) hl => by
  have hC : COK Tryz.prog (cfg [(124, SBord), (125, SLastR), (100, SJoins)]) := Ty.ty.cfg ⟨rborders, rlast, rjoins, trivial⟩
  have hl : l.length ≤ 10000000 := hl
  obtain ⟨fo, fg⟩ := full_ok l
  have hfl := full_len l
  ((refine Fn.ofF hC Tryz.func92 Tryz.ntmps92 rfl rfl rfl ?_); (repeat' first | (with_reducible exact trivial) | (with_reducible rfl) | (refine And.intro ?_ ?_) | (refine Need.mk ?_) | exact True.intro | (first | (refine ⟨_, Told.refl _, ?_, ?_⟩) | (refine ⟨⟨_, _⟩, Told.refl _, ?_, ?_⟩) | (refine ⟨⟨_, _, _⟩, Told.refl _, ?_, ?_⟩) | (refine ⟨⟨_, _, _, _⟩, Told.refl _, ?_, ?_⟩) | (refine ⟨⟨_, _, _, _, _⟩, Told.refl _, ?_, ?_⟩) | (refine ⟨(), Told.refl _, ?_, ?_⟩)) | (with_reducible intro _) | (refine fun (_ : Bool) => ?_)))
  refine AW.loop (I := fun x : Nat × Nat => ⟨88, [(0, aB l), (3, .own 0), (4, .int .i64 (5 - (x.1 : Int)))], [.row 73 4 (J (fullS l) x.2).length (els cBf (J (fullS l) x.2))]⟩) (fun x => x.1 ≤ 4 ∧ (fullS l).drop x.2 = tailS l x.1) (fun x => x.1) (4, 0) ⟨Nat.le_refl _, rfl⟩ ?_ ?_
  · (repeat' first | (with_reducible exact trivial) | (with_reducible rfl) | (refine And.intro ?_ ?_) | (refine Need.mk ?_) | exact True.intro | (first | (refine ⟨_, Told.refl _, ?_, ?_⟩) | (refine ⟨⟨_, _⟩, Told.refl _, ?_, ?_⟩) | (refine ⟨⟨_, _, _⟩, Told.refl _, ?_, ?_⟩) | (refine ⟨⟨_, _, _, _⟩, Told.refl _, ?_, ?_⟩) | (refine ⟨⟨_, _, _, _, _⟩, Told.refl _, ?_, ?_⟩) | (refine ⟨(), Told.refl _, ?_, ?_⟩)) | (with_reducible intro _) | (refine fun (_ : Bool) => ?_))
    all_goals rfl
  · rintro ⟨k, j⟩ ⟨hk, hdr⟩
    dsimp only at hk hdr ⊢
    rcases k with _ | m
    · have hd : decide (5 - ((0 : Nat) : Int) ≤ 4) = false := by decide
      have hJ : J (fullS l) j = EB.build l := by
        have : (fullS l).length ≤ j := List.drop_eq_nil_iff.1 hdr
        rw [← full_build l]
        unfold J
        rw [List.take_of_length_le this]
      ((refine AW.byF ‹_› ?_); (repeat' first | (with_reducible exact trivial) | (with_reducible rfl) | (refine And.intro ?_ ?_) | (refine Need.mk ?_) | exact True.intro | (first | (refine ⟨_, Told.refl _, ?_, ?_⟩) | (refine ⟨⟨_, _⟩, Told.refl _, ?_, ?_⟩) | (refine ⟨⟨_, _, _⟩, Told.refl _, ?_, ?_⟩) | (refine ⟨⟨_, _, _, _⟩, Told.refl _, ?_, ?_⟩) | (refine ⟨⟨_, _, _, _, _⟩, Told.refl _, ?_, ?_⟩) | (refine ⟨(), Told.refl _, ?_, ?_⟩)) | (with_reducible intro _) | (refine fun (_ : Bool) => ?_)))
      all_goals first | (exact absurd ‹decide (5 - ((0 : Nat) : Int) ≤ 4) = true› (by rw [hd]; decide)) | skip
      all_goals rw [hJ]
    · have hd : decide (5 - ((m + 1 : Nat) : Int) ≤ 4) = true := decide_eq_true (by omega)
      have en : 5 - ((m + 1 : Nat) : Int) = 4 - (m : Int) := by omega
      obtain ⟨n, hn⟩ : ∃ n, n = 4 - (m : Int) := ⟨_, rfl⟩
      have hdr : (fullS l).drop j = remS l n 0 ++ tailS l m := by rw [hdr, remS_zero, hn]; rfl
      have hbr := EB.bs_rng l n
      rw [en] at hd ⊢
      rw [← hn] at hd ⊢
      ((refine AW.byF ‹_› ?_); (repeat' first | (with_reducible exact trivial) | (with_reducible rfl) | (refine And.intro ?_ ?_) | (refine Need.mk ?_) | exact True.intro | (first | (refine ⟨_, Told.refl _, ?_, ?_⟩) | (refine ⟨⟨_, _⟩, Told.refl _, ?_, ?_⟩) | (refine ⟨⟨_, _, _⟩, Told.refl _, ?_, ?_⟩) | (refine ⟨⟨_, _, _, _⟩, Told.refl _, ?_, ?_⟩) | (refine ⟨⟨_, _, _, _, _⟩, Told.refl _, ?_, ?_⟩) | (refine ⟨(), Told.refl _, ?_, ?_⟩)) | (with_reducible intro _) | (refine fun (_ : Bool) => ?_)))
      all_goals first | (exact absurd ‹decide (n ≤ 4) = false› (by rw [hd]; decide)) | skip
      · show l.length ≤ 100000000
        omega
      refine AW.loop (I := fun x : Nat × Nat => ⟨88, [(0, aB l), (3, .own 0), (4, .int .i64 n), (5, aI (EB.bs l n)), (6, .int .i64 x.1)], [.row 73 4 (J (fullS l) x.2).length (els cBf (J (fullS l) x.2))]⟩) (fun x => x.1 ≤ (EB.bs l n).length ∧ (fullS l).drop x.2 = remS l n x.1 ++ tailS l m) (fun x => (EB.bs l n).length - x.1) (0, j) ⟨Nat.zero_le _, hdr⟩ ?_ ?_
      · (repeat' first | (with_reducible exact trivial) | (with_reducible rfl) | (refine And.intro ?_ ?_) | (refine Need.mk ?_) | exact True.intro | (first | (refine ⟨_, Told.refl _, ?_, ?_⟩) | (refine ⟨⟨_, _⟩, Told.refl _, ?_, ?_⟩) | (refine ⟨⟨_, _, _⟩, Told.refl _, ?_, ?_⟩) | (refine ⟨⟨_, _, _, _⟩, Told.refl _, ?_, ?_⟩) | (refine ⟨⟨_, _, _, _, _⟩, Told.refl _, ?_, ?_⟩) | (refine ⟨(), Told.refl _, ?_, ?_⟩)) | (with_reducible intro _) | (refine fun (_ : Bool) => ?_))
        all_goals rfl
      · rintro ⟨i, j⟩ ⟨hi, hdr⟩
        dsimp only at hi hdr ⊢
        have hw := iw (n := (i : Int) + 1) (by omega) (by omega)
        rcases Nat.lt_or_ge (i + 1) (EB.bs l n).length with hlt | hge
        · have hd2 : decide (IntKind.i64.wrap ((i : Int) + 1) < ((EB.bs l n).length : Int)) = true := by rw [hw]; exact decide_eq_true (by omega)
          have hjl := J_len (fullS l) j
          have ei : ((i : Int) + 1).toNat = i + 1 := by omega
          cases hv : EB.last l n ((EB.bs l n).getD i default) with
          | none =>
            have hN := remS_none hlt hv
            rw [hN] at hdr
            ((refine AW.byF ‹_› ?_); (repeat' first | (with_reducible exact trivial) | (with_reducible rfl) | (refine And.intro ?_ ?_) | (refine Need.mk ?_) | exact True.intro | (first | (refine ⟨_, Told.refl _, ?_, ?_⟩) | (refine ⟨⟨_, _⟩, Told.refl _, ?_, ?_⟩) | (refine ⟨⟨_, _, _⟩, Told.refl _, ?_, ?_⟩) | (refine ⟨⟨_, _, _, _⟩, Told.refl _, ?_, ?_⟩) | (refine ⟨⟨_, _, _, _, _⟩, Told.refl _, ?_, ?_⟩) | (refine ⟨(), Told.refl _, ?_, ?_⟩)) | (with_reducible intro _) | (refine fun (_ : Bool) => ?_)))
            all_goals first | (exact absurd ‹decide (IntKind.i64.wrap ((i : Int) + 1) < ((EB.bs l n).length : Int)) = false› (by rw [hd2]; decide)) | skip
            all_goals first | (exact absurd ‹(!(EB.last l n ((EB.bs l n).getD (i : Int).toNat default)).isSome) = false› (by rw [Int.toNat_natCast, hv]; decide)) | skip
            any_goals (refine Exists.intro (i + 1, j) (And.intro ?_ (And.intro ?_ ?_)); all_goals (repeat' first | (with_reducible exact trivial) | (with_reducible rfl) | (refine And.intro ?_ ?_) | (refine Need.mk ?_) | exact True.intro | (first | (refine ⟨_, Told.refl _, ?_, ?_⟩) | (refine ⟨⟨_, _⟩, Told.refl _, ?_, ?_⟩) | (refine ⟨⟨_, _, _⟩, Told.refl _, ?_, ?_⟩) | (refine ⟨⟨_, _, _, _⟩, Told.refl _, ?_, ?_⟩) | (refine ⟨⟨_, _, _, _, _⟩, Told.refl _, ?_, ?_⟩) | (refine ⟨(), Told.refl _, ?_, ?_⟩)) | (with_reducible intro _) | (refine fun (_ : Bool) => ?_)))
            all_goals first
              | omega
              | (show l.length < 9223372036854775807; omega)
              | (dsimp only; omega)
              | (dsimp only; exact hdr)
              | (rw [hw]; dsimp only; omega)
          | some v =>
            have hN := remS_some hlt hv
            obtain ⟨x, hx⟩ : ∃ x : Bf, x = ⟨n, (EB.bs l n).getD i default, (EB.bs l n).getD (i + 1) default - 1, v⟩ := ⟨_, rfl⟩
            have hb1 := hbr.1 ((EB.bs l n).getD (i + 1) default) (by rw [getD_at hlt]; exact List.getElem_mem hlt)
            have hw3 := iw (n := (EB.bs l n).getD (i + 1) default - 1) (by omega) (by omega)
            rw [← hx] at hN
            obtain ⟨jlt, jx, jdr⟩ := drop_next (hdr.trans (by rw [hN]; rfl))
            have hxs : sane x = true := by rw [← jx, getB jlt]; exact fg _ (List.getElem_mem jlt)
            have hjs := J_sane fo fg j
            have hxr : (⟨n, (EB.bs l n).getD (i : Int).toNat default, IntKind.i64.wrap ((EB.bs l n).getD (IntKind.i64.wrap ((i : Int) + 1)).toNat default - 1), (EB.last l n ((EB.bs l n).getD (i : Int).toNat default)).getD []⟩ : Bf) = x := by
              rw [hx, hw, ei, Int.toNat_natCast, hw3, hv]
              rfl
            rw [← hxr] at hxs
            rcases J_next jlt with ⟨j1, j2⟩ | ⟨init, q, j1, j2⟩
            · rw [jx, ← hxr] at j2
              rw [j1] at hjl ⊢
              ((refine AW.byF ‹_› ?_); (repeat' first | (with_reducible exact trivial) | (with_reducible rfl) | (refine And.intro ?_ ?_) | (refine Need.mk ?_) | exact True.intro | (first | (refine ⟨_, Told.refl _, ?_, ?_⟩) | (refine ⟨⟨_, _⟩, Told.refl _, ?_, ?_⟩) | (refine ⟨⟨_, _, _⟩, Told.refl _, ?_, ?_⟩) | (refine ⟨⟨_, _, _, _⟩, Told.refl _, ?_, ?_⟩) | (refine ⟨⟨_, _, _, _, _⟩, Told.refl _, ?_, ?_⟩) | (refine ⟨(), Told.refl _, ?_, ?_⟩)) | (with_reducible intro _) | (refine fun (_ : Bool) => ?_)))
              all_goals first | (exact absurd ‹decide (IntKind.i64.wrap ((i : Int) + 1) < ((EB.bs l n).length : Int)) = false› (by rw [hd2]; decide)) | skip
              all_goals first | (exact absurd ‹(!(EB.last l n ((EB.bs l n).getD (i : Int).toNat default)).isSome) = true› (by rw [Int.toNat_natCast, hv]; simp)) | skip
              all_goals first | (exact absurd ‹decide (IntKind.i64.wrap ((([] : List Bf).length : Int) - 1) ≥ 0) = true› (by decide)) | skip
              any_goals (refine Exists.intro (i + 1, j + 1) (And.intro ?_ (And.intro ?_ ?_)); all_goals (repeat' first | (with_reducible exact trivial) | (with_reducible rfl) | (refine And.intro ?_ ?_) | (refine Need.mk ?_) | exact True.intro | (first | (refine ⟨_, Told.refl _, ?_, ?_⟩) | (refine ⟨⟨_, _⟩, Told.refl _, ?_, ?_⟩) | (refine ⟨⟨_, _, _⟩, Told.refl _, ?_, ?_⟩) | (refine ⟨⟨_, _, _, _⟩, Told.refl _, ?_, ?_⟩) | (refine ⟨⟨_, _, _, _, _⟩, Told.refl _, ?_, ?_⟩) | (refine ⟨(), Told.refl _, ?_, ?_⟩)) | (with_reducible intro _) | (refine fun (_ : Bool) => ?_)))
              all_goals first
                | omega
                | (rw [hw]; omega)
                | (show l.length < 9223372036854775807; omega)
                | (dsimp only; omega)
                | (dsimp only; exact jdr)
                | (rw [hw]; dsimp only; omega)
                | (rw [j2]; rfl)
                | (have hi := ‹_ < (J (fullS l) (j + 1)).length›
                   rw [j2] at hi ⊢
                   exact els_of cBf_emb (n := 0) (cat_snoc' (l := []) (x := ⟨n, (EB.bs l n).getD (i : Int).toNat default, IntKind.i64.wrap ((EB.bs l n).getD (IntKind.i64.wrap ((i : Int) + 1)).toNat default - 1), (EB.last l n ((EB.bs l n).getD (i : Int).toNat default)).getD []⟩) rfl (fun _ _ => rfl)) _ hi)
            · rw [jx, ← hxr] at j2
              rw [j1] at hjl hjs ⊢
              have hq : sane q = true := hjs q (by simp)
              have hlen : (init ++ [q]).length = init.length + 1 := by simp
              have e3 : IntKind.i64.wrap (((init ++ [q]).length : Int) - 1) = ((init.length : Nat) : Int) := by rw [iw (by omega) (by omega)]; omega
              have hgl : (init ++ [q]).getD (IntKind.i64.wrap (((init ++ [q]).length : Int) - 1)).toNat default = q := by rw [e3, Int.toNat_natCast, getD_last]
              have hd3 : decide (IntKind.i64.wrap (((init ++ [q]).length : Int) - 1) ≥ 0) = true := by rw [e3]; exact decide_eq_true (by omega)
              have hJ1 : joins ((init ++ [q]).getD (IntKind.i64.wrap (((init ++ [q]).length : Int) - 1)).toNat default) ⟨n, (EB.bs l n).getD (i : Int).toNat default, IntKind.i64.wrap ((EB.bs l n).getD (IntKind.i64.wrap ((i : Int) + 1)).toNat default - 1), (EB.last l n ((EB.bs l n).getD (i : Int).toNat default)).getD []⟩ = true → J (fullS l) (j + 1) = init ++ [⟨q.n, q.lo, IntKind.i64.wrap ((EB.bs l n).getD (IntKind.i64.wrap ((i : Int) + 1)).toNat default - 1), q.to⟩] := fun h => by
                rw [hgl] at h
                rw [j2]
                exact if_pos h
              have hJ2 : joins ((init ++ [q]).getD (IntKind.i64.wrap (((init ++ [q]).length : Int) - 1)).toNat default) ⟨n, (EB.bs l n).getD (i : Int).toNat default, IntKind.i64.wrap ((EB.bs l n).getD (IntKind.i64.wrap ((i : Int) + 1)).toNat default - 1), (EB.last l n ((EB.bs l n).getD (i : Int).toNat default)).getD []⟩ = false → J (fullS l) (j + 1) = init ++ [q] ++ [⟨n, (EB.bs l n).getD (i : Int).toNat default, IntKind.i64.wrap ((EB.bs l n).getD (IntKind.i64.wrap ((i : Int) + 1)).toNat default - 1), (EB.last l n ((EB.bs l n).getD (i : Int).toNat default)).getD []⟩] := fun h => by
                rw [hgl] at h
                rw [j2, if_neg (by rw [h]; decide)]
              have hel : ∀ r : Bf, r = ⟨q.n, q.lo, IntKind.i64.wrap ((EB.bs l n).getD (IntKind.i64.wrap ((i : Int) + 1)).toNat default - 1), q.to⟩ → ∀ z, z < (init ++ [r]).length → catEl (0 + (IntKind.i64.wrap (((init ++ [q]).length : Int) - 1) - 0).toNat) (catEl 0 (elt []) fun i => els cBf (init ++ [q]) (Int.toNat 0 + i)) (elt [cBf ⟨((init ++ [q]).getD (IntKind.i64.wrap (((init ++ [q]).length : Int) - 1)).toNat default).n, ((init ++ [q]).getD (IntKind.i64.wrap (((init ++ [q]).length : Int) - 1)).toNat default).lo, IntKind.i64.wrap ((EB.bs l n).getD (IntKind.i64.wrap ((i : Int) + 1)).toNat default - 1), ((init ++ [q]).getD (IntKind.i64.wrap (((init ++ [q]).length : Int) - 1)).toNat default).to⟩]) z = cBf ((init ++ [r]).getD z default) := fun r hr z hz => by
                rw [hgl, ← hr]
                refine cat_snoc' (l := init) (by rw [e3]; omega) (fun z hz => ?_) z hz
                show cBf ((init ++ [q]).getD (Int.toNat 0 + z) default) = _
                rw [show Int.toNat 0 + z = z by simp, getD_init hz]
              ((refine AW.byF ‹_› ?_); (repeat' first | (with_reducible exact trivial) | (with_reducible rfl) | (refine And.intro ?_ ?_) | (refine Need.mk ?_) | exact True.intro | (first | (refine ⟨_, Told.refl _, ?_, ?_⟩) | (refine ⟨⟨_, _⟩, Told.refl _, ?_, ?_⟩) | (refine ⟨⟨_, _, _⟩, Told.refl _, ?_, ?_⟩) | (refine ⟨⟨_, _, _, _⟩, Told.refl _, ?_, ?_⟩) | (refine ⟨⟨_, _, _, _, _⟩, Told.refl _, ?_, ?_⟩) | (refine ⟨(), Told.refl _, ?_, ?_⟩)) | (with_reducible intro _) | (refine fun (_ : Bool) => ?_)))
              all_goals first | (exact absurd ‹decide (IntKind.i64.wrap ((i : Int) + 1) < ((EB.bs l n).length : Int)) = false› (by rw [hd2]; decide)) | skip
              all_goals first | (exact absurd ‹(!(EB.last l n ((EB.bs l n).getD (i : Int).toNat default)).isSome) = true› (by rw [Int.toNat_natCast, hv]; simp)) | skip
              all_goals first | (exact absurd ‹decide (IntKind.i64.wrap (((init ++ [q]).length : Int) - 1) ≥ 0) = false› (by rw [hd3]; decide)) | skip
              any_goals (refine Exists.intro (i + 1, j + 1) (And.intro ?_ (And.intro ?_ ?_)); all_goals (repeat' first | (with_reducible exact trivial) | (with_reducible rfl) | (refine And.intro ?_ ?_) | (refine Need.mk ?_) | exact True.intro | (first | (refine ⟨_, Told.refl _, ?_, ?_⟩) | (refine ⟨⟨_, _⟩, Told.refl _, ?_, ?_⟩) | (refine ⟨⟨_, _, _⟩, Told.refl _, ?_, ?_⟩) | (refine ⟨⟨_, _, _, _⟩, Told.refl _, ?_, ?_⟩) | (refine ⟨⟨_, _, _, _, _⟩, Told.refl _, ?_, ?_⟩) | (refine ⟨(), Told.refl _, ?_, ?_⟩)) | (with_reducible intro _) | (refine fun (_ : Bool) => ?_)))
              all_goals first
                | omega
                | (rw [hw]; omega)
                | (show l.length < 9223372036854775807; omega)
                | (dsimp only; omega)
                | (dsimp only; exact jdr)
                | (rw [hw]; dsimp only; omega)
                | (rw [e3]; omega)
                | (rw [e3]; dsimp only; omega)
                | exact hxs
                | (rw [hgl]; exact hq)
                | (dsimp only; rw [hJ1 ‹_›, e3, List.length_append]; show _ = init.length + 1; omega)
                | (dsimp only; rw [hJ2 ‹_›]; simp only [List.length_append, List.length_cons, List.length_nil]; done)
                | (have hi := ‹_ < (J (fullS l) (j + 1)).length›
                   rw [hJ2 ‹_›] at hi
                   dsimp only
                   rw [hJ2 ‹_›]
                   exact els_of cBf_emb (n := 0) (cat_snoc' rfl (fun _ _ => rfl)) _ hi)
                | (have hi := ‹_ < (J (fullS l) (j + 1)).length›
                   rw [hJ1 ‹_›] at hi
                   dsimp only
                   rw [hJ1 ‹_›]
                   exact els_of cBf_emb (n := 0) (hel _ rfl) _ hi)
        · have hd2 : decide (IntKind.i64.wrap ((i : Int) + 1) < ((EB.bs l n).length : Int)) = false := by rw [hw]; exact decide_eq_false (by omega)
          have hE := remS_end (l := l) (n := n) (i := i) (by omega)
          rw [hE, List.nil_append] at hdr
          ((refine AW.byF ‹_› ?_); (repeat' first | (with_reducible exact trivial) | (with_reducible rfl) | (refine And.intro ?_ ?_) | (refine Need.mk ?_) | exact True.intro | (first | (refine ⟨_, Told.refl _, ?_, ?_⟩) | (refine ⟨⟨_, _⟩, Told.refl _, ?_, ?_⟩) | (refine ⟨⟨_, _, _⟩, Told.refl _, ?_, ?_⟩) | (refine ⟨⟨_, _, _, _⟩, Told.refl _, ?_, ?_⟩) | (refine ⟨⟨_, _, _, _, _⟩, Told.refl _, ?_, ?_⟩) | (refine ⟨(), Told.refl _, ?_, ?_⟩)) | (with_reducible intro _) | (refine fun (_ : Bool) => ?_)))
          all_goals first | (exact absurd ‹decide (IntKind.i64.wrap ((i : Int) + 1) < ((EB.bs l n).length : Int)) = true› (by rw [hd2]; decide)) | skip
          any_goals (refine Exists.intro (m, j) (And.intro ?_ (And.intro ?_ ?_)); all_goals (repeat' first | (with_reducible exact trivial) | (with_reducible rfl) | (refine And.intro ?_ ?_) | (refine Need.mk ?_) | exact True.intro | (first | (refine ⟨_, Told.refl _, ?_, ?_⟩) | (refine ⟨⟨_, _⟩, Told.refl _, ?_, ?_⟩) | (refine ⟨⟨_, _, _⟩, Told.refl _, ?_, ?_⟩) | (refine ⟨⟨_, _, _, _⟩, Told.refl _, ?_, ?_⟩) | (refine ⟨⟨_, _, _, _, _⟩, Told.refl _, ?_, ?_⟩) | (refine ⟨(), Told.refl _, ?_, ?_⟩)) | (with_reducible intro _) | (refine fun (_ : Bool) => ?_)))
          all_goals first
            | omega
            | (dsimp only; omega)
            | (dsimp only; exact hdr)
            | (rw [iw (by omega) (by omega)]; dsimp only; omega)
end Go.Abs.Dest
