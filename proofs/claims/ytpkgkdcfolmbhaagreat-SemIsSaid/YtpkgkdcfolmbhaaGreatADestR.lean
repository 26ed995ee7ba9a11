/- The document's answer for layer 8: its small functions. -/
import Derived.Test.YtpkgkdcfolmbhaaGreatADestF
set_option linter.all false
set_option maxRecDepth 100000
namespace Go.Abs.Dest
open Go.RowKit Go.Proofs Go.Abs.Tab
set_option maxHeartbeats 4000000 in
theorem rfurther : SpOK Tryz.prog 132 SFur := fun ⟨l, d⟩ ⟨h1, h2, h3, h4⟩ => by
  have hC := base
  have e1 : IntKind.i64.wrap (((0 + l.length : Nat) : Int) - 1) = ((l.length - 1 : Nat) : Int) := by rw [iw (by omega) (by omega)]; omega
  ((refine Fn.ofF hC Tryz.func132 Tryz.ntmps132 rfl rfl rfl ?_); (repeat' first | (with_reducible exact trivial) | (with_reducible rfl) | (refine And.intro ?_ ?_) | (refine Need.mk ?_) | exact True.intro | (first | (refine ⟨_, Told.refl _, ?_, ?_⟩) | (refine ⟨⟨_, _⟩, Told.refl _, ?_, ?_⟩) | (refine ⟨⟨_, _, _⟩, Told.refl _, ?_, ?_⟩) | (refine ⟨⟨_, _, _, _⟩, Told.refl _, ?_, ?_⟩) | (refine ⟨⟨_, _, _, _, _⟩, Told.refl _, ?_, ?_⟩) | (refine ⟨(), Told.refl _, ?_, ?_⟩)) | (with_reducible intro _) | (refine fun (_ : Bool) => ?_)))
  all_goals try simp only [e1]
  all_goals first | omega | (dsimp only; omega) | skip
  · rw [fur_len]
    omega
  · rename_i i hi
    refine els_of ci_emb (n := 0) (fun i hi => ?_) i hi
    show putEl (l.length - 1) (ci (IntKind.i64.wrap (lastI l + d))) (els ci l) i = _
    rw [iw h3 h4]
    exact put_set (by omega) i hi
theorem upto {p : Nat → Prop} {k : Nat} (hok : ∀ j, j < k → p j) (h : p k) : ∀ j, j < k + 1 → p j := fun j hj => by
  by_cases e : j = k
  · exact e ▸ h
  · exact hok j (by omega)
set_option maxHeartbeats 4000000 in
theorem rsane : SpOK Tryz.prog 99 SBSane := fun (b : Bf) _ => by
  have hC : COK Tryz.prog (cfg [(130, SSane)]) := Ty.ty.cfg ⟨refSane, trivial⟩
  ((refine Fn.ofF hC Tryz.func99 Tryz.ntmps99 rfl rfl rfl ?_); (repeat' first | (with_reducible exact trivial) | (with_reducible rfl) | (refine And.intro ?_ ?_) | (refine Need.mk ?_) | exact True.intro | (first | (refine ⟨_, Told.refl _, ?_, ?_⟩) | (refine ⟨⟨_, _⟩, Told.refl _, ?_, ?_⟩) | (refine ⟨⟨_, _, _⟩, Told.refl _, ?_, ?_⟩) | (refine ⟨⟨_, _, _, _⟩, Told.refl _, ?_, ?_⟩) | (refine ⟨⟨_, _, _, _, _⟩, Told.refl _, ?_, ?_⟩) | (refine ⟨(), Told.refl _, ?_, ?_⟩)) | (with_reducible intro _) | (refine fun (_ : Bool) => ?_)))
  case refine_2.refine_2.refine_2.refine_2.refine_2.refine_2.refine_2 =>
    rename_i q1 q2 q3 q4 q5
    simp only [Bool.not_eq_false', decide_eq_false_iff_not] at q1 q2 q3 q4 q5
    have r1 := (saneC_iff _ _).1 q1
    have r2 := (saneC_iff _ _).1 q2
    refine AW.loop (I := fun k : Nat => ⟨75, [(1, .ptr 0 0), (3, .int .i64 k)], [.box 73 (cBf b)]⟩) (fun k => k ≤ b.to.length ∧ ∀ j, j < k → 0 ≤ b.to.getD j default ∧ b.to.getD j default ≤ 65535) (fun k => b.to.length - k) 0 ⟨Nat.zero_le _, fun j hj => by omega⟩ ?_ ?_
    · (repeat' first | (with_reducible exact trivial) | (with_reducible rfl) | (refine And.intro ?_ ?_) | (refine Need.mk ?_) | exact True.intro | (first | (refine ⟨_, Told.refl _, ?_, ?_⟩) | (refine ⟨⟨_, _⟩, Told.refl _, ?_, ?_⟩) | (refine ⟨⟨_, _, _⟩, Told.refl _, ?_, ?_⟩) | (refine ⟨⟨_, _, _, _⟩, Told.refl _, ?_, ?_⟩) | (refine ⟨⟨_, _, _, _, _⟩, Told.refl _, ?_, ?_⟩) | (refine ⟨(), Told.refl _, ?_, ?_⟩)) | (with_reducible intro _) | (refine fun (_ : Bool) => ?_))
      all_goals rfl
    · intro k ⟨hk, hok⟩
      have hno : ∀ {j : Nat}, j < b.to.length → ¬ (0 ≤ b.to.getD j default ∧ b.to.getD j default ≤ 65535) → false = sane b := fun {j} hj h => by
        refine sane_no fun hs => h ?_
        have := (rngB hs).2.2.2.1 (b.to.getD j default) (by rw [getD_at hj]; exact List.getElem_mem _)
        exact this
      rcases Nat.lt_or_ge k b.to.length with hlt | hge
      · have hd : decide ((k : Int) < (b.to.length : Int)) = true := decide_eq_true (by omega)
        have hw := iw (n := (k : Int) + 1) (by omega) (by omega)
        ((refine AW.byF ‹_› ?_); (repeat' first | (with_reducible exact trivial) | (with_reducible rfl) | (refine And.intro ?_ ?_) | (refine Need.mk ?_) | exact True.intro | (first | (refine ⟨_, Told.refl _, ?_, ?_⟩) | (refine ⟨⟨_, _⟩, Told.refl _, ?_, ?_⟩) | (refine ⟨⟨_, _, _⟩, Told.refl _, ?_, ?_⟩) | (refine ⟨⟨_, _, _, _⟩, Told.refl _, ?_, ?_⟩) | (refine ⟨⟨_, _, _, _, _⟩, Told.refl _, ?_, ?_⟩) | (refine ⟨(), Told.refl _, ?_, ?_⟩)) | (with_reducible intro _) | (refine fun (_ : Bool) => ?_)))
        all_goals first | (exact absurd ‹decide ((k : Int) < (b.to.length : Int)) = false› (by rw [hd]; decide)) | skip
        any_goals (refine Exists.intro (k + 1) (And.intro ?_ (And.intro ?_ ?_)); all_goals (repeat' first | (with_reducible exact trivial) | (with_reducible rfl) | (refine And.intro ?_ ?_) | (refine Need.mk ?_) | exact True.intro | (first | (refine ⟨_, Told.refl _, ?_, ?_⟩) | (refine ⟨⟨_, _⟩, Told.refl _, ?_, ?_⟩) | (refine ⟨⟨_, _, _⟩, Told.refl _, ?_, ?_⟩) | (refine ⟨⟨_, _, _, _⟩, Told.refl _, ?_, ?_⟩) | (refine ⟨⟨_, _, _, _, _⟩, Told.refl _, ?_, ?_⟩) | (refine ⟨(), Told.refl _, ?_, ?_⟩)) | (with_reducible intro _) | (refine fun (_ : Bool) => ?_)))
        all_goals simp only [decide_eq_true_eq, decide_eq_false_iff_not, Int.toNat_natCast] at *
        all_goals first
          | omega
          | (rw [hw]; omega)
          | exact hno hlt (by omega)
          | exact (upto (p := fun j => 0 ≤ b.to.getD j default ∧ b.to.getD j default ≤ 65535) hok ⟨by omega, by omega⟩ _ ‹_›).1
          | exact (upto (p := fun j => 0 ≤ b.to.getD j default ∧ b.to.getD j default ≤ 65535) hok ⟨by omega, by omega⟩ _ ‹_›).2
      · obtain rfl : k = b.to.length := by omega
        have hd : decide ((b.to.length : Int) < (b.to.length : Int)) = false := decide_eq_false (by omega)
        have e1 : IntKind.i64.wrap ((b.to.length : Int) - 1) = ((b.to.length - 1 : Nat) : Int) := by rw [iw (by omega) (by omega)]; omega
        ((refine AW.byF ‹_› ?_); (repeat' first | (with_reducible exact trivial) | (with_reducible rfl) | (refine And.intro ?_ ?_) | (refine Need.mk ?_) | exact True.intro | (first | (refine ⟨_, Told.refl _, ?_, ?_⟩) | (refine ⟨⟨_, _⟩, Told.refl _, ?_, ?_⟩) | (refine ⟨⟨_, _, _⟩, Told.refl _, ?_, ?_⟩) | (refine ⟨⟨_, _, _, _⟩, Told.refl _, ?_, ?_⟩) | (refine ⟨⟨_, _, _, _, _⟩, Told.refl _, ?_, ?_⟩) | (refine ⟨(), Told.refl _, ?_, ?_⟩)) | (with_reducible intro _) | (refine fun (_ : Bool) => ?_)))
        all_goals first | (exact absurd ‹decide ((b.to.length : Int) < (b.to.length : Int)) = true› (by rw [hd]; decide)) | skip
        all_goals simp only [e1]
        all_goals first | omega | skip
        have hL := hok (b.to.length - 1) (by omega)
        show decide (IntKind.i64.wrap (IntKind.i64.wrap (lastI b.to + b.hi) - b.lo) ≤ 65535) = sane b
        have hL : 0 ≤ lastI b.to ∧ lastI b.to ≤ 65535 := hL
        rw [iw (n := lastI b.to + b.hi) (by omega) (by omega), iw (by omega) (by omega), Bool.eq_iff_iff, decide_eq_true_eq, sane_iff]
        constructor
        · intro h
          refine ⟨q1, q2, by omega, by omega, by omega, fun x hx => ?_, by omega⟩
          obtain ⟨j, hj, rfl⟩ := List.getElem_of_mem hx
          have := hok j hj
          rwa [getD_at hj] at this
        · rintro ⟨_, _, _, _, _, _, h⟩
          omega
  all_goals
    refine sane_no fun h => ?_
    obtain ⟨k1, k2, k3, k4, k5, k6, k7, k8⟩ := (sane_iff2 b).1 h
    ((try dsimp only at *); (try simp only [decide_eq_true_eq, decide_eq_false_iff_not, beq_iff_eq, bne_iff_ne, beq_eq_false_iff_ne, bne_eq_false_iff_eq, ne_eq, Decidable.not_not, ge_iff_le, gt_iff_lt, Bool.not_eq_true', Bool.not_eq_false', Int.not_lt, Int.not_le, Nat.not_lt, Nat.not_le] at *))
    first | omega | (simp_all; done)
set_option maxHeartbeats 4000000 in
theorem rjoins : SpOK Tryz.prog 100 SJoins := fun ⟨a, b⟩ ⟨ha, hb⟩ => by
  have hC : COK Tryz.prog (cfg [(132, SFur), (31, SSame)]) := Ty.ty.cfg ⟨rfurther, refSame, trivial⟩
  have ra := rngB ha
  have rb := rngB hb
  have hf := fits_sane ha (d := b.lo - a.lo) (by omega) (by omega)
  have e1 := iw (n := a.hi + 1) (by omega) (by omega)
  have e2 := iw (n := b.lo - a.lo) (by omega) (by omega)
  have hl := fur_len a.to (b.lo - a.lo)
  ((refine Fn.ofF hC Tryz.func100 Tryz.ntmps100 rfl rfl rfl ?_); (repeat' first | (with_reducible exact trivial) | (with_reducible rfl) | (refine And.intro ?_ ?_) | (refine Need.mk ?_) | exact True.intro | (first | (refine ⟨_, Told.refl _, ?_, ?_⟩) | (refine ⟨⟨_, _⟩, Told.refl _, ?_, ?_⟩) | (refine ⟨⟨_, _, _⟩, Told.refl _, ?_, ?_⟩) | (refine ⟨⟨_, _, _, _⟩, Told.refl _, ?_, ?_⟩) | (refine ⟨⟨_, _, _, _, _⟩, Told.refl _, ?_, ?_⟩) | (refine ⟨(), Told.refl _, ?_, ?_⟩)) | (with_reducible intro _) | (refine fun (_ : Bool) => ?_)))
  all_goals try simp only [e1, e2] at *
  all_goals ((try dsimp only at *); (try simp only [decide_eq_true_eq, decide_eq_false_iff_not, beq_iff_eq, bne_iff_ne, beq_eq_false_iff_ne, bne_eq_false_iff_eq, ne_eq, Decidable.not_not, ge_iff_le, gt_iff_lt, Bool.not_eq_true', Bool.not_eq_false', Int.not_lt, Int.not_le, Nat.not_lt, Nat.not_le] at *))
  · exact hf.1
  · exact hf.2.1
  · exact hf.2.2.1
  · exact hf.2.2.2
  · show b.to.length < _
    omega
  · rename_i q1 q2
    unfold joins
    rw [decide_eq_true ⟨q1, q2.symm⟩, Bool.true_and, Bool.eq_iff_iff, beq_iff_eq, beq_iff_eq]
    exact eq_comm
  · rename_i q1 q2
    unfold joins
    rw [decide_eq_false (fun q => q2 q.2.symm), Bool.false_and]
  · rename_i q1
    unfold joins
    rw [decide_eq_false (fun q => q1 q.1), Bool.false_and]
set_option maxHeartbeats 4000000 in
theorem rto : SpOK Tryz.prog 153 STo := fun ⟨b, n, v⟩ _ => by
  have hC : COK Tryz.prog (cfg [(99, SBSane), (130, SSane), (132, SFur)]) := Ty.ty.cfg ⟨rsane, refSane, rfurther, trivial⟩
  have no : ¬ (sane b = true ∧ saneC n v = true ∧ n = b.n ∧ b.lo ≤ v ∧ v ≤ b.hi) → ((EB.to b n v).getD []).length = 0 ∧ false = (EB.to b n v).isSome := fun h => by
    rw [to_no h]
    exact ⟨rfl, rfl⟩
  ((refine Fn.ofF hC Tryz.func153 Tryz.ntmps153 rfl rfl rfl ?_); (repeat' first | (with_reducible exact trivial) | (with_reducible rfl) | (refine And.intro ?_ ?_) | (refine Need.mk ?_) | exact True.intro | (first | (refine ⟨_, Told.refl _, ?_, ?_⟩) | (refine ⟨⟨_, _⟩, Told.refl _, ?_, ?_⟩) | (refine ⟨⟨_, _, _⟩, Told.refl _, ?_, ?_⟩) | (refine ⟨⟨_, _, _, _⟩, Told.refl _, ?_, ?_⟩) | (refine ⟨⟨_, _, _, _, _⟩, Told.refl _, ?_, ?_⟩) | (refine ⟨(), Told.refl _, ?_, ?_⟩)) | (with_reducible intro _) | (refine fun (_ : Bool) => ?_)))
  all_goals ((try dsimp only at *); (try simp only [decide_eq_true_eq, decide_eq_false_iff_not, beq_iff_eq, bne_iff_ne, beq_eq_false_iff_ne, bne_eq_false_iff_eq, ne_eq, Decidable.not_not, ge_iff_le, gt_iff_lt, Bool.not_eq_true', Bool.not_eq_false', Int.not_lt, Int.not_le, Nat.not_lt, Nat.not_le] at *))
  case refine_2.refine_2.refine_2.refine_2.refine_2.refine_2.refine_2.refine_1.refine_1 => exact (rngB ‹sane b = true›).2.2.1.1
  case refine_2.refine_2.refine_2.refine_2.refine_2.refine_2.refine_2.refine_1.refine_2.refine_1 => have := (rngB ‹sane b = true›).2.2.1; omega
  case refine_2.refine_2.refine_2.refine_2.refine_2.refine_2.refine_2.refine_1.refine_2.refine_2.refine_1 => have := rngB ‹sane b = true›; rw [iw (by omega) (by omega)]; omega
  case refine_2.refine_2.refine_2.refine_2.refine_2.refine_2.refine_2.refine_1.refine_2.refine_2.refine_2 => have := rngB ‹sane b = true›; rw [iw (by omega) (by omega)]; omega
  case refine_2.refine_2.refine_2.refine_2.refine_2.refine_2.refine_2.refine_2.refine_1.refine_1 => 
    have q1 := ‹sane b = true›
    have q3 := ‹n = b.n›
    have q4 := ‹b.lo ≤ v›
    have q5 := ‹v ≤ b.hi›
    subst q3
    rw [to_yes q1 q4 q5, fur_len]
    exact (fur_len _ _).symm
  case refine_2.refine_2.refine_2.refine_2.refine_2.refine_2.refine_2.refine_2.refine_1.refine_2.refine_1 =>
    have q1 := ‹sane b = true›
    have q3 := ‹n = b.n›
    have q4 := ‹b.lo ≤ v›
    have q5 := ‹v ≤ b.hi›
    have := rngB q1
    subst q3
    rw [to_yes q1 q4 q5, iw (by omega) (by omega)]
    rfl
  case refine_2.refine_2.refine_2.refine_2.refine_2.refine_2.refine_2.refine_2.refine_2.refine_1 =>
    have q1 := ‹sane b = true›
    have q3 := ‹n = b.n›
    have q4 := ‹b.lo ≤ v›
    have q5 := ‹v ≤ b.hi›
    subst q3
    rw [to_yes q1 q4 q5]
    rfl
  all_goals
    first | refine (no fun q => ?_).1 | refine (no fun q => ?_).2
    obtain ⟨h1, h2, h3, h4, h5⟩ := q
    first | omega | (simp_all; done)
instance : DecidableEq Bf := fun a b => decidable_of_iff (a.n = b.n ∧ a.lo = b.lo ∧ a.hi = b.hi ∧ a.to = b.to) ⟨fun ⟨h1, h2, h3, h4⟩ => Bf.ext' h1 h2 h3 h4, fun h => by rw [h]; exact ⟨rfl, rfl, rfl, rfl⟩⟩
def SSameB : Sp := ⟨List Bf × List Bf, fun (a, b) => a.length < 9223372036854775807 ∧ ∀ x ∈ a, x.to.length < 9223372036854775807, fun (a, b) => [aB a, aB b], fun (a, b) => .st (.sb (decide (a = b)))⟩
theorem sameB_step {a b : List Bf} {k : Nat} (hk : k < a.length) (hl : a.length = b.length) (he : a.take k = b.take k) (h : a.getD k default = b.getD k default) : a.take (k + 1) = b.take (k + 1) := by
  rw [getB hk, getB (by omega)] at h
  rw [List.take_succ_eq_append_getElem hk, List.take_succ_eq_append_getElem (by omega), he, h]
theorem sameB_no {a b : List Bf} {k : Nat} (h : a.getD k default ≠ b.getD k default) : false = decide (a = b) := by
  symm
  rw [decide_eq_false_iff_not]
  rintro rfl
  exact h rfl
set_option maxHeartbeats 4000000 in
theorem rsame : SpOK Tryz.prog 37 SSameB := fun ⟨a, b⟩ ⟨ha, hx⟩ => by
  have hC : COK Tryz.prog (cfg [(31, SSame)]) := Ty.ty.cfg ⟨refSame, trivial⟩
  ((refine Fn.ofF hC Tryz.func37 Tryz.ntmps37 rfl rfl rfl ?_); (repeat' first | (with_reducible exact trivial) | (with_reducible rfl) | (refine And.intro ?_ ?_) | (refine Need.mk ?_) | exact True.intro | (first | (refine ⟨_, Told.refl _, ?_, ?_⟩) | (refine ⟨⟨_, _⟩, Told.refl _, ?_, ?_⟩) | (refine ⟨⟨_, _, _⟩, Told.refl _, ?_, ?_⟩) | (refine ⟨⟨_, _, _, _⟩, Told.refl _, ?_, ?_⟩) | (refine ⟨⟨_, _, _, _, _⟩, Told.refl _, ?_, ?_⟩) | (refine ⟨(), Told.refl _, ?_, ?_⟩)) | (with_reducible intro _) | (refine fun (_ : Bool) => ?_)))
  · rename_i h
    symm
    rw [decide_eq_false_iff_not]
    rintro rfl
    simp [bne] at h
  · rename_i h
    have hlen : a.length = b.length := by
      simp only [bne_eq_false_iff_eq] at h
      omega
    refine AW.loop (I := fun k : Nat => ⟨68, [(0, aB a), (1, aB b), (5, .int .i64 k)], []⟩) (fun k => k ≤ a.length ∧ a.take k = b.take k) (fun k => a.length - k) 0 ⟨Nat.zero_le _, rfl⟩ ?_ ?_
    · (repeat' first | (with_reducible exact trivial) | (with_reducible rfl) | (refine And.intro ?_ ?_) | (refine Need.mk ?_) | exact True.intro | (first | (refine ⟨_, Told.refl _, ?_, ?_⟩) | (refine ⟨⟨_, _⟩, Told.refl _, ?_, ?_⟩) | (refine ⟨⟨_, _, _⟩, Told.refl _, ?_, ?_⟩) | (refine ⟨⟨_, _, _, _⟩, Told.refl _, ?_, ?_⟩) | (refine ⟨⟨_, _, _, _, _⟩, Told.refl _, ?_, ?_⟩) | (refine ⟨(), Told.refl _, ?_, ?_⟩)) | (with_reducible intro _) | (refine fun (_ : Bool) => ?_))
      all_goals rfl
    · intro k ⟨hk, he⟩
      rcases Nat.lt_or_ge k a.length with hlt | hge
      · have hd : decide ((k : Int) < (a.length : Int)) = true := decide_eq_true (by omega)
        have hw := iw (n := (k : Int) + 1) (by omega) (by omega)
        have hto := hx (a.getD k default) (by rw [getB hlt]; exact List.getElem_mem _)
        ((refine AW.byF ‹_› ?_); (repeat' first | (with_reducible exact trivial) | (with_reducible rfl) | (refine And.intro ?_ ?_) | (refine Need.mk ?_) | exact True.intro | (first | (refine ⟨_, Told.refl _, ?_, ?_⟩) | (refine ⟨⟨_, _⟩, Told.refl _, ?_, ?_⟩) | (refine ⟨⟨_, _, _⟩, Told.refl _, ?_, ?_⟩) | (refine ⟨⟨_, _, _, _⟩, Told.refl _, ?_, ?_⟩) | (refine ⟨⟨_, _, _, _, _⟩, Told.refl _, ?_, ?_⟩) | (refine ⟨(), Told.refl _, ?_, ?_⟩)) | (with_reducible intro _) | (refine fun (_ : Bool) => ?_)))
        all_goals first | (exact absurd ‹decide ((k : Int) < (a.length : Int)) = false› (by rw [hd]; decide)) | skip
        any_goals (refine Exists.intro (k + 1) (And.intro ?_ (And.intro ?_ ?_)); all_goals (repeat' first | (with_reducible exact trivial) | (with_reducible rfl) | (refine And.intro ?_ ?_) | (refine Need.mk ?_) | exact True.intro | (first | (refine ⟨_, Told.refl _, ?_, ?_⟩) | (refine ⟨⟨_, _⟩, Told.refl _, ?_, ?_⟩) | (refine ⟨⟨_, _, _⟩, Told.refl _, ?_, ?_⟩) | (refine ⟨⟨_, _, _, _⟩, Told.refl _, ?_, ?_⟩) | (refine ⟨⟨_, _, _, _, _⟩, Told.refl _, ?_, ?_⟩) | (refine ⟨(), Told.refl _, ?_, ?_⟩)) | (with_reducible intro _) | (refine fun (_ : Bool) => ?_)))
        all_goals simp only [decide_eq_true_eq, decide_eq_false_iff_not, Int.toNat_natCast, bne_iff_ne, ne_eq, bne_eq_false_iff_eq, Bool.not_eq_true', Bool.not_eq_false', beq_iff_eq, beq_eq_false_iff_ne] at *
        all_goals first
          | omega
          | (rw [hw]; omega)
          | exact hto
          | (refine sameB_no (k := k) fun e => ?_; simp_all; done)
          | exact sameB_step hlt hlen he (Bf.ext' ‹_› ‹_› ‹_› ‹_›)
      · obtain rfl : k = a.length := by omega
        have hd : decide ((a.length : Int) < (a.length : Int)) = false := decide_eq_false (by omega)
        ((refine AW.byF ‹_› ?_); (repeat' first | (with_reducible exact trivial) | (with_reducible rfl) | (refine And.intro ?_ ?_) | (refine Need.mk ?_) | exact True.intro | (first | (refine ⟨_, Told.refl _, ?_, ?_⟩) | (refine ⟨⟨_, _⟩, Told.refl _, ?_, ?_⟩) | (refine ⟨⟨_, _, _⟩, Told.refl _, ?_, ?_⟩) | (refine ⟨⟨_, _, _, _⟩, Told.refl _, ?_, ?_⟩) | (refine ⟨⟨_, _, _, _, _⟩, Told.refl _, ?_, ?_⟩) | (refine ⟨(), Told.refl _, ?_, ?_⟩)) | (with_reducible intro _) | (refine fun (_ : Bool) => ?_)))
        all_goals first | (exact absurd ‹decide ((a.length : Int) < (a.length : Int)) = true› (by rw [hd]; decide)) | skip
        symm
        rw [decide_eq_true_eq]
        rw [List.take_length, hlen, List.take_length] at he
        exact he
end Go.Abs.Dest
