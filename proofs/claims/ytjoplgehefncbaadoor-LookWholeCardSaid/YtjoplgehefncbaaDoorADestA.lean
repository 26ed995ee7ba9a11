/- What dest's small functions do. -/
import Derived.Test.YtjoplgehefncbaaDoorADest
import Derived.Test.YtjoplgehefncbaaDoorAbsCodes
set_option linter.all false
set_option maxRecDepth 100000
namespace Go.Abs.Dest
open Go.RowKit Go.Proofs Go.Abs.Tab
def cBf (b : Bf) : List AV := [.int .i64 b.n, .int .i64 b.lo, .int .i64 b.hi, aI b.to]
theorem cBf_emb : Emb cBf 4 := fun x => ⟨rfl, ⟨⟨rfl⟩, ⟨rfl⟩, ⟨rfl⟩, ⟨⟨rfl⟩, fun i _ => (ci_emb _).2.1⟩, trivial⟩, rfl⟩
abbrev aB (l : List Bf) : AV := aL cBf 4 l
def SLast1 : Sp := ⟨List Int, fun l => 1 ≤ l.length ∧ l.length < 9223372036854775807, fun l => [aI l], fun l => .st (.int .i64 (lastI l))⟩
theorem last1 : SpOK Tryd.prog 69 SLast1 := fun (l : List Int) ⟨h1, h2⟩ => by
  have hC := base
  ((refine Fn.ofF hC Tryd.func69 Tryd.ntmps69 rfl rfl rfl ?_); (repeat' first | (with_reducible exact trivial) | (with_reducible rfl) | (refine And.intro ?_ ?_) | (refine Need.mk ?_) | exact True.intro | (first | (refine ⟨_, Told.refl _, ?_, ?_⟩) | (refine ⟨⟨_, _⟩, Told.refl _, ?_, ?_⟩) | (refine ⟨⟨_, _, _⟩, Told.refl _, ?_, ?_⟩) | (refine ⟨⟨_, _, _, _⟩, Told.refl _, ?_, ?_⟩) | (refine ⟨⟨_, _, _, _, _⟩, Told.refl _, ?_, ?_⟩) | (refine ⟨(), Told.refl _, ?_, ?_⟩)) | (with_reducible intro _) | (refine fun (_ : Bool) => ?_)))
  all_goals try (intros; first | rfl | (((try dsimp only at *); (try simp only [decide_eq_true_eq, decide_eq_false_iff_not, beq_iff_eq, bne_iff_ne, beq_eq_false_iff_ne, bne_eq_false_iff_eq, ne_eq, Decidable.not_not, ge_iff_le, gt_iff_lt, Bool.not_eq_true', Bool.not_eq_false', Int.not_lt, Int.not_le, Nat.not_lt, Nat.not_le] at *)) <;> (try simp only [IntKind.wrap_i64] at *) <;> omega))
  unfold lastI
  rw [iw (by omega) (by omega)]
  congr 1
  omega
def fits (l : List Int) (d : Int) : Prop := 1 ≤ l.length ∧ l.length * 8 ≤ 140737488355328 ∧ -9223372036854775808 ≤ lastI l + d ∧ lastI l + d ≤ 9223372036854775807
def SFur : Sp := ⟨List Int × Int, fun (a, b) => fits a b, fun (a, b) => [aI a, .int .i64 b], fun (a, b) => .row 3 1 (fur a b).length (els ci (fur a b))⟩
theorem further : SpOK Tryd.prog 60 SFur := fun ⟨l, d⟩ ⟨h1, h2, h3, h4⟩ => by
  have hC : COK Tryd.prog (cfg [(72, SClone)]) := Ty.ty.cfg ⟨slClone, trivial⟩
  ((refine Fn.ofF hC Tryd.func60 Tryd.ntmps60 rfl rfl rfl ?_); (repeat' first | (with_reducible exact trivial) | (with_reducible rfl) | (refine And.intro ?_ ?_) | (refine Need.mk ?_) | exact True.intro | (first | (refine ⟨_, Told.refl _, ?_, ?_⟩) | (refine ⟨⟨_, _⟩, Told.refl _, ?_, ?_⟩) | (refine ⟨⟨_, _, _⟩, Told.refl _, ?_, ?_⟩) | (refine ⟨⟨_, _, _, _⟩, Told.refl _, ?_, ?_⟩) | (refine ⟨⟨_, _, _, _, _⟩, Told.refl _, ?_, ?_⟩) | (refine ⟨(), Told.refl _, ?_, ?_⟩)) | (with_reducible intro _) | (refine fun (_ : Bool) => ?_)))
  · exact h2
  · (intros; first | rfl | (((try dsimp only at *); (try simp only [decide_eq_true_eq, decide_eq_false_iff_not, beq_iff_eq, bne_iff_ne, beq_eq_false_iff_ne, bne_eq_false_iff_eq, ne_eq, Decidable.not_not, ge_iff_le, gt_iff_lt, Bool.not_eq_true', Bool.not_eq_false', Int.not_lt, Int.not_le, Nat.not_lt, Nat.not_le] at *)) <;> (try simp only [IntKind.wrap_i64] at *) <;> omega))
  · (intros; first | rfl | (((try dsimp only at *); (try simp only [decide_eq_true_eq, decide_eq_false_iff_not, beq_iff_eq, bne_iff_ne, beq_eq_false_iff_ne, bne_eq_false_iff_eq, ne_eq, Decidable.not_not, ge_iff_le, gt_iff_lt, Bool.not_eq_true', Bool.not_eq_false', Int.not_lt, Int.not_le, Nat.not_lt, Nat.not_le] at *)) <;> (try simp only [IntKind.wrap_i64] at *) <;> omega))
  · (intros; first | rfl | (((try dsimp only at *); (try simp only [decide_eq_true_eq, decide_eq_false_iff_not, beq_iff_eq, bne_iff_ne, beq_eq_false_iff_ne, bne_eq_false_iff_eq, ne_eq, Decidable.not_not, ge_iff_le, gt_iff_lt, Bool.not_eq_true', Bool.not_eq_false', Int.not_lt, Int.not_le, Nat.not_lt, Nat.not_le] at *)) <;> (try simp only [IntKind.wrap_i64] at *) <;> omega))
  · (intros; first | rfl | (((try dsimp only at *); (try simp only [decide_eq_true_eq, decide_eq_false_iff_not, beq_iff_eq, bne_iff_ne, beq_eq_false_iff_ne, bne_eq_false_iff_eq, ne_eq, Decidable.not_not, ge_iff_le, gt_iff_lt, Bool.not_eq_true', Bool.not_eq_false', Int.not_lt, Int.not_le, Nat.not_lt, Nat.not_le] at *)) <;> (try simp only [IntKind.wrap_i64] at *) <;> omega))
  · exact (fur_len l d).symm
  · rename_i i hi
    have hi : i < (fur l d).length := hi
    refine els_of ci_emb (n := 0) (fun i hi => ?_) i hi
    show putEl (IntKind.i64.wrap ((l.length : Int) - 1)).toNat (ci (IntKind.i64.wrap (l.getD (IntKind.i64.wrap ((l.length : Int) - 1)).toNat default + d))) (els ci l) i = _
    rw [iw (n := (l.length : Int) - 1) (by omega) (by omega), show ((l.length : Int) - 1).toNat = l.length - 1 by omega]
    show putEl (l.length - 1) (ci (IntKind.i64.wrap (lastI l + d))) (els ci l) i = _
    rw [iw h3 h4]
    exact put_set (by omega) i hi
theorem fits_sane {b : Bf} (h : sane b = true) {d : Int} (h1 : -5000000000 ≤ d) (h2 : d ≤ 5000000000) : fits b.to d := by
  obtain ⟨_, _, h3, h4, h5⟩ := rngB h
  unfold fits
  omega
theorem sane_no {b : Bf} (h : ¬ sane b = true) : false = sane b := by
  cases hs : sane b with
  | false => rfl
  | true => exact absurd hs h
theorem sane_iff2 (b : Bf) : sane b = true ↔ (saneC b.n b.lo = true ∧ saneC b.n b.hi = true ∧ b.lo ≤ b.hi ∧ 1 ≤ b.to.length ∧ b.to.length ≤ 64 ∧ 0 ≤ minL b.to ∧ maxL b.to ≤ 65535 ∧ lastI b.to ≤ 65535 - (b.hi - b.lo)) := by
  rw [sane_iff]
  constructor
  · rintro ⟨k1, k2, k3, k4, k5, k6, k7⟩
    have hne : b.to ≠ [] := fun e => by rw [e] at k4; simp at k4
    exact ⟨k1, k2, k3, k4, k5, (minL_ge hne).2 fun x hx => (k6 x hx).1, (maxL_le hne).2 fun x hx => (k6 x hx).2, k7⟩
  · rintro ⟨k1, k2, k3, k4, k5, k6, k6', k7⟩
    have hne : b.to ≠ [] := fun e => by rw [e] at k4; simp at k4
    exact ⟨k1, k2, k3, k4, k5, fun x hx => ⟨(minL_ge hne).1 k6 x hx, (maxL_le hne).1 k6' x hx⟩, k7⟩
def SBSane : Sp := ⟨Bf, fun _ => True, fun b => [.agg (cBf b)], fun b => .st (.sb (sane b))⟩
theorem saneB : SpOK Tryd.prog 55 SBSane := fun (b : Bf) _ => by
  have hC : COK Tryd.prog (cfg [(59, SSane), (67, SMin), (68, SMax), (69, SLast1)]) := Ty.ty.cfg ⟨hexSane, slMin, slMax, last1, trivial⟩
  ((refine Fn.ofF hC Tryd.func55 Tryd.ntmps55 rfl rfl rfl ?_); (repeat' first | (with_reducible exact trivial) | (with_reducible rfl) | (refine And.intro ?_ ?_) | (refine Need.mk ?_) | exact True.intro | (first | (refine ⟨_, Told.refl _, ?_, ?_⟩) | (refine ⟨⟨_, _⟩, Told.refl _, ?_, ?_⟩) | (refine ⟨⟨_, _, _⟩, Told.refl _, ?_, ?_⟩) | (refine ⟨⟨_, _, _, _⟩, Told.refl _, ?_, ?_⟩) | (refine ⟨⟨_, _, _, _, _⟩, Told.refl _, ?_, ?_⟩) | (refine ⟨(), Told.refl _, ?_, ?_⟩)) | (with_reducible intro _) | (refine fun (_ : Bool) => ?_)))
  all_goals ((try dsimp only at *); (try simp only [decide_eq_true_eq, decide_eq_false_iff_not, beq_iff_eq, bne_iff_ne, beq_eq_false_iff_ne, bne_eq_false_iff_eq, ne_eq, Decidable.not_not, ge_iff_le, gt_iff_lt, Bool.not_eq_true', Bool.not_eq_false', Int.not_lt, Int.not_le, Nat.not_lt, Nat.not_le] at *))
  all_goals first | omega | skip
  case refine_2.refine_2.refine_2.refine_2.refine_2.refine_2.refine_2.refine_2.refine_2.refine_2.refine_2.refine_2 =>
    rename_i q1 q2 q3 q4 q5 q6 q7
    have r1 := (saneC_iff _ _).1 q1
    have r2 := (saneC_iff _ _).1 q2
    rw [IntKind.wrap_i64, IntKind.wrap_i64, Bool.eq_iff_iff, decide_eq_true_eq, sane_iff2]
    have e : 65535 - ((b.hi - b.lo + 9223372036854775808) % 18446744073709551616 - 9223372036854775808) = 65535 - (b.hi - b.lo) := by omega
    constructor
    · intro h
      exact ⟨q1, q2, q3, by omega, by omega, q6, q7, by omega⟩
    · rintro ⟨_, _, _, _, _, _, _, h⟩
      omega
  all_goals
    refine sane_no fun h => ?_
    obtain ⟨k1, k2, k3, k4, k5, k6, k7, k8⟩ := (sane_iff2 b).1 h
    first | omega | (simp_all; done)
def SOrd : Sp := ⟨Bf × Bf, fun _ => True, fun (a, b) => [.agg (cBf a), .agg (cBf b)], fun (a, b) => .st (.int .i64 (ordB a b))⟩
theorem order : SpOK Tryd.prog 40 SOrd := fun ⟨a, b⟩ _ => by
  have hC : COK Tryd.prog (cfg [(58, SCompare), (57, SOr)]) := Ty.ty.cfg ⟨cmpCompare, cmpOr, trivial⟩
  ((refine Fn.ofF hC Tryd.func40 Tryd.ntmps40 rfl rfl rfl ?_); (repeat' first | (with_reducible exact trivial) | (with_reducible rfl) | (refine And.intro ?_ ?_) | (refine Need.mk ?_) | exact True.intro | (first | (refine ⟨_, Told.refl _, ?_, ?_⟩) | (refine ⟨⟨_, _⟩, Told.refl _, ?_, ?_⟩) | (refine ⟨⟨_, _, _⟩, Told.refl _, ?_, ?_⟩) | (refine ⟨⟨_, _, _, _⟩, Told.refl _, ?_, ?_⟩) | (refine ⟨⟨_, _, _, _, _⟩, Told.refl _, ?_, ?_⟩) | (refine ⟨(), Told.refl _, ?_, ?_⟩)) | (with_reducible intro _) | (refine fun (_ : Bool) => ?_)))
  refine Exists.intro [cmpI a.n b.n, cmpI a.lo b.lo] (And.intro (Told.of (lit_sub ci_emb _)) (And.intro ?_ ?_))
  · exact Nat.lt_of_sub_eq_succ rfl
  · (repeat' first | (with_reducible exact trivial) | (with_reducible rfl) | (refine And.intro ?_ ?_) | (refine Need.mk ?_) | exact True.intro | (first | (refine ⟨_, Told.refl _, ?_, ?_⟩) | (refine ⟨⟨_, _⟩, Told.refl _, ?_, ?_⟩) | (refine ⟨⟨_, _, _⟩, Told.refl _, ?_, ?_⟩) | (refine ⟨⟨_, _, _, _⟩, Told.refl _, ?_, ?_⟩) | (refine ⟨⟨_, _, _, _, _⟩, Told.refl _, ?_, ?_⟩) | (refine ⟨(), Told.refl _, ?_, ?_⟩)) | (with_reducible intro _) | (refine fun (_ : Bool) => ?_))
    unfold ordB cmpI orI
    repeat' split
    all_goals first | rfl | omega | simp_all
def SJoins : Sp := ⟨Bf × Bf, fun (a, b) => sane a = true ∧ sane b = true, fun (a, b) => [.agg (cBf a), .agg (cBf b)], fun (a, b) => .st (.sb (joins a b))⟩
theorem joinsB : SpOK Tryd.prog 56 SJoins := fun ⟨a, b⟩ ⟨ha, hb⟩ => by
  have hC : COK Tryd.prog (cfg [(60, SFur), (70, SSame)]) := Ty.ty.cfg ⟨further, slEqual, trivial⟩
  have ra := rngB ha
  have rb := rngB hb
  have hf := fits_sane ha (d := b.lo - a.lo) (by omega) (by omega)
  have e1 := iw (n := a.hi + 1) (by omega) (by omega)
  have e2 := iw (n := b.lo - a.lo) (by omega) (by omega)
  have hl := fur_len a.to (b.lo - a.lo)
  ((refine Fn.ofF hC Tryd.func56 Tryd.ntmps56 rfl rfl rfl ?_); (repeat' first | (with_reducible exact trivial) | (with_reducible rfl) | (refine And.intro ?_ ?_) | (refine Need.mk ?_) | exact True.intro | (first | (refine ⟨_, Told.refl _, ?_, ?_⟩) | (refine ⟨⟨_, _⟩, Told.refl _, ?_, ?_⟩) | (refine ⟨⟨_, _, _⟩, Told.refl _, ?_, ?_⟩) | (refine ⟨⟨_, _, _, _⟩, Told.refl _, ?_, ?_⟩) | (refine ⟨⟨_, _, _, _, _⟩, Told.refl _, ?_, ?_⟩) | (refine ⟨(), Told.refl _, ?_, ?_⟩)) | (with_reducible intro _) | (refine fun (_ : Bool) => ?_)))
  all_goals simp only [e1, e2] at *
  all_goals ((try dsimp only at *); (try simp only [decide_eq_true_eq, decide_eq_false_iff_not, beq_iff_eq, bne_iff_ne, beq_eq_false_iff_ne, bne_eq_false_iff_eq, ne_eq, Decidable.not_not, ge_iff_le, gt_iff_lt, Bool.not_eq_true', Bool.not_eq_false', Int.not_lt, Int.not_le, Nat.not_lt, Nat.not_le] at *))
  · exact hf.1
  · exact hf.2.1
  · exact hf.2.2.1
  · exact hf.2.2.2
  · show (fur a.to (b.lo - a.lo)).length < _
    omega
  · rename_i q1 q2
    unfold joins
    rw [decide_eq_true ⟨q1, q2⟩, Bool.true_and]
  · rename_i q1 q2
    unfold joins
    rw [decide_eq_false (fun q => q2 q.2), Bool.false_and]
  · rename_i q1
    unfold joins
    rw [decide_eq_false (fun q => q1 q.1), Bool.false_and]
def SPart : Sp := ⟨Bf × Int × Int, fun (b, lo, hi) => sane b = true ∧ -4294967296 ≤ lo - b.lo ∧ lo - b.lo ≤ 4294967296, fun (b, lo, hi) => [.agg (cBf b), .int .i64 lo, .int .i64 hi], fun (b, lo, hi) => .st (.agg (cBf ⟨b.n, lo, hi, fur b.to (lo - b.lo)⟩))⟩
def SRoom : Sp := ⟨Int, fun n => 0 ≤ n ∧ n < 4294967296, fun n => [.int .i64 n], fun n => .st (.int .i64 (255 - n % 256))⟩
/-- A row that may be there. -/
def rO (o : Option (List Int)) : ARes := .st (.tup [aI (o.getD []), .sb o.isSome])
def STo : Sp := ⟨Bf × Int × Int, fun _ => True, fun (b, n, v) => [.agg (cBf b), aCode n v], fun (b, n, v) => rO (EB.to b n v)⟩
theorem to_no {b : Bf} {n v : Int} (h : ¬ (sane b = true ∧ saneC n v = true ∧ n = b.n ∧ b.lo ≤ v ∧ v ≤ b.hi)) : EB.to b n v = none := by
  unfold En.to
  refine if_neg fun q => h ⟨q.1, EB.has_sane q.1 q.2, q.2.1.symm, q.2.2.1, q.2.2.2⟩
theorem to_yes {b : Bf} {v : Int} (h : sane b = true) (h1 : b.lo ≤ v) (h2 : v ≤ b.hi) : EB.to b b.n v = some (fur b.to (v - b.lo)) := by
  unfold En.to
  exact if_pos ⟨h, rfl, h1, h2⟩
theorem toB : SpOK Tryd.prog 41 STo := fun ⟨b, n, v⟩ _ => by
  have hC : COK Tryd.prog (cfg [(55, SBSane), (59, SSane), (60, SFur)]) := Ty.ty.cfg ⟨saneB, hexSane, further, trivial⟩
  have no : ¬ (sane b = true ∧ saneC n v = true ∧ n = b.n ∧ b.lo ≤ v ∧ v ≤ b.hi) → ((EB.to b n v).getD []).length = 0 ∧ false = (EB.to b n v).isSome := fun h => by
    rw [to_no h]
    exact ⟨rfl, rfl⟩
  ((refine Fn.ofF hC Tryd.func41 Tryd.ntmps41 rfl rfl rfl ?_); (repeat' first | (with_reducible exact trivial) | (with_reducible rfl) | (refine And.intro ?_ ?_) | (refine Need.mk ?_) | exact True.intro | (first | (refine ⟨_, Told.refl _, ?_, ?_⟩) | (refine ⟨⟨_, _⟩, Told.refl _, ?_, ?_⟩) | (refine ⟨⟨_, _, _⟩, Told.refl _, ?_, ?_⟩) | (refine ⟨⟨_, _, _, _⟩, Told.refl _, ?_, ?_⟩) | (refine ⟨⟨_, _, _, _, _⟩, Told.refl _, ?_, ?_⟩) | (refine ⟨(), Told.refl _, ?_, ?_⟩)) | (with_reducible intro _) | (refine fun (_ : Bool) => ?_)))
  all_goals ((try dsimp only at *); (try simp only [decide_eq_true_eq, decide_eq_false_iff_not, beq_iff_eq, bne_iff_ne, beq_eq_false_iff_ne, bne_eq_false_iff_eq, ne_eq, Decidable.not_not, ge_iff_le, gt_iff_lt, Bool.not_eq_true', Bool.not_eq_false', Int.not_lt, Int.not_le, Nat.not_lt, Nat.not_le] at *))
  case refine_2.refine_2.refine_2.refine_2.refine_2.refine_2.refine_2.refine_1.refine_1 => exact (rngB ‹sane b = true›).2.2.1.1
  case refine_2.refine_2.refine_2.refine_2.refine_2.refine_2.refine_2.refine_1.refine_2.refine_1 => have := (rngB ‹sane b = true›).2.2.1; omega
  case refine_2.refine_2.refine_2.refine_2.refine_2.refine_2.refine_2.refine_1.refine_2.refine_2.refine_1 => have := rngB ‹sane b = true›; rw [iw (by omega) (by omega)]; omega
  case refine_2.refine_2.refine_2.refine_2.refine_2.refine_2.refine_2.refine_1.refine_2.refine_2.refine_2 => have := rngB ‹sane b = true›; rw [iw (by omega) (by omega)]; omega
  case refine_2.refine_2.refine_2.refine_2.refine_2.refine_2.refine_2.refine_2.refine_1.refine_1 => 
    have q1 := ‹sane b = true›
    have q3 := ‹n = b.n›
    have q4 := ‹b.lo ≤ v›
    have q5 := ‹v ≤ b.hi›
    subst q3
    rw [to_yes q1 q4 q5, fur_len]
    exact (fur_len _ _).symm
  case refine_2.refine_2.refine_2.refine_2.refine_2.refine_2.refine_2.refine_2.refine_1.refine_2.refine_1 =>
    have q1 := ‹sane b = true›
    have q3 := ‹n = b.n›
    have q4 := ‹b.lo ≤ v›
    have q5 := ‹v ≤ b.hi›
    have := rngB q1
    subst q3
    rw [to_yes q1 q4 q5, iw (by omega) (by omega)]
    rfl
  case refine_2.refine_2.refine_2.refine_2.refine_2.refine_2.refine_2.refine_2.refine_2.refine_1 =>
    have q1 := ‹sane b = true›
    have q3 := ‹n = b.n›
    have q4 := ‹b.lo ≤ v›
    have q5 := ‹v ≤ b.hi›
    subst q3
    rw [to_yes q1 q4 q5]
    rfl
  all_goals
    first | refine (no fun q => ?_).1 | refine (no fun q => ?_).2
    obtain ⟨h1, h2, h3, h4, h5⟩ := q
    first | omega | (simp_all; done)
end Go.Abs.Dest
