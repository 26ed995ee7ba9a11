/- The document's answer for layer 8: are they few, would their rows be few? -/
import Derived.Test.YtjoplgehefncbaaDoorADestR
set_option linter.all false
set_option maxRecDepth 100000
namespace Go.Abs.Dest
open Go.RowKit Go.Proofs Go.Abs.Tab
def few (l : List Bf) : Bool := decide (l.length ≤ 60 ∧ ∀ x ∈ l, x.to.length ≤ 70)
theorem few_iff (l : List Bf) : few l = true ↔ (l.length ≤ 60 ∧ ∀ x ∈ l, x.to.length ≤ 70) := decide_eq_true_iff
theorem few_all {l : List Bf} {k : Nat} (hk : k ≤ l.length) (hok : ∀ j, j < k → (l.getD j default).to.length ≤ 70) (he : k = l.length ∨ 100 ≤ k) : decide ((l.length : Int) ≤ 60) = few l := by
  rw [Bool.eq_iff_iff, few_iff, decide_eq_true_iff]
  refine ⟨fun h => ⟨by omega, fun x hx => ?_⟩, fun h => by omega⟩
  obtain ⟨j, hj, rfl⟩ := List.getElem_of_mem hx
  have := hok j (by omega)
  rwa [getB hj] at this
theorem few_no {l : List Bf} {k : Nat} (hk : k < l.length) (h : 70 < (l.getD k default).to.length) : false = few l := by
  symm
  rw [Bool.eq_false_iff]
  intro hf
  have := ((few_iff l).1 hf).2 _ (List.getElem_mem hk)
  rw [getB hk] at h
  omega
def SFew : Sp := ⟨List Bf, fun _ => True, fun l => [aB l], fun l => .st (.sb (few l))⟩
set_option maxHeartbeats 4000000 in
theorem rfew : SpOK Tryd.prog 12 SFew := fun (l : List Bf) hl => by
  have hC := base
  ((refine Fn.ofF hC Tryd.func12 Tryd.ntmps12 rfl rfl rfl ?_); (repeat' first | (with_reducible exact trivial) | (with_reducible rfl) | (refine And.intro ?_ ?_) | (refine Need.mk ?_) | exact True.intro | (first | (refine ⟨_, Told.refl _, ?_, ?_⟩) | (refine ⟨⟨_, _⟩, Told.refl _, ?_, ?_⟩) | (refine ⟨⟨_, _, _⟩, Told.refl _, ?_, ?_⟩) | (refine ⟨⟨_, _, _, _⟩, Told.refl _, ?_, ?_⟩) | (refine ⟨⟨_, _, _, _, _⟩, Told.refl _, ?_, ?_⟩) | (refine ⟨(), Told.refl _, ?_, ?_⟩)) | (with_reducible intro _) | (refine fun (_ : Bool) => ?_)))
  refine AW.loop (I := fun k : Nat => ⟨24, [(0, aB l), (3, .int .i64 k)], []⟩) (fun k => k ≤ l.length ∧ k ≤ 100 ∧ ∀ j, j < k → (l.getD j default).to.length ≤ 70) (fun k => l.length - k) 0 ⟨Nat.zero_le _, Nat.zero_le _, fun j hj => by omega⟩ ?_ ?_
  · (repeat' first | (with_reducible exact trivial) | (with_reducible rfl) | (refine And.intro ?_ ?_) | (refine Need.mk ?_) | exact True.intro | (first | (refine ⟨_, Told.refl _, ?_, ?_⟩) | (refine ⟨⟨_, _⟩, Told.refl _, ?_, ?_⟩) | (refine ⟨⟨_, _, _⟩, Told.refl _, ?_, ?_⟩) | (refine ⟨⟨_, _, _, _⟩, Told.refl _, ?_, ?_⟩) | (refine ⟨⟨_, _, _, _, _⟩, Told.refl _, ?_, ?_⟩) | (refine ⟨(), Told.refl _, ?_, ?_⟩)) | (with_reducible intro _) | (refine fun (_ : Bool) => ?_))
    all_goals rfl
  · intro k ⟨hk, hk2, hok⟩
    have hw := iw (n := (k : Int) + 1) (by omega) (by omega)
    ((refine AW.byF ‹_› ?_); (repeat' first | (with_reducible exact trivial) | (with_reducible rfl) | (refine And.intro ?_ ?_) | (refine Need.mk ?_) | exact True.intro | (first | (refine ⟨_, Told.refl _, ?_, ?_⟩) | (refine ⟨⟨_, _⟩, Told.refl _, ?_, ?_⟩) | (refine ⟨⟨_, _, _⟩, Told.refl _, ?_, ?_⟩) | (refine ⟨⟨_, _, _, _⟩, Told.refl _, ?_, ?_⟩) | (refine ⟨⟨_, _, _, _, _⟩, Told.refl _, ?_, ?_⟩) | (refine ⟨(), Told.refl _, ?_, ?_⟩)) | (with_reducible intro _) | (refine fun (_ : Bool) => ?_)))
    any_goals (refine Exists.intro (k + 1) (And.intro ?_ (And.intro ?_ ?_)); all_goals (repeat' first | (with_reducible exact trivial) | (with_reducible rfl) | (refine And.intro ?_ ?_) | (refine Need.mk ?_) | exact True.intro | (first | (refine ⟨_, Told.refl _, ?_, ?_⟩) | (refine ⟨⟨_, _⟩, Told.refl _, ?_, ?_⟩) | (refine ⟨⟨_, _, _⟩, Told.refl _, ?_, ?_⟩) | (refine ⟨⟨_, _, _, _⟩, Told.refl _, ?_, ?_⟩) | (refine ⟨⟨_, _, _, _, _⟩, Told.refl _, ?_, ?_⟩) | (refine ⟨(), Told.refl _, ?_, ?_⟩)) | (with_reducible intro _) | (refine fun (_ : Bool) => ?_)))
    all_goals ((try dsimp only at *); (try simp only [decide_eq_true_eq, decide_eq_false_iff_not, beq_iff_eq, bne_iff_ne, beq_eq_false_iff_ne, bne_eq_false_iff_eq, ne_eq, Decidable.not_not, ge_iff_le, gt_iff_lt, Bool.not_eq_true', Bool.not_eq_false', Int.not_lt, Int.not_le, Nat.not_lt, Nat.not_le] at *))
    all_goals try simp only [Int.toNat_natCast, hw] at *
    all_goals first
      | omega
      | exact few_all hk hok (by omega)
      | exact few_no (k := k) (by omega) (by omega)
      | exact upto (p := fun j => (l.getD j default).to.length ≤ 70) hok (by omega) _ ‹_›
      | (constructor <;> omega)
def stepS (b : Bf) : Int := if (if 100000 < IntKind.i64.wrap (b.hi.fdiv 128 - b.lo.fdiv 128) then 100000 else IntKind.i64.wrap (b.hi.fdiv 128 - b.lo.fdiv 128)) > 0 then (if 100000 < IntKind.i64.wrap (b.hi.fdiv 128 - b.lo.fdiv 128) then 100000 else IntKind.i64.wrap (b.hi.fdiv 128 - b.lo.fdiv 128)) else 0
theorem stepS_rng (b : Bf) : 0 ≤ stepS b ∧ stepS b ≤ 100000 := by
  unfold stepS
  repeat' split
  all_goals omega
def sumS : List Bf → Int
  | [] => 0
  | b :: l => stepS b + sumS l
theorem sumS_snoc (l : List Bf) (b : Bf) : sumS (l ++ [b]) = sumS l + stepS b := by
  induction l with
  | nil => simp [sumS]
  | cons x l ih => simp only [List.cons_append, sumS, ih]; omega
theorem sumS_take {l : List Bf} {k : Nat} (hk : k < l.length) : sumS (l.take (k + 1)) = sumS (l.take k) + stepS (l.getD k default) := by
  rw [List.take_succ_eq_append_getElem hk, sumS_snoc, getB hk]
theorem sumS_rng (l : List Bf) : 0 ≤ sumS l ∧ sumS l ≤ 100000 * l.length := by
  induction l with
  | nil => exact ⟨Int.le_refl _, Int.le_refl _⟩
  | cons x l ih =>
    have := stepS_rng x
    simp only [sumS, List.length_cons]
    omega
def short (l : List Bf) : Bool := decide (sumS (l.take 1000) ≤ 600)
theorem short_end {l : List Bf} {k : Nat} (h : k = l.length ∨ k = 1000) (hk2 : k ≤ 1000) : decide (sumS (l.take k) ≤ 600) = short l := by
  unfold short
  rcases h with rfl | rfl
  · rw [List.take_length, List.take_of_length_le hk2]
  · rfl
def SShort : Sp := ⟨List Bf, fun _ => True, fun l => [aB l], fun l => .st (.sb (short l))⟩
end Go.Abs.Dest
