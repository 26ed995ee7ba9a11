/- Codes, rows of numbers: what the small functions do. -/
import Derived.Test.YtjoplgehefncbaaDoorAbsTy
import Derived.Test.YtjoplgehefncbaaDoorAEn
set_option linter.all false
set_option maxRecDepth 100000
namespace Go.Abs
open Go.RowKit Go.Proofs
def ci (x : Int) : List AV := [.int .i64 x]
theorem ci_emb : Emb ci 1 := fun x => ⟨rfl, ⟨⟨rfl⟩, trivial⟩, rfl⟩
abbrev aI (l : List Int) : AV := aL ci 1 l
def aCode (n v : Int) : AV := .agg [.int .i64 n, .int .i64 v]

open Tab (saneC)
def SSane : Sp := ⟨Int × Int, fun _ => True, fun (a, b) => [aCode a b], fun (a, b) => .st (.sb (saneC a b))⟩
abbrev cfg (l : List (FuncId × Sp)) : Cfg := ⟨Ty.T, tblL l, fun _ => none, qlook Ty.Q, fun _ _ => none, fun _ => none, fun _ _ _ => False⟩
abbrev cfgI (l : List (FuncId × Sp)) (f : FuncId) (p : TypeId × Nat) : Cfg := ⟨Ty.T, tblL l, fun g => cond (Nat.beq g f) (some p) none, qlook Ty.Q, fun _ _ => none, fun _ => none, fun _ _ _ => False⟩
abbrev cfgN (N : List (FuncId × Inl)) (l : List (FuncId × Sp)) : Cfg := ⟨Ty.T, tblL l, fun _ => none, qlook Ty.Q, fun _ _ => none, ilook N, AW Tryd.prog (fun _ => True)⟩
abbrev cfgM (M : List (TypeId × String × FuncId)) (l : List (FuncId × Sp)) : Cfg := ⟨Ty.T, tblL l, fun _ => none, qlook Ty.Q, mlook M, fun _ => none, fun _ _ _ => False⟩
theorem base : COK Tryd.prog (cfg []) := Ty.ty.cfg trivial
theorem hexSane : SpOK Tryd.prog 59 SSane := fun ⟨n, v⟩ _ => by
  refine Fn.of base Tryd.func59 rfl rfl rfl (awp_ok base _ _ _ ?_)
  (repeat' first | (with_reducible exact trivial) | (with_reducible rfl) | (refine And.intro ?_ ?_) | (refine Need.mk ?_) | exact True.intro | (first | (refine ⟨_, Told.refl _, ?_, ?_⟩) | (refine ⟨⟨_, _⟩, Told.refl _, ?_, ?_⟩) | (refine ⟨⟨_, _, _⟩, Told.refl _, ?_, ?_⟩) | (refine ⟨⟨_, _, _, _⟩, Told.refl _, ?_, ?_⟩) | (refine ⟨⟨_, _, _, _, _⟩, Told.refl _, ?_, ?_⟩) | (refine ⟨(), Told.refl _, ?_, ?_⟩)) | (with_reducible intro _) | (refine fun (_ : Bool) => ?_))
  all_goals ((try dsimp only at *); (try simp only [decide_eq_true_eq, decide_eq_false_iff_not, beq_iff_eq, bne_iff_ne, beq_eq_false_iff_ne, bne_eq_false_iff_eq, ne_eq, Decidable.not_not, ge_iff_le, gt_iff_lt, Bool.not_eq_true', Bool.not_eq_false', Int.not_lt, Int.not_le, Nat.not_lt, Nat.not_le] at *))
  case refine_1.refine_1.refine_1.refine_1 => simp only [IntKind.wrap_i64, IntKind.wrap_u64]; omega
  case refine_1.refine_1.refine_1.refine_2 =>
    rename_i h1 h2 h3
    have hn : n = 1 ∨ n = 2 ∨ n = 3 ∨ n = 4 := by omega
    rcases hn with rfl | rfl | rfl | rfl
    all_goals
      unfold saneC
      rw [Bool.eq_iff_iff, beq_iff_eq, decide_eq_true_eq, Int.fdiv_eq_ediv_of_nonneg _ (Int.le_of_lt (Int.pow_pos (by decide)))]
    · rw [show (2 ^ (min (IntKind.u64.wrap (IntKind.i64.wrap (8 * 1))).toNat IntKind.i64.bits) : Int) = 256 from rfl]; simp; omega
    · rw [show (2 ^ (min (IntKind.u64.wrap (IntKind.i64.wrap (8 * 2))).toNat IntKind.i64.bits) : Int) = 65536 from rfl]; simp; omega
    · rw [show (2 ^ (min (IntKind.u64.wrap (IntKind.i64.wrap (8 * 3))).toNat IntKind.i64.bits) : Int) = 16777216 from rfl]; simp; omega
    · rw [show (2 ^ (min (IntKind.u64.wrap (IntKind.i64.wrap (8 * 4))).toNat IntKind.i64.bits) : Int) = 4294967296 from rfl]; simp; omega
  all_goals
    unfold saneC
    symm
    rw [decide_eq_false_iff_not]
    omega
def SFull : Sp := ⟨Int, fun n => 1 ≤ n ∧ n ≤ 4, fun n => [.int .i64 n], fun n => .st (.int .i64 (256 ^ n.toNat))⟩
def SSame : Sp := ⟨List Int × List Int, fun (a, b) => a.length < 9223372036854775807, fun (a, b) => [aI a, aI b], fun (a, b) => .st (.sb (a == b))⟩
theorem getD_at {α : Type} [Inhabited α] {l : List α} {i : Nat} (h : i < l.length) : l.getD i default = l[i] := by simp [List.getD, h]
theorem same_step {a b : List Int} {k : Nat} (hk : k < a.length) (hl : a.length = b.length) (he : a.take k = b.take k) (h : a.getD k default = b.getD k default) : a.take (k + 1) = b.take (k + 1) := by
  rw [getD_at hk, getD_at (by omega)] at h
  rw [List.take_succ_eq_append_getElem hk, List.take_succ_eq_append_getElem (by omega), he, h]
theorem same_no {a b : List Int} {k : Nat} (hk : k < a.length) (h : a.getD k default ≠ b.getD k default) : (a == b) = false := by
  rw [beq_eq_false_iff_ne]
  rintro rfl
  exact h rfl
theorem same_all {a b : List Int} (hl : a.length = b.length) (he : a.take a.length = b.take a.length) : (a == b) = true := by
  rw [List.take_length, hl, List.take_length] at he
  rw [he]
  exact beq_self_eq_true b
theorem same_len {a b : List Int} (h : a.length ≠ b.length) : (a == b) = false := by
  rw [beq_eq_false_iff_ne]
  rintro rfl
  exact h rfl
theorem slEqual : SpOK Tryd.prog 70 SSame := fun ⟨a, b⟩ ha => by
  have hC := base
  have ha : a.length < 9223372036854775807 := ha
  ((refine Fn.ofF hC Tryd.func70 Tryd.ntmps70 rfl rfl rfl ?_); (repeat' first | (with_reducible exact trivial) | (with_reducible rfl) | (refine And.intro ?_ ?_) | (refine Need.mk ?_) | exact True.intro | (first | (refine ⟨_, Told.refl _, ?_, ?_⟩) | (refine ⟨⟨_, _⟩, Told.refl _, ?_, ?_⟩) | (refine ⟨⟨_, _, _⟩, Told.refl _, ?_, ?_⟩) | (refine ⟨⟨_, _, _, _⟩, Told.refl _, ?_, ?_⟩) | (refine ⟨⟨_, _, _, _, _⟩, Told.refl _, ?_, ?_⟩) | (refine ⟨(), Told.refl _, ?_, ?_⟩)) | (with_reducible intro _) | (refine fun (_ : Bool) => ?_)))
  · ((try dsimp only at *); (try simp only [decide_eq_true_eq, decide_eq_false_iff_not, beq_iff_eq, bne_iff_ne, beq_eq_false_iff_ne, bne_eq_false_iff_eq, ne_eq, Decidable.not_not, ge_iff_le, gt_iff_lt, Bool.not_eq_true', Bool.not_eq_false', Int.not_lt, Int.not_le, Nat.not_lt, Nat.not_le] at *))
    exact (same_len (by omega)).symm
  refine AW.loop (I := fun k : Nat => ⟨26, [(0, aI a), (1, aI b), (12, .int .i64 a.length), (13, .int .i64 k)], []⟩) (fun k => k ≤ a.length ∧ a.take k = b.take k) (fun k => a.length - k) 0 ⟨Nat.zero_le _, rfl⟩ ?_ ?_
  · (repeat' first | (with_reducible exact trivial) | (with_reducible rfl) | (refine And.intro ?_ ?_) | (refine Need.mk ?_) | exact True.intro | (first | (refine ⟨_, Told.refl _, ?_, ?_⟩) | (refine ⟨⟨_, _⟩, Told.refl _, ?_, ?_⟩) | (refine ⟨⟨_, _, _⟩, Told.refl _, ?_, ?_⟩) | (refine ⟨⟨_, _, _, _⟩, Told.refl _, ?_, ?_⟩) | (refine ⟨⟨_, _, _, _, _⟩, Told.refl _, ?_, ?_⟩) | (refine ⟨(), Told.refl _, ?_, ?_⟩)) | (with_reducible intro _) | (refine fun (_ : Bool) => ?_)); rfl
  · intro k ⟨hk, he⟩
    ((refine AW.byF ‹_› ?_); (repeat' first | (with_reducible exact trivial) | (with_reducible rfl) | (refine And.intro ?_ ?_) | (refine Need.mk ?_) | exact True.intro | (first | (refine ⟨_, Told.refl _, ?_, ?_⟩) | (refine ⟨⟨_, _⟩, Told.refl _, ?_, ?_⟩) | (refine ⟨⟨_, _, _⟩, Told.refl _, ?_, ?_⟩) | (refine ⟨⟨_, _, _, _⟩, Told.refl _, ?_, ?_⟩) | (refine ⟨⟨_, _, _, _, _⟩, Told.refl _, ?_, ?_⟩) | (refine ⟨(), Told.refl _, ?_, ?_⟩)) | (with_reducible intro _) | (refine fun (_ : Bool) => ?_)))
    any_goals (intros; first | rfl | (((try dsimp only at *); (try simp only [decide_eq_true_eq, decide_eq_false_iff_not, beq_iff_eq, bne_iff_ne, beq_eq_false_iff_ne, bne_eq_false_iff_eq, ne_eq, Decidable.not_not, ge_iff_le, gt_iff_lt, Bool.not_eq_true', Bool.not_eq_false', Int.not_lt, Int.not_le, Nat.not_lt, Nat.not_le] at *)) <;> (try simp only [IntKind.wrap_i64] at *) <;> omega))
    · ((try dsimp only at *); (try simp only [decide_eq_true_eq, decide_eq_false_iff_not, beq_iff_eq, bne_iff_ne, beq_eq_false_iff_ne, bne_eq_false_iff_eq, ne_eq, Decidable.not_not, ge_iff_le, gt_iff_lt, Bool.not_eq_true', Bool.not_eq_false', Int.not_lt, Int.not_le, Nat.not_lt, Nat.not_le] at *))
      exact (same_no (k := k) (by omega) (by simpa using ‹_›)).symm
    · ((try dsimp only at *); (try simp only [decide_eq_true_eq, decide_eq_false_iff_not, beq_iff_eq, bne_iff_ne, beq_eq_false_iff_ne, bne_eq_false_iff_eq, ne_eq, Decidable.not_not, ge_iff_le, gt_iff_lt, Bool.not_eq_true', Bool.not_eq_false', Int.not_lt, Int.not_le, Nat.not_lt, Nat.not_le] at *))
      refine Exists.intro (k + 1) (And.intro ?_ (And.intro ?_ ?_))
      · exact ⟨by omega, same_step (by omega) (by omega) he (by simpa using ‹_›)⟩
      · omega
      · (repeat' first | (with_reducible exact trivial) | (with_reducible rfl) | (refine And.intro ?_ ?_) | (refine Need.mk ?_) | exact True.intro | (first | (refine ⟨_, Told.refl _, ?_, ?_⟩) | (refine ⟨⟨_, _⟩, Told.refl _, ?_, ?_⟩) | (refine ⟨⟨_, _, _⟩, Told.refl _, ?_, ?_⟩) | (refine ⟨⟨_, _, _, _⟩, Told.refl _, ?_, ?_⟩) | (refine ⟨⟨_, _, _, _, _⟩, Told.refl _, ?_, ?_⟩) | (refine ⟨(), Told.refl _, ?_, ?_⟩)) | (with_reducible intro _) | (refine fun (_ : Bool) => ?_))
        (intros; first | rfl | (((try dsimp only at *); (try simp only [decide_eq_true_eq, decide_eq_false_iff_not, beq_iff_eq, bne_iff_ne, beq_eq_false_iff_ne, bne_eq_false_iff_eq, ne_eq, Decidable.not_not, ge_iff_le, gt_iff_lt, Bool.not_eq_true', Bool.not_eq_false', Int.not_lt, Int.not_le, Nat.not_lt, Nat.not_le] at *)) <;> (try simp only [IntKind.wrap_i64] at *) <;> omega))
    · ((try dsimp only at *); (try simp only [decide_eq_true_eq, decide_eq_false_iff_not, beq_iff_eq, bne_iff_ne, beq_eq_false_iff_ne, bne_eq_false_iff_eq, ne_eq, Decidable.not_not, ge_iff_le, gt_iff_lt, Bool.not_eq_true', Bool.not_eq_false', Int.not_lt, Int.not_le, Nat.not_lt, Nat.not_le] at *))
      obtain rfl : k = a.length := by omega
      exact (same_all (by omega) he).symm
def minL : List Int → Int
  | [] => 0
  | x :: l => l.foldl (fun m y => if y < m then y else m) x
def maxL : List Int → Int
  | [] => 0
  | x :: l => l.foldl (fun m y => if y > m then y else m) x
theorem minL_take {l : List Int} {k : Nat} (h0 : 0 < k) (hk : k < l.length) : (if l.getD k default < minL (l.take k) then l.getD k default else minL (l.take k)) = minL (l.take (k + 1)) := by
  rw [getD_at hk]
  obtain ⟨k, rfl⟩ : ∃ j, k = j + 1 := ⟨k - 1, by omega⟩
  cases l with
  | nil => simp at hk
  | cons x l =>
    have hk2 : k < l.length := by simpa using hk
    simp only [List.take_succ_cons, minL, List.getElem_cons_succ]
    rw [List.take_succ_eq_append_getElem hk2, List.foldl_append]
    rfl
theorem maxL_take {l : List Int} {k : Nat} (h0 : 0 < k) (hk : k < l.length) : (if l.getD k default > maxL (l.take k) then l.getD k default else maxL (l.take k)) = maxL (l.take (k + 1)) := by
  rw [getD_at hk]
  obtain ⟨k, rfl⟩ : ∃ j, k = j + 1 := ⟨k - 1, by omega⟩
  cases l with
  | nil => simp at hk
  | cons x l =>
    have hk2 : k < l.length := by simpa using hk
    simp only [List.take_succ_cons, maxL, List.getElem_cons_succ]
    rw [List.take_succ_eq_append_getElem hk2, List.foldl_append]
    rfl
theorem minL_ge {c : Int} : ∀ {l : List Int}, l ≠ [] → (c ≤ minL l ↔ ∀ x ∈ l, c ≤ x)
  | [], h => absurd rfl h
  | x :: l, _ => by
    have key : ∀ (l : List Int) (m : Int), c ≤ l.foldl (fun m y => if y < m then y else m) m ↔ c ≤ m ∧ ∀ x ∈ l, c ≤ x := by
      intro l
      induction l with
      | nil => intro m; simp
      | cons y l ih =>
        intro m
        simp only [List.foldl_cons, ih, List.mem_cons, forall_eq_or_imp]
        by_cases h : y < m
        · rw [if_pos h]; exact ⟨fun ⟨h1, h2⟩ => ⟨by omega, h1, h2⟩, fun ⟨h1, h2, h3⟩ => ⟨h2, h3⟩⟩
        · rw [if_neg h]; exact ⟨fun ⟨h1, h2⟩ => ⟨h1, by omega, h2⟩, fun ⟨h1, h2, h3⟩ => ⟨h1, h3⟩⟩
    simp only [minL, key, List.mem_cons, forall_eq_or_imp]
theorem maxL_le {c : Int} : ∀ {l : List Int}, l ≠ [] → (maxL l ≤ c ↔ ∀ x ∈ l, x ≤ c)
  | [], h => absurd rfl h
  | x :: l, _ => by
    have key : ∀ (l : List Int) (m : Int), l.foldl (fun m y => if y > m then y else m) m ≤ c ↔ m ≤ c ∧ ∀ x ∈ l, x ≤ c := by
      intro l
      induction l with
      | nil => intro m; simp
      | cons y l ih =>
        intro m
        simp only [List.foldl_cons, ih, List.mem_cons, forall_eq_or_imp]
        by_cases h : y > m
        · rw [if_pos h]; exact ⟨fun ⟨h1, h2⟩ => ⟨by omega, h1, h2⟩, fun ⟨h1, h2, h3⟩ => ⟨h2, h3⟩⟩
        · rw [if_neg h]; exact ⟨fun ⟨h1, h2⟩ => ⟨h1, by omega, h2⟩, fun ⟨h1, h2, h3⟩ => ⟨h1, h3⟩⟩
    simp only [maxL, key, List.mem_cons, forall_eq_or_imp]
def SMin : Sp := ⟨List Int, fun l => 1 ≤ l.length ∧ l.length < 9223372036854775807, fun l => [aI l], fun l => .st (.int .i64 (minL l))⟩
def SMax : Sp := ⟨List Int, fun l => 1 ≤ l.length ∧ l.length < 9223372036854775807, fun l => [aI l], fun l => .st (.int .i64 (maxL l))⟩
theorem take_one {l : List Int} (h : 1 ≤ l.length) : minL (l.take 1) = l.getD 0 default ∧ maxL (l.take 1) = l.getD 0 default := by
  cases l with
  | nil => simp at h
  | cons x l => exact ⟨rfl, rfl⟩
theorem slMin : SpOK Tryd.prog 67 SMin := fun (l : List Int) ⟨h1, h2⟩ => by
  have hC := base
  ((refine Fn.ofF hC Tryd.func67 Tryd.ntmps67 rfl rfl rfl ?_); (repeat' first | (with_reducible exact trivial) | (with_reducible rfl) | (refine And.intro ?_ ?_) | (refine Need.mk ?_) | exact True.intro | (first | (refine ⟨_, Told.refl _, ?_, ?_⟩) | (refine ⟨⟨_, _⟩, Told.refl _, ?_, ?_⟩) | (refine ⟨⟨_, _, _⟩, Told.refl _, ?_, ?_⟩) | (refine ⟨⟨_, _, _, _⟩, Told.refl _, ?_, ?_⟩) | (refine ⟨⟨_, _, _, _, _⟩, Told.refl _, ?_, ?_⟩) | (refine ⟨(), Told.refl _, ?_, ?_⟩)) | (with_reducible intro _) | (refine fun (_ : Bool) => ?_)))
  any_goals (intros; first | rfl | (((try dsimp only at *); (try simp only [decide_eq_true_eq, decide_eq_false_iff_not, beq_iff_eq, bne_iff_ne, beq_eq_false_iff_ne, bne_eq_false_iff_eq, ne_eq, Decidable.not_not, ge_iff_le, gt_iff_lt, Bool.not_eq_true', Bool.not_eq_false', Int.not_lt, Int.not_le, Nat.not_lt, Nat.not_le] at *)) <;> (try simp only [IntKind.wrap_i64] at *) <;> omega))
  refine AW.loop (I := fun k : Nat => ⟨25, [(0, aI l), (4, .int .i64 k), (3, .int .i64 (minL (l.take k)))], []⟩) (fun k => 1 ≤ k ∧ k ≤ l.length) (fun k => l.length - k) 1 ⟨Nat.le_refl _, h1⟩ ?_ ?_
  · (repeat' first | (with_reducible exact trivial) | (with_reducible rfl) | (refine And.intro ?_ ?_) | (refine Need.mk ?_) | exact True.intro | (first | (refine ⟨_, Told.refl _, ?_, ?_⟩) | (refine ⟨⟨_, _⟩, Told.refl _, ?_, ?_⟩) | (refine ⟨⟨_, _, _⟩, Told.refl _, ?_, ?_⟩) | (refine ⟨⟨_, _, _, _⟩, Told.refl _, ?_, ?_⟩) | (refine ⟨⟨_, _, _, _, _⟩, Told.refl _, ?_, ?_⟩) | (refine ⟨(), Told.refl _, ?_, ?_⟩)) | (with_reducible intro _) | (refine fun (_ : Bool) => ?_))
    · rfl
    · exact (take_one h1).1.symm
  · intro k ⟨hk0, hk⟩
    ((refine AW.byF ‹_› ?_); (repeat' first | (with_reducible exact trivial) | (with_reducible rfl) | (refine And.intro ?_ ?_) | (refine Need.mk ?_) | exact True.intro | (first | (refine ⟨_, Told.refl _, ?_, ?_⟩) | (refine ⟨⟨_, _⟩, Told.refl _, ?_, ?_⟩) | (refine ⟨⟨_, _, _⟩, Told.refl _, ?_, ?_⟩) | (refine ⟨⟨_, _, _, _⟩, Told.refl _, ?_, ?_⟩) | (refine ⟨⟨_, _, _, _, _⟩, Told.refl _, ?_, ?_⟩) | (refine ⟨(), Told.refl _, ?_, ?_⟩)) | (with_reducible intro _) | (refine fun (_ : Bool) => ?_)))
    any_goals (intros; first | rfl | (((try dsimp only at *); (try simp only [decide_eq_true_eq, decide_eq_false_iff_not, beq_iff_eq, bne_iff_ne, beq_eq_false_iff_ne, bne_eq_false_iff_eq, ne_eq, Decidable.not_not, ge_iff_le, gt_iff_lt, Bool.not_eq_true', Bool.not_eq_false', Int.not_lt, Int.not_le, Nat.not_lt, Nat.not_le] at *)) <;> (try simp only [IntKind.wrap_i64] at *) <;> omega))
    · ((try dsimp only at *); (try simp only [decide_eq_true_eq, decide_eq_false_iff_not, beq_iff_eq, bne_iff_ne, beq_eq_false_iff_ne, bne_eq_false_iff_eq, ne_eq, Decidable.not_not, ge_iff_le, gt_iff_lt, Bool.not_eq_true', Bool.not_eq_false', Int.not_lt, Int.not_le, Nat.not_lt, Nat.not_le] at *))
      refine Exists.intro (k + 1) (And.intro ?_ (And.intro ?_ ?_))
      · omega
      · omega
      · (repeat' first | (with_reducible exact trivial) | (with_reducible rfl) | (refine And.intro ?_ ?_) | (refine Need.mk ?_) | exact True.intro | (first | (refine ⟨_, Told.refl _, ?_, ?_⟩) | (refine ⟨⟨_, _⟩, Told.refl _, ?_, ?_⟩) | (refine ⟨⟨_, _, _⟩, Told.refl _, ?_, ?_⟩) | (refine ⟨⟨_, _, _, _⟩, Told.refl _, ?_, ?_⟩) | (refine ⟨⟨_, _, _, _, _⟩, Told.refl _, ?_, ?_⟩) | (refine ⟨(), Told.refl _, ?_, ?_⟩)) | (with_reducible intro _) | (refine fun (_ : Bool) => ?_))
        · (intros; first | rfl | (((try dsimp only at *); (try simp only [decide_eq_true_eq, decide_eq_false_iff_not, beq_iff_eq, bne_iff_ne, beq_eq_false_iff_ne, bne_eq_false_iff_eq, ne_eq, Decidable.not_not, ge_iff_le, gt_iff_lt, Bool.not_eq_true', Bool.not_eq_false', Int.not_lt, Int.not_le, Nat.not_lt, Nat.not_le] at *)) <;> (try simp only [IntKind.wrap_i64] at *) <;> omega))
        · exact minL_take (by omega) (by omega)
    · ((try dsimp only at *); (try simp only [decide_eq_true_eq, decide_eq_false_iff_not, beq_iff_eq, bne_iff_ne, beq_eq_false_iff_ne, bne_eq_false_iff_eq, ne_eq, Decidable.not_not, ge_iff_le, gt_iff_lt, Bool.not_eq_true', Bool.not_eq_false', Int.not_lt, Int.not_le, Nat.not_lt, Nat.not_le] at *))
      obtain rfl : k = l.length := by omega
      rw [List.take_length]
theorem slMax : SpOK Tryd.prog 68 SMax := fun (l : List Int) ⟨h1, h2⟩ => by
  have hC := base
  ((refine Fn.ofF hC Tryd.func68 Tryd.ntmps68 rfl rfl rfl ?_); (repeat' first | (with_reducible exact trivial) | (with_reducible rfl) | (refine And.intro ?_ ?_) | (refine Need.mk ?_) | exact True.intro | (first | (refine ⟨_, Told.refl _, ?_, ?_⟩) | (refine ⟨⟨_, _⟩, Told.refl _, ?_, ?_⟩) | (refine ⟨⟨_, _, _⟩, Told.refl _, ?_, ?_⟩) | (refine ⟨⟨_, _, _, _⟩, Told.refl _, ?_, ?_⟩) | (refine ⟨⟨_, _, _, _, _⟩, Told.refl _, ?_, ?_⟩) | (refine ⟨(), Told.refl _, ?_, ?_⟩)) | (with_reducible intro _) | (refine fun (_ : Bool) => ?_)))
  any_goals (intros; first | rfl | (((try dsimp only at *); (try simp only [decide_eq_true_eq, decide_eq_false_iff_not, beq_iff_eq, bne_iff_ne, beq_eq_false_iff_ne, bne_eq_false_iff_eq, ne_eq, Decidable.not_not, ge_iff_le, gt_iff_lt, Bool.not_eq_true', Bool.not_eq_false', Int.not_lt, Int.not_le, Nat.not_lt, Nat.not_le] at *)) <;> (try simp only [IntKind.wrap_i64] at *) <;> omega))
  refine AW.loop (I := fun k : Nat => ⟨25, [(0, aI l), (4, .int .i64 k), (3, .int .i64 (maxL (l.take k)))], []⟩) (fun k => 1 ≤ k ∧ k ≤ l.length) (fun k => l.length - k) 1 ⟨Nat.le_refl _, h1⟩ ?_ ?_
  · (repeat' first | (with_reducible exact trivial) | (with_reducible rfl) | (refine And.intro ?_ ?_) | (refine Need.mk ?_) | exact True.intro | (first | (refine ⟨_, Told.refl _, ?_, ?_⟩) | (refine ⟨⟨_, _⟩, Told.refl _, ?_, ?_⟩) | (refine ⟨⟨_, _, _⟩, Told.refl _, ?_, ?_⟩) | (refine ⟨⟨_, _, _, _⟩, Told.refl _, ?_, ?_⟩) | (refine ⟨⟨_, _, _, _, _⟩, Told.refl _, ?_, ?_⟩) | (refine ⟨(), Told.refl _, ?_, ?_⟩)) | (with_reducible intro _) | (refine fun (_ : Bool) => ?_))
    · rfl
    · exact (take_one h1).2.symm
  · intro k ⟨hk0, hk⟩
    ((refine AW.byF ‹_› ?_); (repeat' first | (with_reducible exact trivial) | (with_reducible rfl) | (refine And.intro ?_ ?_) | (refine Need.mk ?_) | exact True.intro | (first | (refine ⟨_, Told.refl _, ?_, ?_⟩) | (refine ⟨⟨_, _⟩, Told.refl _, ?_, ?_⟩) | (refine ⟨⟨_, _, _⟩, Told.refl _, ?_, ?_⟩) | (refine ⟨⟨_, _, _, _⟩, Told.refl _, ?_, ?_⟩) | (refine ⟨⟨_, _, _, _, _⟩, Told.refl _, ?_, ?_⟩) | (refine ⟨(), Told.refl _, ?_, ?_⟩)) | (with_reducible intro _) | (refine fun (_ : Bool) => ?_)))
    any_goals (intros; first | rfl | (((try dsimp only at *); (try simp only [decide_eq_true_eq, decide_eq_false_iff_not, beq_iff_eq, bne_iff_ne, beq_eq_false_iff_ne, bne_eq_false_iff_eq, ne_eq, Decidable.not_not, ge_iff_le, gt_iff_lt, Bool.not_eq_true', Bool.not_eq_false', Int.not_lt, Int.not_le, Nat.not_lt, Nat.not_le] at *)) <;> (try simp only [IntKind.wrap_i64] at *) <;> omega))
    · ((try dsimp only at *); (try simp only [decide_eq_true_eq, decide_eq_false_iff_not, beq_iff_eq, bne_iff_ne, beq_eq_false_iff_ne, bne_eq_false_iff_eq, ne_eq, Decidable.not_not, ge_iff_le, gt_iff_lt, Bool.not_eq_true', Bool.not_eq_false', Int.not_lt, Int.not_le, Nat.not_lt, Nat.not_le] at *))
      refine Exists.intro (k + 1) (And.intro ?_ (And.intro ?_ ?_))
      · omega
      · omega
      · (repeat' first | (with_reducible exact trivial) | (with_reducible rfl) | (refine And.intro ?_ ?_) | (refine Need.mk ?_) | exact True.intro | (first | (refine ⟨_, Told.refl _, ?_, ?_⟩) | (refine ⟨⟨_, _⟩, Told.refl _, ?_, ?_⟩) | (refine ⟨⟨_, _, _⟩, Told.refl _, ?_, ?_⟩) | (refine ⟨⟨_, _, _, _⟩, Told.refl _, ?_, ?_⟩) | (refine ⟨⟨_, _, _, _, _⟩, Told.refl _, ?_, ?_⟩) | (refine ⟨(), Told.refl _, ?_, ?_⟩)) | (with_reducible intro _) | (refine fun (_ : Bool) => ?_))
        · (intros; first | rfl | (((try dsimp only at *); (try simp only [decide_eq_true_eq, decide_eq_false_iff_not, beq_iff_eq, bne_iff_ne, beq_eq_false_iff_ne, bne_eq_false_iff_eq, ne_eq, Decidable.not_not, ge_iff_le, gt_iff_lt, Bool.not_eq_true', Bool.not_eq_false', Int.not_lt, Int.not_le, Nat.not_lt, Nat.not_le] at *)) <;> (try simp only [IntKind.wrap_i64] at *) <;> omega))
        · exact maxL_take (by omega) (by omega)
    · ((try dsimp only at *); (try simp only [decide_eq_true_eq, decide_eq_false_iff_not, beq_iff_eq, bne_iff_ne, beq_eq_false_iff_ne, bne_eq_false_iff_eq, ne_eq, Decidable.not_not, ge_iff_le, gt_iff_lt, Bool.not_eq_true', Bool.not_eq_false', Int.not_lt, Int.not_le, Nat.not_lt, Nat.not_le] at *))
      obtain rfl : k = l.length := by omega
      rw [List.take_length]
def SClone : Sp := ⟨List Int, fun l => l.length * 8 ≤ 140737488355328, fun l => [aI l], fun l => .row 3 1 l.length (els ci l)⟩
theorem slClone : SpOK Tryd.prog 72 SClone := fun (l : List Int) h => by
  have hC := base
  have h : l.length * 8 ≤ 140737488355328 := h
  ((refine Fn.ofF hC Tryd.func72 Tryd.ntmps72 rfl rfl rfl ?_); (repeat' first | (with_reducible exact trivial) | (with_reducible rfl) | (refine And.intro ?_ ?_) | (refine Need.mk ?_) | exact True.intro | (first | (refine ⟨_, Told.refl _, ?_, ?_⟩) | (refine ⟨⟨_, _⟩, Told.refl _, ?_, ?_⟩) | (refine ⟨⟨_, _, _⟩, Told.refl _, ?_, ?_⟩) | (refine ⟨⟨_, _, _, _⟩, Told.refl _, ?_, ?_⟩) | (refine ⟨⟨_, _, _, _, _⟩, Told.refl _, ?_, ?_⟩) | (refine ⟨(), Told.refl _, ?_, ?_⟩)) | (with_reducible intro _) | (refine fun (_ : Bool) => ?_)))
  · rename_i q1 q2
    exact q1 q2
  · dsimp only
    omega
  · omega
  · rfl
/-- How one number stands to another. -/
def cmpI (x y : Int) : Int := if x < y then -1 else if x > y then 1 else 0
def SNaN : Sp := ⟨Int, fun _ => True, fun n => [.int .i64 n], fun n => .st (.sb false)⟩
theorem cmpNaN : SpOK Tryd.prog 71 SNaN := fun (n : Int) _ => by
  have hC := base
  ((refine Fn.ofF hC Tryd.func71 Tryd.ntmps71 rfl rfl rfl ?_); (repeat' first | (with_reducible exact trivial) | (with_reducible rfl) | (refine And.intro ?_ ?_) | (refine Need.mk ?_) | exact True.intro | (first | (refine ⟨_, Told.refl _, ?_, ?_⟩) | (refine ⟨⟨_, _⟩, Told.refl _, ?_, ?_⟩) | (refine ⟨⟨_, _, _⟩, Told.refl _, ?_, ?_⟩) | (refine ⟨⟨_, _, _, _⟩, Told.refl _, ?_, ?_⟩) | (refine ⟨⟨_, _, _, _, _⟩, Told.refl _, ?_, ?_⟩) | (refine ⟨(), Told.refl _, ?_, ?_⟩)) | (with_reducible intro _) | (refine fun (_ : Bool) => ?_)))
  exact bne_self_eq_false n
def SCompare : Sp := ⟨Int × Int, fun _ => True, fun (a, b) => [.int .i64 a, .int .i64 b], fun (a, b) => .st (.int .i64 (cmpI a b))⟩
theorem cmpCompare : SpOK Tryd.prog 58 SCompare := fun ⟨x, y⟩ _ => by
  have hC : COK Tryd.prog (cfg [(71, SNaN)]) := Ty.ty.cfg ⟨cmpNaN, trivial⟩
  ((refine Fn.ofF hC Tryd.func58 Tryd.ntmps58 rfl rfl rfl ?_); (repeat' first | (with_reducible exact trivial) | (with_reducible rfl) | (refine And.intro ?_ ?_) | (refine Need.mk ?_) | exact True.intro | (first | (refine ⟨_, Told.refl _, ?_, ?_⟩) | (refine ⟨⟨_, _⟩, Told.refl _, ?_, ?_⟩) | (refine ⟨⟨_, _, _⟩, Told.refl _, ?_, ?_⟩) | (refine ⟨⟨_, _, _, _⟩, Told.refl _, ?_, ?_⟩) | (refine ⟨⟨_, _, _, _, _⟩, Told.refl _, ?_, ?_⟩) | (refine ⟨(), Told.refl _, ?_, ?_⟩)) | (with_reducible intro _) | (refine fun (_ : Bool) => ?_)))
  all_goals ((try dsimp only at *); (try simp only [decide_eq_true_eq, decide_eq_false_iff_not, beq_iff_eq, bne_iff_ne, beq_eq_false_iff_ne, bne_eq_false_iff_eq, ne_eq, Decidable.not_not, ge_iff_le, gt_iff_lt, Bool.not_eq_true', Bool.not_eq_false', Int.not_lt, Int.not_le, Nat.not_lt, Nat.not_le] at *))
  all_goals first | contradiction | (unfold cmpI; repeat' split) <;> omega
def orI (l : List Int) : Int := (l.find? (fun x => x != 0)).getD 0
def SOr : Sp := ⟨List Int, fun l => l.length < 9223372036854775807, fun l => [aI l], fun l => .st (.int .i64 (orI l))⟩
theorem orI_skip {l : List Int} {k : Nat} (hk : k < l.length) (h : l.getD k default = 0) : orI (l.drop k) = orI (l.drop (k + 1)) := by
  rw [getD_at hk] at h
  rw [List.drop_eq_getElem_cons hk]
  simp [orI, h]
theorem orI_hit {l : List Int} {k : Nat} (hk : k < l.length) (h : l.getD k default ≠ 0) : orI (l.drop k) = l.getD k default := by
  rw [getD_at hk] at h ⊢
  rw [List.drop_eq_getElem_cons hk]
  unfold orI
  rw [List.find?_cons_of_pos (by simpa using h)]
  rfl
theorem cmpOr : SpOK Tryd.prog 57 SOr := fun (l : List Int) hl => by
  have hC := base
  have hl : l.length < 9223372036854775807 := hl
  ((refine Fn.ofF hC Tryd.func57 Tryd.ntmps57 rfl rfl rfl ?_); (repeat' first | (with_reducible exact trivial) | (with_reducible rfl) | (refine And.intro ?_ ?_) | (refine Need.mk ?_) | exact True.intro | (first | (refine ⟨_, Told.refl _, ?_, ?_⟩) | (refine ⟨⟨_, _⟩, Told.refl _, ?_, ?_⟩) | (refine ⟨⟨_, _, _⟩, Told.refl _, ?_, ?_⟩) | (refine ⟨⟨_, _, _, _⟩, Told.refl _, ?_, ?_⟩) | (refine ⟨⟨_, _, _, _, _⟩, Told.refl _, ?_, ?_⟩) | (refine ⟨(), Told.refl _, ?_, ?_⟩)) | (with_reducible intro _) | (refine fun (_ : Bool) => ?_)))
  refine AW.loop (I := fun k : Nat => ⟨18, [(6, aI l), (7, .int .i64 l.length), (8, .int .i64 k), (3, .int .i64 0)], []⟩) (fun k => k ≤ l.length ∧ orI (l.drop k) = orI l) (fun k => l.length - k) 0 ⟨Nat.zero_le _, rfl⟩ ?_ ?_
  · (repeat' first | (with_reducible exact trivial) | (with_reducible rfl) | (refine And.intro ?_ ?_) | (refine Need.mk ?_) | exact True.intro | (first | (refine ⟨_, Told.refl _, ?_, ?_⟩) | (refine ⟨⟨_, _⟩, Told.refl _, ?_, ?_⟩) | (refine ⟨⟨_, _, _⟩, Told.refl _, ?_, ?_⟩) | (refine ⟨⟨_, _, _, _⟩, Told.refl _, ?_, ?_⟩) | (refine ⟨⟨_, _, _, _, _⟩, Told.refl _, ?_, ?_⟩) | (refine ⟨(), Told.refl _, ?_, ?_⟩)) | (with_reducible intro _) | (refine fun (_ : Bool) => ?_)); rfl
  · intro k ⟨hk, he⟩
    ((refine AW.byF ‹_› ?_); (repeat' first | (with_reducible exact trivial) | (with_reducible rfl) | (refine And.intro ?_ ?_) | (refine Need.mk ?_) | exact True.intro | (first | (refine ⟨_, Told.refl _, ?_, ?_⟩) | (refine ⟨⟨_, _⟩, Told.refl _, ?_, ?_⟩) | (refine ⟨⟨_, _, _⟩, Told.refl _, ?_, ?_⟩) | (refine ⟨⟨_, _, _, _⟩, Told.refl _, ?_, ?_⟩) | (refine ⟨⟨_, _, _, _, _⟩, Told.refl _, ?_, ?_⟩) | (refine ⟨(), Told.refl _, ?_, ?_⟩)) | (with_reducible intro _) | (refine fun (_ : Bool) => ?_)))
    any_goals (intros; first | rfl | (((try dsimp only at *); (try simp only [decide_eq_true_eq, decide_eq_false_iff_not, beq_iff_eq, bne_iff_ne, beq_eq_false_iff_ne, bne_eq_false_iff_eq, ne_eq, Decidable.not_not, ge_iff_le, gt_iff_lt, Bool.not_eq_true', Bool.not_eq_false', Int.not_lt, Int.not_le, Nat.not_lt, Nat.not_le] at *)) <;> (try simp only [IntKind.wrap_i64] at *) <;> omega))
    · ((try dsimp only at *); (try simp only [decide_eq_true_eq, decide_eq_false_iff_not, beq_iff_eq, bne_iff_ne, beq_eq_false_iff_ne, bne_eq_false_iff_eq, ne_eq, Decidable.not_not, ge_iff_le, gt_iff_lt, Bool.not_eq_true', Bool.not_eq_false', Int.not_lt, Int.not_le, Nat.not_lt, Nat.not_le] at *))
      rw [← he]
      exact (orI_hit (by omega) (by simpa using ‹_›)).symm
    · ((try dsimp only at *); (try simp only [decide_eq_true_eq, decide_eq_false_iff_not, beq_iff_eq, bne_iff_ne, beq_eq_false_iff_ne, bne_eq_false_iff_eq, ne_eq, Decidable.not_not, ge_iff_le, gt_iff_lt, Bool.not_eq_true', Bool.not_eq_false', Int.not_lt, Int.not_le, Nat.not_lt, Nat.not_le] at *))
      refine Exists.intro (k + 1) (And.intro ?_ (And.intro ?_ ?_))
      · exact ⟨by omega, by rw [← he]; exact (orI_skip (by omega) (by simpa using ‹_›)).symm⟩
      · omega
      · (repeat' first | (with_reducible exact trivial) | (with_reducible rfl) | (refine And.intro ?_ ?_) | (refine Need.mk ?_) | exact True.intro | (first | (refine ⟨_, Told.refl _, ?_, ?_⟩) | (refine ⟨⟨_, _⟩, Told.refl _, ?_, ?_⟩) | (refine ⟨⟨_, _, _⟩, Told.refl _, ?_, ?_⟩) | (refine ⟨⟨_, _, _, _⟩, Told.refl _, ?_, ?_⟩) | (refine ⟨⟨_, _, _, _, _⟩, Told.refl _, ?_, ?_⟩) | (refine ⟨(), Told.refl _, ?_, ?_⟩)) | (with_reducible intro _) | (refine fun (_ : Bool) => ?_)); (intros; first | rfl | (((try dsimp only at *); (try simp only [decide_eq_true_eq, decide_eq_false_iff_not, beq_iff_eq, bne_iff_ne, beq_eq_false_iff_ne, bne_eq_false_iff_eq, ne_eq, Decidable.not_not, ge_iff_le, gt_iff_lt, Bool.not_eq_true', Bool.not_eq_false', Int.not_lt, Int.not_le, Nat.not_lt, Nat.not_le] at *)) <;> (try simp only [IntKind.wrap_i64] at *) <;> omega))
    · ((try dsimp only at *); (try simp only [decide_eq_true_eq, decide_eq_false_iff_not, beq_iff_eq, bne_iff_ne, beq_eq_false_iff_ne, bne_eq_false_iff_eq, ne_eq, Decidable.not_not, ge_iff_le, gt_iff_lt, Bool.not_eq_true', Bool.not_eq_false', Int.not_lt, Int.not_le, Nat.not_lt, Nat.not_le] at *))
      rw [← he, List.drop_of_length_le (by omega)]
      rfl
end Go.Abs
