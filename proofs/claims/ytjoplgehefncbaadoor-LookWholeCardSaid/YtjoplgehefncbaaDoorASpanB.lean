/- Spans: tables. -/
import Derived.Test.YtjoplgehefncbaaDoorASpan
set_option linter.all false
set_option maxRecDepth 100000
namespace Go.Abs.Span
open Go.RowKit Go.Proofs Go.Abs.Tab
def SCanonS : Sp := ⟨List Spn × Bool, fun (t, st) => t.length < 9223372036854775807, fun (t, st) => [aS t, .lit st], fun (t, st) => .st (.sb ((ES st).canon t))⟩
theorem getB {l : List Spn} {i : Nat} (h : i < l.length) : l.getD i default = l[i] := by simp [List.getD, h]
theorem canon_no {st : Bool} {t : List Spn} {k : Nat} (hk : k < t.length) (h : ¬ (ES st).okAt t k = true) : false = (ES st).canon t := by
  cases hc : (ES st).canon t with
  | false => rfl
  | true => exact absurd (List.all_eq_true.1 hc k (List.mem_range.2 hk)) h
theorem canon_all {st : Bool} {t : List Spn} (h : ∀ j, j < t.length → (ES st).okAt t j = true) : true = (ES st).canon t := (List.all_eq_true.2 fun j hj => h j (List.mem_range.1 hj)).symm
theorem bef_iff {st : Bool} {x y : Spn} (hx : saneS st x = true) (hy : saneS st y = true) : (ES st).bef x y ↔ (ordS x y < 0 ∧ ¬ (x.n = y.n ∧ x.hi ≥ y.lo)) := by
  have r1 := rngS hx
  rw [ord_neg st]
  show (x.n < y.n ∨ (x.n = y.n ∧ x.hi < y.lo)) ↔ ((x.n < y.n ∨ (x.n = y.n ∧ x.lo < y.lo)) ∧ _)
  omega
theorem ok_sane {st : Bool} {t : List Spn} {k : Nat} (h : (ES st).okAt t k = true) : saneS st (t.getD k default) = true := ((Bool.and_eq_true _ _).mp h).1
theorem ok_at {st : Bool} {t : List Spn} {k : Nat} (hk0 : 0 < k) (hp : saneS st (t.getD (k - 1) default) = true) : (ES st).okAt t k = true ↔ (saneS st (t.getD k default) = true ∧ ordS (t.getD (k - 1) default) (t.getD k default) < 0 ∧ ¬ ((t.getD (k - 1) default).n = (t.getD k default).n ∧ (t.getD k default).lo ≤ (t.getD (k - 1) default).hi) ∧ joinsS st (t.getD (k - 1) default) (t.getD k default) = false) := by
  unfold En.okAt
  show (saneS st (t.getD k default) && (k == 0 || (decide ((ES st).bef (t.getD (k - 1) default) (t.getD k default)) && !joinsS st (t.getD (k - 1) default) (t.getD k default)))) = true ↔ _
  rw [Bool.and_eq_true, show (k == 0) = false by rw [beq_eq_false_iff_ne]; omega, Bool.false_or, Bool.and_eq_true, decide_eq_true_eq, Bool.not_eq_true']
  constructor
  · rintro ⟨h1, h2, h3⟩
    have := (bef_iff hp h1).1 h2
    exact ⟨h1, this.1, this.2, h3⟩
  · rintro ⟨h1, h2, h3, h4⟩
    exact ⟨h1, (bef_iff hp h1).2 ⟨h2, h3⟩, h4⟩
theorem ok_zero {st : Bool} {t : List Spn} : (ES st).okAt t 0 = true ↔ saneS st (t.getD 0 default) = true := by
  unfold En.okAt
  show (saneS st (t.getD 0 default) && (true || _)) = true ↔ _
  simp
theorem ok_next {st : Bool} {t : List Spn} {k : Nat} (hok : ∀ j, j < k → (ES st).okAt t j = true) (h : (ES st).okAt t k = true) : ∀ j, j < k + 1 → (ES st).okAt t j = true := fun j hj => by
  by_cases e : j = k
  · exact e ▸ h
  · exact hok j (by omega)
set_option maxHeartbeats 4000000 in
theorem canon : SpOK Tryd.prog 51 SCanonS := fun ⟨t, st⟩ ht => by
  have hC : COK Tryd.prog (cfg [(64, SSaneS), (53, SOrdS), (65, SJoinsS)]) := Ty.ty.cfg ⟨sane, order, joins, trivial⟩
  have ht : t.length < 9223372036854775807 := ht
  ((refine Fn.ofF hC Tryd.func51 Tryd.ntmps51 rfl rfl rfl ?_); (repeat' first | (with_reducible exact trivial) | (with_reducible rfl) | (refine And.intro ?_ ?_) | (refine Need.mk ?_) | exact True.intro | (first | (refine ⟨_, Told.refl _, ?_, ?_⟩) | (refine ⟨⟨_, _⟩, Told.refl _, ?_, ?_⟩) | (refine ⟨⟨_, _, _⟩, Told.refl _, ?_, ?_⟩) | (refine ⟨⟨_, _, _, _⟩, Told.refl _, ?_, ?_⟩) | (refine ⟨⟨_, _, _, _, _⟩, Told.refl _, ?_, ?_⟩) | (refine ⟨(), Told.refl _, ?_, ?_⟩)) | (with_reducible intro _) | (refine fun (_ : Bool) => ?_)))
  refine AW.loop (I := fun k : Nat => ⟨63, [(0, aS t), (1, .lit st), (7, aS t), (8, .int .i64 t.length), (9, .int .i64 k)], []⟩) (fun k => k ≤ t.length ∧ ∀ j, j < k → (ES st).okAt t j = true) (fun k => t.length - k) 0 ⟨Nat.zero_le _, fun j hj => by omega⟩ ?_ ?_
  · (repeat' first | (with_reducible exact trivial) | (with_reducible rfl) | (refine And.intro ?_ ?_) | (refine Need.mk ?_) | exact True.intro | (first | (refine ⟨_, Told.refl _, ?_, ?_⟩) | (refine ⟨⟨_, _⟩, Told.refl _, ?_, ?_⟩) | (refine ⟨⟨_, _, _⟩, Told.refl _, ?_, ?_⟩) | (refine ⟨⟨_, _, _, _⟩, Told.refl _, ?_, ?_⟩) | (refine ⟨⟨_, _, _, _, _⟩, Told.refl _, ?_, ?_⟩) | (refine ⟨(), Told.refl _, ?_, ?_⟩)) | (with_reducible intro _) | (refine fun (_ : Bool) => ?_)); rfl
  · intro k ⟨hk, hok⟩
    rcases Nat.eq_zero_or_pos k with rfl | hk0
    · have hz := ok_zero (st := st) (t := t)
      ((refine AW.byF ‹_› ?_); (repeat' first | (with_reducible exact trivial) | (with_reducible rfl) | (refine And.intro ?_ ?_) | (refine Need.mk ?_) | exact True.intro | (first | (refine ⟨_, Told.refl _, ?_, ?_⟩) | (refine ⟨⟨_, _⟩, Told.refl _, ?_, ?_⟩) | (refine ⟨⟨_, _, _⟩, Told.refl _, ?_, ?_⟩) | (refine ⟨⟨_, _, _, _⟩, Told.refl _, ?_, ?_⟩) | (refine ⟨⟨_, _, _, _, _⟩, Told.refl _, ?_, ?_⟩) | (refine ⟨(), Told.refl _, ?_, ?_⟩)) | (with_reducible intro _) | (refine fun (_ : Bool) => ?_)))
      any_goals (refine Exists.intro (1) (And.intro ?_ (And.intro ?_ ?_)); all_goals (repeat' first | (with_reducible exact trivial) | (with_reducible rfl) | (refine And.intro ?_ ?_) | (refine Need.mk ?_) | exact True.intro | (first | (refine ⟨_, Told.refl _, ?_, ?_⟩) | (refine ⟨⟨_, _⟩, Told.refl _, ?_, ?_⟩) | (refine ⟨⟨_, _, _⟩, Told.refl _, ?_, ?_⟩) | (refine ⟨⟨_, _, _, _⟩, Told.refl _, ?_, ?_⟩) | (refine ⟨⟨_, _, _, _, _⟩, Told.refl _, ?_, ?_⟩) | (refine ⟨(), Told.refl _, ?_, ?_⟩)) | (with_reducible intro _) | (refine fun (_ : Bool) => ?_)))
      all_goals ((try dsimp only at *); (try simp only [decide_eq_true_eq, decide_eq_false_iff_not, beq_iff_eq, bne_iff_ne, beq_eq_false_iff_ne, bne_eq_false_iff_eq, ne_eq, Decidable.not_not, ge_iff_le, gt_iff_lt, Bool.not_eq_true', Bool.not_eq_false', Int.not_lt, Int.not_le, Nat.not_lt, Nat.not_le] at *))
      all_goals try simp only [Int.toNat_natCast] at *
      all_goals first
        | omega
        | exact canon_no (k := 0) (by omega) (fun q => by have := hz.1 q; simp_all)
        | exact ok_next hok (hz.2 ‹_›) _ ‹_›
        | exact canon_all fun j hj => hok j (by omega)
        | (intros; first | rfl | (((try dsimp only at *); (try simp only [decide_eq_true_eq, decide_eq_false_iff_not, beq_iff_eq, bne_iff_ne, beq_eq_false_iff_ne, bne_eq_false_iff_eq, ne_eq, Decidable.not_not, ge_iff_le, gt_iff_lt, Bool.not_eq_true', Bool.not_eq_false', Int.not_lt, Int.not_le, Nat.not_lt, Nat.not_le] at *)) <;> (try simp only [IntKind.wrap_i64] at *) <;> omega))
    · have e1 : IntKind.i64.wrap ((k : Int) - 1) = ((k - 1 : Nat) : Int) := by rw [iw (by omega) (by omega)]; omega
      have hp := ok_sane (hok (k - 1) (by omega))
      have hiff := ok_at hk0 hp
      ((refine AW.byF ‹_› ?_); (repeat' first | (with_reducible exact trivial) | (with_reducible rfl) | (refine And.intro ?_ ?_) | (refine Need.mk ?_) | exact True.intro | (first | (refine ⟨_, Told.refl _, ?_, ?_⟩) | (refine ⟨⟨_, _⟩, Told.refl _, ?_, ?_⟩) | (refine ⟨⟨_, _, _⟩, Told.refl _, ?_, ?_⟩) | (refine ⟨⟨_, _, _, _⟩, Told.refl _, ?_, ?_⟩) | (refine ⟨⟨_, _, _, _, _⟩, Told.refl _, ?_, ?_⟩) | (refine ⟨(), Told.refl _, ?_, ?_⟩)) | (with_reducible intro _) | (refine fun (_ : Bool) => ?_)))
      any_goals (refine Exists.intro (k + 1) (And.intro ?_ (And.intro ?_ ?_)); all_goals (repeat' first | (with_reducible exact trivial) | (with_reducible rfl) | (refine And.intro ?_ ?_) | (refine Need.mk ?_) | exact True.intro | (first | (refine ⟨_, Told.refl _, ?_, ?_⟩) | (refine ⟨⟨_, _⟩, Told.refl _, ?_, ?_⟩) | (refine ⟨⟨_, _, _⟩, Told.refl _, ?_, ?_⟩) | (refine ⟨⟨_, _, _, _⟩, Told.refl _, ?_, ?_⟩) | (refine ⟨⟨_, _, _, _, _⟩, Told.refl _, ?_, ?_⟩) | (refine ⟨(), Told.refl _, ?_, ?_⟩)) | (with_reducible intro _) | (refine fun (_ : Bool) => ?_)))
      all_goals ((try dsimp only at *); (try simp only [decide_eq_true_eq, decide_eq_false_iff_not, beq_iff_eq, bne_iff_ne, beq_eq_false_iff_ne, bne_eq_false_iff_eq, ne_eq, Decidable.not_not, ge_iff_le, gt_iff_lt, Bool.not_eq_true', Bool.not_eq_false', Int.not_lt, Int.not_le, Nat.not_lt, Nat.not_le] at *))
      all_goals simp only [e1, Int.toNat_natCast] at *
      all_goals first
        | omega
        | exact canon_no (k := k) (by omega) (fun q => by have := hiff.1 q; first | omega | simp_all)
        | exact ok_next hok (hiff.2 ⟨‹_›, ‹_›, by omega, ‹_›⟩) _ ‹_›
        | exact canon_all fun j hj => hok j (by omega)
        | assumption
        | (intros; first | rfl | (((try dsimp only at *); (try simp only [decide_eq_true_eq, decide_eq_false_iff_not, beq_iff_eq, bne_iff_ne, beq_eq_false_iff_ne, bne_eq_false_iff_eq, ne_eq, Decidable.not_not, ge_iff_le, gt_iff_lt, Bool.not_eq_true', Bool.not_eq_false', Int.not_lt, Int.not_le, Nat.not_lt, Nat.not_le] at *)) <;> (try simp only [IntKind.wrap_i64] at *) <;> omega))
def turns (l : List Spn) (b : Spn) (k : Nat) : Prop := l.length < 4611686018427387904 ∧ k ≤ l.length ∧ (∀ i, i < k → ordS (l.getD i default) b < 0) ∧ ∀ i, k ≤ i → i < l.length → ¬ ordS (l.getD i default) b < 0
def SBinS : Sp := ⟨List Spn × Spn × Nat, fun (l, b, k) => turns l b k, fun (l, b, k) => [aS l, .agg (cSp b), .fn 53 []], fun (l, b, k) => .st (.tup [.int .i64 k, .sb (decide (k < l.length ∧ ordS (l.getD k default) b = 0))])⟩
theorem half {i j : Nat} (h : i + j < 9223372036854775807) : IntKind.i64.wrap ((IntKind.u64.wrap (IntKind.i64.wrap ((i : Int) + j))).fdiv (2 ^ (min (1 : Int).toNat IntKind.u64.bits))) = (((i + j) / 2 : Nat) : Int) := by
  rw [iw (n := (i : Int) + j) (by omega) (by omega), show IntKind.u64.wrap ((i : Int) + j) = (i : Int) + j by rw [IntKind.wrap_u64]; omega, show (2 ^ (min (1 : Int).toNat IntKind.u64.bits) : Int) = 2 from rfl, Int.fdiv_eq_ediv_of_nonneg _ (by decide), iw (by omega) (by omega)]
  omega
set_option maxHeartbeats 4000000 in
theorem bin : SpOK Tryd.prog 52 SBinS := fun ⟨l, b, k⟩ ⟨hl, hk, h1, h2⟩ => by
  have hC : COK Tryd.prog (cfg [(53, SOrdS)]) := Ty.ty.cfg ⟨order, trivial⟩
  ((refine Fn.ofF hC Tryd.func52 Tryd.ntmps52 rfl rfl rfl ?_); (repeat' first | (with_reducible exact trivial) | (with_reducible rfl) | (refine And.intro ?_ ?_) | (refine Need.mk ?_) | exact True.intro | (first | (refine ⟨_, Told.refl _, ?_, ?_⟩) | (refine ⟨⟨_, _⟩, Told.refl _, ?_, ?_⟩) | (refine ⟨⟨_, _, _⟩, Told.refl _, ?_, ?_⟩) | (refine ⟨⟨_, _, _, _⟩, Told.refl _, ?_, ?_⟩) | (refine ⟨⟨_, _, _, _, _⟩, Told.refl _, ?_, ?_⟩) | (refine ⟨(), Told.refl _, ?_, ?_⟩)) | (with_reducible intro _) | (refine fun (_ : Bool) => ?_)))
  refine AW.loop (I := fun x : Nat × Nat => ⟨49, [(0, aS l), (2, .fn 53 []), (4, .ptr 0 0), (8, .int .i64 l.length), (9, .int .i64 x.1), (10, .int .i64 x.2)], [.box 52 (cSp b)]⟩) (fun x => x.1 ≤ k ∧ k ≤ x.2 ∧ x.2 ≤ l.length) (fun x => x.2 - x.1) (0, l.length) ⟨Nat.zero_le _, hk, Nat.le_refl _⟩ ?_ ?_
  · (repeat' first | (with_reducible exact trivial) | (with_reducible rfl) | (refine And.intro ?_ ?_) | (refine Need.mk ?_) | exact True.intro | (first | (refine ⟨_, Told.refl _, ?_, ?_⟩) | (refine ⟨⟨_, _⟩, Told.refl _, ?_, ?_⟩) | (refine ⟨⟨_, _, _⟩, Told.refl _, ?_, ?_⟩) | (refine ⟨⟨_, _, _, _⟩, Told.refl _, ?_, ?_⟩) | (refine ⟨⟨_, _, _, _, _⟩, Told.refl _, ?_, ?_⟩) | (refine ⟨(), Told.refl _, ?_, ?_⟩)) | (with_reducible intro _) | (refine fun (_ : Bool) => ?_))
    all_goals rfl
  · rintro ⟨i, j⟩ ⟨hi, hj, hjl⟩
    have hh := half (i := i) (j := j) (by dsimp only at hi hj hjl; omega)
    dsimp only at hi hj hjl
    ((refine AW.byF ‹_› ?_); (repeat' first | (with_reducible exact trivial) | (with_reducible rfl) | (refine And.intro ?_ ?_) | (refine Need.mk ?_) | exact True.intro | (first | (refine ⟨_, Told.refl _, ?_, ?_⟩) | (refine ⟨⟨_, _⟩, Told.refl _, ?_, ?_⟩) | (refine ⟨⟨_, _, _⟩, Told.refl _, ?_, ?_⟩) | (refine ⟨⟨_, _, _, _⟩, Told.refl _, ?_, ?_⟩) | (refine ⟨⟨_, _, _, _, _⟩, Told.refl _, ?_, ?_⟩) | (refine ⟨(), Told.refl _, ?_, ?_⟩)) | (with_reducible intro _) | (refine fun (_ : Bool) => ?_)))
    · decide
    · dsimp only; rw [hh]; omega
    · ((try dsimp only at *); (try simp only [decide_eq_true_eq, decide_eq_false_iff_not, beq_iff_eq, bne_iff_ne, beq_eq_false_iff_ne, bne_eq_false_iff_eq, ne_eq, Decidable.not_not, ge_iff_le, gt_iff_lt, Bool.not_eq_true', Bool.not_eq_false', Int.not_lt, Int.not_le, Nat.not_lt, Nat.not_le] at *)); rw [hh]; omega
    · have ho := of_decide_eq_true ‹_›
      have hlt := of_decide_eq_true (p := ((i : Int) < j)) ‹_›
      dsimp only at ho
      rw [hh, Int.toNat_natCast] at ho
      have hik : (i + j) / 2 < k := by
        rcases Nat.lt_or_ge ((i + j) / 2) k with q | q
        · exact q
        · exact absurd ho (h2 _ q (by omega))
      refine Exists.intro (((i + j) / 2 + 1, j)) (And.intro ?_ (And.intro ?_ ?_))
      · dsimp only; omega
      · dsimp only; omega
      · (repeat' first | (with_reducible exact trivial) | (with_reducible rfl) | (refine And.intro ?_ ?_) | (refine Need.mk ?_) | exact True.intro | (first | (refine ⟨_, Told.refl _, ?_, ?_⟩) | (refine ⟨⟨_, _⟩, Told.refl _, ?_, ?_⟩) | (refine ⟨⟨_, _, _⟩, Told.refl _, ?_, ?_⟩) | (refine ⟨⟨_, _, _, _⟩, Told.refl _, ?_, ?_⟩) | (refine ⟨⟨_, _, _, _, _⟩, Told.refl _, ?_, ?_⟩) | (refine ⟨(), Told.refl _, ?_, ?_⟩)) | (with_reducible intro _) | (refine fun (_ : Bool) => ?_))
        show IntKind.i64.wrap (IntKind.i64.wrap ((IntKind.u64.wrap (IntKind.i64.wrap ((i : Int) + j))).fdiv (2 ^ (min (1 : Int).toNat IntKind.u64.bits))) + 1) = (((i + j) / 2 + 1 : Nat) : Int)
        rw [hh, iw (by omega) (by omega)]
        omega
    · have ho := of_decide_eq_false ‹_›
      have hlt := of_decide_eq_true (p := ((i : Int) < j)) ‹_›
      dsimp only at ho
      rw [hh, Int.toNat_natCast] at ho
      have hik : k ≤ (i + j) / 2 := by
        rcases Nat.lt_or_ge ((i + j) / 2) k with q | q
        · exact absurd (h1 _ q) ho
        · exact q
      refine Exists.intro ((i, (i + j) / 2)) (And.intro ?_ (And.intro ?_ ?_))
      · dsimp only; omega
      · dsimp only; omega
      · (repeat' first | (with_reducible exact trivial) | (with_reducible rfl) | (refine And.intro ?_ ?_) | (refine Need.mk ?_) | exact True.intro | (first | (refine ⟨_, Told.refl _, ?_, ?_⟩) | (refine ⟨⟨_, _⟩, Told.refl _, ?_, ?_⟩) | (refine ⟨⟨_, _, _⟩, Told.refl _, ?_, ?_⟩) | (refine ⟨⟨_, _, _, _⟩, Told.refl _, ?_, ?_⟩) | (refine ⟨⟨_, _, _, _, _⟩, Told.refl _, ?_, ?_⟩) | (refine ⟨(), Told.refl _, ?_, ?_⟩)) | (with_reducible intro _) | (refine fun (_ : Bool) => ?_))
        exact hh
    all_goals ((try dsimp only at *); (try simp only [decide_eq_true_eq, decide_eq_false_iff_not, beq_iff_eq, bne_iff_ne, beq_eq_false_iff_ne, bne_eq_false_iff_eq, ne_eq, Decidable.not_not, ge_iff_le, gt_iff_lt, Bool.not_eq_true', Bool.not_eq_false', Int.not_lt, Int.not_le, Nat.not_lt, Nat.not_le] at *))
    · omega
    · omega
    · omega
    · obtain rfl : i = k := by omega
      rw [Int.toNat_natCast, Bool.eq_iff_iff, beq_iff_eq, decide_eq_true_eq]
      exact ⟨fun h => ⟨by omega, h⟩, fun h => h.2⟩
    · omega
    · exact (decide_eq_false (by omega)).symm
theorem place_turns {st : Bool} {u : List Spn} (ho : (ES st).OD u) (s : Spn) (hl : u.length < 4611686018427387904) : turns u s ((ES st).place u s.n s.lo) := by
  have hle := (ES st).place_le u s.n s.lo
  refine ⟨hl, hle, fun i hi => ?_, fun i hi hil h => ?_⟩
  · rw [getB (by omega), ord_neg st]
    exact ((ES st).place_at ho _ _ i (by omega)).2 hi
  · rw [getB hil, ord_neg st] at h
    have := ((ES st).place_at ho _ _ i hil).1 h
    omega
def SFindS : Sp := ⟨List Spn × Int × Int × Bool, fun (t, n, v, st) => t.length < 4611686018427387904, fun (t, n, v, st) => [aS t, aCode n v, .lit st], fun (t, n, v, st) => rI ((ES st).find t n v)⟩
theorem find_no {st : Bool} {t : List Spn} (h : (ES st).canon t = false) (n v : Int) : (ES st).find t n v = none := if_neg (by rw [h]; decide)
theorem find_yes {st : Bool} {t : List Spn} (h : (ES st).canon t = true) (n v : Int) : (ES st).find t n v = (ES st).get t n v := if_pos h
set_option maxHeartbeats 16000000 in
theorem find : SpOK Tryd.prog 36 SFindS := fun ⟨t, n, v, st⟩ hl => by
  have hC : COK Tryd.prog (cfg [(51, SCanonS), (52, SBinS), (54, SToS)]) := Ty.ty.cfg ⟨canon, bin, toS, trivial⟩
  have hl : t.length < 4611686018427387904 := hl
  ((refine Fn.ofF hC Tryd.func36 Tryd.ntmps36 rfl rfl rfl ?_); (repeat' first | (with_reducible exact trivial) | (with_reducible rfl) | (refine And.intro ?_ ?_) | (refine Need.mk ?_) | exact True.intro | (first | (refine ⟨_, Told.refl _, ?_, ?_⟩) | (refine ⟨⟨_, _⟩, Told.refl _, ?_, ?_⟩) | (refine ⟨⟨_, _, _⟩, Told.refl _, ?_, ?_⟩) | (refine ⟨⟨_, _, _, _⟩, Told.refl _, ?_, ?_⟩) | (refine ⟨⟨_, _, _, _, _⟩, Told.refl _, ?_, ?_⟩) | (refine ⟨(), Told.refl _, ?_, ?_⟩)) | (with_reducible intro _) | (refine fun (_ : Bool) => ?_)))
  · show t.length < _
    omega
  · rename_i h
    rw [find_no (by simpa using h)]
    rfl
  · rename_i h
    rw [find_no (by simpa using h)]
    rfl
  · rename_i h
    have hc : (ES st).canon t = true := by simpa using h
    have htab := ((ES st).canon_iff t).1 hc
    have hf := find_yes hc n v
    have hg := (ES st).get_place htab n v
    have htu := place_turns htab.2.1 ⟨n, v, 0, 0⟩ hl
    have hple := (ES st).place_le t n v
    have htu : turns t ⟨n, v, 0, 0⟩ ((ES st).place t n v) := htu
    obtain ⟨p, hp⟩ : ∃ p, (ES st).place t n v = p := ⟨_, rfl⟩
    rw [hp] at hg htu hple
    have ez := ord_zero (t.getD p default) ⟨n, v, 0, 0⟩
    have ew := iw (n := (p : Int) - 1) (by omega) (by omega)
    have f2 : (p < t.length ∧ ordS (t.getD p default) ⟨n, v, 0, 0⟩ = 0) → (ES st).find t n v = (ES st).to (t.getD (p : Int).toNat default) n v := fun h => by
      rw [hf, hg, dif_pos ⟨h.1, ez.1 h.2⟩]
      rfl
    have f1 : ¬ (p < t.length ∧ ordS (t.getD p default) ⟨n, v, 0, 0⟩ = 0) → ¬ p = 0 → (ES st).find t n v = (ES st).to (t.getD ((p : Int) - 1).toNat default) n v := fun h h0 => by
      rw [hf, hg, dif_neg (fun q => h ⟨q.1, ez.2 q.2⟩), if_neg h0, show ((p : Int) - 1).toNat = p - 1 by omega]
    have f0 : ¬ (p < t.length ∧ ordS (t.getD p default) ⟨n, v, 0, 0⟩ = 0) → p = 0 → (ES st).find t n v = none := fun h h0 => by
      rw [hf, hg, dif_neg (fun q => h ⟨q.1, ez.2 q.2⟩), if_pos h0]
    clear hg hf ez hp hc h
    refine Exists.intro (t, ⟨n, v, 0, 0⟩, p) (And.intro (Told.of ?_) (And.intro htu ?_))
    · (repeat' first | (with_reducible exact trivial) | (with_reducible rfl) | (refine And.intro ?_ ?_) | (refine Need.mk ?_) | exact True.intro | (first | (refine ⟨_, Told.refl _, ?_, ?_⟩) | (refine ⟨⟨_, _⟩, Told.refl _, ?_, ?_⟩) | (refine ⟨⟨_, _, _⟩, Told.refl _, ?_, ?_⟩) | (refine ⟨⟨_, _, _, _⟩, Told.refl _, ?_, ?_⟩) | (refine ⟨⟨_, _, _, _, _⟩, Told.refl _, ?_, ?_⟩) | (refine ⟨(), Told.refl _, ?_, ?_⟩)) | (with_reducible intro _) | (refine fun (_ : Bool) => ?_))
      all_goals first | omega | rfl
    · (repeat' first | (with_reducible exact trivial) | (with_reducible rfl) | (refine And.intro ?_ ?_) | (refine Need.mk ?_) | exact True.intro | (first | (refine ⟨_, Told.refl _, ?_, ?_⟩) | (refine ⟨⟨_, _⟩, Told.refl _, ?_, ?_⟩) | (refine ⟨⟨_, _, _⟩, Told.refl _, ?_, ?_⟩) | (refine ⟨⟨_, _, _, _⟩, Told.refl _, ?_, ?_⟩) | (refine ⟨⟨_, _, _, _, _⟩, Told.refl _, ?_, ?_⟩) | (refine ⟨(), Told.refl _, ?_, ?_⟩)) | (with_reducible intro _) | (refine fun (_ : Bool) => ?_))
      all_goals simp only [ew, decide_eq_true_eq, decide_eq_false_iff_not, Bool.not_eq_true', Bool.not_eq_false'] at *
      all_goals first
        | omega
        | exact Int.natCast_nonneg p
        | (rw [f0 ‹_› (by omega)]; rfl)
        | (rw [f1 ‹_› (by omega)]; done)
        | (rw [f2 ‹_›]; done)
        | (have := (‹_ ∧ _› : p < t.length ∧ ordS (t.getD p default) ⟨n, v, 0, 0⟩ = 0).1; omega)
end Go.Abs.Span
