/- dest: one more, the table of a list. -/
import Derived.Test.YtjoplgehefncbaaDoorADestB
set_option linter.all false
set_option maxRecDepth 100000
namespace Go.Abs.Dest
open Go.RowKit Go.Proofs Go.Abs.Tab
def turns (l : List Bf) (b : Bf) (k : Nat) : Prop := l.length < 4611686018427387904 ∧ k ≤ l.length ∧ (∀ i, i < k → ordB (l.getD i default) b < 0) ∧ ∀ i, k ≤ i → i < l.length → ¬ ordB (l.getD i default) b < 0
def SBin : Sp := ⟨List Bf × Bf × Nat, fun (l, b, k) => turns l b k, fun (l, b, k) => [aB l, .agg (cBf b), .fn 40 []], fun (l, b, k) => .st (.tup [.int .i64 k, .sb (decide (k < l.length ∧ ordB (l.getD k default) b = 0))])⟩
theorem half {i j : Nat} (h : i + j < 9223372036854775807) : IntKind.i64.wrap ((IntKind.u64.wrap (IntKind.i64.wrap ((i : Int) + j))).fdiv (2 ^ (min (1 : Int).toNat IntKind.u64.bits))) = (((i + j) / 2 : Nat) : Int) := by
  rw [iw (n := (i : Int) + j) (by omega) (by omega), show IntKind.u64.wrap ((i : Int) + j) = (i : Int) + j by rw [IntKind.wrap_u64]; omega, show (2 ^ (min (1 : Int).toNat IntKind.u64.bits) : Int) = 2 from rfl, Int.fdiv_eq_ediv_of_nonneg _ (by decide), iw (by omega) (by omega)]
  omega
set_option maxHeartbeats 4000000 in
theorem bin : SpOK Tryd.prog 39 SBin := fun ⟨l, b, k⟩ ⟨hl, hk, h1, h2⟩ => by
  have hC : COK Tryd.prog (cfg [(40, SOrd)]) := Ty.ty.cfg ⟨order, trivial⟩
  ((refine Fn.ofF hC Tryd.func39 Tryd.ntmps39 rfl rfl rfl ?_); (repeat' first | (with_reducible exact trivial) | (with_reducible rfl) | (refine And.intro ?_ ?_) | (refine Need.mk ?_) | exact True.intro | (first | (refine ⟨_, Told.refl _, ?_, ?_⟩) | (refine ⟨⟨_, _⟩, Told.refl _, ?_, ?_⟩) | (refine ⟨⟨_, _, _⟩, Told.refl _, ?_, ?_⟩) | (refine ⟨⟨_, _, _, _⟩, Told.refl _, ?_, ?_⟩) | (refine ⟨⟨_, _, _, _, _⟩, Told.refl _, ?_, ?_⟩) | (refine ⟨(), Told.refl _, ?_, ?_⟩)) | (with_reducible intro _) | (refine fun (_ : Bool) => ?_)))
  refine AW.loop (I := fun x : Nat × Nat => ⟨49, [(0, aB l), (2, .fn 40 []), (4, .ptr 0 0), (8, .int .i64 l.length), (9, .int .i64 x.1), (10, .int .i64 x.2)], [.box 50 (cBf b)]⟩) (fun x => x.1 ≤ k ∧ k ≤ x.2 ∧ x.2 ≤ l.length) (fun x => x.2 - x.1) (0, l.length) ⟨Nat.zero_le _, hk, Nat.le_refl _⟩ ?_ ?_
  · (repeat' first | (with_reducible exact trivial) | (with_reducible rfl) | (refine And.intro ?_ ?_) | (refine Need.mk ?_) | exact True.intro | (first | (refine ⟨_, Told.refl _, ?_, ?_⟩) | (refine ⟨⟨_, _⟩, Told.refl _, ?_, ?_⟩) | (refine ⟨⟨_, _, _⟩, Told.refl _, ?_, ?_⟩) | (refine ⟨⟨_, _, _, _⟩, Told.refl _, ?_, ?_⟩) | (refine ⟨⟨_, _, _, _, _⟩, Told.refl _, ?_, ?_⟩) | (refine ⟨(), Told.refl _, ?_, ?_⟩)) | (with_reducible intro _) | (refine fun (_ : Bool) => ?_))
    all_goals rfl
  · rintro ⟨i, j⟩ ⟨hi, hj, hjl⟩
    have hh := half (i := i) (j := j) (by dsimp only at hi hj hjl; omega)
    dsimp only at hi hj hjl
    ((refine AW.byF ‹_› ?_); (repeat' first | (with_reducible exact trivial) | (with_reducible rfl) | (refine And.intro ?_ ?_) | (refine Need.mk ?_) | exact True.intro | (first | (refine ⟨_, Told.refl _, ?_, ?_⟩) | (refine ⟨⟨_, _⟩, Told.refl _, ?_, ?_⟩) | (refine ⟨⟨_, _, _⟩, Told.refl _, ?_, ?_⟩) | (refine ⟨⟨_, _, _, _⟩, Told.refl _, ?_, ?_⟩) | (refine ⟨⟨_, _, _, _, _⟩, Told.refl _, ?_, ?_⟩) | (refine ⟨(), Told.refl _, ?_, ?_⟩)) | (with_reducible intro _) | (refine fun (_ : Bool) => ?_)))
    · decide
    · dsimp only; rw [hh]; omega
    · ((try dsimp only at *); (try simp only [decide_eq_true_eq, decide_eq_false_iff_not, beq_iff_eq, bne_iff_ne, beq_eq_false_iff_ne, bne_eq_false_iff_eq, ne_eq, Decidable.not_not, ge_iff_le, gt_iff_lt, Bool.not_eq_true', Bool.not_eq_false', Int.not_lt, Int.not_le, Nat.not_lt, Nat.not_le] at *)); rw [hh]; omega
    · have ho := of_decide_eq_true ‹_›
      have hlt := of_decide_eq_true (p := ((i : Int) < j)) ‹_›
      dsimp only at ho
      rw [hh, Int.toNat_natCast] at ho
      have hik : (i + j) / 2 < k := by
        rcases Nat.lt_or_ge ((i + j) / 2) k with q | q
        · exact q
        · exact absurd ho (h2 _ q (by omega))
      refine Exists.intro (((i + j) / 2 + 1, j)) (And.intro ?_ (And.intro ?_ ?_))
      · dsimp only; omega
      · dsimp only; omega
      · (repeat' first | (with_reducible exact trivial) | (with_reducible rfl) | (refine And.intro ?_ ?_) | (refine Need.mk ?_) | exact True.intro | (first | (refine ⟨_, Told.refl _, ?_, ?_⟩) | (refine ⟨⟨_, _⟩, Told.refl _, ?_, ?_⟩) | (refine ⟨⟨_, _, _⟩, Told.refl _, ?_, ?_⟩) | (refine ⟨⟨_, _, _, _⟩, Told.refl _, ?_, ?_⟩) | (refine ⟨⟨_, _, _, _, _⟩, Told.refl _, ?_, ?_⟩) | (refine ⟨(), Told.refl _, ?_, ?_⟩)) | (with_reducible intro _) | (refine fun (_ : Bool) => ?_))
        show IntKind.i64.wrap (IntKind.i64.wrap ((IntKind.u64.wrap (IntKind.i64.wrap ((i : Int) + j))).fdiv (2 ^ (min (1 : Int).toNat IntKind.u64.bits))) + 1) = (((i + j) / 2 + 1 : Nat) : Int)
        rw [hh, iw (by omega) (by omega)]
        omega
    · have ho := of_decide_eq_false ‹_›
      have hlt := of_decide_eq_true (p := ((i : Int) < j)) ‹_›
      dsimp only at ho
      rw [hh, Int.toNat_natCast] at ho
      have hik : k ≤ (i + j) / 2 := by
        rcases Nat.lt_or_ge ((i + j) / 2) k with q | q
        · exact absurd (h1 _ q) ho
        · exact q
      refine Exists.intro ((i, (i + j) / 2)) (And.intro ?_ (And.intro ?_ ?_))
      · dsimp only; omega
      · dsimp only; omega
      · (repeat' first | (with_reducible exact trivial) | (with_reducible rfl) | (refine And.intro ?_ ?_) | (refine Need.mk ?_) | exact True.intro | (first | (refine ⟨_, Told.refl _, ?_, ?_⟩) | (refine ⟨⟨_, _⟩, Told.refl _, ?_, ?_⟩) | (refine ⟨⟨_, _, _⟩, Told.refl _, ?_, ?_⟩) | (refine ⟨⟨_, _, _, _⟩, Told.refl _, ?_, ?_⟩) | (refine ⟨⟨_, _, _, _, _⟩, Told.refl _, ?_, ?_⟩) | (refine ⟨(), Told.refl _, ?_, ?_⟩)) | (with_reducible intro _) | (refine fun (_ : Bool) => ?_))
        exact hh
    all_goals ((try dsimp only at *); (try simp only [decide_eq_true_eq, decide_eq_false_iff_not, beq_iff_eq, bne_iff_ne, beq_eq_false_iff_ne, bne_eq_false_iff_eq, ne_eq, Decidable.not_not, ge_iff_le, gt_iff_lt, Bool.not_eq_true', Bool.not_eq_false', Int.not_lt, Int.not_le, Nat.not_lt, Nat.not_le] at *))
    · omega
    · omega
    · omega
    · obtain rfl : i = k := by omega
      rw [Int.toNat_natCast, Bool.eq_iff_iff, beq_iff_eq, decide_eq_true_eq]
      exact ⟨fun h => ⟨by omega, h⟩, fun h => h.2⟩
    · omega
    · exact (decide_eq_false (by omega)).symm
theorem cat_snoc' {α : Type} [Inhabited α] {f : α → List AV} {l : List α} {x : α} {n : Nat} {el : Nat → List AV} (hn : n = l.length) (h : ∀ i, i < l.length → el i = f (l.getD i default)) : ∀ i, i < (l ++ [x]).length → catEl n el (elt [f x]) i = f ((l ++ [x]).getD i default) := fun i hi => by
  have := cat_snoc (f := f) (l := l) (x := x) hn i hi
  rw [← this]
  unfold catEl
  by_cases hb : Nat.blt i n = true
  · rw [hb, cond_true, cond_true]
    have hlt : i < n := Nat.le_of_ble_eq_true hb
    exact h i (by omega)
  · rw [Bool.not_eq_true] at hb
    rw [hb, cond_false, cond_false]
def outO (t : List Bf) (s : Bf) (k : Nat) : List Bf := (t.take k).flatMap (EB.left s)
theorem outO_next {t : List Bf} {s : Bf} {k : Nat} (hk : k < t.length) : outO t s (k + 1) = outO t s k ++ EB.left s (t.getD k default) := by
  unfold outO
  rw [List.take_succ_eq_append_getElem hk, List.flatMap_append, getB hk]
  simp
theorem outO_len {t : List Bf} {s : Bf} (k : Nat) : (outO t s k).length ≤ 2 * t.length := by
  have : ∀ (l : List Bf), (l.flatMap (EB.left s)).length ≤ 2 * l.length := by
    intro l
    induction l with
    | nil => exact Nat.le_refl _
    | cons x l ih =>
      have := Tb.left_two EB.toTb s x
      rw [List.flatMap_cons, List.length_append, List.length_cons]
      omega
  have h := this (t.take k)
  rw [List.length_take] at h
  unfold outO
  omega
theorem left_skip {s x : Bf} (h : x.n ≠ s.n ∨ x.hi < s.lo ∨ x.lo > s.hi) : EB.left s x = [x] := if_pos h
theorem left_cut {s x : Bf} (h : ¬ (x.n ≠ s.n ∨ x.hi < s.lo ∨ x.lo > s.hi)) : EB.left s x = (if x.lo < s.lo then [⟨x.n, x.lo, s.lo - 1, fur x.to 0⟩] else []) ++ (if x.hi > s.hi then [⟨x.n, s.hi + 1, x.hi, fur x.to (s.hi + 1 - x.lo)⟩] else []) := if_neg h
/-- The parts as they are made. -/
def pA (s x : Bf) : Bf := ⟨x.n, x.lo, IntKind.i64.wrap (s.lo - 1), fur x.to (x.lo - x.lo)⟩
def pB (s x : Bf) : Bf := ⟨x.n, IntKind.i64.wrap (s.hi + 1), x.hi, fur x.to (IntKind.i64.wrap (s.hi + 1) - x.lo)⟩
theorem left_parts {s x : Bf} (hs : sane s = true) (hx : sane x = true) (h : ¬ (x.n ≠ s.n ∨ x.hi < s.lo ∨ x.lo > s.hi)) : EB.left s x = (if x.lo < s.lo then [pA s x] else []) ++ (if x.hi > s.hi then [pB s x] else []) := by
  have r1 := rngB hs
  rw [left_cut h]
  unfold pA pB
  rw [iw (n := s.lo - 1) (by omega) (by omega), iw (n := s.hi + 1) (by omega) (by omega), Int.sub_self]
theorem ins_els {α : Type} [Inhabited α] {f : α → List AV} {l : List α} {x : α} {p : Nat} (hp : p ≤ l.length) : ∀ i, i < (l.take p ++ x :: l.drop p).length → insEl p (els f l) (f x) i = f ((l.take p ++ x :: l.drop p).getD i default) := fun i hi => by
  have htl : (l.take p).length = p := by rw [List.length_take]; omega
  unfold insEl
  rcases Nat.lt_trichotomy i p with q | q | q
  · rw [show Nat.blt i p = true from Nat.ble_eq_true_of_le q, cond_true]
    simp only [els, List.getD]
    rw [List.getElem?_append_left (by omega), List.getElem?_take_of_lt q]
  · subst q
    rw [show Nat.blt i i = false from by
      cases hb : Nat.blt i i with
      | false => rfl
      | true => have := Nat.le_of_ble_eq_true hb; omega, cond_false, Nat.beq_refl, cond_true]
    simp only [List.getD]
    rw [List.getElem?_append_right (by omega), htl, Nat.sub_self]
    rfl
  · rw [show Nat.blt i p = false from by
      cases hb : Nat.blt i p with
      | false => rfl
      | true => have := Nat.le_of_ble_eq_true hb; omega, cond_false, show Nat.beq i p = false from by
      cases hb : Nat.beq i p with
      | false => rfl
      | true => have := Nat.eq_of_beq_eq_true hb; omega, cond_false]
    obtain ⟨i, rfl⟩ : ∃ i', i = i' + 1 := ⟨i - 1, by omega⟩
    simp only [els, List.getD]
    rw [Nat.add_sub_cancel, List.getElem?_append_right (by omega), htl, show i + 1 - p = (i - p) + 1 by omega, List.getElem?_cons_succ, List.getElem?_drop, show p + (i - p) = i by omega]
theorem place_turns {u : List Bf} (ho : EB.OD u) (s : Bf) (hl : u.length < 4611686018427387904) : turns u s (EB.place u s.n s.lo) := by
  have hle := EB.place_le u s.n s.lo
  refine ⟨hl, hle, fun i hi => ?_, fun i hi hil h => ?_⟩
  · rw [getB (by omega), ord_neg]
    exact (EB.place_at ho _ _ i (by omega)).2 hi
  · rw [getB hil, ord_neg] at h
    have := (EB.place_at ho _ _ i hil).1 h
    omega
def SOver : Sp := ⟨List Bf × Bf, fun (t, s) => EB.OD t ∧ (∀ x ∈ t, sane x = true) ∧ sane s = true ∧ t.length ≤ 1000000000, fun (t, s) => [aB t, .agg (cBf s)], fun (t, s) => .row 50 4 (EB.over t s).length (els cBf (EB.over t s))⟩
end Go.Abs.Dest
