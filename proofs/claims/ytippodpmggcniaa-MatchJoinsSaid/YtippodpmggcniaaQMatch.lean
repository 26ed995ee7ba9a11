/- What layer 11 (match) answers, in plain words: full, best, Next, All. -/
import Derived.Test.YtippodpmggcniaaQHex
import Derived.Test.YtippodpmggcniaaPAllx13
namespace Go.Proofs.YtippodpmggcniaaQ
open Go.RowKit Go.Proofs.YtippodpmggcniaaW.PrintWords Go.Proofs.YtippodpmggcniaaW.PrintLast Go.Proofs.YtippodpmggcniaaW.PrintMore Go.Proofs.Ytippodpmggcniaa.PAll
abbrev Rect := S35
abbrev Fit := S59
abbrev Piece := S30
abbrev Code := S28
theorem rdT_nat {l : List Rect} {i : Nat} (h : i < l.length) : rd_T35 l (i : Int) = l[i] := by unfold rd_T35; simp [List.getD, h]
theorem rdF_nat {l : List Fit} {i : Nat} (h : i < l.length) : rd_T59 l (i : Int) = l[i] := by unfold rd_T59; simp [List.getD, h]
theorem rdP_nat {l : List Piece} {i : Nat} (h : i < l.length) : rd_T30 l (i : Int) = l[i] := by unfold rd_T30; simp [List.getD, h]
/-- Is a code in one of some? -/
def inAny (l : List Rect) (n v : Int) : Bool := l.any fun r => inB r.f0 r.f1 r.f2 n v
theorem full_l0 (l : List Rect) (hl : l.length < 9223372036854775807) (c v : Int) : ∀ n i : Nat, i + n = l.length → Ev (fun k => match_full.l0 k l (i : Int) c v) (inAny (l.drop i) c v)
  | 0, i, h => by
    refine Ev.step (fun k => rfl) ?_
    simp only [match_full.l0]
    simp only [if_neg (show ¬ ((i : Int) < (l.length : Int)) by omega)]
    rw [List.drop_of_length_le (by omega)]
    exact Ev.now _
  | n + 1, i, h => by
    have hi : i < l.length := by omega
    refine Ev.step (fun k => rfl) ?_
    simp only [match_full.l0]
    simp only [if_pos (show (i : Int) < (l.length : Int) by omega), if_pos (show (0 : Int) ≤ (i : Int) by omega)]
    rw [rdT_nat hi, List.drop_eq_getElem_cons hi]
    unfold inAny
    rw [List.any_cons]
    refine Ev.bind (rect_In_is _ _ _ c v) ?_
    by_cases hb : inB (l[i]).f0 (l[i]).f1 (l[i]).f2 c v = true
    · simp only [if_pos hb]
      rw [hb, Bool.true_or]
      exact Ev.now _
    · simp only [if_neg hb]
      rw [Bool.eq_false_iff.mpr hb, Bool.false_or, w64n (by omega)]
      exact full_l0 l hl c v n (i + 1) (by omega)
/-- Are bytes a code of one of some? -/
def fullB (l : List Rect) (b : List Int) : Bool := decide (1 ≤ b.length ∧ b.length ≤ 4) && inAny l b.length (valN b)
theorem match_full_is (l : List Rect) (hl : l.length < 9223372036854775807) (b : List Int) (hb : Bytes b) : Ev (fun k => match_full.f k l b) (fullB l b) := by
  unfold match_full.f fullB
  by_cases h : 1 ≤ b.length ∧ b.length ≤ 4
  · refine Ev.bind (hex_Val_is b hb h.1 h.2) ?_
    rw [decide_eq_true h, Bool.true_and]
    simp only [if_true]
    exact full_l0 l hl _ _ l.length 0 (by omega)
  · refine Ev.bind (hex_Val_not b (by omega)) ?_
    rw [decide_eq_false h, Bool.false_and]
    simp only [if_neg (show ¬ (false = true) by decide)]
    exact Ev.now _
theorem cmp_is (a b : Int) : cmp_Compare_int.f a b = some (if a < b then -1 else if a > b then 1 else 0) := by
  unfold cmp_Compare_int.f cmp_isNaN_int.f
  rw [bne_self_eq_false, bne_self_eq_false]
  simp only [Option.bind_some, if_neg (show ¬ (false = true) by decide)]
  split
  · rfl
  · split <;> rfl
/-- Which of two is told first: as Go's cmp.Or of two. -/
def or2 (a b : Int) : Int := if a = 0 then b else a
theorem or_is (a b : Int) : Ev (fun k => cmp_Or_int.f k [a, b]) (or2 a b) := by
  unfold cmp_Or_int.f or2
  refine Ev.step (fun k => rfl) ?_
  simp only [cmp_Or_int.l0]
  simp only [if_pos (show (0 : Int) < (([a, b] : List Int).length : Int) by simp), if_pos (show (0 : Int) ≤ 0 by omega)]
  rw [show rd [a, b] 0 = a from rfl, show wrap64 (0 + 1) = 1 from by decide +kernel]
  by_cases h : a = 0
  · simp only [if_pos h]
    refine Ev.step (fun k => rfl) ?_
    simp only [cmp_Or_int.l0]
    simp only [if_pos (show (1 : Int) < (([a, b] : List Int).length : Int) by simp), if_pos (show (0 : Int) ≤ 1 by omega)]
    rw [show rd [a, b] 1 = b from rfl, show wrap64 (1 + 1) = 2 from by decide +kernel]
    by_cases h2 : b = 0
    · simp only [if_pos h2]
      refine Ev.step (fun k => rfl) ?_
      simp only [cmp_Or_int.l0]
      simp only [if_neg (show ¬ ((2 : Int) < (([a, b] : List Int).length : Int)) by simp)]
      rw [h2]
      exact Ev.now _
    · simp only [if_neg h2]
      exact Ev.now _
  · simp only [if_neg h]
    exact Ev.now _
/-- Does x fit better than m? -/
def betterB (x0 x1 m0 m1 : Int) : Prop := m0 < x0 ∨ m0 = x0 ∧ x1 < m1
instance (x0 x1 m0 m1 : Int) : Decidable (betterB x0 x1 m0 m1) := by unfold betterB; exact inferInstance
theorem match_better_is (x0 x1 m0 m1 : Int) : ∃ c, Ev (fun k => match_better.f k x0 x1 m0 m1) c ∧ (c < 0 ↔ betterB x0 x1 m0 m1) := by
  refine ⟨or2 (if m0 < x0 then -1 else if m0 > x0 then 1 else 0) (if x1 < m1 then -1 else if x1 > m1 then 1 else 0), ?_, ?_⟩
  · unfold match_better.f
    rw [cmp_is, cmp_is]
    simp only [Option.bind_some]
    exact Ev.bind (or_is _ _) (Ev.now _)
  · unfold or2 betterB
    by_cases h1 : m0 < x0
    · simp [h1]
    · by_cases h2 : m0 > x0
      · simp [h1, h2]
        omega
      · by_cases h3 : x1 < m1
        · simp [h1, h2, h3]
          omega
        · by_cases h4 : x1 > m1
          · simp [h1, h2, h3, h4]
          · simp [h1, h2, h3, h4]
/-- The one that fits best, of one and some more. -/
def pick (m0 m1 : Int) : List Fit → Int × Int
  | [] => (m0, m1)
  | x :: t => if betterB x.f0 x.f1 m0 m1 then pick x.f0 x.f1 t else pick m0 m1 t
def bestP : List Fit → Int × Int
  | [] => (0, 1)
  | x :: t => pick x.f0 x.f1 t
theorem best_l0 (l : List Fit) (hl : l.length < 9223372036854775807) : ∀ (n i : Nat) (m0 m1 : Int), i + n = l.length → Ev (fun k => match_best.l0 k l (i : Int) m0 m1) (pick m0 m1 (l.drop i))
  | 0, i, m0, m1, h => by
    refine Ev.step (fun k => rfl) ?_
    simp only [match_best.l0]
    simp only [if_neg (show ¬ ((i : Int) < (l.length : Int)) by omega)]
    rw [List.drop_of_length_le (by omega)]
    exact Ev.now _
  | n + 1, i, m0, m1, h => by
    have hi : i < l.length := by omega
    refine Ev.step (fun k => rfl) ?_
    simp only [match_best.l0]
    simp only [if_pos (show (i : Int) < (l.length : Int) by omega), if_pos (show (0 : Int) ≤ (i : Int) by omega)]
    rw [rdF_nat hi, List.drop_eq_getElem_cons hi, pick]
    obtain ⟨c, hc, hiff⟩ := match_better_is (l[i]).f0 (l[i]).f1 m0 m1
    refine Ev.bind hc ?_
    rw [w64n (by omega)]
    by_cases hb : betterB (l[i]).f0 (l[i]).f1 m0 m1
    · simp only [if_pos (hiff.mpr hb)]
      rw [if_pos hb]
      exact best_l0 l hl n (i + 1) _ _ (by omega)
    · simp only [if_neg (fun h => hb (hiff.mp h))]
      rw [if_neg hb]
      exact best_l0 l hl n (i + 1) _ _ (by omega)
theorem match_best_is (l : List Fit) (hl : l.length < 9223372036854775807) : Ev (fun k => match_best.f k l) (bestP l) := by
  unfold match_best.f
  cases l with
  | nil =>
    simp only [if_pos (show ((([] : List Fit).length : Nat) : Int) = 0 by simp)]
    exact Ev.now _
  | cons x t =>
    simp only [if_neg (show ¬ ((((x :: t : List Fit).length : Nat) : Int) = 0) by simp; omega)]
    exact best_l0 (x :: t) hl t.length 1 _ _ (by simp; omega)
/-- How well each that may be fits. -/
def fitsOf (l : List Rect) (b : List Int) : List Fit := (l.filter fun r => rectB r.f0 r.f1 r.f2).map fun r => ⟨(fitsB r.f0 r.f1 r.f2 b : Nat), r.f0⟩
theorem fitsOf_pos {r : Rect} {t : List Rect} {b : List Int} (h : rectB r.f0 r.f1 r.f2 = true) : fitsOf (r :: t) b = ⟨((fitsB r.f0 r.f1 r.f2 b : Nat) : Int), r.f0⟩ :: fitsOf t b := by simp [fitsOf, h]
theorem fitsOf_neg {r : Rect} {t : List Rect} {b : List Int} (h : ¬ rectB r.f0 r.f1 r.f2 = true) : fitsOf (r :: t) b = fitsOf t b := by simp [fitsOf, h]
/-- The shortest beginning, of n or more bytes, that is a code. -/
def firstN (l : List Rect) (b : List Int) : Nat → Nat → Option Nat
  | 0, _ => none
  | m + 1, n => if n ≤ 4 ∧ n ≤ b.length then (if fullB l (b.take n) = true then some n else firstN l b m (n + 1)) else none
def nextB (l : List Rect) (b : List Int) : Int × Bool := match firstN l b 5 1 with
  | some n => ((n : Nat), true)
  | none => (mn (bestP (fitsOf l b)).2 (b.length : Int), false)
theorem next_l1 (l : List Rect) (hl : l.length < 8796093022208) (b : List Int) : ∀ (n i : Nat) (acc : List Fit), i + n = l.length → acc.length ≤ i →
    Ev (fun k => match_Next.l1 k b acc l (l.length : Int) (i : Int)) (mn (bestP (acc ++ fitsOf (l.drop i) b)).2 (b.length : Int), false)
  | 0, i, acc, h, ha => by
    refine Ev.step (fun k => rfl) ?_
    simp only [match_Next.l1]
    simp only [if_neg (show ¬ ((i : Int) < (l.length : Int)) by omega)]
    rw [List.drop_of_length_le (by omega)]
    refine Ev.bind (match_best_is acc (by omega)) ?_
    rw [show acc ++ fitsOf [] b = acc by simp [fitsOf]]
    exact Ev.now _
  | n + 1, i, acc, h, ha => by
    have hi : i < l.length := by omega
    refine Ev.step (fun k => rfl) ?_
    simp only [match_Next.l1]
    simp only [if_pos (show (i : Int) < (l.length : Int) by omega), if_pos (show (0 : Int) ≤ (i : Int) by omega)]
    rw [rdT_nat hi, List.drop_eq_getElem_cons hi]
    refine Ev.bind (rect_Sane_is _ _ _) ?_
    rw [w64n (by omega)]
    by_cases hs : rectB (l[i]).f0 (l[i]).f1 (l[i]).f2 = true
    · simp only [if_pos hs]
      refine Ev.bind (rect_Fits_is _ _ _ b) ?_
      simp only [if_pos (show acc.length < 8796093022208 by omega)]
      have := next_l1 l hl b n (i + 1) (acc ++ [⟨((fitsB (l[i]).f0 (l[i]).f1 (l[i]).f2 b : Nat) : Int), (l[i]).f0⟩]) (by omega) (by simp; omega)
      rw [List.append_assoc] at this
      rw [fitsOf_pos hs]
      exact this
    · simp only [if_neg hs]
      rw [fitsOf_neg hs]
      exact next_l1 l hl b n (i + 1) acc (by omega) (by omega)
theorem next_l0 (l : List Rect) (hl : l.length < 8796093022208) (b : List Int) (hb : Bytes b) (hbl : b.length < 9223372036854775807) : ∀ (m n : Nat), 1 ≤ n → n + m = 6 →
    Ev (fun k => match_Next.l0 k l b (n : Int)) (match firstN l b m n with
      | some n => ((n : Nat), true)
      | none => (mn (bestP (fitsOf l b)).2 (b.length : Int), false))
  | 0, n, h1, h => by
    obtain rfl : n = 6 := by omega
    refine Ev.step (fun k => rfl) ?_
    simp only [match_Next.l0]
    simp only [if_neg (show ¬ (((6 : Nat) : Int) ≤ mn 4 (b.length : Int)) by unfold mn; split <;> omega)]
    exact next_l1 l hl b l.length 0 [] (by omega) (by simp)
  | m + 1, n, h1, h => by
    refine Ev.step (fun k => rfl) ?_
    simp only [match_Next.l0]
    by_cases hn : n ≤ 4 ∧ n ≤ b.length
    · simp only [if_pos (show (n : Int) ≤ mn 4 (b.length : Int) by unfold mn; split <;> omega), if_pos (show (0 : Int) ≤ (n : Int) by omega), if_pos (show (n : Int) ≤ (b.length : Int) by omega), Int.toNat_natCast]
      refine Ev.bind (match_full_is l (by omega) (b.take n) (hb.take n)) ?_
      unfold firstN
      rw [if_pos hn]
      by_cases hf : fullB l (b.take n) = true
      · simp only [if_pos hf]
        exact Ev.now _
      · simp only [if_neg hf]
        rw [w64n (by omega)]
        exact next_l0 l hl b hb hbl m (n + 1) (by omega) (by omega)
    · simp only [if_neg (show ¬ ((n : Int) ≤ mn 4 (b.length : Int)) by unfold mn; split <;> omega)]
      unfold firstN
      rw [if_neg hn]
      exact next_l1 l hl b l.length 0 [] (by omega) (by simp)
theorem match_Next_is (l : List Rect) (hl : l.length < 8796093022208) (b : List Int) (hb : Bytes b) (hbl : b.length < 9223372036854775807) : Ev (fun k => match_Next.f k l b) (nextB l b) := by
  unfold match_Next.f
  exact next_l0 l hl b hb hbl 5 1 (by omega) (by omega)
theorem pick_mem : ∀ (l : List Fit) (m0 m1 : Int), pick m0 m1 l = (m0, m1) ∨ ∃ x ∈ l, pick m0 m1 l = (x.f0, x.f1)
  | [], _, _ => .inl rfl
  | x :: t, m0, m1 => by
    unfold pick
    split
    · rcases pick_mem t x.f0 x.f1 with h | ⟨y, hy, h⟩
      · exact .inr ⟨x, by simp, h⟩
      · exact .inr ⟨y, by simp [hy], h⟩
    · rcases pick_mem t m0 m1 with h | ⟨y, hy, h⟩
      · exact .inl h
      · exact .inr ⟨y, by simp [hy], h⟩
theorem bestP_range (l : List Rect) (b : List Int) : 1 ≤ (bestP (fitsOf l b)).2 ∧ (bestP (fitsOf l b)).2 ≤ 4 := by
  have hm : ∀ x ∈ fitsOf l b, 1 ≤ x.f1 ∧ x.f1 ≤ 4 := by
    intro x hx
    obtain ⟨r, hr, rfl⟩ := List.mem_map.mp hx
    have := (List.mem_filter.mp hr).2
    unfold rectB at this
    rw [Bool.and_eq_true, Bool.and_eq_true] at this
    rcases sane_range this.1.1 with h | h | h | h <;> (show 1 ≤ r.f0 ∧ r.f0 ≤ 4; omega)
  cases h : fitsOf l b with
  | nil => simp [bestP]
  | cons x t =>
    rw [h] at hm
    rw [show bestP (x :: t) = pick x.f0 x.f1 t from rfl]
    rcases pick_mem t x.f0 x.f1 with e | ⟨y, hy, e⟩
    · rw [e]
      exact hm x (by simp)
    · rw [e]
      exact hm y (by simp [hy])
theorem firstN_spec (l : List Rect) (b : List Int) : ∀ m n : Nat, match firstN l b m n with
    | some j => n ≤ j ∧ j ≤ 4 ∧ j ≤ b.length ∧ fullB l (b.take j) = true ∧ ∀ i, n ≤ i → i < j → fullB l (b.take i) = false
    | none => ∀ i, n ≤ i → i < n + m → i ≤ 4 → i ≤ b.length → fullB l (b.take i) = false
  | 0, n => by
    unfold firstN
    intro i h1 h2
    omega
  | m + 1, n => by
    unfold firstN
    by_cases hn : n ≤ 4 ∧ n ≤ b.length
    · rw [if_pos hn]
      by_cases hf : fullB l (b.take n) = true
      · rw [if_pos hf]
        exact ⟨by omega, hn.1, hn.2, hf, fun i h1 h2 => by omega⟩
      · rw [if_neg hf]
        have := firstN_spec l b m (n + 1)
        cases hfi : firstN l b m (n + 1) with
        | some j =>
          rw [hfi] at this
          refine ⟨by omega, this.2.1, this.2.2.1, this.2.2.2.1, fun i h1 h2 => ?_⟩
          by_cases hin : i = n
          · rw [hin]
            exact Bool.eq_false_iff.mpr hf
          · exact this.2.2.2.2 i (by omega) h2
        | none =>
          rw [hfi] at this
          intro i h1 h2 h3 h4
          by_cases hin : i = n
          · rw [hin]
            exact Bool.eq_false_iff.mpr hf
          · exact this i (by omega) (by omega) h3 h4
    · rw [if_neg hn]
      intro i h1 h2 h3 h4
      omega
/-- What is known of what is next: it is told shortest first. -/
theorem nextB_spec (l : List Rect) (b : List Int) : ∃ j : Nat, (nextB l b).1 = (j : Int) ∧ j ≤ 4 ∧ j ≤ b.length ∧ (1 ≤ b.length → 1 ≤ j) ∧
    ((nextB l b).2 = true → 1 ≤ j ∧ fullB l (b.take j) = true ∧ ∀ i, 1 ≤ i → i < j → fullB l (b.take i) = false) ∧ ((nextB l b).2 = false → ∀ i, 1 ≤ i → i ≤ 4 → i ≤ b.length → fullB l (b.take i) = false) := by
  unfold nextB
  have := firstN_spec l b 5 1
  cases h : firstN l b 5 1 with
  | some j =>
    rw [h] at this
    exact ⟨j, rfl, this.2.1, this.2.2.1, fun _ => this.1, fun _ => ⟨this.1, this.2.2.2⟩, (fun h => by cases h)⟩
  | none =>
    rw [h] at this
    have hr := bestP_range l b
    refine ⟨(mn (bestP (fitsOf l b)).2 (b.length : Int)).toNat, ?_, ?_, ?_, ?_, (fun h => by cases h), fun _ i h1 h2 h3 => this i h1 (by omega) h2 h3⟩
    · show mn _ _ = _
      unfold mn
      split <;> omega
    · unfold mn
      split <;> omega
    · unfold mn
      split <;> omega
    · unfold mn
      split <;> omega
/-- A text, cut: the pieces from a place on. -/
def allG (l : List Rect) : Nat → Int → List Int → List Piece
  | 0, _, _ => []
  | m + 1, p, s => if s.length = 0 then [] else ⟨p, (nextB l s).1, (nextB l s).2, if (nextB l s).2 = true then ⟨(nextB l s).1, valN (s.take (nextB l s).1.toNat)⟩ else ⟨0, 0⟩⟩ :: allG l m (p + (nextB l s).1) (s.drop (nextB l s).1.toNat)
theorem all_l0 (l : List Rect) (hl : l.length < 8796093022208) (s : List Int) (hb : Bytes s) (hs : s.length < 1000000000000) : ∀ (m i : Nat) (acc : List Piece), s.length ≤ i + m → i ≤ s.length → acc.length ≤ i →
    Ev (fun k => match_All.l0 k l s acc (i : Int)) (acc ++ allG l m (i : Int) (s.drop i))
  | 0, i, acc, h, hi, ha => by
    refine Ev.step (fun k => rfl) ?_
    simp only [match_All.l0]
    simp only [if_neg (show ¬ ((i : Int) < (s.length : Int)) by omega)]
    rw [show acc ++ allG l 0 (i : Int) (s.drop i) = acc by simp [allG]]
    exact Ev.now _
  | m + 1, i, acc, h, hi, ha => by
    refine Ev.step (fun k => rfl) ?_
    simp only [match_All.l0]
    unfold allG
    rw [List.length_drop]
    by_cases hlt : i < s.length
    · simp only [if_pos (show (i : Int) < (s.length : Int) by omega), if_pos (show (0 : Int) ≤ (i : Int) by omega), if_pos (show (i : Int) ≤ (s.length : Int) by omega), Int.toNat_natCast]
      rw [if_neg (show ¬ (s.length - i = 0) by omega)]
      refine Ev.bind (match_Next_is l hl (s.drop i) (hb.drop i) (by rw [List.length_drop]; omega)) ?_
      obtain ⟨j, hj, hj4, hjl, hj1, hjt, hjf⟩ := nextB_spec l (s.drop i)
      rw [List.length_drop] at hjl hj1
      have hj1 := hj1 (by omega)
      rw [hj, Int.toNat_natCast]
      rw [w64 (n := (i : Int) + (j : Int)) (by omega) (by omega), show (i : Int) + (j : Int) = ((i + j : Nat) : Int) by omega, Int.toNat_natCast]
      by_cases hf : (nextB l (s.drop i)).2 = true
      · simp only [if_pos hf, if_pos (show (i : Int) ≤ ((i + j : Nat) : Int) by omega), if_pos (show ((i + j : Nat) : Int) ≤ (s.length : Int) by omega)]
        rw [show (s.take (i + j)).drop i = (s.drop i).take j by rw [List.drop_take, Nat.add_sub_cancel_left]]
        have hlen : ((s.drop i).take j).length = j := by rw [List.length_take, List.length_drop]; omega
        refine Ev.bind (hex_Val_is _ ((hb.drop i).take j) (by omega) (by omega)) ?_
        simp only [if_pos (show acc.length < 3518437208883 by omega)]
        rw [hlen]
        have := all_l0 l hl s hb hs m (i + j) (acc ++ [⟨(i : Int), (j : Int), (nextB l (s.drop i)).2, ⟨(j : Int), valN ((s.drop i).take j)⟩⟩]) (by omega) (by omega) (by simp; omega)
        rw [List.append_assoc] at this
        rw [List.drop_drop]
        exact this
      · simp only [if_neg hf, if_pos (show acc.length < 3518437208883 by omega)]
        have := all_l0 l hl s hb hs m (i + j) (acc ++ [⟨(i : Int), (j : Int), (nextB l (s.drop i)).2, ⟨0, 0⟩⟩]) (by omega) (by omega) (by simp; omega)
        rw [List.append_assoc] at this
        rw [List.drop_drop]
        exact this
    · simp only [if_neg (show ¬ ((i : Int) < (s.length : Int)) by omega)]
      rw [if_pos (show s.length - i = 0 by omega), List.append_nil]
      exact Ev.now _
def allB (l : List Rect) (s : List Int) : List Piece := allG l s.length 0 s
theorem match_All_is (l : List Rect) (hl : l.length < 8796093022208) (s : List Int) (hb : Bytes s) (hs : s.length < 1000000000000) : Ev (fun k => match_All.f k l s) (allB l s) := by
  unfold match_All.f
  have := all_l0 l hl s hb hs s.length 0 [] (by omega) (by omega) (by simp)
  rwa [List.nil_append, List.drop_zero] at this
end Go.Proofs.YtippodpmggcniaaQ
