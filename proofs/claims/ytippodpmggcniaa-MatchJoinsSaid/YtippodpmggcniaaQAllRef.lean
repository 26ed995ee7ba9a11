/- The references of layers 1, 6 and 11, and pieces joined, in plain words (QRef, QMatchRef, QJoin in one text). -/
import Derived.Test.YtippodpmggcniaaQHex
import Derived.Test.YtippodpmggcniaaPAllx21
import Derived.Test.YtippodpmggcniaaPAllx17
import Derived.Test.YtippodpmggcniaaQMatch
import Derived.Test.YtippodpmggcniaaPAllx26
import Derived.Test.YtippodpmggcniaaPAllx25
import Derived.Test.YtippodpmggcniaaPAllx26
import Derived.Test.YtippodpmggcniaaPAllx28
import Derived.Test.YtippodpmggcniaaPAllx27
import Derived.Test.YtippodpmggcniaaPAllx24
set_option linter.unusedVariables false
set_option linter.unusedSimpArgs false
/-! From QRef -/
namespace Go.Proofs.YtippodpmggcniaaQ
open Go.RowKit Go.Proofs.YtippodpmggcniaaW.PrintWords Go.Proofs.YtippodpmggcniaaW.PrintLast Go.Proofs.YtippodpmggcniaaW.PrintMore Go.Proofs.Ytippodpmggcniaa.PAll
theorem ref_val_l0 (l : List Int) (hb : Bytes l) (hl : l.length ≤ 4) : ∀ n i : Nat, i + n = l.length → Ev (fun k => hornbookref01_Val.l0 k l (valN (l.take i)) (i : Int)) ((l.length : Int), valN l, true)
  | 0, i, h => by
    refine Ev.step (fun k => rfl) ?_
    simp only [hornbookref01_Val.l0]
    simp only [if_neg (show ¬ ((i : Int) < (l.length : Int)) by omega)]
    rw [List.take_of_length_le (by omega)]
    exact Ev.now _
  | n + 1, i, h => by
    have hi : i < l.length := by omega
    refine Ev.step (fun k => rfl) ?_
    simp only [hornbookref01_Val.l0]
    simp only [if_pos (show (i : Int) < (l.length : Int) by omega), if_pos (show (0 : Int) ≤ (i : Int) by omega)]
    obtain ⟨h0, h1⟩ := valN_bound i (l.take i) (by rw [List.length_take]; omega) (hb.take i)
    have hx := hb.get hi
    have hp : (256 : Int) ^ i ≤ 16777216 := by
      have hi4 : i = 0 ∨ i = 1 ∨ i = 2 ∨ i = 3 := by omega
      rcases hi4 with h | h | h | h <;> (rw [h]; decide +kernel)
    rw [rd_nat hi, w64 (n := valN (l.take i) * 256) (by omega) (by omega), w64 (n := l[i]) (by omega) (by omega), w64 (n := valN (l.take i) * 256 + l[i]) (by omega) (by omega), w64n (by omega), ← valN_take hi]
    exact ref_val_l0 l hb hl n (i + 1) (by omega)
theorem ref_Val_is (l : List Int) (hb : Bytes l) (h1 : 1 ≤ l.length) (h4 : l.length ≤ 4) : Ev (fun k => hornbookref01_Val.f k l) ((l.length : Int), valN l, true) := by
  unfold hornbookref01_Val.f
  simp only [if_neg (show ¬ ((l.length : Int) < 1) by omega)]
  rw [decide_eq_false (by omega)]
  refine Ev.step (fun k => rfl) ?_
  simp only [hornbookref01_Val.j0]
  simp only [if_neg (show ¬ (false = true) by decide)]
  exact ref_val_l0 l hb h4 l.length 0 (by omega)
theorem ref_Val_not (l : List Int) (h : l.length < 1 ∨ 4 < l.length) : Ev (fun k => hornbookref01_Val.f k l) (0, 0, false) := by
  unfold hornbookref01_Val.f
  by_cases h1 : (l.length : Int) < 1
  · simp only [if_pos h1]
    refine Ev.step (fun k => rfl) ?_
    simp only [hornbookref01_Val.j0, if_true]
    exact Ev.now _
  · simp only [if_neg h1]
    rw [decide_eq_true (by omega)]
    refine Ev.step (fun k => rfl) ?_
    simp only [hornbookref01_Val.j0, if_true]
    exact Ev.now _
theorem ref_full (n : Int) (h1 : 1 ≤ n) (h4 : n ≤ 4) : Ev (fun k => hornbookref01_Full.f k n) (256 ^ n.toNat) := by
  refine ⟨8, fun k hk => ?_⟩
  obtain ⟨k, rfl⟩ : ∃ m, k = m + 8 := ⟨k - 8, by omega⟩
  unfold hornbookref01_Full.f
  have w : ∀ z ∈ ([1, 2, 3, 4, 256, 65536, 16777216, 4294967296] : List Int), wrap64 z = z := by
    intro z hz
    simp at hz
    rcases hz with rfl | rfl | rfl | rfl | rfl | rfl | rfl | rfl <;> exact w64 (by omega) (by omega)
  have w1 := w 1 (by simp)
  have w2 := w 2 (by simp)
  have w3 := w 3 (by simp)
  have w4 := w 4 (by simp)
  have w5 := w 256 (by simp)
  have w6 := w 65536 (by simp)
  have w7 := w 16777216 (by simp)
  have w8 := w 4294967296 (by simp)
  have : n = 1 ∨ n = 2 ∨ n = 3 ∨ n = 4 := by omega
  rcases this with rfl | rfl | rfl | rfl <;> simp [hornbookref01_Full.l0, w1, w2, w3, w4, w5, w6, w7, w8]
theorem ref_Sane1_is (n v : Int) : Ev (fun k => hornbookref01_Sane.f k n v) (saneB n v) := by
  unfold hornbookref01_Sane.f saneB
  by_cases h1 : n ≥ 1
  · simp only [if_pos h1]
    by_cases h2 : n ≤ 4
    · simp only [if_pos h2]
      by_cases h3 : v ≥ 0
      · simp only [if_pos h3]
        refine Ev.bind (ref_full n h1 h2) ?_
        rw [show decide (1 ≤ n ∧ n ≤ 4 ∧ 0 ≤ v ∧ v < 256 ^ n.toNat) = decide (v < 256 ^ n.toNat) by
          rw [decide_eq_decide]
          exact ⟨fun h => h.2.2.2, fun h => ⟨h1, h2, h3, h⟩⟩]
        exact Ev.now _
      · simp only [if_neg h3]
        rw [decide_eq_false (fun h => h3 h.2.2.1)]
        exact Ev.now _
    · simp only [if_neg h2]
      rw [decide_eq_false (fun h => h2 h.2.1)]
      exact Ev.now _
  · simp only [if_neg h1]
    rw [decide_eq_false (fun h => h1 h.1)]
    exact Ev.now _
theorem tm {v : Int} (h : 0 ≤ v) : Int.tmod v 256 = v % 256 := Int.tmod_eq_emod_of_nonneg h
theorem td {v : Int} (h : 0 ≤ v) : Int.tdiv v 256 = v / 256 := Int.tdiv_eq_ediv_of_nonneg h
theorem ref_bytes_l0 (v : Int) (h0 : 0 ≤ v) (hv : v < 4294967296) : ∀ (n : Nat) (xs : List Int), n ≤ xs.length → xs.length ≤ 4 → ∀ (u : Int), 0 ≤ u → u < 4294967296 →
    Ev (fun k => hornbookref01_Bytes.l0 k xs u ((n : Int) - 1)) ((List.range n).map (fun i => u / 256 ^ (n - 1 - i) % 256) ++ xs.drop n)
  | 0, xs, h, hl, u, hu0, hu1 => by
    refine Ev.step (fun k => rfl) ?_
    simp only [hornbookref01_Bytes.l0]
    simp only [if_neg (show ¬ (((0 : Nat) : Int) - 1 ≥ 0) by omega)]
    exact Ev.now _
  | n + 1, xs, h, hl, u, hu0, hu1 => by
    refine Ev.step (fun k => rfl) ?_
    simp only [hornbookref01_Bytes.l0]
    rw [show ((n + 1 : Nat) : Int) - 1 = (n : Int) by omega]
    simp only [if_pos (show (n : Int) ≥ 0 by omega), if_pos (show (n : Int) < (xs.length : Int) by omega), Int.toNat_natCast]
    rw [tm hu0, td hu0, w64 (n := u / 256) (by omega) (by omega), w64 (n := (n : Int) - 1) (by omega) (by omega)]
    have := ref_bytes_l0 v h0 hv n (xs.set n (u % 256 % 256)) (by simp; omega) (by simpa using hl) (u / 256) (by omega) (by omega)
    have e : (List.range n).map (fun i => u / 256 / 256 ^ (n - 1 - i) % 256) ++ (xs.set n (u % 256 % 256)).drop n = (List.range (n + 1)).map (fun i => u / 256 ^ (n + 1 - 1 - i) % 256) ++ xs.drop (n + 1) := by
      have hn : n < xs.length := by omega
      rw [List.range_succ, List.map_append, List.append_assoc]
      congr 1
      · refine List.map_congr_left fun i hi => ?_
        have hi' := List.mem_range.mp hi
        rw [show n + 1 - 1 - i = (n - 1 - i) + 1 by omega, Int.pow_succ, Int.mul_comm, ← Int.ediv_ediv_of_nonneg (by decide)]
      · rw [List.drop_eq_getElem_cons (by simpa using hn), List.getElem_set_self, List.drop_set_of_lt (by omega)]
        simp
    rw [e] at this
    exact this
theorem ref_Bytes_is (n v : Int) : Ev (fun k => hornbookref01_Bytes.f k n v) (bytesB n v) := by
  unfold hornbookref01_Bytes.f bytesB
  refine Ev.bind (ref_Sane1_is n v) ?_
  by_cases h : saneB n v = true
  · simp only [if_pos h]
    have hr := sane_range h
    simp only [if_pos (show 0 ≤ n by omega), if_pos (show n.toNat ≤ 281474976710656 by omega)]
    rw [w64 (n := n - 1) (by omega) (by omega)]
    have := ref_bytes_l0 v (by omega) (by omega) n.toNat (List.replicate n.toNat 0) (by simp) (by simp; omega) v (by omega) (by omega)
    rw [show ((n.toNat : Nat) : Int) = n by omega, List.drop_of_length_le (by simp), List.append_nil] at this
    have e : (List.range n.toNat).map (fun i => v / 256 ^ (n.toNat - 1 - i) % 256) = bytes4 n v := by
      rcases hr with ⟨rfl, _⟩ | ⟨rfl, _⟩ | ⟨rfl, _⟩ | ⟨rfl, _⟩ <;> simp [bytes4, List.range_succ]
    rw [e] at this
    exact this
  · simp only [if_neg h]
    exact Ev.now _
theorem ref_lows (n lo hi : Int) : Ev (fun k => hornbookref06_lows.f k n lo hi) (bytesB n lo) := Ev.bind (ref_Bytes_is n lo) (Ev.now _)
theorem ref_highs (n lo hi : Int) : Ev (fun k => hornbookref06_highs.f k n lo hi) (bytesB n hi) := Ev.bind (ref_Bytes_is n hi) (Ev.now _)
theorem ref_sane_l0 (a b : List Int) (hab : a.length = b.length) (hl : a.length ≤ 4) : ∀ n i : Nat, i + n = a.length → Ev (fun k => hornbookref06_Sane.l0 k a b (i : Int)) (leAll (a.drop i) (b.drop i))
  | 0, i, h => by
    refine Ev.step (fun k => rfl) ?_
    simp only [hornbookref06_Sane.l0]
    simp only [if_neg (show ¬ ((i : Int) < (a.length : Int)) by omega)]
    rw [List.drop_of_length_le (by omega)]
    exact Ev.now _
  | n + 1, i, h => by
    have hi : i < a.length := by omega
    have hi' : i < b.length := by omega
    refine Ev.step (fun k => rfl) ?_
    simp only [hornbookref06_Sane.l0]
    simp only [if_pos (show (i : Int) < (a.length : Int) by omega), if_pos (show (i : Int) < (b.length : Int) by omega), if_pos (show (0 : Int) ≤ (i : Int) by omega)]
    rw [rd_nat hi, rd_nat hi', List.drop_eq_getElem_cons hi, List.drop_eq_getElem_cons hi', leAll]
    by_cases hc : a[i] > b[i]
    · simp only [if_pos hc]
      rw [decide_eq_false (show ¬ a[i] ≤ b[i] by omega), Bool.false_and]
      exact Ev.now _
    · simp only [if_neg hc]
      rw [decide_eq_true (show a[i] ≤ b[i] by omega), Bool.true_and, w64n (by omega)]
      exact ref_sane_l0 a b hab hl n (i + 1) (by omega)
theorem ref_Sane_is (n lo hi : Int) : Ev (fun k => hornbookref06_Sane.f k n lo hi) (rectB n lo hi) := by
  unfold hornbookref06_Sane.f rectB
  refine Ev.bind (ref_lows n lo hi) ?_
  refine Ev.bind (ref_highs n lo hi) ?_
  unfold bytesB
  by_cases h1 : saneB n lo = true
  · have l1 := bytes4_len h1
    have r1 := sane_range h1
    rw [if_pos h1, h1, Bool.true_and]
    simp only [if_neg (show ¬ (((bytes4 n lo).length : Int) = 0) by omega)]
    by_cases h2 : saneB n hi = true
    · have l2 := bytes4_len h2
      rw [if_pos h2, h2, Bool.true_and]
      rw [beq_eq_false_iff_ne.mpr (show ((bytes4 n hi).length : Int) ≠ 0 by omega)]
      refine Ev.step (fun k => rfl) ?_
      simp only [hornbookref06_Sane.j0]
      simp only [if_neg (show ¬ (false = true) by decide)]
      exact ref_sane_l0 (bytes4 n lo) (bytes4 n hi) (by omega) (by omega) _ 0 (Nat.zero_add _)
    · rw [if_neg h2, Bool.eq_false_iff.mpr h2, Bool.false_and]
      refine Ev.step (fun k => rfl) ?_
      simp only [hornbookref06_Sane.j0]
      exact Ev.now _
  · rw [if_neg h1, Bool.eq_false_iff.mpr h1, Bool.false_and, Bool.false_and]
    refine Ev.step (fun k => rfl) ?_
    simp only [hornbookref06_Sane.j0]
    exact Ev.now _
theorem ref_fits_l0 (b a c : List Int) (N L H : Int) (hN : (a.length : Int) = N) (h2 : a.length = c.length) (hl : a.length ≤ 4) : ∀ n i : Nat, i + n = a.length → i ≤ b.length →
    Ev (fun k => hornbookref06_Fits.l0 k b a c (i : Int) N L H) ((i : Int) + (fitN (b.drop i) (a.drop i) (c.drop i) : Int))
  | 0, i, h, hib => by
    refine Ev.step (fun k => rfl) ?_
    simp only [hornbookref06_Fits.l0]
    simp only [if_neg (show ¬ ((i : Int) < N) by omega)]
    rw [List.drop_of_length_le (show a.length ≤ i by omega)]
    have e : fitN (b.drop i) [] (c.drop i) = 0 := by cases b.drop i <;> rfl
    rw [e, show (i : Int) + ((0 : Nat) : Int) = (i : Int) by omega]
    by_cases hb : (i : Int) < (b.length : Int)
    · simp only [if_pos hb]
      exact Ev.now _
    · simp only [if_neg hb]
      exact Ev.now _
  | n + 1, i, h, hib => by
    have hi' : i < a.length := by omega
    have hi2 : i < c.length := by omega
    refine Ev.step (fun k => rfl) ?_
    simp only [hornbookref06_Fits.l0]
    by_cases hb : i < b.length
    · simp only [if_pos (show (i : Int) < (b.length : Int) by omega), if_pos (show (i : Int) < N by omega), if_pos (show (i : Int) < (a.length : Int) by omega), if_pos (show (i : Int) < (c.length : Int) by omega), if_pos (show (0 : Int) ≤ (i : Int) by omega)]
      rw [rd_nat hb, rd_nat hi', rd_nat hi2, List.drop_eq_getElem_cons hb, List.drop_eq_getElem_cons hi', List.drop_eq_getElem_cons hi2, fitN]
      by_cases hc : b[i] ≥ a[i]
      · simp only [if_pos hc]
        by_cases hd : b[i] ≤ c[i]
        · simp only [if_pos hd]
          rw [if_pos (show a[i] ≤ b[i] ∧ b[i] ≤ c[i] from ⟨hc, hd⟩), w64n (by omega)]
          have := ref_fits_l0 b a c N L H hN h2 hl n (i + 1) (by omega) (by omega)
          rw [show (i : Int) + ((fitN (b.drop (i + 1)) (a.drop (i + 1)) (c.drop (i + 1)) + 1 : Nat) : Int) = ((i + 1 : Nat) : Int) + (fitN (b.drop (i + 1)) (a.drop (i + 1)) (c.drop (i + 1)) : Int) by omega]
          exact this
        · simp only [if_neg hd]
          rw [if_neg (show ¬ (a[i] ≤ b[i] ∧ b[i] ≤ c[i]) from fun h => hd h.2), show (i : Int) + ((0 : Nat) : Int) = (i : Int) by omega]
          exact Ev.now _
      · simp only [if_neg hc]
        rw [if_neg (show ¬ (a[i] ≤ b[i] ∧ b[i] ≤ c[i]) from fun h => hc h.1), show (i : Int) + ((0 : Nat) : Int) = (i : Int) by omega]
        exact Ev.now _
    · simp only [if_neg (show ¬ ((i : Int) < (b.length : Int)) by omega)]
      rw [List.drop_of_length_le (show b.length ≤ i by omega)]
      simp only [fitN]
      rw [show (i : Int) + ((0 : Nat) : Int) = (i : Int) by omega]
      exact Ev.now _
theorem ref_Fits_is (n lo hi : Int) (b : List Int) : Ev (fun k => hornbookref06_Fits.f k n lo hi b) ((fitsB n lo hi b : Nat) : Int) := by
  unfold hornbookref06_Fits.f fitsB
  refine Ev.bind (ref_Sane_is n lo hi) ?_
  by_cases h : rectB n lo hi = true
  · have h' := h
    unfold rectB at h'
    rw [Bool.and_eq_true, Bool.and_eq_true] at h'
    have l1 := bytes4_len h'.1.1
    have l2 := bytes4_len h'.1.2
    have r1 := sane_range h'.1.1
    simp only [if_pos h]
    refine Ev.bind (ref_lows n lo hi) ?_
    refine Ev.bind (ref_highs n lo hi) ?_
    unfold bytesB
    rw [if_pos h'.1.1, if_pos h'.1.2]
    have := ref_fits_l0 b (bytes4 n lo) (bytes4 n hi) n lo hi l1 (by omega) (by omega) _ 0 (Nat.zero_add _) (by omega)
    rw [List.drop_zero, List.drop_zero, List.drop_zero] at this
    simpa using this
  · simp only [if_neg h]
    exact Ev.now _
theorem ref_In_is (n lo hi cn cv : Int) : Ev (fun k => hornbookref06_In.f k n lo hi cn cv) (inB n lo hi cn cv) := by
  unfold hornbookref06_In.f inB
  refine Ev.bind (ref_Sane_is n lo hi) ?_
  by_cases h : rectB n lo hi = true
  · rw [h, Bool.true_and]
    simp only [if_true]
    refine Ev.bind (ref_Sane1_is cn cv) ?_
    by_cases h2 : saneB cn cv = true
    · rw [h2, Bool.true_and]
      simp only [if_true]
      by_cases h3 : cn = n
      · simp only [if_pos h3]
        rw [decide_eq_true h3, Bool.true_and]
        refine Ev.bind (ref_Bytes_is cn cv) ?_
        refine Ev.bind (ref_Fits_is n lo hi _) ?_
        unfold bytesB fitsB
        rw [if_pos h2, if_pos h]
        exact Ev.now _
      · simp only [if_neg h3]
        rw [decide_eq_false h3, Bool.false_and]
        exact Ev.now _
    · rw [Bool.eq_false_iff.mpr h2, Bool.false_and, Bool.false_and]
      simp only [if_neg (show ¬ (false = true) by decide)]
      exact Ev.now _
  · rw [Bool.eq_false_iff.mpr h, Bool.false_and, Bool.false_and, Bool.false_and]
    simp only [if_neg (show ¬ (false = true) by decide)]
    exact Ev.now _
end Go.Proofs.YtippodpmggcniaaQ

/-! From QMatchRef -/
namespace Go.Proofs.YtippodpmggcniaaQ
open Go.RowKit Go.Proofs.YtippodpmggcniaaW.PrintWords Go.Proofs.YtippodpmggcniaaW.PrintLast Go.Proofs.YtippodpmggcniaaW.PrintMore Go.Proofs.Ytippodpmggcniaa.PAll
abbrev RPiece := S49
theorem rdR_nat {l : List RPiece} {i : Nat} (h : i < l.length) : rd_T49 l (i : Int) = l[i] := by unfold rd_T49; simp [List.getD, h]
theorem ref_in_l0 (l : List Rect) (hl : l.length < 9223372036854775807) (c v : Int) : ∀ n i : Nat, i + n = l.length → Ev (fun k => hornbookref11_in.l0 k l true (i : Int) c v) (inAny (l.drop i) c v)
  | 0, i, h => by
    refine Ev.step (fun k => rfl) ?_
    simp only [hornbookref11_in.l0]
    simp only [if_neg (show ¬ ((i : Int) < (l.length : Int)) by omega)]
    refine Ev.step (fun k => rfl) ?_
    simp only [hornbookref11_in.j1]
    rw [List.drop_of_length_le (by omega)]
    exact Ev.now _
  | n + 1, i, h => by
    have hi : i < l.length := by omega
    refine Ev.step (fun k => rfl) ?_
    simp only [hornbookref11_in.l0]
    simp only [if_pos (show (i : Int) < (l.length : Int) by omega)]
    refine Ev.step (fun k => rfl) ?_
    simp only [hornbookref11_in.j1]
    simp only [if_pos (show (i : Int) < (l.length : Int) by omega), if_pos (show (0 : Int) ≤ (i : Int) by omega), if_true]
    rw [rdT_nat hi, List.drop_eq_getElem_cons hi]
    unfold inAny
    rw [List.any_cons]
    refine Ev.bind (ref_In_is _ _ _ c v) ?_
    by_cases hb : inB (l[i]).f0 (l[i]).f1 (l[i]).f2 c v = true
    · simp only [if_pos hb]
      rw [hb, Bool.true_or]
      exact Ev.now _
    · simp only [if_neg hb]
      rw [Bool.eq_false_iff.mpr hb, Bool.false_or, w64n (by omega)]
      exact ref_in_l0 l hl c v n (i + 1) (by omega)
theorem ref_in_no (l : List Rect) (i c v : Int) : Ev (fun k => hornbookref11_in.l0 k l false i c v) false := by
  refine Ev.step (fun k => rfl) ?_
  simp only [hornbookref11_in.l0]
  by_cases h : i < (l.length : Int)
  · simp only [if_pos h]
    refine Ev.step (fun k => rfl) ?_
    simp only [hornbookref11_in.j1, if_neg (show ¬ (false = true) by decide)]
    exact Ev.now _
  · simp only [if_neg h]
    refine Ev.step (fun k => rfl) ?_
    simp only [hornbookref11_in.j1, if_neg (show ¬ (false = true) by decide)]
    exact Ev.now _
theorem ref_in_is (l : List Rect) (hl : l.length < 9223372036854775807) (b : List Int) (hb : Bytes b) : Ev (fun k => hornbookref11_in.f k l b) (fullB l b) := by
  unfold hornbookref11_in.f fullB
  by_cases h : 1 ≤ b.length ∧ b.length ≤ 4
  · refine Ev.bind (ref_Val_is b hb h.1 h.2) ?_
    rw [decide_eq_true h, Bool.true_and]
    exact ref_in_l0 l hl _ _ l.length 0 (by omega)
  · refine Ev.bind (ref_Val_not b (by omega)) ?_
    rw [decide_eq_false h, Bool.false_and]
    exact ref_in_no l 0 0 0
theorem ref_next_l1 (l : List Rect) (hl : l.length < 9223372036854775807) (b : List Int) : ∀ (n i : Nat) (m0 m1 : Int), i + n = l.length →
    Ev (fun k => hornbookref11_Next.l1 k l b m0 m1 (i : Int)) (mn (pick m0 m1 (fitsOf (l.drop i) b)).2 (b.length : Int), false)
  | 0, i, m0, m1, h => by
    refine Ev.step (fun k => rfl) ?_
    simp only [hornbookref11_Next.l1]
    simp only [if_neg (show ¬ ((i : Int) < (l.length : Int)) by omega)]
    rw [List.drop_of_length_le (by omega)]
    exact Ev.now _
  | n + 1, i, m0, m1, h => by
    have hi : i < l.length := by omega
    refine Ev.step (fun k => rfl) ?_
    simp only [hornbookref11_Next.l1]
    simp only [if_pos (show (i : Int) < (l.length : Int) by omega), if_pos (show (0 : Int) ≤ (i : Int) by omega)]
    rw [rdT_nat hi, List.drop_eq_getElem_cons hi]
    refine Ev.bind (ref_Sane_is _ _ _) ?_
    rw [w64n (by omega)]
    by_cases hs : rectB (l[i]).f0 (l[i]).f1 (l[i]).f2 = true
    · simp only [if_pos hs]
      refine Ev.bind (ref_Fits_is _ _ _ b) ?_
      rw [fitsOf_pos hs, pick]
      by_cases h1 : ((fitsB (l[i]).f0 (l[i]).f1 (l[i]).f2 b : Nat) : Int) > m0
      · simp only [if_pos h1]
        rw [if_pos (show betterB _ _ _ _ from .inl h1)]
        exact ref_next_l1 l hl b n (i + 1) _ _ (by omega)
      · simp only [if_neg h1]
        by_cases h2 : ((fitsB (l[i]).f0 (l[i]).f1 (l[i]).f2 b : Nat) : Int) = m0
        · simp only [if_pos h2]
          by_cases h3 : (l[i]).f0 < m1
          · simp only [if_pos h3]
            rw [if_pos (show betterB _ _ _ _ from .inr ⟨h2.symm, h3⟩)]
            exact ref_next_l1 l hl b n (i + 1) _ _ (by omega)
          · simp only [if_neg h3]
            rw [if_neg (show ¬ betterB _ _ _ _ from fun h => h.elim h1 (fun h => h3 h.2))]
            exact ref_next_l1 l hl b n (i + 1) _ _ (by omega)
        · simp only [if_neg h2]
          rw [if_neg (show ¬ betterB _ _ _ _ from fun h => h.elim h1 (fun h => h2 h.1.symm))]
          exact ref_next_l1 l hl b n (i + 1) _ _ (by omega)
    · simp only [if_neg hs]
      rw [fitsOf_neg hs]
      exact ref_next_l1 l hl b n (i + 1) m0 m1 (by omega)
theorem pick_start (l : List Rect) (b : List Int) : (pick (-1) 1 (fitsOf l b)).2 = (bestP (fitsOf l b)).2 := by
  have hm : ∀ x ∈ fitsOf l b, 0 ≤ x.f0 := by
    intro x hx
    obtain ⟨r, _, rfl⟩ := List.mem_map.mp hx
    show (0 : Int) ≤ ((fitsB r.f0 r.f1 r.f2 b : Nat) : Int)
    omega
  cases h : fitsOf l b with
  | nil => rfl
  | cons x t =>
    have := hm x (by rw [h]; simp)
    rw [pick, if_pos (show betterB _ _ _ _ from .inl (by omega)), show bestP (x :: t) = pick x.f0 x.f1 t from rfl]
theorem ref_next_l0 (l : List Rect) (hl : l.length < 9223372036854775807) (b : List Int) (hb : Bytes b) (hbl : b.length < 9223372036854775807) : ∀ (m n : Nat), 1 ≤ n → n + m = 6 →
    Ev (fun k => hornbookref11_Next.l0 k l b (n : Int)) (match firstN l b m n with
      | some n => ((n : Nat), true)
      | none => (mn (bestP (fitsOf l b)).2 (b.length : Int), false)) := by
  have hend : ∀ x : Int, Ev (fun k => hornbookref11_Next.j1 k l b x false) (mn (bestP (fitsOf l b)).2 (b.length : Int), false) := by
    intro x
    refine Ev.step (fun k => rfl) ?_
    simp only [hornbookref11_Next.j1, if_neg (show ¬ (false = true) by decide)]
    rw [← pick_start]
    exact ref_next_l1 l hl b l.length 0 (-1) 1 (by omega)
  intro m
  induction m with
  | zero =>
    intro n h1 h
    obtain rfl : n = 6 := by omega
    refine Ev.step (fun k => rfl) ?_
    simp only [hornbookref11_Next.l0]
    simp only [if_neg (show ¬ (((6 : Nat) : Int) ≤ 4) by omega)]
    exact hend _
  | succ m ih =>
    intro n h1 h
    refine Ev.step (fun k => rfl) ?_
    simp only [hornbookref11_Next.l0]
    unfold firstN
    by_cases h4 : n ≤ 4
    · simp only [if_pos (show (n : Int) ≤ 4 by omega)]
      by_cases hn : n ≤ b.length
      · rw [decide_eq_true (show (n : Int) ≤ (b.length : Int) by omega), if_pos (show n ≤ 4 ∧ n ≤ b.length from ⟨h4, hn⟩)]
        refine Ev.step (fun k => rfl) ?_
        simp only [hornbookref11_Next.j1, if_true, if_pos (show (0 : Int) ≤ (n : Int) by omega), if_pos (show (n : Int) ≤ (b.length : Int) by omega), Int.toNat_natCast]
        refine Ev.bind (ref_in_is l hl (b.take n) (hb.take n)) ?_
        by_cases hf : fullB l (b.take n) = true
        · simp only [if_pos hf]
          exact Ev.now _
        · simp only [if_neg hf]
          rw [w64n (by omega)]
          exact ih (n + 1) (by omega) (by omega)
      · rw [decide_eq_false (show ¬ ((n : Int) ≤ (b.length : Int)) by omega), if_neg (show ¬ (n ≤ 4 ∧ n ≤ b.length) from fun h => hn h.2)]
        exact hend _
    · simp only [if_neg (show ¬ ((n : Int) ≤ 4) by omega)]
      rw [if_neg (show ¬ (n ≤ 4 ∧ n ≤ b.length) from fun h => h4 h.1)]
      exact hend _
theorem ref_Next_is (l : List Rect) (hl : l.length < 9223372036854775807) (b : List Int) (hb : Bytes b) (hbl : b.length < 9223372036854775807) : Ev (fun k => hornbookref11_Next.f k l b) (nextB l b) := by
  unfold hornbookref11_Next.f
  exact ref_next_l0 l hl b hb hbl 5 1 (by omega) (by omega)
/-- A piece, as the reference has it; and back. -/
def conv (p : Piece) : RPiece := ⟨p.f0, p.f1, p.f2, p.f3⟩
def vnoc (p : RPiece) : Piece := ⟨p.f0, p.f1, p.f2, p.f3⟩
theorem ref_all_l0 (l : List Rect) (hl : l.length < 8796093022208) (s : List Int) (hb : Bytes s) (hs : s.length < 1000000000000) : ∀ (m i : Nat) (acc : List RPiece), s.length ≤ i + m → i ≤ s.length → acc.length ≤ i →
    Ev (fun k => hornbookref11_All.l0 k l s acc (i : Int)) (acc ++ (allG l m (i : Int) (s.drop i)).map conv)
  | 0, i, acc, h, hi, ha => by
    refine Ev.step (fun k => rfl) ?_
    simp only [hornbookref11_All.l0]
    simp only [if_neg (show ¬ ((i : Int) < (s.length : Int)) by omega)]
    rw [show acc ++ (allG l 0 (i : Int) (s.drop i)).map conv = acc by simp [allG]]
    exact Ev.now _
  | m + 1, i, acc, h, hi, ha => by
    refine Ev.step (fun k => rfl) ?_
    simp only [hornbookref11_All.l0]
    unfold allG
    rw [List.length_drop]
    by_cases hlt : i < s.length
    · simp only [if_pos (show (i : Int) < (s.length : Int) by omega), if_pos (show (0 : Int) ≤ (i : Int) by omega), if_pos (show (i : Int) ≤ (s.length : Int) by omega), Int.toNat_natCast]
      rw [if_neg (show ¬ (s.length - i = 0) by omega)]
      refine Ev.bind (ref_Next_is l (by omega) (s.drop i) (hb.drop i) (by rw [List.length_drop]; omega)) ?_
      obtain ⟨j, hj, hj4, hjl, hj1, hjt, hjf⟩ := nextB_spec l (s.drop i)
      rw [List.length_drop] at hjl hj1
      have hj1 := hj1 (by omega)
      rw [hj, Int.toNat_natCast]
      rw [w64 (n := (i : Int) + (j : Int)) (by omega) (by omega), show (i : Int) + (j : Int) = ((i + j : Nat) : Int) by omega, Int.toNat_natCast]
      by_cases hf : (nextB l (s.drop i)).2 = true
      · simp only [if_pos hf, if_pos (show (i : Int) ≤ ((i + j : Nat) : Int) by omega), if_pos (show ((i + j : Nat) : Int) ≤ (s.length : Int) by omega)]
        rw [show (s.take (i + j)).drop i = (s.drop i).take j by rw [List.drop_take, Nat.add_sub_cancel_left]]
        have hlen : ((s.drop i).take j).length = j := by rw [List.length_take, List.length_drop]; omega
        refine Ev.bind (ref_Val_is _ ((hb.drop i).take j) (by omega) (by omega)) ?_
        simp only [if_pos (show acc.length < 3518437208883 by omega)]
        rw [hlen]
        have := ref_all_l0 l hl s hb hs m (i + j) (acc ++ [⟨(i : Int), (j : Int), (nextB l (s.drop i)).2, ⟨(j : Int), valN ((s.drop i).take j)⟩⟩]) (by omega) (by omega) (by simp; omega)
        rw [List.append_assoc] at this
        rw [List.drop_drop, List.map_cons]
        exact this
      · simp only [if_neg hf, if_pos (show acc.length < 3518437208883 by omega)]
        have := ref_all_l0 l hl s hb hs m (i + j) (acc ++ [⟨(i : Int), (j : Int), (nextB l (s.drop i)).2, ⟨0, 0⟩⟩]) (by omega) (by omega) (by simp; omega)
        rw [List.append_assoc] at this
        rw [List.drop_drop, List.map_cons]
        exact this
    · simp only [if_neg (show ¬ ((i : Int) < (s.length : Int)) by omega)]
      rw [if_pos (show s.length - i = 0 by omega), List.map_nil, List.append_nil]
      exact Ev.now _
theorem ref_All_is (l : List Rect) (hl : l.length < 8796093022208) (s : List Int) (hb : Bytes s) (hs : s.length < 1000000000000) : Ev (fun k => hornbookref11_All.f k l s) ((allB l s).map conv) := by
  unfold hornbookref11_All.f
  have := ref_all_l0 l hl s hb hs s.length 0 [] (by omega) (by omega) (by simp)
  rwa [List.nil_append, List.drop_zero] at this
theorem cut_l0 (ps : List Piece) (hl : ps.length < 3518437208883) : ∀ (n i : Nat) (acc : List RPiece), i + n = ps.length → acc.length = i → Ev (fun k => hornbooklaw11_cut.l0 k ps acc (i : Int)) (acc ++ (ps.drop i).map conv)
  | 0, i, acc, h, ha => by
    refine Ev.step (fun k => rfl) ?_
    simp only [hornbooklaw11_cut.l0]
    simp only [if_neg (show ¬ ((i : Int) < (ps.length : Int)) by omega)]
    rw [List.drop_of_length_le (by omega), List.map_nil, List.append_nil]
    exact Ev.now _
  | n + 1, i, acc, h, ha => by
    have hi : i < ps.length := by omega
    refine Ev.step (fun k => rfl) ?_
    simp only [hornbooklaw11_cut.l0]
    simp only [if_pos (show (i : Int) < (ps.length : Int) by omega), if_pos (show (0 : Int) ≤ (i : Int) by omega), if_pos (show acc.length < 3518437208883 by omega)]
    rw [rdP_nat hi, w64n (by omega), List.drop_eq_getElem_cons hi, List.map_cons]
    have := cut_l0 ps hl n (i + 1) (acc ++ [conv ps[i]]) (by omega) (by simp; omega)
    rw [List.append_assoc] at this
    exact this
theorem cut_is (ps : List Piece) (hl : ps.length < 3518437208883) : Ev (fun k => hornbooklaw11_cut.f k ps) (ps.map conv) := by
  unfold hornbooklaw11_cut.f
  exact cut_l0 ps hl ps.length 0 [] (by omega) rfl
end Go.Proofs.YtippodpmggcniaaQ

/-! From QJoin -/
namespace Go.Proofs.YtippodpmggcniaaQ
open Go.RowKit Go.Proofs.YtippodpmggcniaaW.PrintWords Go.Proofs.YtippodpmggcniaaW.PrintLast Go.Proofs.YtippodpmggcniaaW.PrintMore Go.Proofs.Ytippodpmggcniaa.PAll
/-- The bytes of a text that a piece tells. -/
def seg (s : List Int) (a n : Int) : List Int := (s.drop (mn (mx 0 a) s.length).toNat).take (mn (mx 0 n) (s.drop (mn (mx 0 a) s.length).toNat).length).toNat
theorem seg_len (s : List Int) (a n : Int) : (seg s a n).length ≤ s.length := by
  unfold seg
  rw [List.length_take, List.length_drop]
  omega
theorem cutAt_range (a : Int) (n : Nat) : 0 ≤ mn (mx 0 a) (n : Int) ∧ mn (mx 0 a) (n : Int) ≤ n := by
  unfold mn mx
  split <;> split <;> omega
def joinB (ps : List Piece) (s : List Int) : List Int := ps.flatMap fun p => seg s p.f0 p.f1
theorem join_l0 (s : List Int) (hs : s.length ≤ 300) (ps : List Piece) (hp : ps.length ≤ 300) : ∀ (n i : Nat) (acc : List Int), i + n = ps.length → acc.length ≤ i * 300 →
    Ev (fun k => match_Join.l0 k s acc ps (ps.length : Int) (i : Int)) (acc ++ joinB (ps.drop i) s)
  | 0, i, acc, h, ha => by
    refine Ev.step (fun k => rfl) ?_
    simp only [match_Join.l0]
    simp only [if_neg (show ¬ ((i : Int) < (ps.length : Int)) by omega)]
    rw [List.drop_of_length_le (by omega)]
    simp only [joinB, List.flatMap_nil, List.append_nil]
    exact Ev.now _
  | n + 1, i, acc, h, ha => by
    have hi : i < ps.length := by omega
    refine Ev.step (fun k => rfl) ?_
    simp only [match_Join.l0]
    simp only [if_pos (show (i : Int) < (ps.length : Int) by omega), if_pos (show (0 : Int) ≤ (i : Int) by omega)]
    rw [rdP_nat hi]
    obtain ⟨h1, h2⟩ := cutAt_range (ps[i]).f0 s.length
    simp only [if_pos h1, if_pos h2, Option.bind_some]
    obtain ⟨h3, h4⟩ := cutAt_range (ps[i]).f1 (s.drop (mn (mx 0 (ps[i]).f0) s.length).toNat).length
    simp only [if_pos h3, if_pos h4]
    have hl := seg_len s (ps[i]).f0 (ps[i]).f1
    have hl' : ((s.drop (mn (mx 0 (ps[i]).f0) s.length).toNat).take (mn (mx 0 (ps[i]).f1) (s.drop (mn (mx 0 (ps[i]).f0) s.length).toNat).length).toNat).length ≤ s.length := hl
    simp only [if_pos (show acc.length + ((s.drop (mn (mx 0 (ps[i]).f0) s.length).toNat).take (mn (mx 0 (ps[i]).f1) (s.drop (mn (mx 0 (ps[i]).f0) s.length).toNat).length).toNat).length < 140737488355328 by omega)]
    rw [w64n (by omega), List.drop_eq_getElem_cons hi]
    have := join_l0 s hs ps hp n (i + 1) (acc ++ seg s (ps[i]).f0 (ps[i]).f1) (by omega) (by rw [List.length_append]; omega)
    rw [List.append_assoc] at this
    exact this
theorem match_Join_is (s : List Int) (hs : s.length ≤ 300) (ps : List Piece) (hp : ps.length ≤ 300) : Ev (fun k => match_Join.f k ps s) (joinB ps s) := by
  unfold match_Join.f
  exact join_l0 s hs ps hp ps.length 0 [] (by omega) (by simp)
theorem ref_join_l0 (s : List Int) (hs : s.length ≤ 300) (ps : List RPiece) (hp : ps.length ≤ 300) : ∀ (n i : Nat) (acc : List Int), i + n = ps.length → acc.length ≤ i * 300 →
    Ev (fun k => hornbookref11_Join.l0 k ps s acc (i : Int)) (acc ++ joinB ((ps.drop i).map vnoc) s)
  | 0, i, acc, h, ha => by
    refine Ev.step (fun k => rfl) ?_
    simp only [hornbookref11_Join.l0]
    simp only [if_neg (show ¬ ((i : Int) < (ps.length : Int)) by omega)]
    rw [List.drop_of_length_le (by omega)]
    simp only [joinB, List.map_nil, List.flatMap_nil, List.append_nil]
    exact Ev.now _
  | n + 1, i, acc, h, ha => by
    have hi : i < ps.length := by omega
    refine Ev.step (fun k => rfl) ?_
    simp only [hornbookref11_Join.l0]
    simp only [if_pos (show (i : Int) < (ps.length : Int) by omega), if_pos (show (0 : Int) ≤ (i : Int) by omega)]
    rw [rdR_nat hi]
    obtain ⟨h1, h2⟩ := cutAt_range (ps[i]).f0 s.length
    have hl : (s.drop (mn (mx 0 (ps[i]).f0) s.length).toNat).length = s.length - (mn (mx 0 (ps[i]).f0) s.length).toNat := List.length_drop
    have e0 : seg s (ps[i]).f0 (ps[i]).f1 = (s.drop (mn (mx 0 (ps[i]).f0) s.length).toNat).take (mn (mx 0 (ps[i]).f1) (s.drop (mn (mx 0 (ps[i]).f0) s.length).toNat).length).toNat := rfl
    generalize hA : mn (mx 0 (ps[i]).f0) (s.length : Int) = A at *
    obtain ⟨a, rfl⟩ := Int.eq_ofNat_of_zero_le h1
    rw [w64 (n := (s.length : Int) - (a : Int)) (by omega) (by omega)]
    rw [Int.toNat_natCast] at hl e0
    have e1 : (s.length : Int) - (a : Int) = (((s.drop a).length : Nat) : Int) := by omega
    rw [e1]
    obtain ⟨h3, h4⟩ := cutAt_range (ps[i]).f1 (s.drop a).length
    generalize hB : mn (mx 0 (ps[i]).f1) ((s.drop a).length : Int) = B at *
    obtain ⟨b, rfl⟩ := Int.eq_ofNat_of_zero_le h3
    rw [w64 (n := (a : Int) + (b : Int)) (by omega) (by omega), show (a : Int) + (b : Int) = ((a + b : Nat) : Int) by omega]
    simp only [if_pos h1, if_pos (show (a : Int) ≤ ((a + b : Nat) : Int) by omega), if_pos (show ((a + b : Nat) : Int) ≤ (s.length : Int) by omega), Int.toNat_natCast]
    rw [Int.toNat_natCast] at e0
    rw [show (s.take (a + b)).drop a = (s.drop a).take b by rw [List.drop_take, Nat.add_sub_cancel_left]]
    simp only [if_pos (show acc.length + ((s.drop a).take b).length < 140737488355328 by rw [List.length_take]; omega)]
    rw [w64n (by omega), List.drop_eq_getElem_cons hi, ← e0]
    have hsl := seg_len s (ps[i]).f0 (ps[i]).f1
    have := ref_join_l0 s hs ps hp n (i + 1) (acc ++ seg s (ps[i]).f0 (ps[i]).f1) (by omega) (by rw [List.length_append]; omega)
    rw [List.append_assoc] at this
    exact this
theorem ref_Join_is (s : List Int) (hs : s.length ≤ 300) (ps : List RPiece) (hp : ps.length ≤ 300) : Ev (fun k => hornbookref11_Join.f k ps s) (joinB (ps.map vnoc) s) := by
  unfold hornbookref11_Join.f
  exact ref_join_l0 s hs ps hp ps.length 0 [] (by omega) (by simp)
theorem pieces_l0 (ps : List RPiece) (hl : ps.length < 3518437208883) : ∀ (n i : Nat) (acc : List Piece), i + n = ps.length → acc.length = i → Ev (fun k => hornbooklaw11_pieces.l0 k ps acc (i : Int)) (acc ++ (ps.drop i).map vnoc)
  | 0, i, acc, h, ha => by
    refine Ev.step (fun k => rfl) ?_
    simp only [hornbooklaw11_pieces.l0]
    simp only [if_neg (show ¬ ((i : Int) < (ps.length : Int)) by omega)]
    rw [List.drop_of_length_le (by omega), List.map_nil, List.append_nil]
    exact Ev.now _
  | n + 1, i, acc, h, ha => by
    have hi : i < ps.length := by omega
    refine Ev.step (fun k => rfl) ?_
    simp only [hornbooklaw11_pieces.l0]
    simp only [if_pos (show (i : Int) < (ps.length : Int) by omega), if_pos (show (0 : Int) ≤ (i : Int) by omega), if_pos (show acc.length < 3518437208883 by omega)]
    rw [rdR_nat hi, w64n (by omega), List.drop_eq_getElem_cons hi, List.map_cons]
    have := pieces_l0 ps hl n (i + 1) (acc ++ [vnoc ps[i]]) (by omega) (by simp; omega)
    rw [List.append_assoc] at this
    exact this
theorem pieces_is (ps : List RPiece) (hl : ps.length < 3518437208883) : Ev (fun k => hornbooklaw11_pieces.f k ps) (ps.map vnoc) := by
  unfold hornbooklaw11_pieces.f
  exact pieces_l0 ps hl ps.length 0 [] (by omega) rfl
theorem same_l0 (ps : List RPiece) (hl : ps.length < 9223372036854775807) : ∀ n i : Nat, i + n = ps.length → Ev (fun k => hornbookref11_Same.l0 k ps ps (i : Int)) true
  | 0, i, h => by
    refine Ev.step (fun k => rfl) ?_
    simp only [hornbookref11_Same.l0]
    simp only [if_neg (show ¬ ((i : Int) < (ps.length : Int)) by omega)]
    exact Ev.now _
  | n + 1, i, h => by
    have hi : i < ps.length := by omega
    refine Ev.step (fun k => rfl) ?_
    simp only [hornbookref11_Same.l0]
    simp only [if_pos (show (i : Int) < (ps.length : Int) by omega), if_pos (show (0 : Int) ≤ (i : Int) by omega)]
    simp only [beq_self_eq_true, Bool.not_true, Bool.or_self, if_neg (show ¬ (false = true) by decide)]
    rw [w64n (by omega)]
    exact same_l0 ps hl n (i + 1) (by omega)
theorem same_is (ps : List RPiece) (hl : ps.length < 9223372036854775807) : Ev (fun k => hornbookref11_Same.f k ps ps) true := by
  unfold hornbookref11_Same.f
  simp only [if_true]
  exact same_l0 ps hl ps.length 0 (by omega)
theorem allG_le (l : List Rect) : ∀ (m : Nat) (p : Int) (s : List Int), (allG l m p s).length ≤ m
  | 0, _, _ => by simp [allG]
  | m + 1, p, s => by
    unfold allG
    split
    · simp
    · rw [List.length_cons]
      have := allG_le l m (p + (nextB l s).1) (s.drop (nextB l s).1.toNat)
      omega
end Go.Proofs.YtippodpmggcniaaQ

