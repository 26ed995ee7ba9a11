/- What the functions of layers 1 and 6 answer, in plain words: hex.Sane, Bytes, Val; rect.Sane, Fits, In. -/
import Derived.Test.YtippodpmggcniaaQBase
import Derived.Test.YtippodpmggcniaaPAllx4
import Derived.Test.YtippodpmggcniaaPAllx7
import Derived.Test.YtippodpmggcniaaPAllx6
namespace Go.Proofs.YtippodpmggcniaaQ
open Go.RowKit Go.Proofs.YtippodpmggcniaaW.PrintWords Go.Proofs.YtippodpmggcniaaW.PrintLast Go.Proofs.YtippodpmggcniaaW.PrintMore Go.Proofs.Ytippodpmggcniaa.PAll
/-- May a code of n bytes be v? -/
def saneB (n v : Int) : Bool := decide (1 ≤ n ∧ n ≤ 4 ∧ 0 ≤ v ∧ v < 256 ^ n.toNat)
theorem sane_range {n v : Int} (h : saneB n v = true) : (n = 1 ∧ 0 ≤ v ∧ v < 256) ∨ (n = 2 ∧ 0 ≤ v ∧ v < 65536) ∨ (n = 3 ∧ 0 ≤ v ∧ v < 16777216) ∨ (n = 4 ∧ 0 ≤ v ∧ v < 4294967296) := by
  obtain ⟨h1, h2, h3, h4⟩ := of_decide_eq_true h
  have : n = 1 ∨ n = 2 ∨ n = 3 ∨ n = 4 := by omega
  rcases this with rfl | rfl | rfl | rfl <;> simp at h4 <;> omega
theorem sane_iff (n v : Int) : saneB n v = true ↔ ((n = 1 ∧ 0 ≤ v ∧ v < 256) ∨ (n = 2 ∧ 0 ≤ v ∧ v < 65536) ∨ (n = 3 ∧ 0 ≤ v ∧ v < 16777216) ∨ (n = 4 ∧ 0 ≤ v ∧ v < 4294967296)) := by
  refine ⟨sane_range, fun h => ?_⟩
  rcases h with ⟨rfl, h1, h2⟩ | ⟨rfl, h1, h2⟩ | ⟨rfl, h1, h2⟩ | ⟨rfl, h1, h2⟩ <;> (unfold saneB; refine decide_eq_true ⟨by decide, by decide, h1, ?_⟩; simpa using h2)
theorem hex_Sane_is (n v : Int) : hex_Sane.f n v = some (saneB n v) := by
  unfold hex_Sane.f
  by_cases h1 : n ≥ 1
  · rw [if_pos h1]
    by_cases h2 : n ≤ 4
    · rw [if_pos h2]
      by_cases h3 : v ≥ 0
      · rw [if_pos h3]
        have : n = 1 ∨ n = 2 ∨ n = 3 ∨ n = 4 := by omega
        rcases this with rfl | rfl | rfl | rfl
        · rw [show IntKind.u64.wrap (wrap64 (8 * 1)) = 8 from by decide +kernel, if_pos (by decide), show shr .i64 v 8 = v / 256 from rfl]
          congr 1
          rw [Bool.eq_iff_iff, sane_iff, beq_iff_eq]
          omega
        · rw [show IntKind.u64.wrap (wrap64 (8 * 2)) = 16 from by decide +kernel, if_pos (by decide), show shr .i64 v 16 = v / 65536 from rfl]
          congr 1
          rw [Bool.eq_iff_iff, sane_iff, beq_iff_eq]
          omega
        · rw [show IntKind.u64.wrap (wrap64 (8 * 3)) = 24 from by decide +kernel, if_pos (by decide), show shr .i64 v 24 = v / 16777216 from rfl]
          congr 1
          rw [Bool.eq_iff_iff, sane_iff, beq_iff_eq]
          omega
        · rw [show IntKind.u64.wrap (wrap64 (8 * 4)) = 32 from by decide +kernel, if_pos (by decide), show shr .i64 v 32 = v / 4294967296 from rfl]
          congr 1
          rw [Bool.eq_iff_iff, sane_iff, beq_iff_eq]
          omega
      · rw [if_neg h3]
        congr 1
        symm
        rw [Bool.eq_false_iff, Ne, sane_iff]
        omega
    · rw [if_neg h2]
      congr 1
      symm
      rw [Bool.eq_false_iff, Ne, sane_iff]
      omega
  · rw [if_neg h1]
    congr 1
    symm
    rw [Bool.eq_false_iff, Ne, sane_iff]
    omega
/-- A code's bytes. -/
def bytes4 (n v : Int) : List Int := if n = 1 then [v % 256] else if n = 2 then [v / 256 % 256, v % 256] else if n = 3 then [v / 65536 % 256, v / 256 % 256, v % 256] else [v / 16777216 % 256, v / 65536 % 256, v / 256 % 256, v % 256]
def bytesB (n v : Int) : List Int := if saneB n v = true then bytes4 n v else []
theorem bytes4_len {n v : Int} (h : saneB n v = true) : ((bytes4 n v).length : Int) = n := by
  rcases sane_range h with ⟨rfl, _⟩ | ⟨rfl, _⟩ | ⟨rfl, _⟩ | ⟨rfl, _⟩ <;> simp [bytes4]
theorem bytes4_bytes (n v : Int) : Bytes (bytes4 n v) := by
  intro x hx
  unfold bytes4 at hx
  split at hx
  · simp at hx; omega
  · split at hx
    · simp at hx; omega
    · split at hx <;> (simp at hx; omega)
theorem bytesB_len (n v : Int) : (bytesB n v).length ≤ 4 := by
  unfold bytesB
  split
  · rename_i h
    have := bytes4_len h
    rcases sane_range h with h | h | h | h <;> omega
  · simp
theorem hex_Bytes_is (n v : Int) : Ev (fun k => hex_Bytes.f k n v) (bytesB n v) := by
  refine ⟨8, fun k hk => ?_⟩
  obtain ⟨k, rfl⟩ : ∃ m, k = m + 8 := ⟨k - 8, by omega⟩
  unfold hex_Bytes.f
  rw [hex_Sane_is]
  simp only [Option.bind_some]
  unfold bytesB
  by_cases h : saneB n v = true
  · rw [if_pos h, if_pos h]
    have e0 : IntKind.u64.wrap 0 = 0 := by decide +kernel
    have e1 : IntKind.u64.wrap 8 = 8 := by decide +kernel
    have e2 : IntKind.u64.wrap 16 = 16 := by decide +kernel
    have e3 : IntKind.u64.wrap 24 = 24 := by decide +kernel
    have f1 : wrap64 8 = 8 := by decide +kernel
    have f2 : wrap64 16 = 16 := by decide +kernel
    have f3 : wrap64 24 = 24 := by decide +kernel
    have s0 : shr .i64 v 0 = v := by show v / 1 = v; omega
    have s1 : shr .i64 v 8 = v / 256 := rfl
    have s2 : shr .i64 v 16 = v / 65536 := rfl
    have s3 : shr .i64 v 24 = v / 16777216 := rfl
    have w3 : wrap64 3 = 3 := by decide +kernel
    have w2 : wrap64 2 = 2 := by decide +kernel
    have w1 : wrap64 1 = 1 := by decide +kernel
    have w0 : wrap64 0 = 0 := by decide +kernel
    have wm : wrap64 (-1) = (-1) := by decide +kernel
    rcases sane_range h with ⟨rfl, _⟩ | ⟨rfl, _⟩ | ⟨rfl, _⟩ | ⟨rfl, _⟩ <;>
      simp [hex_Bytes.l0, bytes4, e0, e1, e2, e3, f1, f2, f3, s0, s1, s2, s3, w0, w1, w2, w3, wm]
  · rw [if_neg h, if_neg h]
theorem val_l0 (l : List Int) (c : Int) (hb : Bytes l) (hl : l.length ≤ 4) : ∀ n i : Nat, i + n = l.length → Ev (fun k => hex_Val.l0 k l (l.length : Int) (i : Int) c (valN (l.take i))) (c, valN l, true)
  | 0, i, h => by
    refine Ev.step (fun k => rfl) ?_
    simp only [hex_Val.l0]
    simp only [if_neg (show ¬ ((i : Int) < (l.length : Int)) by omega)]
    rw [List.take_of_length_le (by omega)]
    exact Ev.now _
  | n + 1, i, h => by
    have hi : i < l.length := by omega
    refine Ev.step (fun k => rfl) ?_
    simp only [hex_Val.l0]
    simp only [if_pos (show (i : Int) < (l.length : Int) by omega), if_pos (show (0 : Int) ≤ (i : Int) by omega)]
    obtain ⟨h0, h1⟩ := valN_bound i (l.take i) (by rw [List.length_take]; omega) (hb.take i)
    have hx := hb.get hi
    have hp : (256 : Int) ^ i ≤ 16777216 := by
      have hi4 : i = 0 ∨ i = 1 ∨ i = 2 ∨ i = 3 := by omega
      rcases hi4 with h | h | h | h <;> (rw [h]; decide +kernel)
    rw [rd_nat hi, or_byte h0 (by omega) hx.1 hx.2, w64n (by omega), ← valN_take hi]
    exact val_l0 l c hb hl n (i + 1) (by omega)
theorem hex_Val_is (l : List Int) (hb : Bytes l) (h1 : 1 ≤ l.length) (h4 : l.length ≤ 4) : Ev (fun k => hex_Val.f k l) ((l.length : Int), valN l, true) := by
  unfold hex_Val.f
  simp only [if_neg (show ¬ ((l.length : Int) < 1) by omega)]
  rw [decide_eq_false (by omega)]
  refine Ev.step (fun k => rfl) ?_
  simp only [hex_Val.j0]
  simp only [if_neg (show ¬ (false = true) by decide)]
  exact val_l0 l _ hb h4 l.length 0 (by omega)
theorem hex_Val_not (l : List Int) (h : l.length < 1 ∨ 4 < l.length) : Ev (fun k => hex_Val.f k l) (0, 0, false) := by
  unfold hex_Val.f
  by_cases h1 : (l.length : Int) < 1
  · simp only [if_pos h1]
    refine Ev.step (fun k => rfl) ?_
    simp only [hex_Val.j0, if_true]
    exact Ev.now _
  · simp only [if_neg h1]
    rw [decide_eq_true (by omega)]
    refine Ev.step (fun k => rfl) ?_
    simp only [hex_Val.j0, if_true]
    exact Ev.now _
/-- Is each of some at most that of the others at its place? -/
def leAll : List Int → List Int → Bool
  | a :: xs, b :: ys => decide (a ≤ b) && leAll xs ys
  | _, _ => true
theorem of_l0 (a b : List Int) (hab : a.length = b.length) (hl : a.length ≤ 4) : ∀ n i : Nat, i + n = a.length → Ev (fun k => rect_of.l0 k (a.length : Int) (i : Int) a b) (if leAll (a.drop i) (b.drop i) = true then (a, b, true) else ([], [], false))
  | 0, i, h => by
    refine Ev.step (fun k => rfl) ?_
    simp only [rect_of.l0]
    simp only [if_neg (show ¬ ((i : Int) < (a.length : Int)) by omega)]
    rw [List.drop_of_length_le (by omega)]
    simp only [leAll, if_true]
    exact Ev.now _
  | n + 1, i, h => by
    have hi : i < a.length := by omega
    have hi' : i < b.length := by omega
    refine Ev.step (fun k => rfl) ?_
    simp only [rect_of.l0]
    simp only [if_pos (show (i : Int) < (a.length : Int) by omega), if_pos (show (i : Int) < (b.length : Int) by omega), if_pos (show (0 : Int) ≤ (i : Int) by omega)]
    rw [rd_nat hi, rd_nat hi', List.drop_eq_getElem_cons hi, List.drop_eq_getElem_cons hi', leAll]
    by_cases hc : a[i] > b[i]
    · simp only [if_pos hc]
      rw [decide_eq_false (show ¬ a[i] ≤ b[i] by omega), Bool.false_and, if_neg (show ¬ (false = true) by decide)]
      exact Ev.now _
    · simp only [if_neg hc]
      rw [decide_eq_true (show a[i] ≤ b[i] by omega), Bool.true_and, w64n (by omega)]
      exact of_l0 a b hab hl n (i + 1) (by omega)
/-- May one be? -/
def rectB (n lo hi : Int) : Bool := saneB n lo && saneB n hi && leAll (bytes4 n lo) (bytes4 n hi)
theorem rect_of_is (n lo hi : Int) : Ev (fun k => rect_of.f k n lo hi) (if rectB n lo hi = true then (bytes4 n lo, bytes4 n hi, true) else ([], [], false)) := by
  unfold rect_of.f rectB
  refine Ev.bind (hex_Bytes_is n lo) ?_
  refine Ev.bind (hex_Bytes_is n hi) ?_
  unfold bytesB
  by_cases h1 : saneB n lo = true
  · have l1 := bytes4_len h1
    have r1 := sane_range h1
    rw [if_pos h1, h1, Bool.true_and]
    simp only [if_neg (show ¬ (((bytes4 n lo).length : Int) = 0) by omega)]
    by_cases h2 : saneB n hi = true
    · have l2 := bytes4_len h2
      rw [if_pos h2, h2, Bool.true_and]
      rw [beq_eq_false_iff_ne.mpr (show ((bytes4 n hi).length : Int) ≠ 0 by omega)]
      refine Ev.step (fun k => rfl) ?_
      simp only [rect_of.j0]
      simp only [if_neg (show ¬ (false = true) by decide)]
      exact of_l0 (bytes4 n lo) (bytes4 n hi) (by omega) (by omega) _ 0 (Nat.zero_add _)
    · rw [if_neg h2, Bool.eq_false_iff.mpr h2, Bool.false_and, if_neg (show ¬ (false = true) by decide)]
      refine Ev.step (fun k => rfl) ?_
      simp only [rect_of.j0]
      exact Ev.now _
  · rw [if_neg h1, Bool.eq_false_iff.mpr h1, Bool.false_and, Bool.false_and, if_neg (show ¬ (false = true) by decide)]
    refine Ev.step (fun k => rfl) ?_
    simp only [rect_of.j0]
    exact Ev.now _
theorem rect_Sane_is (n lo hi : Int) : Ev (fun k => rect_Sane.f k n lo hi) (rectB n lo hi) := by
  unfold rect_Sane.f
  refine Ev.bind (rect_of_is n lo hi) ?_
  by_cases h : rectB n lo hi = true
  · rw [if_pos h, h]
    exact Ev.now _
  · rw [if_neg h, Bool.eq_false_iff.mpr h]
    exact Ev.now _
/-- How many fit. -/
def fitN : List Int → List Int → List Int → Nat
  | c :: cs, l :: ls, h :: hs => if l ≤ c ∧ c ≤ h then fitN cs ls hs + 1 else 0
  | _, _, _ => 0
theorem fitN_le : ∀ b l h : List Int, fitN b l h ≤ b.length ∧ fitN b l h ≤ l.length
  | [], _, _ => by simp [fitN]
  | _ :: _, [], _ => by simp [fitN]
  | _ :: _, _ :: _, [] => by simp [fitN]
  | c :: cs, l :: ls, h :: hs => by
    have := fitN_le cs ls hs
    unfold fitN
    split <;> simp <;> omega
theorem fits_l0 (b a c : List Int) (N L H : Int) (h1 : b.length ≤ a.length) (h2 : a.length = c.length) (hl : a.length ≤ 4) (q : List Int) (hq : mn (q.length : Int) N = (b.length : Int)) : ∀ n i : Nat, i + n = b.length →
    Ev (fun k => rect_Fits.l0 k q b (b.length : Int) (i : Int) N L H a c) ((i : Int) + (fitN (b.drop i) (a.drop i) (c.drop i) : Int))
  | 0, i, h => by
    refine Ev.step (fun k => rfl) ?_
    simp only [rect_Fits.l0]
    simp only [if_neg (show ¬ ((i : Int) < (b.length : Int)) by omega)]
    rw [List.drop_of_length_le (show b.length ≤ i by omega), hq]
    simp only [fitN]
    rw [show (i : Int) + ((0 : Nat) : Int) = (b.length : Int) by omega]
    exact Ev.now _
  | n + 1, i, h => by
    have hi : i < b.length := by omega
    have hi' : i < a.length := by omega
    have hi2 : i < c.length := by omega
    refine Ev.step (fun k => rfl) ?_
    simp only [rect_Fits.l0]
    simp only [if_pos (show (i : Int) < (b.length : Int) by omega), if_pos (show (i : Int) < (a.length : Int) by omega), if_pos (show (i : Int) < (c.length : Int) by omega), if_pos (show (0 : Int) ≤ (i : Int) by omega)]
    rw [rd_nat hi, rd_nat hi', rd_nat hi2, List.drop_eq_getElem_cons hi, List.drop_eq_getElem_cons hi', List.drop_eq_getElem_cons hi2, fitN]
    by_cases hc : b[i] < a[i]
    · simp only [if_pos hc]
      rw [if_neg (by omega)]
      exact Ev.now _
    · simp only [if_neg hc]
      by_cases hd : b[i] > c[i]
      · simp only [if_pos hd]
        rw [if_neg (by omega)]
        exact Ev.now _
      · simp only [if_neg hd]
        rw [if_pos (by omega), w64n (by omega)]
        have := fits_l0 b a c N L H h1 h2 hl q hq n (i + 1) (by omega)
        rw [show (i : Int) + ((fitN (b.drop (i + 1)) (a.drop (i + 1)) (c.drop (i + 1)) + 1 : Nat) : Int) = ((i + 1 : Nat) : Int) + (fitN (b.drop (i + 1)) (a.drop (i + 1)) (c.drop (i + 1)) : Int) by omega]
        exact this
theorem fitN_take : ∀ (b l h : List Int) (n : Nat), l.length ≤ n → fitN (b.take n) l h = fitN b l h
  | [], _, _, n, _ => by simp [fitN]
  | _ :: _, [], _, n, _ => by cases n <;> simp [fitN]
  | _ :: _, _ :: _, [], n, _ => by cases n <;> simp [fitN]
  | c :: cs, l :: ls, h :: hs, n + 1, hn => by
    rw [List.take_succ_cons, fitN, fitN, fitN_take cs ls hs n (by simpa using hn)]
  | _ :: _, _ :: _, _, 0, hn => by simp at hn
/-- How many bytes fit. -/
def fitsB (n lo hi : Int) (b : List Int) : Nat := if rectB n lo hi = true then fitN b (bytes4 n lo) (bytes4 n hi) else 0
theorem rect_Fits_is (n lo hi : Int) (b : List Int) : Ev (fun k => rect_Fits.f k n lo hi b) ((fitsB n lo hi b : Nat) : Int) := by
  unfold rect_Fits.f fitsB
  refine Ev.bind (rect_of_is n lo hi) ?_
  by_cases h : rectB n lo hi = true
  · have h' := h
    unfold rectB at h'
    rw [Bool.and_eq_true, Bool.and_eq_true] at h'
    have l1 := bytes4_len h'.1.1
    have l2 := bytes4_len h'.1.2
    have r1 := sane_range h'.1.1
    have hm : mn (b.length : Int) n = ((b.take (mn (b.length : Int) n).toNat).length : Int) := by
      rw [List.length_take]
      unfold mn
      split <;> omega
    have hm2 : 0 ≤ mn (b.length : Int) n ∧ mn (b.length : Int) n ≤ b.length := by
      unfold mn
      split <;> omega
    have hm3 : mn (b.length : Int) n ≤ n := by
      unfold mn
      split <;> omega
    simp only [if_pos h, if_true, if_pos hm2.1, if_pos hm2.2, Option.bind_some]
    have := fits_l0 (b.take (mn (b.length : Int) n).toNat) (bytes4 n lo) (bytes4 n hi) n lo hi (by omega) (by omega) (by omega) b hm _ 0 (Nat.zero_add _)
    rw [List.drop_zero, List.drop_zero, List.drop_zero] at this
    have e : fitN (b.take (mn (b.length : Int) n).toNat) (bytes4 n lo) (bytes4 n hi) = fitN b (bytes4 n lo) (bytes4 n hi) := by
      by_cases hc : (b.length : Int) ≤ n
      · rw [List.take_of_length_le (by unfold mn; split <;> omega)]
      · exact fitN_take _ _ _ _ (by unfold mn; split <;> omega)
    rw [e] at this
    simpa using this
  · simp only [if_neg h, if_neg (show ¬ (false = true) by decide)]
    exact Ev.now _
/-- Is a code in one? -/
def inB (n lo hi cn cv : Int) : Bool := rectB n lo hi && saneB cn cv && decide (cn = n) && decide ((fitN (bytes4 cn cv) (bytes4 n lo) (bytes4 n hi) : Int) = n)
theorem rect_In_is (n lo hi cn cv : Int) : Ev (fun k => rect_In.f k n lo hi cn cv) (inB n lo hi cn cv) := by
  unfold rect_In.f inB
  refine Ev.bind (rect_Sane_is n lo hi) ?_
  by_cases h : rectB n lo hi = true
  · rw [hex_Sane_is, h, Bool.true_and]
    simp only [if_true, Option.bind_some]
    by_cases h2 : saneB cn cv = true
    · rw [h2, Bool.true_and]
      simp only [if_true]
      by_cases h3 : cn = n
      · simp only [if_pos h3]
        rw [decide_eq_true h3, Bool.true_and]
        refine Ev.bind (hex_Bytes_is cn cv) ?_
        refine Ev.bind (rect_Fits_is n lo hi _) ?_
        unfold bytesB fitsB
        rw [if_pos h2, if_pos h]
        exact Ev.now _
      · simp only [if_neg h3]
        rw [decide_eq_false h3, Bool.false_and]
        exact Ev.now _
    · rw [Bool.eq_false_iff.mpr h2, Bool.false_and, Bool.false_and]
      simp only [if_neg (show ¬ (false = true) by decide)]
      exact Ev.now _
  · rw [Bool.eq_false_iff.mpr h, Bool.false_and, Bool.false_and, Bool.false_and]
    simp only [if_neg (show ¬ (false = true) by decide)]
    exact Ev.now _
end Go.Proofs.YtippodpmggcniaaQ
