/- What the functions of layers 1 and 6 and their references answer, in plain words. -/
import Derived.Test.YtfhlddlhoockaaaWMore
import Derived.Test.YtfhlddlhoockaaaWNEv
import Derived.Test.YtfhlddlhoockaaaWWords
import Derived.Test.YtfhlddlhoockaaaWLast
import Derived.Laws.BitsLemmas
import Derived.Test.YtfhlddlhoockaaaPIsxx9
import Derived.Test.YtfhlddlhoockaaaPIsxx4
import Derived.Test.YtfhlddlhoockaaaPIsxx3
import Derived.Test.YtfhlddlhoockaaaPIsxx7
import Derived.Test.YtfhlddlhoockaaaPIsxx9

import Derived.Test.YtfhlddlhoockaaaPIsxx10
import Derived.Test.YtfhlddlhoockaaaPIsxx16
import Derived.Test.YtfhlddlhoockaaaPIsxx13
import Derived.Test.YtfhlddlhoockaaaPIsxx17
import Derived.Test.YtfhlddlhoockaaaPIsxx14
import Derived.Test.YtfhlddlhoockaaaPIsxx12
set_option linter.unusedVariables false
set_option linter.unusedSimpArgs false
namespace Go.Proofs.YtfhlddlhoockaaaQ
open Go.RowKit Go.Proofs.YtfhlddlhoockaaaW.PrintWords Go.Proofs.YtfhlddlhoockaaaW.PrintLast Go.Proofs.YtfhlddlhoockaaaW.PrintMore
theorem w64 {n : Int} (h0 : -9223372036854775808 ≤ n) (h1 : n ≤ 9223372036854775807) : wrap64 n = n := by unfold wrap64; omega
theorem w64n {i : Nat} (h1 : i < 9223372036854775807) : wrap64 ((i : Int) + 1) = ((i + 1 : Nat) : Int) := by unfold wrap64; omega
theorem rd_nat {l : List Int} {i : Nat} (h : i < l.length) : rd l (i : Int) = l[i] := by unfold rd; simp [List.getD, h]
theorem byte_wf {y : Int} (h : (Lit.int .u8 y).wf = true) : 0 ≤ y ∧ y < 256 := by
  have h' := (Bool.and_eq_true _ _ ▸ h : _ ∧ _)
  have h0 := of_decide_eq_true h'.1
  have h1 := of_decide_eq_true h'.2
  rw [show IntKind.u8.min = 0 from rfl] at h0
  rw [show IntKind.u8.max = 255 from rfl] at h1
  omega
theorem i64_wf {y : Int} (h : (Lit.int .i64 y).wf = true) : -9223372036854775808 ≤ y ∧ y ≤ 9223372036854775807 := by
  have h' := (Bool.and_eq_true _ _ ▸ h : _ ∧ _)
  have h0 := of_decide_eq_true h'.1
  have h1 := of_decide_eq_true h'.2
  rw [show IntKind.i64.min = -9223372036854775808 from rfl] at h0
  rw [show IntKind.i64.max = 9223372036854775807 from rfl] at h1
  omega
theorem wraps_i64 (n : Int) (h₀ : 0 ≤ n) (h₁ : n < 2 ^ 63) : IntKind.i64.wrap n = n := by rw [IntKind.wrap_i64]; omega
theorem or_byte {v x : Int} (h0 : 0 ≤ v) (h1 : v < 2 ^ 48) (hx0 : 0 ≤ x) (hx1 : x < 256) : Go.bits .or .i64 (wrap64 (v * 256)) (wrap64 x) = v * 256 + x := by
  rw [w64 (n := v * 256) (by omega) (by omega), w64 (n := x) (by omega) (by omega)]
  exact bits_join .i64 63 (by decide) wraps_i64 8 _ _ (by omega) (by omega) (by omega) (by omega) (by omega) (by omega)
/-- The number of bytes, the highest first. -/
def valN (l : List Int) : Int := l.foldl (fun v x => v * 256 + x) 0
theorem valN_snoc (l : List Int) (x : Int) : valN (l ++ [x]) = valN l * 256 + x := by simp [valN]
def Bytes (l : List Int) : Prop := ∀ x ∈ l, 0 ≤ x ∧ x < 256
theorem Bytes.take {l : List Int} (h : Bytes l) (n : Nat) : Bytes (l.take n) := fun x hx => h x (List.mem_of_mem_take hx)
theorem Bytes.drop {l : List Int} (h : Bytes l) (n : Nat) : Bytes (l.drop n) := fun x hx => h x (List.mem_of_mem_drop hx)
theorem Bytes.get {l : List Int} (h : Bytes l) {i : Nat} (hi : i < l.length) : 0 ≤ l[i] ∧ l[i] < 256 := h _ (List.getElem_mem hi)
theorem Bytes.append {l m : List Int} (h : Bytes l) (k : Bytes m) : Bytes (l ++ m) := fun x hx => (List.mem_append.mp hx).elim (h x) (k x)
theorem take_snoc {α : Type} {l : List α} {i : Nat} (h : i < l.length) : l.take (i + 1) = l.take i ++ [l[i]] := by
  rw [List.take_succ_eq_append_getElem h]
theorem valN_take {l : List Int} {i : Nat} (h : i < l.length) : valN (l.take (i + 1)) = valN (l.take i) * 256 + l[i] := by
  rw [take_snoc h, valN_snoc]
theorem valN_bound : ∀ (n : Nat) (l : List Int), l.length = n → Bytes l → 0 ≤ valN l ∧ valN l < 256 ^ n
  | 0, l, hl, _ => by
    obtain rfl := List.eq_nil_of_length_eq_zero hl
    simp [valN]
  | n + 1, l, hl, hb => by
    have hne : l ≠ [] := by intro h; subst h; simp at hl
    obtain ⟨m, x, rfl⟩ : ∃ m x, l = m ++ [x] := ⟨l.dropLast, l.getLast hne, (List.dropLast_concat_getLast hne).symm⟩
    have hm : m.length = n := by simpa using hl
    obtain ⟨h0, h1⟩ := valN_bound n m hm (fun y hy => hb y (by simp [hy]))
    have hx := hb x (by simp)
    rw [valN_snoc, Int.pow_succ]
    omega
end Go.Proofs.YtfhlddlhoockaaaQ
namespace Go.Proofs.YtfhlddlhoockaaaQ
open Go.RowKit Go.Proofs.YtfhlddlhoockaaaW.PrintWords Go.Proofs.YtfhlddlhoockaaaW.PrintLast Go.Proofs.YtfhlddlhoockaaaW.PrintMore Go.Proofs.Ytfhlddlhoockaaa.PIsx
/-- May a code of n bytes be v? -/
def saneB (n v : Int) : Bool := decide (1 ≤ n ∧ n ≤ 4 ∧ 0 ≤ v ∧ v < 256 ^ n.toNat)
theorem sane_range {n v : Int} (h : saneB n v = true) : (n = 1 ∧ 0 ≤ v ∧ v < 256) ∨ (n = 2 ∧ 0 ≤ v ∧ v < 65536) ∨ (n = 3 ∧ 0 ≤ v ∧ v < 16777216) ∨ (n = 4 ∧ 0 ≤ v ∧ v < 4294967296) := by
  obtain ⟨h1, h2, h3, h4⟩ := of_decide_eq_true h
  have : n = 1 ∨ n = 2 ∨ n = 3 ∨ n = 4 := by omega
  rcases this with rfl | rfl | rfl | rfl <;> simp at h4 <;> omega
theorem sane_iff (n v : Int) : saneB n v = true ↔ ((n = 1 ∧ 0 ≤ v ∧ v < 256) ∨ (n = 2 ∧ 0 ≤ v ∧ v < 65536) ∨ (n = 3 ∧ 0 ≤ v ∧ v < 16777216) ∨ (n = 4 ∧ 0 ≤ v ∧ v < 4294967296)) := by
  refine ⟨sane_range, fun h => ?_⟩
  rcases h with ⟨rfl, h1, h2⟩ | ⟨rfl, h1, h2⟩ | ⟨rfl, h1, h2⟩ | ⟨rfl, h1, h2⟩ <;> (unfold saneB; refine decide_eq_true ⟨by decide, by decide, h1, ?_⟩; simpa using h2)
theorem hex_Sane_is (n v : Int) : hex_Sane.f n v = some (saneB n v) := by
  unfold hex_Sane.f
  by_cases h1 : n ≥ 1
  · rw [if_pos h1]
    by_cases h2 : n ≤ 4
    · rw [if_pos h2]
      by_cases h3 : v ≥ 0
      · rw [if_pos h3]
        have : n = 1 ∨ n = 2 ∨ n = 3 ∨ n = 4 := by omega
        rcases this with rfl | rfl | rfl | rfl
        · rw [show IntKind.u64.wrap (wrap64 (8 * 1)) = 8 from by decide +kernel, if_pos (by decide), show shr .i64 v 8 = v / 256 from rfl]
          congr 1
          rw [Bool.eq_iff_iff, sane_iff, beq_iff_eq]
          omega
        · rw [show IntKind.u64.wrap (wrap64 (8 * 2)) = 16 from by decide +kernel, if_pos (by decide), show shr .i64 v 16 = v / 65536 from rfl]
          congr 1
          rw [Bool.eq_iff_iff, sane_iff, beq_iff_eq]
          omega
        · rw [show IntKind.u64.wrap (wrap64 (8 * 3)) = 24 from by decide +kernel, if_pos (by decide), show shr .i64 v 24 = v / 16777216 from rfl]
          congr 1
          rw [Bool.eq_iff_iff, sane_iff, beq_iff_eq]
          omega
        · rw [show IntKind.u64.wrap (wrap64 (8 * 4)) = 32 from by decide +kernel, if_pos (by decide), show shr .i64 v 32 = v / 4294967296 from rfl]
          congr 1
          rw [Bool.eq_iff_iff, sane_iff, beq_iff_eq]
          omega
      · rw [if_neg h3]
        congr 1
        symm
        rw [Bool.eq_false_iff, Ne, sane_iff]
        omega
    · rw [if_neg h2]
      congr 1
      symm
      rw [Bool.eq_false_iff, Ne, sane_iff]
      omega
  · rw [if_neg h1]
    congr 1
    symm
    rw [Bool.eq_false_iff, Ne, sane_iff]
    omega
/-- A code's bytes. -/
def bytes4 (n v : Int) : List Int := if n = 1 then [v % 256] else if n = 2 then [v / 256 % 256, v % 256] else if n = 3 then [v / 65536 % 256, v / 256 % 256, v % 256] else [v / 16777216 % 256, v / 65536 % 256, v / 256 % 256, v % 256]
def bytesB (n v : Int) : List Int := if saneB n v = true then bytes4 n v else []
theorem bytes4_len {n v : Int} (h : saneB n v = true) : ((bytes4 n v).length : Int) = n := by
  rcases sane_range h with ⟨rfl, _⟩ | ⟨rfl, _⟩ | ⟨rfl, _⟩ | ⟨rfl, _⟩ <;> simp [bytes4]
theorem bytes4_bytes (n v : Int) : Bytes (bytes4 n v) := by
  intro x hx
  unfold bytes4 at hx
  split at hx
  · simp at hx; omega
  · split at hx
    · simp at hx; omega
    · split at hx <;> (simp at hx; omega)
theorem bytesB_len (n v : Int) : (bytesB n v).length ≤ 4 := by
  unfold bytesB
  split
  · rename_i h
    have := bytes4_len h
    rcases sane_range h with h | h | h | h <;> omega
  · simp
theorem hex_Bytes_is (n v : Int) : Ev (fun k => hex_Bytes.f k n v) (bytesB n v) := by
  refine ⟨8, fun k hk => ?_⟩
  obtain ⟨k, rfl⟩ : ∃ m, k = m + 8 := ⟨k - 8, by omega⟩
  unfold hex_Bytes.f
  rw [hex_Sane_is]
  simp only [Option.bind_some]
  unfold bytesB
  by_cases h : saneB n v = true
  · rw [if_pos h, if_pos h]
    have e0 : IntKind.u64.wrap 0 = 0 := by decide +kernel
    have e1 : IntKind.u64.wrap 8 = 8 := by decide +kernel
    have e2 : IntKind.u64.wrap 16 = 16 := by decide +kernel
    have e3 : IntKind.u64.wrap 24 = 24 := by decide +kernel
    have f1 : wrap64 8 = 8 := by decide +kernel
    have f2 : wrap64 16 = 16 := by decide +kernel
    have f3 : wrap64 24 = 24 := by decide +kernel
    have s0 : shr .i64 v 0 = v := by show v / 1 = v; omega
    have s1 : shr .i64 v 8 = v / 256 := rfl
    have s2 : shr .i64 v 16 = v / 65536 := rfl
    have s3 : shr .i64 v 24 = v / 16777216 := rfl
    have w3 : wrap64 3 = 3 := by decide +kernel
    have w2 : wrap64 2 = 2 := by decide +kernel
    have w1 : wrap64 1 = 1 := by decide +kernel
    have w0 : wrap64 0 = 0 := by decide +kernel
    have wm : wrap64 (-1) = (-1) := by decide +kernel
    rcases sane_range h with ⟨rfl, _⟩ | ⟨rfl, _⟩ | ⟨rfl, _⟩ | ⟨rfl, _⟩ <;>
      simp [hex_Bytes.l0, bytes4, e0, e1, e2, e3, f1, f2, f3, s0, s1, s2, s3, w0, w1, w2, w3, wm]
  · rw [if_neg h, if_neg h]
theorem val_l0 (l : List Int) (c : Int) (hb : Bytes l) (hl : l.length ≤ 4) : ∀ n i : Nat, i + n = l.length → Ev (fun k => hex_Val.l0 k l (l.length : Int) (i : Int) c (valN (l.take i))) (c, valN l, true)
  | 0, i, h => by
    refine Ev.step (fun k => rfl) ?_
    simp only [hex_Val.l0]
    simp only [if_neg (show ¬ ((i : Int) < (l.length : Int)) by omega)]
    rw [List.take_of_length_le (by omega)]
    exact Ev.now _
  | n + 1, i, h => by
    have hi : i < l.length := by omega
    refine Ev.step (fun k => rfl) ?_
    simp only [hex_Val.l0]
    simp only [if_pos (show (i : Int) < (l.length : Int) by omega), if_pos (show (0 : Int) ≤ (i : Int) by omega)]
    obtain ⟨h0, h1⟩ := valN_bound i (l.take i) (by rw [List.length_take]; omega) (hb.take i)
    have hx := hb.get hi
    have hp : (256 : Int) ^ i ≤ 16777216 := by
      have hi4 : i = 0 ∨ i = 1 ∨ i = 2 ∨ i = 3 := by omega
      rcases hi4 with h | h | h | h <;> (rw [h]; decide +kernel)
    rw [rd_nat hi, or_byte h0 (by omega) hx.1 hx.2, w64n (by omega), ← valN_take hi]
    exact val_l0 l c hb hl n (i + 1) (by omega)
theorem hex_Val_is (l : List Int) (hb : Bytes l) (h1 : 1 ≤ l.length) (h4 : l.length ≤ 4) : Ev (fun k => hex_Val.f k l) ((l.length : Int), valN l, true) := by
  unfold hex_Val.f
  simp only [if_neg (show ¬ ((l.length : Int) < 1) by omega)]
  rw [decide_eq_false (by omega)]
  refine Ev.step (fun k => rfl) ?_
  simp only [hex_Val.j0]
  simp only [if_neg (show ¬ (false = true) by decide)]
  exact val_l0 l _ hb h4 l.length 0 (by omega)
theorem hex_Val_not (l : List Int) (h : l.length < 1 ∨ 4 < l.length) : Ev (fun k => hex_Val.f k l) (0, 0, false) := by
  unfold hex_Val.f
  by_cases h1 : (l.length : Int) < 1
  · simp only [if_pos h1]
    refine Ev.step (fun k => rfl) ?_
    simp only [hex_Val.j0, if_true]
    exact Ev.now _
  · simp only [if_neg h1]
    rw [decide_eq_true (by omega)]
    refine Ev.step (fun k => rfl) ?_
    simp only [hex_Val.j0, if_true]
    exact Ev.now _
/-- Is each of some at most that of the others at its place? -/
def leAll : List Int → List Int → Bool
  | a :: xs, b :: ys => decide (a ≤ b) && leAll xs ys
  | _, _ => true
theorem of_l0 (a b : List Int) (hab : a.length = b.length) (hl : a.length ≤ 4) : ∀ n i : Nat, i + n = a.length → Ev (fun k => rect_of.l0 k (a.length : Int) (i : Int) a b) (if leAll (a.drop i) (b.drop i) = true then (a, b, true) else ([], [], false))
  | 0, i, h => by
    refine Ev.step (fun k => rfl) ?_
    simp only [rect_of.l0]
    simp only [if_neg (show ¬ ((i : Int) < (a.length : Int)) by omega)]
    rw [List.drop_of_length_le (by omega)]
    simp only [leAll, if_true]
    exact Ev.now _
  | n + 1, i, h => by
    have hi : i < a.length := by omega
    have hi' : i < b.length := by omega
    refine Ev.step (fun k => rfl) ?_
    simp only [rect_of.l0]
    simp only [if_pos (show (i : Int) < (a.length : Int) by omega), if_pos (show (i : Int) < (b.length : Int) by omega), if_pos (show (0 : Int) ≤ (i : Int) by omega)]
    rw [rd_nat hi, rd_nat hi', List.drop_eq_getElem_cons hi, List.drop_eq_getElem_cons hi', leAll]
    by_cases hc : a[i] > b[i]
    · simp only [if_pos hc]
      rw [decide_eq_false (show ¬ a[i] ≤ b[i] by omega), Bool.false_and, if_neg (show ¬ (false = true) by decide)]
      exact Ev.now _
    · simp only [if_neg hc]
      rw [decide_eq_true (show a[i] ≤ b[i] by omega), Bool.true_and, w64n (by omega)]
      exact of_l0 a b hab hl n (i + 1) (by omega)
/-- May one be? -/
def rectB (n lo hi : Int) : Bool := saneB n lo && saneB n hi && leAll (bytes4 n lo) (bytes4 n hi)
theorem rect_of_is (n lo hi : Int) : Ev (fun k => rect_of.f k n lo hi) (if rectB n lo hi = true then (bytes4 n lo, bytes4 n hi, true) else ([], [], false)) := by
  unfold rect_of.f rectB
  refine Ev.bind (hex_Bytes_is n lo) ?_
  refine Ev.bind (hex_Bytes_is n hi) ?_
  unfold bytesB
  by_cases h1 : saneB n lo = true
  · have l1 := bytes4_len h1
    have r1 := sane_range h1
    rw [if_pos h1, h1, Bool.true_and]
    simp only [if_neg (show ¬ (((bytes4 n lo).length : Int) = 0) by omega)]
    by_cases h2 : saneB n hi = true
    · have l2 := bytes4_len h2
      rw [if_pos h2, h2, Bool.true_and]
      rw [beq_eq_false_iff_ne.mpr (show ((bytes4 n hi).length : Int) ≠ 0 by omega)]
      refine Ev.step (fun k => rfl) ?_
      simp only [rect_of.j0]
      simp only [if_neg (show ¬ (false = true) by decide)]
      exact of_l0 (bytes4 n lo) (bytes4 n hi) (by omega) (by omega) _ 0 (Nat.zero_add _)
    · rw [if_neg h2, Bool.eq_false_iff.mpr h2, Bool.false_and, if_neg (show ¬ (false = true) by decide)]
      refine Ev.step (fun k => rfl) ?_
      simp only [rect_of.j0]
      exact Ev.now _
  · rw [if_neg h1, Bool.eq_false_iff.mpr h1, Bool.false_and, Bool.false_and, if_neg (show ¬ (false = true) by decide)]
    refine Ev.step (fun k => rfl) ?_
    simp only [rect_of.j0]
    exact Ev.now _
theorem rect_Sane_is (n lo hi : Int) : Ev (fun k => rect_Sane.f k n lo hi) (rectB n lo hi) := by
  unfold rect_Sane.f
  refine Ev.bind (rect_of_is n lo hi) ?_
  by_cases h : rectB n lo hi = true
  · rw [if_pos h, h]
    exact Ev.now _
  · rw [if_neg h, Bool.eq_false_iff.mpr h]
    exact Ev.now _
/-- How many fit. -/
def fitN : List Int → List Int → List Int → Nat
  | c :: cs, l :: ls, h :: hs => if l ≤ c ∧ c ≤ h then fitN cs ls hs + 1 else 0
  | _, _, _ => 0
theorem fitN_le : ∀ b l h : List Int, fitN b l h ≤ b.length ∧ fitN b l h ≤ l.length
  | [], _, _ => by simp [fitN]
  | _ :: _, [], _ => by simp [fitN]
  | _ :: _, _ :: _, [] => by simp [fitN]
  | c :: cs, l :: ls, h :: hs => by
    have := fitN_le cs ls hs
    unfold fitN
    split <;> simp <;> omega
theorem fits_l0 (b a c : List Int) (N L H : Int) (h1 : b.length ≤ a.length) (h2 : a.length = c.length) (hl : a.length ≤ 4) (q : List Int) (hq : mn (q.length : Int) N = (b.length : Int)) : ∀ n i : Nat, i + n = b.length →
    Ev (fun k => rect_Fits.l0 k q b (b.length : Int) (i : Int) N L H a c) ((i : Int) + (fitN (b.drop i) (a.drop i) (c.drop i) : Int))
  | 0, i, h => by
    refine Ev.step (fun k => rfl) ?_
    simp only [rect_Fits.l0]
    simp only [if_neg (show ¬ ((i : Int) < (b.length : Int)) by omega)]
    rw [List.drop_of_length_le (show b.length ≤ i by omega), hq]
    simp only [fitN]
    rw [show (i : Int) + ((0 : Nat) : Int) = (b.length : Int) by omega]
    exact Ev.now _
  | n + 1, i, h => by
    have hi : i < b.length := by omega
    have hi' : i < a.length := by omega
    have hi2 : i < c.length := by omega
    refine Ev.step (fun k => rfl) ?_
    simp only [rect_Fits.l0]
    simp only [if_pos (show (i : Int) < (b.length : Int) by omega), if_pos (show (i : Int) < (a.length : Int) by omega), if_pos (show (i : Int) < (c.length : Int) by omega), if_pos (show (0 : Int) ≤ (i : Int) by omega)]
    rw [rd_nat hi, rd_nat hi', rd_nat hi2, List.drop_eq_getElem_cons hi, List.drop_eq_getElem_cons hi', List.drop_eq_getElem_cons hi2, fitN]
    by_cases hc : b[i] < a[i]
    · simp only [if_pos hc]
      rw [if_neg (by omega)]
      exact Ev.now _
    · simp only [if_neg hc]
      by_cases hd : b[i] > c[i]
      · simp only [if_pos hd]
        rw [if_neg (by omega)]
        exact Ev.now _
      · simp only [if_neg hd]
        rw [if_pos (by omega), w64n (by omega)]
        have := fits_l0 b a c N L H h1 h2 hl q hq n (i + 1) (by omega)
        rw [show (i : Int) + ((fitN (b.drop (i + 1)) (a.drop (i + 1)) (c.drop (i + 1)) + 1 : Nat) : Int) = ((i + 1 : Nat) : Int) + (fitN (b.drop (i + 1)) (a.drop (i + 1)) (c.drop (i + 1)) : Int) by omega]
        exact this
theorem fitN_take : ∀ (b l h : List Int) (n : Nat), l.length ≤ n → fitN (b.take n) l h = fitN b l h
  | [], _, _, n, _ => by simp [fitN]
  | _ :: _, [], _, n, _ => by cases n <;> simp [fitN]
  | _ :: _, _ :: _, [], n, _ => by cases n <;> simp [fitN]
  | c :: cs, l :: ls, h :: hs, n + 1, hn => by
    rw [List.take_succ_cons, fitN, fitN, fitN_take cs ls hs n (by simpa using hn)]
  | _ :: _, _ :: _, _, 0, hn => by simp at hn
/-- How many bytes fit. -/
def fitsB (n lo hi : Int) (b : List Int) : Nat := if rectB n lo hi = true then fitN b (bytes4 n lo) (bytes4 n hi) else 0
theorem rect_Fits_is (n lo hi : Int) (b : List Int) : Ev (fun k => rect_Fits.f k n lo hi b) ((fitsB n lo hi b : Nat) : Int) := by
  unfold rect_Fits.f fitsB
  refine Ev.bind (rect_of_is n lo hi) ?_
  by_cases h : rectB n lo hi = true
  · have h' := h
    unfold rectB at h'
    rw [Bool.and_eq_true, Bool.and_eq_true] at h'
    have l1 := bytes4_len h'.1.1
    have l2 := bytes4_len h'.1.2
    have r1 := sane_range h'.1.1
    have hm : mn (b.length : Int) n = ((b.take (mn (b.length : Int) n).toNat).length : Int) := by
      rw [List.length_take]
      unfold mn
      split <;> omega
    have hm2 : 0 ≤ mn (b.length : Int) n ∧ mn (b.length : Int) n ≤ b.length := by
      unfold mn
      split <;> omega
    have hm3 : mn (b.length : Int) n ≤ n := by
      unfold mn
      split <;> omega
    simp only [if_pos h, if_true, if_pos hm2.1, if_pos hm2.2, Option.bind_some]
    have := fits_l0 (b.take (mn (b.length : Int) n).toNat) (bytes4 n lo) (bytes4 n hi) n lo hi (by omega) (by omega) (by omega) b hm _ 0 (Nat.zero_add _)
    rw [List.drop_zero, List.drop_zero, List.drop_zero] at this
    have e : fitN (b.take (mn (b.length : Int) n).toNat) (bytes4 n lo) (bytes4 n hi) = fitN b (bytes4 n lo) (bytes4 n hi) := by
      by_cases hc : (b.length : Int) ≤ n
      · rw [List.take_of_length_le (by unfold mn; split <;> omega)]
      · exact fitN_take _ _ _ _ (by unfold mn; split <;> omega)
    rw [e] at this
    simpa using this
  · simp only [if_neg h, if_neg (show ¬ (false = true) by decide)]
    exact Ev.now _
/-- Is a code in one? -/
def inB (n lo hi cn cv : Int) : Bool := rectB n lo hi && saneB cn cv && decide (cn = n) && decide ((fitN (bytes4 cn cv) (bytes4 n lo) (bytes4 n hi) : Int) = n)
theorem rect_In_is (n lo hi cn cv : Int) : Ev (fun k => rect_In.f k n lo hi cn cv) (inB n lo hi cn cv) := by
  unfold rect_In.f inB
  refine Ev.bind (rect_Sane_is n lo hi) ?_
  by_cases h : rectB n lo hi = true
  · rw [hex_Sane_is, h, Bool.true_and]
    simp only [if_true, Option.bind_some]
    by_cases h2 : saneB cn cv = true
    · rw [h2, Bool.true_and]
      simp only [if_true]
      by_cases h3 : cn = n
      · simp only [if_pos h3]
        rw [decide_eq_true h3, Bool.true_and]
        refine Ev.bind (hex_Bytes_is cn cv) ?_
        refine Ev.bind (rect_Fits_is n lo hi _) ?_
        unfold bytesB fitsB
        rw [if_pos h2, if_pos h]
        exact Ev.now _
      · simp only [if_neg h3]
        rw [decide_eq_false h3, Bool.false_and]
        exact Ev.now _
    · rw [Bool.eq_false_iff.mpr h2, Bool.false_and, Bool.false_and]
      simp only [if_neg (show ¬ (false = true) by decide)]
      exact Ev.now _
  · rw [Bool.eq_false_iff.mpr h, Bool.false_and, Bool.false_and, Bool.false_and]
    simp only [if_neg (show ¬ (false = true) by decide)]
    exact Ev.now _
end Go.Proofs.YtfhlddlhoockaaaQ
namespace Go.Proofs.YtfhlddlhoockaaaQ
open Go.RowKit Go.Proofs.YtfhlddlhoockaaaW.PrintWords Go.Proofs.YtfhlddlhoockaaaW.PrintLast Go.Proofs.YtfhlddlhoockaaaW.PrintMore Go.Proofs.Ytfhlddlhoockaaa.PIsx
abbrev Rc := S31
theorem rdc_nat {l : List Rc} {i : Nat} (h : i < l.length) : rd_T31 l (i : Int) = l[i] := by unfold rd_T31; simp [List.getD, h]
def saneR (r : Rc) : Bool := rectB r.f0 r.f1 r.f2
def holdsB (a b : Rc) : Bool := saneR b && (inB a.f0 a.f1 a.f2 b.f0 b.f1 && inB a.f0 a.f1 a.f2 b.f0 b.f2)
theorem rect_Holds_is (a b : Rc) : Ev (fun k => rect_Holds.f k a.f0 a.f1 a.f2 b.f0 b.f1 b.f2) (holdsB a b) := by
  unfold rect_Holds.f holdsB
  refine Ev.bind (rect_Sane_is _ _ _) ?_
  show Ev (fun k => if saneR b = true then _ else _) _
  cases saneR b with
  | false =>
    simp only [if_neg (show ¬ (false = true) by decide), Bool.false_and]
    exact Ev.now _
  | true =>
    simp only [if_true, Bool.true_and]
    refine Ev.bind (rect_In_is _ _ _ _ _) ?_
    cases inB a.f0 a.f1 a.f2 b.f0 b.f1 with
    | false =>
      simp only [if_neg (show ¬ (false = true) by decide), Bool.false_and]
      exact Ev.now _
    | true =>
      simp only [if_true, Bool.true_and]
      exact Ev.bind (rect_In_is _ _ _ _ _) (Ev.now _)
theorem sane_good {r : Rc} (h : saneR r = true) : goodR r = true := by
  unfold saneR rectB at h
  have h1 : saneB r.f0 r.f1 = true := by
    cases hs : saneB r.f0 r.f1 with
    | true => rfl
    | false => rw [hs] at h; simp at h
  have hr := sane_range h1
  unfold goodR
  rw [decide_eq_true (show 0 ≤ r.f0 by omega), decide_eq_true (show r.f0 < 4503599627370496 by omega), decide_eq_true (show 0 ≤ r.f1 by omega), decide_eq_true (show r.f1 < 4503599627370496 by omega)]
  rfl
theorem canon_l0 (l : List Rc) (hl : l.length ≤ 1000000000) : ∀ (n i : Nat) (acc : List Rc), i + n = l.length → acc.length ≤ i → Ev (fun k => rect_Canon.l0 k l acc (i : Int)) (acc ++ (l.drop i).filter saneR)
  | 0, i, acc, h, ha => by
    refine Ev.step (fun k => rfl) ?_
    simp only [rect_Canon.l0]
    simp only [if_neg (show ¬ ((i : Int) < (l.length : Int)) by omega)]
    rw [List.drop_of_length_le (by omega), List.filter_nil, List.append_nil]
    exact Ev.now _
  | n + 1, i, acc, h, ha => by
    have hi : i < l.length := by omega
    refine Ev.step (fun k => rfl) ?_
    simp only [rect_Canon.l0]
    simp only [if_pos (show (i : Int) < (l.length : Int) by omega), if_pos (show (0 : Int) ≤ (i : Int) by omega)]
    rw [rdc_nat hi, w64n (by omega), List.drop_eq_getElem_cons hi, List.filter_cons]
    refine Ev.bind (rect_Sane_is _ _ _) ?_
    show Ev (fun k => if saneR l[i] = true then _ else _) _
    cases saneR l[i] with
    | false =>
      simp only [if_neg (show ¬ (false = true) by decide)]
      exact canon_l0 l hl n (i + 1) acc (by omega) (by omega)
    | true =>
      simp only [if_true, if_pos (show acc.length < 1000000000 by omega)]
      have := canon_l0 l hl n (i + 1) (acc ++ [l[i]]) (by omega) (by rw [List.length_append, List.length_singleton]; omega)
      rw [List.append_assoc] at this
      exact this
def heldB (all : List Rc) (r : Rc) : Bool := all.any fun o => neR o r && holdsB o r
theorem held_l0 (all : List Rc) (hl : all.length ≤ 1000000000) (r : Rc) : ∀ n i : Nat, i + n = all.length → Ev (fun k => heldR.l0 k all r (i : Int)) (heldB (all.drop i) r)
  | 0, i, h => by
    refine Ev.step (fun k => rfl) ?_
    simp only [heldR.l0]
    simp only [if_neg (show ¬ ((i : Int) < (all.length : Int)) by omega)]
    rw [List.drop_of_length_le (by omega)]
    exact Ev.now _
  | n + 1, i, h => by
    have hi : i < all.length := by omega
    refine Ev.step (fun k => rfl) ?_
    simp only [heldR.l0]
    simp only [if_pos (show (i : Int) < (all.length : Int) by omega), if_pos (show (0 : Int) ≤ (i : Int) by omega)]
    rw [rdc_nat hi, w64n (by omega), List.drop_eq_getElem_cons hi]
    unfold heldB
    rw [List.any_cons]
    have ih := held_l0 all hl r n (i + 1) (by omega)
    unfold heldB at ih
    cases neR all[i] r with
    | false =>
      simp only [if_neg (show ¬ (false = true) by decide), Bool.false_and, Bool.false_or, Option.bind_some]
      exact ih
    | true =>
      simp only [if_true, Bool.true_and]
      refine Ev.bind (rect_Holds_is _ _) ?_
      cases holdsB all[i] r with
      | true => simp only [if_true, Bool.true_or]; exact Ev.now _
      | false => simp only [if_neg (show ¬ (false = true) by decide), Bool.false_or]; exact ih
theorem filtR_is (all : List Rc) (hl : all.length ≤ 1000000000) : ∀ l : List Rc, Ev (fun k => filtR k all l) (l.filter fun r => !(heldB all r))
  | [] => Ev.now _
  | r :: l => by
    unfold filtR
    refine Ev.bind (held_l0 all hl r all.length 0 (by omega)) ?_
    refine Ev.bind (filtR_is all hl l) ?_
    rw [List.drop_zero, List.filter_cons]
    cases heldB all r <;> exact Ev.now _
/-- Those that stay. -/
def canonB (l : List Rc) : List Rc := (cptR (sortR (l.filter saneR))).filter fun r => !(heldB (cptR (sortR (l.filter saneR))) r)
theorem rect_Canon_is (l : List Rc) (hl : l.length ≤ 1000000000) : Ev (fun k => rect_Canon.f k l) (canonB l) := by
  unfold rect_Canon.f
  have h0 := canon_l0 l hl l.length 0 [] (by omega) (by simp)
  rw [List.drop_zero, List.nil_append] at h0
  refine Ev.bind h0 ?_
  have hf : (l.filter saneR).length ≤ 1000000000 := Nat.le_trans (List.length_filter_le _ _) hl
  have hg : (l.filter saneR).all goodR = true ∧ (l.filter saneR).length ≤ 1000000000 := ⟨List.all_eq_true.mpr fun r hr => sane_good (List.mem_filter.mp hr).2, hf⟩
  unfold rect_Canon.g
  simp only [if_pos hg]
  refine filtR_is _ ?_ _
  have h1 := cuR_len (sortR (l.filter saneR)) (sortR (l.filter saneR)).length
  have h2 : (sortR (l.filter saneR)).length = (l.filter saneR).length := List.length_mergeSort _
  unfold cptR
  omega
end Go.Proofs.YtfhlddlhoockaaaQ
namespace Go.Proofs.YtfhlddlhoockaaaQ
open Go.RowKit Go.Proofs.YtfhlddlhoockaaaW.PrintWords Go.Proofs.YtfhlddlhoockaaaW.PrintLast Go.Proofs.YtfhlddlhoockaaaW.PrintMore Go.Proofs.Ytfhlddlhoockaaa.PIsx
theorem lt_irr (x : Rc) : ltR x x = false := by
  rw [Bool.eq_false_iff]; intro h; rw [ltR_iff] at h; omega
theorem lt_trans {x y z : Rc} (h1 : ltR x y = true) (h2 : ltR y z = true) : ltR x z = true := by
  rw [ltR_iff] at *; omega
theorem lt_tri (x y : Rc) (h1 : ltR x y = false) (h2 : ltR y x = false) : x = y := by
  have h1 : ¬ (ltR x y = true) := by rw [h1]; decide
  have h2 : ¬ (ltR y x = true) := by rw [h2]; decide
  rw [ltR_iff] at h1 h2
  rcases x with ⟨a, b, c⟩
  rcases y with ⟨a', b', c'⟩
  dsimp only at h1 h2
  rw [show a = a' by omega, show b = b' by omega, show c = c' by omega]
theorem lt_le_trans {x y z : Rc} (h1 : ltR y x = false) (h2 : ltR y z = true) : ltR x z = true := by
  cases h : ltR x y with
  | true => exact lt_trans h h2
  | false => rw [lt_tri x y h h1]; exact h2
def Strict (l : List Rc) : Prop := l.Pairwise fun a b => ltR a b = true
theorem strict_unique : ∀ a b : List Rc, Strict a → Strict b → (∀ x, x ∈ a ↔ x ∈ b) → a = b
  | [], [], _, _, _ => rfl
  | [], y :: b, _, _, h => absurd ((h y).mpr (List.mem_cons_self ..)) (by simp)
  | x :: a, [], _, _, h => absurd ((h x).mp (List.mem_cons_self ..)) (by simp)
  | x :: a, y :: b, ha, hb, h => by
    have ha' := List.pairwise_cons.mp ha
    have hb' := List.pairwise_cons.mp hb
    have e : x = y := by
      rcases List.mem_cons.mp ((h x).mp (List.mem_cons_self ..)) with e | hx
      · exact e
      · rcases List.mem_cons.mp ((h y).mpr (List.mem_cons_self ..)) with e | hy
        · exact e.symm
        · have := lt_trans (hb'.1 x hx) (ha'.1 y hy)
          rw [lt_irr] at this
          cases this
    subst e
    rw [strict_unique a b ha'.2 hb'.2 fun z => ?_]
    constructor
    · intro hz
      rcases List.mem_cons.mp ((h z).mp (List.mem_cons_of_mem _ hz)) with rfl | hz'
      · have := ha'.1 z hz
        rw [lt_irr] at this
        cases this
      · exact hz'
    · intro hz
      rcases List.mem_cons.mp ((h z).mpr (List.mem_cons_of_mem _ hz)) with rfl | hz'
      · have := hb'.1 z hz
        rw [lt_irr] at this
        cases this
      · exact hz'
theorem sort_sorted (l : List Rc) : (sortR l).Pairwise fun a b => ltR b a = false := by
  have h := List.pairwise_mergeSort (le := fun x y : Rc => !ltR y x) (fun a b c h1 h2 => by
    simp only [Bool.not_eq_true', Bool.not_eq_eq_eq_not, Bool.not_true] at *
    cases h : ltR c a with
    | false => rfl
    | true =>
      have := lt_le_trans h1 (show ltR b a = true from ?_)
      · rw [lt_irr] at this; cases this
      · exact lt_le_trans h2 h) (fun a b => by
    cases h1 : ltR b a with
    | false => rfl
    | true =>
      cases h2 : ltR a b with
      | false => rfl
      | true => have := lt_trans h1 h2; rw [lt_irr] at this; cases this) l
  exact h.imp fun h => by simpa using h
theorem sort_mem (l : List Rc) (x : Rc) : x ∈ sortR l ↔ x ∈ l := List.mem_mergeSort
theorem cu_strict (l : List Rc) (hs : l.Pairwise fun a b => ltR b a = false) : ∀ j, j ≤ l.length → Strict (cuR l j) ∧ ∀ x, x ∈ cuR l j ↔ x ∈ l.take j
  | 0, _ => ⟨List.Pairwise.nil, fun x => by simp [cuR]⟩
  | j + 1, hj => by
    obtain ⟨h1, h2⟩ := cu_strict l hs j (by omega)
    have hx : l.getD j z31 = l[j] := getD_of (List.getElem?_eq_getElem (by omega))
    rw [cuR, hx, List.take_add_one, List.getElem?_eq_getElem (by omega)]
    cases hk : keepR l j with
    | false =>
      simp only [if_neg (show ¬ (false = true) by decide), List.append_nil]
      refine ⟨h1, fun x => ?_⟩
      rw [h2 x, List.mem_append]
      refine ⟨Or.inl, fun h => h.elim id fun h => ?_⟩
      obtain rfl : x = l[j] := by simpa using h
      cases j with
      | zero => cases hk
      | succ j =>
        have he : eqR (l.getD (j + 1) z31) (l.getD j z31) = true := by
          have : (!eqR (l.getD (j + 1) z31) (l.getD j z31)) = false := hk
          simpa using this
        rw [hx, getD_of (List.getElem?_eq_getElem (show j < l.length by omega)), eqR_iff] at he
        rw [he]
        exact List.mem_take_iff_getElem.mpr ⟨j, by omega, rfl⟩
    | true =>
      simp only [if_true]
      refine ⟨List.pairwise_append.mpr ⟨h1, List.pairwise_singleton _ _, fun a ha b hb => ?_⟩, fun x => ?_⟩
      · obtain rfl : b = l[j] := by simpa using hb
        obtain ⟨i, hi, rfl⟩ := List.mem_take_iff_getElem.mp ((h2 a).mp ha)
        have hij : i < j := by omega
        cases j with
        | zero => omega
        | succ j =>
          have hne : l[j + 1] ≠ l[j] := fun he => by
            have : (!eqR (l.getD (j + 1) z31) (l.getD j z31)) = true := hk
            rw [hx, getD_of (List.getElem?_eq_getElem (show j < l.length by omega)), (eqR_iff _ _).mpr he] at this
            cases this
          have hlt : ltR l[j] l[j + 1] = true := by
            cases h : ltR l[j] l[j + 1] with
            | true => rfl
            | false => exact absurd (lt_tri _ _ (List.pairwise_iff_getElem.mp hs j (j + 1) (by omega) (by omega) (by omega)) h) hne
          rcases Nat.lt_or_ge i j with h | h
          · exact lt_le_trans (List.pairwise_iff_getElem.mp hs i j (by omega) (by omega) h) hlt
          · obtain rfl : i = j := by omega
            exact hlt
      · rw [List.mem_append, List.mem_append, h2 x]
        rfl
theorem cpt_strict (l : List Rc) : Strict (cptR (sortR l)) ∧ ∀ x, x ∈ cptR (sortR l) ↔ x ∈ l := by
  obtain ⟨h1, h2⟩ := cu_strict (sortR l) (sort_sorted l) (sortR l).length (Nat.le_refl _)
  refine ⟨h1, fun x => ?_⟩
  show x ∈ cuR (sortR l) (sortR l).length ↔ _
  rw [h2 x, List.take_length, sort_mem]
theorem neR_iff (o r : Rc) : neR o r = true ↔ o ≠ r := by
  cases o; cases r
  simp only [neR, Bool.or_eq_true, Bool.not_eq_true', beq_eq_false_iff_ne, ne_eq, S31.mk.injEq]
  omega
theorem canon_strict (l : List Rc) : Strict (canonB l) := (cpt_strict _).1.filter _
/-- Who stays. -/
theorem canon_mem (l : List Rc) (r : Rc) : r ∈ canonB l ↔ r ∈ l ∧ saneR r = true ∧ ∀ o ∈ l, saneR o = true → o ≠ r → holdsB o r = false := by
  unfold canonB
  rw [List.mem_filter, (cpt_strict _).2, List.mem_filter, and_assoc]
  refine and_congr_right fun _ => and_congr_right fun _ => ?_
  unfold heldB
  rw [Bool.not_eq_true', List.any_eq_false]
  constructor
  · intro h o ho hs hne
    have := h o (((cpt_strict _).2 o).mpr (List.mem_filter.mpr ⟨ho, hs⟩))
    rw [(neR_iff o r).mpr hne, Bool.true_and] at this
    exact Bool.eq_false_iff.mpr this
  · intro h o ho
    have ho' := List.mem_filter.mp (((cpt_strict _).2 o).mp ho)
    intro hc
    rw [Bool.and_eq_true] at hc
    rw [h o ho'.1 ho'.2 ((neR_iff o r).mp hc.1)] at hc
    exact absurd hc.2 (by decide)
end Go.Proofs.YtfhlddlhoockaaaQ
namespace Go.Proofs.YtfhlddlhoockaaaQ
open Go.RowKit Go.Proofs.YtfhlddlhoockaaaW.PrintWords Go.Proofs.YtfhlddlhoockaaaW.PrintLast Go.Proofs.YtfhlddlhoockaaaW.PrintMore Go.Proofs.Ytfhlddlhoockaaa.PIsx
theorem fit_all : ∀ b l h : List Int, b.length = l.length → l.length = h.length → (fitN b l h = b.length ↔ leAll l b = true ∧ leAll b h = true)
  | [], [], [], _, _ => by simp [fitN, leAll]
  | x :: b, y :: l, z :: h, h1, h2 => by
    have ih := fit_all b l h (by simpa using h1) (by simpa using h2)
    simp only [fitN, leAll, List.length_cons]
    by_cases hc : y ≤ x ∧ x ≤ z
    · rw [if_pos hc, decide_eq_true hc.1, decide_eq_true hc.2, Bool.true_and, Bool.true_and, ← ih]
      omega
    · rw [if_neg hc]
      constructor
      · intro e; omega
      · rintro ⟨e1, e2⟩
        rw [Bool.and_eq_true, decide_eq_true_iff] at e1 e2
        exact absurd ⟨e1.1, e2.1⟩ hc
theorem leAll_refl : ∀ l : List Int, leAll l l = true
  | [] => rfl
  | x :: l => by simp [leAll, leAll_refl l]
theorem leAll_trans : ∀ a b c : List Int, a.length = b.length → b.length = c.length → leAll a b = true → leAll b c = true → leAll a c = true
  | [], _, _, _, _, _, _ => by simp [leAll]
  | x :: a, y :: b, z :: c, h1, h2, e1, e2 => by
    simp only [leAll, Bool.and_eq_true, decide_eq_true_iff] at *
    exact ⟨by omega, leAll_trans a b c (by simpa using h1) (by simpa using h2) e1.2 e2.2⟩
theorem leAll_sum : ∀ a b : List Int, a.length = b.length → leAll a b = true → a.sum ≤ b.sum ∧ (a.sum = b.sum → a = b)
  | [], [], _, _ => ⟨Int.le_refl _, fun _ => rfl⟩
  | x :: a, y :: b, h, e => by
    simp only [leAll, Bool.and_eq_true, decide_eq_true_iff] at e
    obtain ⟨h1, h2⟩ := leAll_sum a b (by simpa using h) e.2
    simp only [List.sum_cons]
    refine ⟨by omega, fun hs => ?_⟩
    rw [show x = y by omega, h2 (by omega)]
theorem bytes4_inj {n v w : Int} (hv : saneB n v = true) (hw : saneB n w = true) (h : bytes4 n v = bytes4 n w) : v = w := by
  rcases sane_range hv with ⟨rfl, h1⟩ | ⟨rfl, h1⟩ | ⟨rfl, h1⟩ | ⟨rfl, h1⟩ <;> rcases sane_range hw with ⟨e, h2⟩ | ⟨e, h2⟩ | ⟨e, h2⟩ | ⟨e, h2⟩ <;> first | omega | (simp [bytes4] at h; omega)
theorem rectB_parts {n lo hi : Int} (h : rectB n lo hi = true) : saneB n lo = true ∧ saneB n hi = true ∧ leAll (bytes4 n lo) (bytes4 n hi) = true := by
  unfold rectB at h
  rw [Bool.and_eq_true, Bool.and_eq_true] at h
  exact ⟨h.1.1, h.1.2, h.2⟩
theorem b4len {n v w : Int} (hv : saneB n v = true) (hw : saneB n w = true) : (bytes4 n v).length = (bytes4 n w).length := by
  have := bytes4_len hv
  have := bytes4_len hw
  omega
theorem inB_iff {n lo hi cn cv : Int} : inB n lo hi cn cv = true ↔ rectB n lo hi = true ∧ saneB cn cv = true ∧ cn = n ∧ leAll (bytes4 n lo) (bytes4 n cv) = true ∧ leAll (bytes4 n cv) (bytes4 n hi) = true := by
  unfold inB
  rw [Bool.and_eq_true, Bool.and_eq_true, Bool.and_eq_true, and_assoc, and_assoc, decide_eq_true_iff, decide_eq_true_iff]
  refine and_congr_right fun h1 => and_congr_right fun h2 => and_congr_right fun h3 => ?_
  subst h3
  obtain ⟨p1, p2, _⟩ := rectB_parts h1
  rw [← fit_all _ _ _ (b4len h2 p1) (b4len p1 p2)]
  have := bytes4_len h2
  omega
theorem holds_iff {a b : Rc} : holdsB a b = true ↔ saneR a = true ∧ saneR b = true ∧ b.f0 = a.f0 ∧ leAll (bytes4 a.f0 a.f1) (bytes4 a.f0 b.f1) = true ∧ leAll (bytes4 a.f0 b.f2) (bytes4 a.f0 a.f2) = true := by
  unfold holdsB
  rw [Bool.and_eq_true, Bool.and_eq_true, inB_iff, inB_iff]
  constructor
  · rintro ⟨h1, ⟨h2, _, h3, h4, _⟩, _, _, _, _, h5⟩
    exact ⟨h2, h1, h3, h4, h5⟩
  · rintro ⟨h1, h2, h3, h4, h5⟩
    obtain ⟨p1, p2, p3⟩ := rectB_parts h1
    obtain ⟨q1, q2, q3⟩ := rectB_parts h2
    have q1' := q1
    have q2' := q2
    rw [h3] at q1' q2' q3
    exact ⟨h2, ⟨h1, q1, h3, h4, leAll_trans _ _ _ (b4len q1' q2') (b4len q2' p2) q3 h5⟩, h1, q2, h3, leAll_trans _ _ _ (b4len p1 q1') (b4len q1' q2') h4 q3, h5⟩
theorem holds_refl {a : Rc} (h : saneR a = true) : holdsB a a = true := holds_iff.mpr ⟨h, h, rfl, leAll_refl _, leAll_refl _⟩
theorem holds_trans {a b c : Rc} (h1 : holdsB a b = true) (h2 : holdsB b c = true) : holdsB a c = true := by
  obtain ⟨a1, a2, a3, a4, a5⟩ := holds_iff.mp h1
  obtain ⟨b1, b2, b3, b4, b5⟩ := holds_iff.mp h2
  obtain ⟨p1, p2, _⟩ := rectB_parts a1
  obtain ⟨q1, q2, _⟩ := rectB_parts a2
  obtain ⟨r1, r2, _⟩ := rectB_parts b2
  rw [b3, a3] at r1 r2
  rw [a3] at q1 q2 b4 b5
  exact holds_iff.mpr ⟨a1, b2, b3.trans a3, leAll_trans _ _ _ (b4len p1 q1) (b4len q1 r1) a4 b4, leAll_trans _ _ _ (b4len r2 q2) (b4len q2 p2) b5 a5⟩
def mu (r : Rc) : Int := (bytes4 r.f0 r.f2).sum - (bytes4 r.f0 r.f1).sum
theorem holds_mu {a b : Rc} (h : holdsB a b = true) : mu b ≤ mu a ∧ (mu b = mu a → a = b) := by
  obtain ⟨a1, a2, a3, a4, a5⟩ := holds_iff.mp h
  obtain ⟨p1, p2, _⟩ := rectB_parts a1
  obtain ⟨q1, q2, _⟩ := rectB_parts a2
  rw [a3] at q1 q2
  obtain ⟨s1, s2⟩ := leAll_sum _ _ (b4len p1 q1) a4
  obtain ⟨t1, t2⟩ := leAll_sum _ _ (b4len q2 p2) a5
  unfold mu
  rw [a3]
  refine ⟨by omega, fun he => ?_⟩
  have e1 := bytes4_inj p1 q1 (s2 (by omega))
  have e2 := bytes4_inj q2 p2 (t2 (by omega))
  rcases a with ⟨x, y, z⟩
  rcases b with ⟨x', y', z'⟩
  dsimp only at *
  rw [a3, e1, e2]
theorem mu_le {a : Rc} (h : saneR a = true) : 0 ≤ mu a ∧ mu a ≤ 1020 := by
  obtain ⟨p1, p2, p3⟩ := rectB_parts h
  have h1 := (leAll_sum _ _ (b4len p1 p2) p3).1
  unfold mu
  refine ⟨by omega, ?_⟩
  rcases sane_range p1 with ⟨e, _⟩ | ⟨e, _⟩ | ⟨e, _⟩ | ⟨e, _⟩ <;> (rw [e]; simp [bytes4]; omega)
/-- Each sane one is held by one that stays. -/
theorem held_by (l : List Rc) : ∀ (n : Nat) (r : Rc), r ∈ l → saneR r = true → (1020 - mu r).toNat ≤ n → ∃ m ∈ canonB l, holdsB m r = true
  | n, r, hr, hs, hn => by
    by_cases hex : ∃ o, o ∈ l ∧ saneR o = true ∧ o ≠ r ∧ holdsB o r = true
    · obtain ⟨o, ho, hos, hne, hh⟩ := hex
      have h1 := holds_mu hh
      have h2 := mu_le hos
      have h3 : mu r < mu o := by
        rcases Int.lt_or_eq_of_le h1.1 with h | h
        · exact h
        · exact absurd (h1.2 h) hne
      match n with
      | 0 => omega
      | n + 1 =>
        obtain ⟨m, hm, hmh⟩ := held_by l n o ho hos (by omega)
        exact ⟨m, hm, holds_trans hmh hh⟩
    · refine ⟨r, (canon_mem l r).mpr ⟨hr, hs, fun o ho hos hne => ?_⟩, holds_refl hs⟩
      exact Bool.eq_false_iff.mpr fun hh => hex ⟨o, ho, hos, hne, hh⟩
end Go.Proofs.YtfhlddlhoockaaaQ
namespace Go.Proofs.YtfhlddlhoockaaaQ
open Go.RowKit Go.Proofs.YtfhlddlhoockaaaW.PrintWords Go.Proofs.YtfhlddlhoockaaaW.PrintLast Go.Proofs.YtfhlddlhoockaaaW.PrintMore Go.Proofs.Ytfhlddlhoockaaa.PIsx
def insB : List Rc → Rc → List Rc
  | [], r => [r]
  | x :: l, r => if ltR r x = true then r :: x :: l else x :: insB l r
theorem insB_mem : ∀ (l : List Rc) (r x : Rc), x ∈ insB l r ↔ x = r ∨ x ∈ l
  | [], r, x => by simp [insB]
  | y :: l, r, x => by
    unfold insB
    split
    · simp [List.mem_cons]
    · rw [List.mem_cons, insB_mem l r x, List.mem_cons]
      constructor <;> (intro h; rcases h with h | h | h <;> simp [h])
theorem insB_len : ∀ (l : List Rc) (r : Rc), (insB l r).length = l.length + 1
  | [], r => rfl
  | y :: l, r => by
    unfold insB
    split
    · simp
    · simp [insB_len l r]
theorem insB_strict : ∀ (l : List Rc) (r : Rc), Strict l → r ∉ l → Strict (insB l r)
  | [], r, _, _ => List.pairwise_singleton _ _
  | y :: l, r, h, hn => by
    have h' := List.pairwise_cons.mp h
    unfold insB
    split
    · rename_i hlt
      refine List.pairwise_cons.mpr ⟨fun a ha => ?_, h⟩
      rcases List.mem_cons.mp ha with rfl | ha
      · exact hlt
      · exact lt_trans hlt (h'.1 a ha)
    · rename_i hlt
      refine List.pairwise_cons.mpr ⟨fun a ha => ?_, insB_strict l r h'.2 (fun hm => hn (List.mem_cons_of_mem _ hm))⟩
      rcases (insB_mem l r a).mp ha with rfl | ha
      · cases hyr : ltR y a with
        | true => rfl
        | false =>
          have := lt_tri a y (Bool.eq_false_iff.mpr hlt) hyr
          subst this
          exact absurd (List.mem_cons_self ..) hn
      · exact h'.1 a ha
def at' (l : List Rc) (i : Nat) : Rc := l.getD i z31
theorem at_get {l : List Rc} {i : Nat} (h : i < l.length) : at' l i = l[i] := getD_of (List.getElem?_eq_getElem h)
/-- Does the one at k stand in the way of the one at i? -/
def wayB (l : List Rc) (i k : Nat) : Bool := decide (k ≠ i) && (holdsB (at' l k) (at' l i) && (neR (at' l k) (at' l i) || decide (k < i)))
def heldI (l : List Rc) (i : Nat) : Bool := (List.range' 0 l.length).any (wayB l i)
theorem heldI_false {l : List Rc} {i : Nat} : heldI l i = false ↔ ∀ k, k < l.length → k ≠ i → holdsB (at' l k) (at' l i) = true → at' l k = at' l i ∧ ¬ k < i := by
  unfold heldI wayB
  rw [List.any_eq_false]
  constructor
  · intro h k hk hne hh
    have := h k (List.mem_range'_1.mpr ⟨Nat.zero_le _, by omega⟩)
    rw [decide_eq_true hne, hh, Bool.true_and, Bool.true_and, Bool.or_eq_true, decide_eq_true_iff, neR_iff] at this
    exact ⟨Classical.byContradiction fun h => this (.inl h), fun h => this (.inr h)⟩
  · intro h k hk hc
    have hk' := (List.mem_range'_1.mp hk).2
    rw [Bool.and_eq_true, Bool.and_eq_true, Bool.or_eq_true, decide_eq_true_iff, decide_eq_true_iff, neR_iff] at hc
    have := h k (by omega) hc.1 hc.2.1
    rcases hc.2.2 with h | h
    · exact h this.1
    · exact this.2 h
def rcN (l : List Rc) : Nat → List Rc
  | 0 => []
  | n + 1 => if saneR (at' l n) && !(heldI l n) then insB (rcN l n) (at' l n) else rcN l n
theorem rcN_is (l : List Rc) : ∀ n, n ≤ l.length → Strict (rcN l n) ∧ (∀ x, x ∈ rcN l n ↔ ∃ j, j < n ∧ at' l j = x ∧ saneR x = true ∧ heldI l j = false) ∧ (rcN l n).length ≤ n
  | 0, _ => ⟨List.Pairwise.nil, fun x => by simp [rcN], Nat.le_refl _⟩
  | n + 1, hn => by
    obtain ⟨h1, h2, h3⟩ := rcN_is l n (by omega)
    unfold rcN
    by_cases hc : saneR (at' l n) = true ∧ heldI l n = false
    · rw [if_pos (by rw [hc.1, hc.2]; rfl)]
      refine ⟨insB_strict _ _ h1 fun hm => ?_, fun x => ?_, by rw [insB_len]; omega⟩
      · obtain ⟨j, hj, he, hs, hh⟩ := (h2 _).mp hm
        have := heldI_false.mp hc.2 j (by omega) (by omega) (by rw [he]; exact holds_refl hc.1)
        exact this.2 hj
      · rw [insB_mem, h2 x]
        constructor
        · rintro (rfl | ⟨j, hj, he, hs, hh⟩)
          · exact ⟨n, by omega, rfl, hc.1, hc.2⟩
          · exact ⟨j, by omega, he, hs, hh⟩
        · rintro ⟨j, hj, he, hs, hh⟩
          rcases Nat.lt_or_ge j n with h | h
          · exact .inr ⟨j, h, he, hs, hh⟩
          · obtain rfl : j = n := by omega
            exact .inl he.symm
    · have hc' : ¬ (saneR (at' l n) && !(heldI l n)) = true := by
        intro h
        rw [Bool.and_eq_true, Bool.not_eq_true'] at h
        exact hc h
      rw [if_neg hc']
      refine ⟨h1, fun x => ?_, by omega⟩
      rw [h2 x]
      constructor
      · rintro ⟨j, hj, he, hs, hh⟩
        exact ⟨j, by omega, he, hs, hh⟩
      · rintro ⟨j, hj, he, hs, hh⟩
        rcases Nat.lt_or_ge j n with h | h
        · exact ⟨j, h, he, hs, hh⟩
        · obtain rfl : j = n := by omega
          subst he
          exact absurd ⟨hs, hh⟩ hc
theorem first_at (l : List Rc) (r : Rc) : ∀ n, (∃ j, j < n ∧ at' l j = r) → ∃ j, j < n ∧ at' l j = r ∧ ∀ k, k < j → at' l k ≠ r
  | 0, ⟨j, hj, _⟩ => absurd hj (Nat.not_lt_zero _)
  | n + 1, ⟨j, hj, he⟩ => by
    by_cases hex : ∃ j, j < n ∧ at' l j = r
    · obtain ⟨j, h1, h2, h3⟩ := first_at l r n hex
      exact ⟨j, by omega, h2, h3⟩
    · refine ⟨j, hj, he, fun k hk hc => hex ⟨k, by omega, hc⟩⟩
theorem rcN_canon (l : List Rc) : rcN l l.length = canonB l := by
  obtain ⟨h1, h2, _⟩ := rcN_is l l.length (Nat.le_refl _)
  refine strict_unique _ _ h1 (canon_strict l) fun x => ?_
  rw [h2 x, canon_mem]
  constructor
  · rintro ⟨j, hj, rfl, hs, hh⟩
    refine ⟨by rw [at_get hj]; exact List.getElem_mem hj, hs, fun o ho hos hne => ?_⟩
    obtain ⟨k, hk, rfl⟩ := List.getElem_of_mem ho
    refine Bool.eq_false_iff.mpr fun hc => ?_
    rw [← at_get hk] at hc hne
    have := heldI_false.mp hh k hk (fun he => hne (by rw [he])) hc
    exact hne this.1
  · rintro ⟨hm, hs, hn⟩
    obtain ⟨i, hi, rfl⟩ := List.getElem_of_mem hm
    obtain ⟨j, hj, he, hf⟩ := first_at l l[i] l.length ⟨i, hi, at_get hi⟩
    refine ⟨j, hj, he, hs, heldI_false.mpr fun k hk hkj hh => ?_⟩
    rw [he] at hh ⊢
    by_cases hx : at' l k = l[i]
    · exact ⟨hx, fun hlt => hf k hlt hx⟩
    · have hb : saneR (at' l k) = true := (holds_iff.mp hh).1
      have := hn (at' l k) (by rw [at_get hk]; exact List.getElem_mem hk) hb hx
      rw [this] at hh
      cases hh
theorem canon_len (l : List Rc) : (canonB l).length ≤ l.length := by
  rw [← rcN_canon]
  exact (rcN_is l l.length (Nat.le_refl _)).2.2
theorem canon_canon (l : List Rc) : canonB (canonB l) = canonB l := by
  refine strict_unique _ _ (canon_strict _) (canon_strict _) fun x => ?_
  rw [canon_mem (canonB l)]
  refine ⟨fun h => h.1, fun h => ?_⟩
  have hx := (canon_mem l x).mp h
  exact ⟨h, hx.2.1, fun o ho hs hne => hx.2.2 o ((canon_mem l o).mp ho).1 hs hne⟩
theorem canon_apart {l : List Rc} {i k : Nat} (hi : i < (canonB l).length) (hk : k < (canonB l).length) (hne : k ≠ i) : holdsB (canonB l)[k] (canonB l)[i] = false := by
  have h1 := (canon_mem l _).mp (List.getElem_mem hi)
  have h2 := (canon_mem l _).mp (List.getElem_mem hk)
  refine h1.2.2 _ h2.1 h2.2.1 fun he => ?_
  rcases Nat.lt_or_gt_of_ne hne with h | h
  · have := List.pairwise_iff_getElem.mp (canon_strict l) k i hk hi h
    rw [he, lt_irr] at this
    cases this
  · have := List.pairwise_iff_getElem.mp (canon_strict l) i k hi hk h
    rw [he, lt_irr] at this
    cases this
theorem in_mono {a b : Rc} {n v : Int} (h : holdsB a b = true) (hi : inB b.f0 b.f1 b.f2 n v = true) : inB a.f0 a.f1 a.f2 n v = true := by
  obtain ⟨a1, a2, a3, a4, a5⟩ := holds_iff.mp h
  obtain ⟨b1, b2, b3, b4, b5⟩ := inB_iff.mp hi
  obtain ⟨p1, p2, _⟩ := rectB_parts a1
  obtain ⟨q1, q2, _⟩ := rectB_parts a2
  have hn : n = a.f0 := b3.trans a3
  subst hn
  rw [a3] at q1 q2 b4 b5
  exact inB_iff.mpr ⟨a1, b2, rfl, leAll_trans _ _ _ (b4len p1 q1) (b4len q1 b2) a4 b4, leAll_trans _ _ _ (b4len b2 q2) (b4len q2 p2) b5 a5⟩
def inR (r : Rc) (n v : Int) : Bool := inB r.f0 r.f1 r.f2 n v
theorem canon_in (l : List Rc) (n v : Int) : ((canonB l).any fun r => inR r n v) = (l.any fun r => inR r n v) := by
  rw [Bool.eq_iff_iff, List.any_eq_true, List.any_eq_true]
  constructor
  · rintro ⟨r, hr, h⟩
    exact ⟨r, ((canon_mem l r).mp hr).1, h⟩
  · rintro ⟨r, hr, h⟩
    have hs : saneR r = true := (inB_iff.mp h).1
    obtain ⟨m, hm, hh⟩ := held_by l _ r hr hs (Nat.le_refl _)
    exact ⟨m, hm, in_mono hh h⟩
theorem canon_more_no {l : List Rc} {r : Rc} (h : saneR r = false) : canonB (l ++ [r]) = canonB l := by
  unfold canonB
  rw [List.filter_append, List.filter_cons, h]
  simp
theorem canon_more_there {l : List Rc} {r : Rc} (h : r ∈ canonB (l ++ [r])) : ∀ o ∈ canonB (l ++ [r]), o ≠ r → holdsB o r = false := by
  intro o ho hne
  have h1 := (canon_mem _ r).mp h
  have h2 := (canon_mem _ o).mp ho
  exact h1.2.2 o h2.1 h2.2.1 hne
theorem canon_more_held {l : List Rc} {r : Rc} (hs : saneR r = true) (h : r ∉ canonB (l ++ [r])) : ∃ o ∈ canonB (l ++ [r]), o ≠ r ∧ holdsB o r = true := by
  obtain ⟨m, hm, hh⟩ := held_by (l ++ [r]) _ r (by simp) hs (Nat.le_refl _)
  exact ⟨m, hm, fun he => h (he ▸ hm), hh⟩
end Go.Proofs.YtfhlddlhoockaaaQ
namespace Go.Proofs.YtfhlddlhoockaaaQ
open Go.RowKit Go.Proofs.YtfhlddlhoockaaaW.PrintWords Go.Proofs.YtfhlddlhoockaaaW.PrintLast Go.Proofs.YtfhlddlhoockaaaW.PrintMore Go.Proofs.Ytfhlddlhoockaaa.PIsx
theorem canon_two {r : Rc} (hs : saneR r = true) : canonB [r, r] = [r] := by
  refine strict_unique _ _ (canon_strict _) (List.pairwise_singleton _ _) fun x => ?_
  rw [canon_mem]
  constructor
  · rintro ⟨h, _⟩
    simpa using h
  · intro h
    obtain rfl : x = r := by simpa using h
    exact ⟨by simp, hs, fun o ho _ hne => absurd (by simpa using ho) hne⟩
theorem size_ex : Ev (fun k => rect_Size.f k 2 33088 40956) 5859 := Ev.of (k := 40) (fun k => rect_Size.mono _ _ _ k) (by decide +kernel)
/-- The document's example. -/
theorem awake : Ev (fun k => hornbooklaw06_awake.f k) true := by
  have hs : saneR ⟨2, 33088, 40956⟩ = true := by decide +kernel
  unfold hornbooklaw06_awake.f
  refine Ev.bind (rect_In_is _ _ _ _ _) ?_
  rw [show inB 2 33088 40956 2 34128 = true from by decide +kernel]
  simp only [if_true]
  refine Ev.bind (rect_In_is _ _ _ _ _) ?_
  rw [show inB 2 33088 40956 2 34080 = false from by decide +kernel]
  simp only [if_neg (show ¬ (false = true) by decide)]
  refine Ev.bind size_ex ?_
  simp only [if_true]
  refine Ev.bind (rect_Sane_is _ _ _) ?_
  rw [show rectB 2 33088 40956 = true from hs]
  simp only [if_true]
  refine Ev.bind (rect_Canon_is _ (by decide)) ?_
  rw [canon_two hs]
  exact Ev.now _
end Go.Proofs.YtfhlddlhoockaaaQ
namespace Go.Proofs.YtfhlddlhoockaaaQ
open Go.RowKit Go.Proofs.YtfhlddlhoockaaaW.PrintWords Go.Proofs.YtfhlddlhoockaaaW.PrintLast Go.Proofs.YtfhlddlhoockaaaW.PrintMore Go.Proofs.Ytfhlddlhoockaaa.PIsx
theorem val_bytes4 (t : List Int) (hb : Bytes t) (h1 : 1 ≤ t.length) (h4 : t.length ≤ 4) : bytes4 (t.length : Int) (valN t) = t ∧ saneB (t.length : Int) (valN t) = true := by
  match t, hb, h1, h4 with
  | [a], hb, _, _ =>
    have ha := hb a (by simp)
    refine ⟨?_, (sane_iff _ _).mpr ?_⟩
    · simp [bytes4, valN]; omega
    · simp [valN]; omega
  | [a, b], hb, _, _ =>
    have ha := hb a (by simp)
    have hb' := hb b (by simp)
    refine ⟨?_, (sane_iff _ _).mpr ?_⟩
    · simp [bytes4, valN]; omega
    · simp [valN]; omega
  | [a, b, c], hb, _, _ =>
    have ha := hb a (by simp)
    have hb' := hb b (by simp)
    have hc := hb c (by simp)
    refine ⟨?_, (sane_iff _ _).mpr ?_⟩
    · simp [bytes4, valN]; omega
    · simp [valN]; omega
  | [a, b, c, d], hb, _, _ =>
    have ha := hb a (by simp)
    have hb' := hb b (by simp)
    have hc := hb c (by simp)
    have hd := hb d (by simp)
    refine ⟨?_, (sane_iff _ _).mpr ?_⟩
    · simp [bytes4, valN]; omega
    · simp [valN]; omega
def at0 (l : List Int) (i : Nat) : Int := rect_Nth.at_ l i
theorem at0_get {l : List Int} {i : Nat} (h : i < l.length) : at0 l i = l[i] := by unfold at0 rect_Nth.at_; rw [List.getElem?_eq_getElem h]; rfl
/-- How many bytes there may be at each place. -/
def wids : List Int → List Int → List Int
  | x :: a, y :: b => (y - x + 1) :: wids a b
  | _, _ => []
theorem wids_len : ∀ a b : List Int, a.length = b.length → (wids a b).length = a.length
  | [], [], _ => rfl
  | x :: a, y :: b, h => by
    rw [wids, List.length_cons, List.length_cons, wids_len a b (by simpa using h)]
theorem wids_at : ∀ (a b : List Int) (i : Nat), i < a.length → i < b.length → at0 (wids a b) i = at0 b i - at0 a i + 1
  | x :: a, y :: b, 0, _, _ => rfl
  | x :: a, y :: b, i + 1, h1, h2 => wids_at a b i (by simpa using h1) (by simpa using h2)
theorem wids_l0 (a b : List Int) (hab : a.length = b.length) (hl : a.length ≤ 4) (ha : Bytes a) (hb : Bytes b) : ∀ (n i : Nat) (acc : List Int), i + n = a.length → acc.length = i →
    Ev (fun k => rect_box_widths.l0 k acc (a.length : Int) (i : Int) a b) (acc ++ wids (a.drop i) (b.drop i))
  | 0, i, acc, h, hacc => by
    refine Ev.step (fun k => rfl) ?_
    simp only [rect_box_widths.l0]
    simp only [if_neg (show ¬ ((i : Int) < (a.length : Int)) by omega)]
    rw [List.drop_of_length_le (show a.length ≤ i by omega)]
    simp only [wids, List.append_nil]
    exact Ev.now _
  | n + 1, i, acc, h, hacc => by
    have hi : i < a.length := by omega
    have hi' : i < b.length := by omega
    have h1 := ha.get hi
    have h2 := hb.get hi'
    refine Ev.step (fun k => rfl) ?_
    simp only [rect_box_widths.l0]
    simp only [if_pos (show (i : Int) < (a.length : Int) by omega), if_pos (show (i : Int) < (b.length : Int) by omega), if_pos (show (0 : Int) ≤ (i : Int) by omega), if_pos (show acc.length < 17592186044416 by omega)]
    rw [rd_nat hi, rd_nat hi', w64 (n := b[i]) (by omega) (by omega), w64 (n := a[i]) (by omega) (by omega), w64 (n := b[i] - a[i]) (by omega) (by omega), w64 (n := b[i] - a[i] + 1) (by omega) (by omega), w64n (by omega)]
    rw [List.drop_eq_getElem_cons hi, List.drop_eq_getElem_cons hi', wids]
    have := wids_l0 a b hab hl ha hb n (i + 1) (acc ++ [b[i] - a[i] + 1]) (by omega) (by rw [List.length_append, List.length_singleton]; omega)
    rw [List.append_assoc] at this
    exact this
theorem widths_is (a b : List Int) (hab : a.length = b.length) (hl : a.length ≤ 4) (ha : Bytes a) (hb : Bytes b) : Ev (fun k => rect_box_widths.f k a b) (wids a b) := by
  unfold rect_box_widths.f
  have := wids_l0 a b hab hl ha hb a.length 0 [] (by omega) rfl
  rw [List.drop_zero, List.drop_zero, List.nil_append] at this
  exact this
/-- The product of the first m. -/
def prodN (ws : List Int) : Nat → Int
  | 0 => 1
  | m + 1 => prodN ws m * at0 ws m
/-- Widths: from 1 to 256. -/
def Wide (ws : List Int) : Prop := ∀ i, i < ws.length → 1 ≤ at0 ws i ∧ at0 ws i ≤ 256
theorem prodN_bound {ws : List Int} (h : Wide ws) : ∀ m, m ≤ ws.length → 1 ≤ prodN ws m ∧ prodN ws m ≤ 256 ^ m
  | 0, _ => by simp [prodN]
  | m + 1, hm => by
    obtain ⟨h1, h2⟩ := prodN_bound h m (by omega)
    obtain ⟨h3, h4⟩ := h m (by omega)
    rw [prodN]
    refine ⟨?_, ?_⟩
    · have := Int.mul_le_mul h1 h3 (by decide) (by omega)
      simpa using this
    · rw [Int.pow_succ]
      exact Int.mul_le_mul h2 h4 (by omega) (by have : (0 : Int) ≤ 256 ^ m := Int.pow_nonneg (by decide); omega)
theorem prodN_le {ws : List Int} (h : Wide ws) (hl : ws.length ≤ 4) (m : Nat) (hm : m ≤ ws.length) : 1 ≤ prodN ws m ∧ prodN ws m ≤ 4294967296 := by
  obtain ⟨h1, h2⟩ := prodN_bound h m hm
  refine ⟨h1, ?_⟩
  have : m = 0 ∨ m = 1 ∨ m = 2 ∨ m = 3 ∨ m = 4 := by omega
  rcases this with rfl | rfl | rfl | rfl | rfl <;> (simp at h2; omega)
theorem size_l0 (ws : List Int) (h : Wide ws) (hl : ws.length ≤ 4) : ∀ n i : Nat, i + n = ws.length → Ev (fun k => rect_Size.l0 k (prodN ws i) ws (ws.length : Int) (i : Int)) (prodN ws ws.length)
  | 0, i, hi => by
    refine Ev.step (fun k => rfl) ?_
    simp only [rect_Size.l0]
    simp only [if_neg (show ¬ ((i : Int) < (ws.length : Int)) by omega)]
    rw [show i = ws.length by omega]
    exact Ev.now _
  | n + 1, i, hi => by
    have hi' : i < ws.length := by omega
    have hp := prodN_le h hl (i + 1) (by omega)
    have ih := size_l0 ws h hl n (i + 1) (by omega)
    refine Ev.step (fun k => rfl) ?_
    simp only [rect_Size.l0]
    simp only [if_pos (show (i : Int) < (ws.length : Int) by omega), if_pos (show (0 : Int) ≤ (i : Int) by omega)]
    rw [prodN, at0_get hi'] at hp ih
    rw [rd_nat hi', w64n (by omega), w64 (n := prodN ws i * ws[i]) (by omega) (by omega)]
    exact ih
/-- A codespace's widths. -/
def widR (n lo hi : Int) : List Int := wids (bytes4 n lo) (bytes4 n hi)
theorem leAll_of : ∀ (a b : List Int), a.length = b.length → (∀ i, i < a.length → at0 a i ≤ at0 b i) → leAll a b = true
  | [], _, _, _ => by simp [leAll]
  | x :: a, y :: b, h, hi => by
    rw [leAll, Bool.and_eq_true, decide_eq_true_iff]
    exact ⟨hi 0 (by simp), leAll_of a b (by simpa using h) fun i h' => hi (i + 1) (by simpa using h')⟩
theorem leAll_get : ∀ (a b : List Int) (i : Nat) (h1 : i < a.length) (h2 : i < b.length), leAll a b = true → a[i] ≤ b[i]
  | x :: a, y :: b, 0, _, _, h => by
    rw [leAll, Bool.and_eq_true, decide_eq_true_iff] at h
    exact h.1
  | x :: a, y :: b, i + 1, h1, h2, h => by
    rw [leAll, Bool.and_eq_true] at h
    exact leAll_get a b i (by simpa using h1) (by simpa using h2) h.2
theorem rect_lens {n lo hi : Int} (h : rectB n lo hi = true) : ((bytes4 n lo).length : Int) = n ∧ (bytes4 n lo).length = (bytes4 n hi).length ∧ (bytes4 n lo).length ≤ 4 ∧ 1 ≤ (bytes4 n lo).length ∧ (widR n lo hi).length = (bytes4 n lo).length := by
  obtain ⟨p1, p2, p3⟩ := rectB_parts h
  have l1 := bytes4_len p1
  have l2 := b4len p1 p2
  have hr := sane_range p1
  exact ⟨l1, l2, by omega, by omega, wids_len _ _ l2⟩
theorem widR_wide {n lo hi : Int} (h : rectB n lo hi = true) : Wide (widR n lo hi) := by
  intro i hi'
  obtain ⟨l1, l2, l3, l4, l5⟩ := rect_lens h
  obtain ⟨p1, p2, p3⟩ := rectB_parts h
  have h1 : i < (bytes4 n lo).length := by omega
  have h2 : i < (bytes4 n hi).length := by omega
  unfold widR
  rw [wids_at _ _ i h1 h2, at0_get h1, at0_get h2]
  have a1 := (bytes4_bytes n lo).get h1
  have a2 := (bytes4_bytes n hi).get h2
  have a3 := leAll_get _ _ i h1 h2 p3
  omega
/-- How many codes. -/
def sizeB (n lo hi : Int) : Int := if rectB n lo hi = true then prodN (widR n lo hi) (widR n lo hi).length else 0
theorem rect_Size_is (n lo hi : Int) : Ev (fun k => rect_Size.f k n lo hi) (sizeB n lo hi) := by
  unfold rect_Size.f sizeB
  refine Ev.bind (rect_of_is n lo hi) ?_
  by_cases h : rectB n lo hi = true
  · obtain ⟨l1, l2, l3, l4, l5⟩ := rect_lens h
    rw [if_pos h, if_pos h]
    simp only [if_true]
    refine Ev.bind (widths_is _ _ l2 l3 (bytes4_bytes _ _) (bytes4_bytes _ _)) ?_
    exact size_l0 (widR n lo hi) (widR_wide h) (by omega) (widR n lo hi).length 0 (by omega)
  · rw [if_neg h, if_neg h]
    simp only [if_neg (show ¬ (false = true) by decide)]
    exact Ev.now _
/-- The bytes of the k-th, of the first m places. -/
def dig (lo ws : List Int) : Nat → Int → List Int
  | 0, _ => []
  | m + 1, k => dig lo ws m (k / at0 ws m) ++ [at0 lo m + k % at0 ws m]
theorem dig_len (lo ws : List Int) : ∀ m k, (dig lo ws m k).length = m
  | 0, _ => rfl
  | m + 1, k => by rw [dig, List.length_append, dig_len lo ws m, List.length_singleton]
/-- Low bytes and widths that go together. -/
def Fit (lo ws : List Int) : Prop := lo.length = ws.length ∧ ∀ i, i < ws.length → 0 ≤ at0 lo i ∧ 1 ≤ at0 ws i ∧ at0 lo i + at0 ws i ≤ 256
theorem Fit.wide {lo ws : List Int} (h : Fit lo ws) : Wide ws := fun i hi => by
  have := h.2 i hi
  omega
theorem fit_rect {n lo hi : Int} (h : rectB n lo hi = true) : Fit (bytes4 n lo) (widR n lo hi) := by
  obtain ⟨l1, l2, l3, l4, l5⟩ := rect_lens h
  refine ⟨l5.symm, fun i hi' => ?_⟩
  have h1 : i < (bytes4 n lo).length := by omega
  have h2 : i < (bytes4 n hi).length := by omega
  have hw := widR_wide h i hi'
  have he : at0 (widR n lo hi) i = (bytes4 n hi)[i] - (bytes4 n lo)[i] + 1 := by
    unfold widR
    rw [wids_at _ _ i h1 h2, at0_get h1, at0_get h2]
  have a1 := (bytes4_bytes n lo).get h1
  have a2 := (bytes4_bytes n hi).get h2
  rw [he] at hw ⊢
  rw [at0_get h1]
  omega
theorem set_mid (a : List Int) (x y : Int) (r : List Int) : (a ++ x :: r).set a.length y = a ++ y :: r := by simp
theorem at0_mid (a : List Int) (x : Int) (r : List Int) : at0 (a ++ x :: r) a.length = x := by
  rw [at0_get (by simp)]
  simp
theorem at0_left {a b : List Int} {i : Nat} (h : i < a.length) : at0 (a ++ b) i = at0 a i := by
  rw [at0_get (by rw [List.length_append]; omega), at0_get h, List.getElem_append_left h]
theorem take_at {lo : List Int} {m : Nat} (h : m < lo.length) : lo.take (m + 1) = lo.take m ++ [at0 lo m] := by
  rw [take_snoc h, at0_get h]
theorem step_is {lo ws : List Int} (hf : Fit lo ws) {m : Nat} (hm : m < ws.length) (k : Int) (hk : 0 ≤ k) (hk2 : k ≤ 9223372036854775807) (r : List Int) :
    rect_Nth.step ws m (k, lo.take (m + 1) ++ r) = (k / at0 ws m, lo.take m ++ (at0 lo m + k % at0 ws m) :: r) := by
  obtain ⟨f1, f2, f3⟩ := hf.2 m hm
  have hml : m < lo.length := by rw [hf.1]; exact hm
  have hlen : (lo.take m).length = m := by rw [List.length_take]; omega
  have hd : 0 ≤ k / at0 ws m ∧ k / at0 ws m ≤ k := ⟨Int.ediv_nonneg hk (by omega), Int.ediv_le_self _ hk⟩
  have hr := Int.emod_nonneg k (show at0 ws m ≠ 0 by omega)
  have hr2 := Int.emod_lt_of_pos k (show 0 < at0 ws m by omega)
  unfold rect_Nth.step
  rw [take_at hml, List.append_assoc, List.singleton_append]
  show (wrap64 (Int.tdiv k (at0 ws m)), (lo.take m ++ at0 lo m :: r).set m ((at0 (lo.take m ++ at0 lo m :: r) m + Int.tmod k (at0 ws m)) % 256)) = _
  have e1 : at0 (lo.take m ++ at0 lo m :: r) m = at0 lo m := by
    have := at0_mid (lo.take m) (at0 lo m) r
    rw [hlen] at this
    exact this
  have e2 : ∀ y, (lo.take m ++ at0 lo m :: r).set m y = lo.take m ++ y :: r := fun y => by
    have := set_mid (lo.take m) (at0 lo m) y r
    rw [hlen] at this
    exact this
  rw [e1, e2, Int.tdiv_eq_ediv_of_nonneg hk, Int.tmod_eq_emod_of_nonneg hk, w64 (by omega) (by omega), Int.emod_eq_of_lt (a := at0 lo m + k % at0 ws m) (by omega) (by omega)]
theorem go_is {lo ws : List Int} (hf : Fit lo ws) : ∀ (m : Nat) (k : Int) (r : List Int), m ≤ ws.length → 0 ≤ k → k ≤ 9223372036854775807 → (rect_Nth.go ws m (k, lo.take m ++ r)).2 = dig lo ws m k ++ r
  | 0, k, r, _, _, _ => by simp [rect_Nth.go, dig]
  | m + 1, k, r, hm, hk, hk2 => by
    obtain ⟨f1, f2, f3⟩ := hf.2 m (by omega)
    rw [rect_Nth.go, step_is hf (by omega) k hk hk2 r, go_is hf m _ _ (by omega) (Int.ediv_nonneg hk (by omega)) (Int.le_trans (Int.ediv_le_self _ hk) hk2), dig, List.append_assoc, List.singleton_append]
theorem prodN_div {ws : List Int} (h : Wide ws) {m : Nat} (hm : m < ws.length) {k : Int} (hk : 0 ≤ k) (hlt : k < prodN ws (m + 1)) : 0 ≤ k / at0 ws m ∧ k / at0 ws m < prodN ws m := by
  have hw := h m hm
  refine ⟨Int.ediv_nonneg hk (by omega), Int.ediv_lt_of_lt_mul (by omega) ?_⟩
  rw [prodN] at hlt
  exact hlt
/-- Each byte of the k-th lies within. -/
theorem dig_byte {lo ws : List Int} (hf : Fit lo ws) : ∀ (m : Nat) (k : Int), m ≤ ws.length → 0 ≤ k → ∀ i, i < m → at0 lo i ≤ at0 (dig lo ws m k) i ∧ at0 (dig lo ws m k) i ≤ at0 lo i + at0 ws i - 1
  | 0, _, _, _, i, hi => absurd hi (Nat.not_lt_zero _)
  | m + 1, k, hm, hk, i, hi => by
    obtain ⟨f1, f2, f3⟩ := hf.2 m (by omega)
    have hr := Int.emod_nonneg k (show at0 ws m ≠ 0 by omega)
    have hr2 := Int.emod_lt_of_pos k (show 0 < at0 ws m by omega)
    have hl := dig_len lo ws m (k / at0 ws m)
    rw [dig]
    rcases Nat.lt_or_ge i m with h | h
    · have ih := dig_byte hf m (k / at0 ws m) (by omega) (Int.ediv_nonneg hk (by omega)) i h
      have e : at0 (dig lo ws m (k / at0 ws m) ++ [at0 lo m + k % at0 ws m]) i = at0 (dig lo ws m (k / at0 ws m)) i := at0_left (by omega)
      rw [e]
      exact ih
    · obtain rfl : i = m := by omega
      have e := at0_mid (dig lo ws i (k / at0 ws i)) (at0 lo i + k % at0 ws i) []
      rw [hl] at e
      rw [e]
      omega
theorem dig_bytes {lo ws : List Int} (hf : Fit lo ws) (m : Nat) (k : Int) (hm : m ≤ ws.length) (hk : 0 ≤ k) : Bytes (dig lo ws m k) := by
  intro x hx
  obtain ⟨i, hi, rfl⟩ := List.getElem_of_mem hx
  rw [dig_len] at hi
  have := dig_byte hf m k hm hk i hi
  obtain ⟨f1, f2, f3⟩ := hf.2 i (by omega)
  rw [at0_get (l := dig lo ws m k) (by rw [dig_len]; exact hi)] at this
  omega
/-- They rise. -/
theorem dig_mono {lo ws : List Int} (hf : Fit lo ws) : ∀ (m : Nat) (k j : Int), m ≤ ws.length → 0 ≤ k → k < j → j < prodN ws m → valN (dig lo ws m k) < valN (dig lo ws m j)
  | 0, k, j, _, hk, hkj, hj => by
    rw [prodN] at hj
    omega
  | m + 1, k, j, hm, hk, hkj, hj => by
    obtain ⟨f1, f2, f3⟩ := hf.2 m (by omega)
    have hk1 := Int.emod_nonneg k (show at0 ws m ≠ 0 by omega)
    have hk2 := Int.emod_lt_of_pos k (show 0 < at0 ws m by omega)
    have hj1 := Int.emod_nonneg j (show at0 ws m ≠ 0 by omega)
    have hj2 := Int.emod_lt_of_pos j (show 0 < at0 ws m by omega)
    have ek := Int.mul_ediv_add_emod k (at0 ws m)
    have ej := Int.mul_ediv_add_emod j (at0 ws m)
    have hd := prodN_div hf.wide (show m < ws.length by omega) (show 0 ≤ j by omega) hj
    rw [dig, dig, valN_snoc, valN_snoc]
    have hle : k / at0 ws m ≤ j / at0 ws m := Int.ediv_le_ediv (by omega) (by omega)
    rcases Int.lt_or_eq_of_le hle with h | h
    · have := dig_mono hf m (k / at0 ws m) (j / at0 ws m) (by omega) (Int.ediv_nonneg hk (by omega)) h hd.2
      omega
    · rw [h] at ek ⊢
      omega
theorem dig_zero {lo ws : List Int} (hf : Fit lo ws) : ∀ m, m ≤ ws.length → dig lo ws m 0 = lo.take m
  | 0, _ => by simp [dig]
  | m + 1, hm => by
    rw [dig, Int.zero_ediv, Int.zero_emod, dig_zero hf m (by omega), take_at (by rw [hf.1]; omega), Int.add_zero]
theorem dig_last {lo ws hi : List Int} (hf : Fit lo ws) (hh : hi.length = ws.length) (he : ∀ i, i < ws.length → at0 hi i = at0 lo i + at0 ws i - 1) : ∀ m, m ≤ ws.length → dig lo ws m (prodN ws m - 1) = hi.take m
  | 0, _ => by simp [dig]
  | m + 1, hm => by
    obtain ⟨f1, f2, f3⟩ := hf.2 m (by omega)
    have hp := (prodN_bound hf.wide m (by omega)).1
    have e : prodN ws (m + 1) - 1 = (prodN ws m - 1) * at0 ws m + (at0 ws m - 1) := by
      rw [prodN, Int.sub_mul]
      omega
    have e1 : (prodN ws (m + 1) - 1) / at0 ws m = prodN ws m - 1 := by
      rw [e, Int.add_comm, Int.add_mul_ediv_right _ _ (by omega), Int.ediv_eq_zero_of_lt (by omega) (by omega), Int.zero_add]
    have e2 : (prodN ws (m + 1) - 1) % at0 ws m = at0 ws m - 1 := by
      rw [e, Int.add_comm, Int.add_mul_emod_self_right, Int.emod_eq_of_lt (by omega) (by omega)]
    rw [dig, e1, e2, dig_last hf hh he m (by omega), take_at (by omega), he m (by omega), show at0 lo m + (at0 ws m - 1) = at0 lo m + at0 ws m - 1 by omega]
/-- The k-th code's value. -/
def nthV (n lo hi k : Int) : Int := valN (dig (bytes4 n lo) (widR n lo hi) (widR n lo hi).length k)
theorem okW_rect {n lo hi : Int} (h : rectB n lo hi = true) : rect_Nth.okW (bytes4 n lo) (widR n lo hi) = true := by
  obtain ⟨l1, l2, l3, l4, l5⟩ := rect_lens h
  unfold rect_Nth.okW
  rw [Bool.and_eq_true, decide_eq_true_iff, List.all_eq_true]
  refine ⟨⟨l5, by omega, by omega⟩, fun z hz => decide_eq_true ?_⟩
  obtain ⟨i, hi', rfl⟩ := List.getElem_of_mem hz
  have := widR_wide h i hi'
  rw [at0_get hi'] at this
  omega
theorem size_pos {n lo hi : Int} (h : rectB n lo hi = true) : 1 ≤ sizeB n lo hi ∧ sizeB n lo hi ≤ 4294967296 := by
  obtain ⟨l1, l2, l3, l4, l5⟩ := rect_lens h
  unfold sizeB
  rw [if_pos h]
  exact prodN_le (widR_wide h) (by omega) _ (Nat.le_refl _)
theorem size_no {n lo hi : Int} (h : rectB n lo hi = false) : sizeB n lo hi = 0 := by
  unfold sizeB
  rw [h]
  rfl
theorem sane_of_size {n lo hi k : Int} (h0 : 0 ≤ k) (h : k < sizeB n lo hi) : rectB n lo hi = true := by
  cases hr : rectB n lo hi with
  | true => rfl
  | false =>
    rw [size_no hr] at h
    omega
theorem rect_Nth_in (n lo hi k : Int) (h0 : 0 ≤ k) (h1 : k < sizeB n lo hi) : Ev (fun q => rect_Nth.f q n lo hi k) (n, nthV n lo hi k, true) := by
  have h := sane_of_size h0 h1
  have hs := size_pos h
  obtain ⟨l1, l2, l3, l4, l5⟩ := rect_lens h
  unfold rect_Nth.f
  simp only [if_neg (show ¬ k < 0 by omega)]
  refine Ev.bind (rect_Size_is n lo hi) ?_
  simp only [if_neg (show ¬ k ≥ sizeB n lo hi by omega)]
  have hof := rect_of_is n lo hi
  rw [if_pos h] at hof
  refine Ev.bind hof ?_
  refine Ev.bind (widths_is _ _ l2 l3 (bytes4_bytes _ _) (bytes4_bytes _ _)) ?_
  show Ev (fun q => if rect_Nth.okW (bytes4 n lo) (widR n lo hi) = true then hex_Val.f q (rect_Nth.go (widR n lo hi) (widR n lo hi).length (k, bytes4 n lo)).2 else none) _
  simp only [if_pos (okW_rect h)]
  have e := go_is (fit_rect h) (widR n lo hi).length k [] (Nat.le_refl _) h0 (by omega)
  rw [List.take_of_length_le (by omega), List.append_nil, List.append_nil] at e
  rw [e]
  have hl := dig_len (bytes4 n lo) (widR n lo hi) (widR n lo hi).length k
  have := hex_Val_is _ (dig_bytes (fit_rect h) (widR n lo hi).length k (Nat.le_refl _) h0) (by omega) (by omega)
  rw [hl, show (((widR n lo hi).length : Nat) : Int) = n by omega] at this
  exact this
theorem rect_Nth_out (n lo hi k : Int) (h : k < 0 ∨ k ≥ sizeB n lo hi) : Ev (fun q => rect_Nth.f q n lo hi k) (0, 0, false) := by
  unfold rect_Nth.f
  by_cases h0 : k < 0
  · simp only [if_pos h0]
    exact Ev.now _
  · simp only [if_neg h0]
    refine Ev.bind (rect_Size_is n lo hi) ?_
    simp only [if_pos (show k ≥ sizeB n lo hi by omega)]
    exact Ev.now _
/-- The k-th is in it; the first one is its low, the last one its high. -/
theorem nth_in {n lo hi k : Int} (h0 : 0 ≤ k) (h1 : k < sizeB n lo hi) : inB n lo hi n (nthV n lo hi k) = true := by
  have h := sane_of_size h0 h1
  obtain ⟨p1, p2, p3⟩ := rectB_parts h
  obtain ⟨l1, l2, l3, l4, l5⟩ := rect_lens h
  have hf := fit_rect h
  have hb := dig_bytes hf (widR n lo hi).length k (Nat.le_refl _) h0
  have hl := dig_len (bytes4 n lo) (widR n lo hi) (widR n lo hi).length k
  obtain ⟨v1, v2⟩ := val_bytes4 _ hb (by omega) (by omega)
  rw [hl, show (((widR n lo hi).length : Nat) : Int) = n by omega] at v1 v2
  refine inB_iff.mpr ⟨h, v2, rfl, ?_, ?_⟩
  · unfold nthV
    rw [v1]
    refine leAll_of _ _ (by omega) fun i hi' => ?_
    exact (dig_byte hf (widR n lo hi).length k (Nat.le_refl _) h0 i (by omega)).1
  · unfold nthV
    rw [v1]
    refine leAll_of _ _ (by omega) fun i hi' => ?_
    have := (dig_byte hf (widR n lo hi).length k (Nat.le_refl _) h0 i (by omega)).2
    have hw : at0 (widR n lo hi) i = at0 (bytes4 n hi) i - at0 (bytes4 n lo) i + 1 := wids_at _ _ i (by omega) (by omega)
    omega
theorem valN_bytes4 {n v : Int} (h : saneB n v = true) : valN (bytes4 n v) = v := by
  rcases sane_range h with ⟨rfl, h1⟩ | ⟨rfl, h1⟩ | ⟨rfl, h1⟩ | ⟨rfl, h1⟩ <;> (simp [bytes4, valN]; omega)
theorem nth_first {n lo hi : Int} (h : rectB n lo hi = true) : nthV n lo hi 0 = lo := by
  obtain ⟨p1, p2, p3⟩ := rectB_parts h
  obtain ⟨l1, l2, l3, l4, l5⟩ := rect_lens h
  unfold nthV
  rw [dig_zero (fit_rect h) _ (Nat.le_refl _), List.take_of_length_le (by omega), valN_bytes4 p1]
theorem nth_last {n lo hi : Int} (h : rectB n lo hi = true) : nthV n lo hi (sizeB n lo hi - 1) = hi := by
  obtain ⟨p1, p2, p3⟩ := rectB_parts h
  obtain ⟨l1, l2, l3, l4, l5⟩ := rect_lens h
  unfold nthV sizeB
  rw [if_pos h, dig_last (hi := bytes4 n hi) (fit_rect h) (by omega) (fun i hi' => by
    have hw : at0 (widR n lo hi) i = at0 (bytes4 n hi) i - at0 (bytes4 n lo) i + 1 := wids_at _ _ i (by omega) (by omega)
    omega) _ (Nat.le_refl _), List.take_of_length_le (by omega), valN_bytes4 p2]
theorem nth_mono {n lo hi k j : Int} (h0 : 0 ≤ k) (hkj : k < j) (h1 : j < sizeB n lo hi) : nthV n lo hi k < nthV n lo hi j := by
  have h := sane_of_size (by omega) h1
  unfold sizeB at h1
  rw [if_pos h] at h1
  exact dig_mono (fit_rect h) _ k j (Nat.le_refl _) h0 hkj h1
end Go.Proofs.YtfhlddlhoockaaaQ
namespace Go.Proofs.YtfhlddlhoockaaaQ
open Go.RowKit Go.Proofs.YtfhlddlhoockaaaW.PrintWords Go.Proofs.YtfhlddlhoockaaaW.PrintLast Go.Proofs.YtfhlddlhoockaaaW.PrintMore Go.Proofs.Ytfhlddlhoockaaa.PIsx
theorem ref_val_l0 (l : List Int) (hb : Bytes l) (hl : l.length ≤ 4) : ∀ n i : Nat, i + n = l.length → Ev (fun k => hornbookref01_Val.l0 k l (valN (l.take i)) (i : Int)) ((l.length : Int), valN l, true)
  | 0, i, h => by
    refine Ev.step (fun k => rfl) ?_
    simp only [hornbookref01_Val.l0]
    simp only [if_neg (show ¬ ((i : Int) < (l.length : Int)) by omega)]
    rw [List.take_of_length_le (by omega)]
    exact Ev.now _
  | n + 1, i, h => by
    have hi : i < l.length := by omega
    refine Ev.step (fun k => rfl) ?_
    simp only [hornbookref01_Val.l0]
    simp only [if_pos (show (i : Int) < (l.length : Int) by omega), if_pos (show (0 : Int) ≤ (i : Int) by omega)]
    obtain ⟨h0, h1⟩ := valN_bound i (l.take i) (by rw [List.length_take]; omega) (hb.take i)
    have hx := hb.get hi
    have hp : (256 : Int) ^ i ≤ 16777216 := by
      have hi4 : i = 0 ∨ i = 1 ∨ i = 2 ∨ i = 3 := by omega
      rcases hi4 with h | h | h | h <;> (rw [h]; decide +kernel)
    rw [rd_nat hi, w64 (n := valN (l.take i) * 256) (by omega) (by omega), w64 (n := l[i]) (by omega) (by omega), w64 (n := valN (l.take i) * 256 + l[i]) (by omega) (by omega), w64n (by omega), ← valN_take hi]
    exact ref_val_l0 l hb hl n (i + 1) (by omega)
theorem ref_Val_is (l : List Int) (hb : Bytes l) (h1 : 1 ≤ l.length) (h4 : l.length ≤ 4) : Ev (fun k => hornbookref01_Val.f k l) ((l.length : Int), valN l, true) := by
  unfold hornbookref01_Val.f
  simp only [if_neg (show ¬ ((l.length : Int) < 1) by omega)]
  rw [decide_eq_false (by omega)]
  refine Ev.step (fun k => rfl) ?_
  simp only [hornbookref01_Val.j0]
  simp only [if_neg (show ¬ (false = true) by decide)]
  exact ref_val_l0 l hb h4 l.length 0 (by omega)
theorem ref_Val_not (l : List Int) (h : l.length < 1 ∨ 4 < l.length) : Ev (fun k => hornbookref01_Val.f k l) (0, 0, false) := by
  unfold hornbookref01_Val.f
  by_cases h1 : (l.length : Int) < 1
  · simp only [if_pos h1]
    refine Ev.step (fun k => rfl) ?_
    simp only [hornbookref01_Val.j0, if_true]
    exact Ev.now _
  · simp only [if_neg h1]
    rw [decide_eq_true (by omega)]
    refine Ev.step (fun k => rfl) ?_
    simp only [hornbookref01_Val.j0, if_true]
    exact Ev.now _
theorem ref_full (n : Int) (h1 : 1 ≤ n) (h4 : n ≤ 4) : Ev (fun k => hornbookref01_Full.f k n) (256 ^ n.toNat) := by
  refine ⟨8, fun k hk => ?_⟩
  obtain ⟨k, rfl⟩ : ∃ m, k = m + 8 := ⟨k - 8, by omega⟩
  unfold hornbookref01_Full.f
  have w : ∀ z ∈ ([1, 2, 3, 4, 256, 65536, 16777216, 4294967296] : List Int), wrap64 z = z := by
    intro z hz
    simp at hz
    rcases hz with rfl | rfl | rfl | rfl | rfl | rfl | rfl | rfl <;> exact w64 (by omega) (by omega)
  have w1 := w 1 (by simp)
  have w2 := w 2 (by simp)
  have w3 := w 3 (by simp)
  have w4 := w 4 (by simp)
  have w5 := w 256 (by simp)
  have w6 := w 65536 (by simp)
  have w7 := w 16777216 (by simp)
  have w8 := w 4294967296 (by simp)
  have : n = 1 ∨ n = 2 ∨ n = 3 ∨ n = 4 := by omega
  rcases this with rfl | rfl | rfl | rfl <;> simp [hornbookref01_Full.l0, w1, w2, w3, w4, w5, w6, w7, w8]
theorem ref_Sane1_is (n v : Int) : Ev (fun k => hornbookref01_Sane.f k n v) (saneB n v) := by
  unfold hornbookref01_Sane.f saneB
  by_cases h1 : n ≥ 1
  · simp only [if_pos h1]
    by_cases h2 : n ≤ 4
    · simp only [if_pos h2]
      by_cases h3 : v ≥ 0
      · simp only [if_pos h3]
        refine Ev.bind (ref_full n h1 h2) ?_
        rw [show decide (1 ≤ n ∧ n ≤ 4 ∧ 0 ≤ v ∧ v < 256 ^ n.toNat) = decide (v < 256 ^ n.toNat) by
          rw [decide_eq_decide]
          exact ⟨fun h => h.2.2.2, fun h => ⟨h1, h2, h3, h⟩⟩]
        exact Ev.now _
      · simp only [if_neg h3]
        rw [decide_eq_false (fun h => h3 h.2.2.1)]
        exact Ev.now _
    · simp only [if_neg h2]
      rw [decide_eq_false (fun h => h2 h.2.1)]
      exact Ev.now _
  · simp only [if_neg h1]
    rw [decide_eq_false (fun h => h1 h.1)]
    exact Ev.now _
theorem tm {v : Int} (h : 0 ≤ v) : Int.tmod v 256 = v % 256 := Int.tmod_eq_emod_of_nonneg h
theorem td {v : Int} (h : 0 ≤ v) : Int.tdiv v 256 = v / 256 := Int.tdiv_eq_ediv_of_nonneg h
theorem ref_bytes_l0 (v : Int) (h0 : 0 ≤ v) (hv : v < 4294967296) : ∀ (n : Nat) (xs : List Int), n ≤ xs.length → xs.length ≤ 4 → ∀ (u : Int), 0 ≤ u → u < 4294967296 →
    Ev (fun k => hornbookref01_Bytes.l0 k xs u ((n : Int) - 1)) ((List.range n).map (fun i => u / 256 ^ (n - 1 - i) % 256) ++ xs.drop n)
  | 0, xs, h, hl, u, hu0, hu1 => by
    refine Ev.step (fun k => rfl) ?_
    simp only [hornbookref01_Bytes.l0]
    simp only [if_neg (show ¬ (((0 : Nat) : Int) - 1 ≥ 0) by omega)]
    exact Ev.now _
  | n + 1, xs, h, hl, u, hu0, hu1 => by
    refine Ev.step (fun k => rfl) ?_
    simp only [hornbookref01_Bytes.l0]
    rw [show ((n + 1 : Nat) : Int) - 1 = (n : Int) by omega]
    simp only [if_pos (show (n : Int) ≥ 0 by omega), if_pos (show (n : Int) < (xs.length : Int) by omega), Int.toNat_natCast]
    rw [tm hu0, td hu0, w64 (n := u / 256) (by omega) (by omega), w64 (n := (n : Int) - 1) (by omega) (by omega)]
    have := ref_bytes_l0 v h0 hv n (xs.set n (u % 256 % 256)) (by simp; omega) (by simpa using hl) (u / 256) (by omega) (by omega)
    have e : (List.range n).map (fun i => u / 256 / 256 ^ (n - 1 - i) % 256) ++ (xs.set n (u % 256 % 256)).drop n = (List.range (n + 1)).map (fun i => u / 256 ^ (n + 1 - 1 - i) % 256) ++ xs.drop (n + 1) := by
      have hn : n < xs.length := by omega
      rw [List.range_succ, List.map_append, List.append_assoc]
      congr 1
      · refine List.map_congr_left fun i hi => ?_
        have hi' := List.mem_range.mp hi
        rw [show n + 1 - 1 - i = (n - 1 - i) + 1 by omega, Int.pow_succ, Int.mul_comm, ← Int.ediv_ediv_of_nonneg (by decide)]
      · rw [List.drop_eq_getElem_cons (by simpa using hn), List.getElem_set_self, List.drop_set_of_lt (by omega)]
        simp
    rw [e] at this
    exact this
theorem ref_Bytes_is (n v : Int) : Ev (fun k => hornbookref01_Bytes.f k n v) (bytesB n v) := by
  unfold hornbookref01_Bytes.f bytesB
  refine Ev.bind (ref_Sane1_is n v) ?_
  by_cases h : saneB n v = true
  · simp only [if_pos h]
    have hr := sane_range h
    simp only [if_pos (show 0 ≤ n by omega), if_pos (show n.toNat ≤ 281474976710656 by omega)]
    rw [w64 (n := n - 1) (by omega) (by omega)]
    have := ref_bytes_l0 v (by omega) (by omega) n.toNat (List.replicate n.toNat 0) (by simp) (by simp; omega) v (by omega) (by omega)
    rw [show ((n.toNat : Nat) : Int) = n by omega, List.drop_of_length_le (by simp), List.append_nil] at this
    have e : (List.range n.toNat).map (fun i => v / 256 ^ (n.toNat - 1 - i) % 256) = bytes4 n v := by
      rcases hr with ⟨rfl, _⟩ | ⟨rfl, _⟩ | ⟨rfl, _⟩ | ⟨rfl, _⟩ <;> simp [bytes4, List.range_succ]
    rw [e] at this
    exact this
  · simp only [if_neg h]
    exact Ev.now _
theorem ref_lows (n lo hi : Int) : Ev (fun k => hornbookref06_lows.f k n lo hi) (bytesB n lo) := Ev.bind (ref_Bytes_is n lo) (Ev.now _)
theorem ref_highs (n lo hi : Int) : Ev (fun k => hornbookref06_highs.f k n lo hi) (bytesB n hi) := Ev.bind (ref_Bytes_is n hi) (Ev.now _)
theorem ref_sane_l0 (a b : List Int) (hab : a.length = b.length) (hl : a.length ≤ 4) : ∀ n i : Nat, i + n = a.length → Ev (fun k => hornbookref06_Sane.l0 k a b (i : Int)) (leAll (a.drop i) (b.drop i))
  | 0, i, h => by
    refine Ev.step (fun k => rfl) ?_
    simp only [hornbookref06_Sane.l0]
    simp only [if_neg (show ¬ ((i : Int) < (a.length : Int)) by omega)]
    rw [List.drop_of_length_le (by omega)]
    exact Ev.now _
  | n + 1, i, h => by
    have hi : i < a.length := by omega
    have hi' : i < b.length := by omega
    refine Ev.step (fun k => rfl) ?_
    simp only [hornbookref06_Sane.l0]
    simp only [if_pos (show (i : Int) < (a.length : Int) by omega), if_pos (show (i : Int) < (b.length : Int) by omega), if_pos (show (0 : Int) ≤ (i : Int) by omega)]
    rw [rd_nat hi, rd_nat hi', List.drop_eq_getElem_cons hi, List.drop_eq_getElem_cons hi', leAll]
    by_cases hc : a[i] > b[i]
    · simp only [if_pos hc]
      rw [decide_eq_false (show ¬ a[i] ≤ b[i] by omega), Bool.false_and]
      exact Ev.now _
    · simp only [if_neg hc]
      rw [decide_eq_true (show a[i] ≤ b[i] by omega), Bool.true_and, w64n (by omega)]
      exact ref_sane_l0 a b hab hl n (i + 1) (by omega)
theorem ref_Sane_is (n lo hi : Int) : Ev (fun k => hornbookref06_Sane.f k n lo hi) (rectB n lo hi) := by
  unfold hornbookref06_Sane.f rectB
  refine Ev.bind (ref_lows n lo hi) ?_
  refine Ev.bind (ref_highs n lo hi) ?_
  unfold bytesB
  by_cases h1 : saneB n lo = true
  · have l1 := bytes4_len h1
    have r1 := sane_range h1
    rw [if_pos h1, h1, Bool.true_and]
    simp only [if_neg (show ¬ (((bytes4 n lo).length : Int) = 0) by omega)]
    by_cases h2 : saneB n hi = true
    · have l2 := bytes4_len h2
      rw [if_pos h2, h2, Bool.true_and]
      rw [beq_eq_false_iff_ne.mpr (show ((bytes4 n hi).length : Int) ≠ 0 by omega)]
      refine Ev.step (fun k => rfl) ?_
      simp only [hornbookref06_Sane.j0]
      simp only [if_neg (show ¬ (false = true) by decide)]
      exact ref_sane_l0 (bytes4 n lo) (bytes4 n hi) (by omega) (by omega) _ 0 (Nat.zero_add _)
    · rw [if_neg h2, Bool.eq_false_iff.mpr h2, Bool.false_and]
      refine Ev.step (fun k => rfl) ?_
      simp only [hornbookref06_Sane.j0]
      exact Ev.now _
  · rw [if_neg h1, Bool.eq_false_iff.mpr h1, Bool.false_and, Bool.false_and]
    refine Ev.step (fun k => rfl) ?_
    simp only [hornbookref06_Sane.j0]
    exact Ev.now _
theorem ref_fits_l0 (b a c : List Int) (N L H : Int) (hN : (a.length : Int) = N) (h2 : a.length = c.length) (hl : a.length ≤ 4) : ∀ n i : Nat, i + n = a.length → i ≤ b.length →
    Ev (fun k => hornbookref06_Fits.l0 k b a c (i : Int) N L H) ((i : Int) + (fitN (b.drop i) (a.drop i) (c.drop i) : Int))
  | 0, i, h, hib => by
    refine Ev.step (fun k => rfl) ?_
    simp only [hornbookref06_Fits.l0]
    simp only [if_neg (show ¬ ((i : Int) < N) by omega)]
    rw [List.drop_of_length_le (show a.length ≤ i by omega)]
    have e : fitN (b.drop i) [] (c.drop i) = 0 := by cases b.drop i <;> rfl
    rw [e, show (i : Int) + ((0 : Nat) : Int) = (i : Int) by omega]
    by_cases hb : (i : Int) < (b.length : Int)
    · simp only [if_pos hb]
      exact Ev.now _
    · simp only [if_neg hb]
      exact Ev.now _
  | n + 1, i, h, hib => by
    have hi' : i < a.length := by omega
    have hi2 : i < c.length := by omega
    refine Ev.step (fun k => rfl) ?_
    simp only [hornbookref06_Fits.l0]
    by_cases hb : i < b.length
    · simp only [if_pos (show (i : Int) < (b.length : Int) by omega), if_pos (show (i : Int) < N by omega), if_pos (show (i : Int) < (a.length : Int) by omega), if_pos (show (i : Int) < (c.length : Int) by omega), if_pos (show (0 : Int) ≤ (i : Int) by omega)]
      rw [rd_nat hb, rd_nat hi', rd_nat hi2, List.drop_eq_getElem_cons hb, List.drop_eq_getElem_cons hi', List.drop_eq_getElem_cons hi2, fitN]
      by_cases hc : b[i] ≥ a[i]
      · simp only [if_pos hc]
        by_cases hd : b[i] ≤ c[i]
        · simp only [if_pos hd]
          rw [if_pos (show a[i] ≤ b[i] ∧ b[i] ≤ c[i] from ⟨hc, hd⟩), w64n (by omega)]
          have := ref_fits_l0 b a c N L H hN h2 hl n (i + 1) (by omega) (by omega)
          rw [show (i : Int) + ((fitN (b.drop (i + 1)) (a.drop (i + 1)) (c.drop (i + 1)) + 1 : Nat) : Int) = ((i + 1 : Nat) : Int) + (fitN (b.drop (i + 1)) (a.drop (i + 1)) (c.drop (i + 1)) : Int) by omega]
          exact this
        · simp only [if_neg hd]
          rw [if_neg (show ¬ (a[i] ≤ b[i] ∧ b[i] ≤ c[i]) from fun h => hd h.2), show (i : Int) + ((0 : Nat) : Int) = (i : Int) by omega]
          exact Ev.now _
      · simp only [if_neg hc]
        rw [if_neg (show ¬ (a[i] ≤ b[i] ∧ b[i] ≤ c[i]) from fun h => hc h.1), show (i : Int) + ((0 : Nat) : Int) = (i : Int) by omega]
        exact Ev.now _
    · simp only [if_neg (show ¬ ((i : Int) < (b.length : Int)) by omega)]
      rw [List.drop_of_length_le (show b.length ≤ i by omega)]
      simp only [fitN]
      rw [show (i : Int) + ((0 : Nat) : Int) = (i : Int) by omega]
      exact Ev.now _
theorem ref_Fits_is (n lo hi : Int) (b : List Int) : Ev (fun k => hornbookref06_Fits.f k n lo hi b) ((fitsB n lo hi b : Nat) : Int) := by
  unfold hornbookref06_Fits.f fitsB
  refine Ev.bind (ref_Sane_is n lo hi) ?_
  by_cases h : rectB n lo hi = true
  · have h' := h
    unfold rectB at h'
    rw [Bool.and_eq_true, Bool.and_eq_true] at h'
    have l1 := bytes4_len h'.1.1
    have l2 := bytes4_len h'.1.2
    have r1 := sane_range h'.1.1
    simp only [if_pos h]
    refine Ev.bind (ref_lows n lo hi) ?_
    refine Ev.bind (ref_highs n lo hi) ?_
    unfold bytesB
    rw [if_pos h'.1.1, if_pos h'.1.2]
    have := ref_fits_l0 b (bytes4 n lo) (bytes4 n hi) n lo hi l1 (by omega) (by omega) _ 0 (Nat.zero_add _) (by omega)
    rw [List.drop_zero, List.drop_zero, List.drop_zero] at this
    simpa using this
  · simp only [if_neg h]
    exact Ev.now _
theorem ref_In_is (n lo hi cn cv : Int) : Ev (fun k => hornbookref06_In.f k n lo hi cn cv) (inB n lo hi cn cv) := by
  unfold hornbookref06_In.f inB
  refine Ev.bind (ref_Sane_is n lo hi) ?_
  by_cases h : rectB n lo hi = true
  · rw [h, Bool.true_and]
    simp only [if_true]
    refine Ev.bind (ref_Sane1_is cn cv) ?_
    by_cases h2 : saneB cn cv = true
    · rw [h2, Bool.true_and]
      simp only [if_true]
      by_cases h3 : cn = n
      · simp only [if_pos h3]
        rw [decide_eq_true h3, Bool.true_and]
        refine Ev.bind (ref_Bytes_is cn cv) ?_
        refine Ev.bind (ref_Fits_is n lo hi _) ?_
        unfold bytesB fitsB
        rw [if_pos h2, if_pos h]
        exact Ev.now _
      · simp only [if_neg h3]
        rw [decide_eq_false h3, Bool.false_and]
        exact Ev.now _
    · rw [Bool.eq_false_iff.mpr h2, Bool.false_and, Bool.false_and]
      simp only [if_neg (show ¬ (false = true) by decide)]
      exact Ev.now _
  · rw [Bool.eq_false_iff.mpr h, Bool.false_and, Bool.false_and, Bool.false_and]
    simp only [if_neg (show ¬ (false = true) by decide)]
    exact Ev.now _
end Go.Proofs.YtfhlddlhoockaaaQ
namespace Go.Proofs.YtfhlddlhoockaaaQ
open Go.RowKit Go.Proofs.YtfhlddlhoockaaaW.PrintWords Go.Proofs.YtfhlddlhoockaaaW.PrintLast Go.Proofs.YtfhlddlhoockaaaW.PrintMore Go.Proofs.Ytfhlddlhoockaaa.PIsx
theorem fits_in {a : Rc} {n v : Int} (ha : saneR a = true) (hv : saneB n v = true) (hn : n = a.f0) : inB a.f0 a.f1 a.f2 n v = decide (((fitsB a.f0 a.f1 a.f2 (bytesB n v) : Nat) : Int) = a.f0) := by
  unfold saneR at ha
  unfold inB fitsB bytesB
  rw [ha, hv, decide_eq_true hn]
  simp only [Bool.true_and, if_true]
theorem ref_Holds_is (a b : Rc) : Ev (fun k => hornbookref06_Holds.f k a.f0 a.f1 a.f2 b.f0 b.f1 b.f2) (holdsB a b) := by
  have no : holdsB a b = false → Ev (fun k => hornbookref06_Holds.j0 k true a.f0 a.f1 a.f2 b.f0 b.f1 b.f2) (holdsB a b) := by
    intro h
    rw [h]
    refine Ev.step (fun k => rfl) ?_
    simp only [hornbookref06_Holds.j0, if_true]
    exact Ev.now _
  unfold hornbookref06_Holds.f
  refine Ev.bind (ref_Sane_is _ _ _) ?_
  show Ev (fun k => if saneR a = true then _ else _) _
  by_cases ha : saneR a = true
  · simp only [if_pos ha]
    refine Ev.bind (ref_Sane_is _ _ _) ?_
    show Ev (fun k => if saneR b = true then _ else _) _
    by_cases hb : saneR b = true
    · simp only [if_pos hb]
      by_cases hn : b.f0 = a.f0
      · rw [show (a.f0 != b.f0) = false by rw [hn]; simp]
        refine Ev.step (fun k => rfl) ?_
        simp only [hornbookref06_Holds.j0, if_neg (show ¬ (false = true) by decide)]
        obtain ⟨q1, q2, _⟩ := rectB_parts hb
        refine Ev.bind (ref_lows _ _ _) ?_
        refine Ev.bind (ref_Fits_is _ _ _ _) ?_
        have e : holdsB a b = (decide (((fitsB a.f0 a.f1 a.f2 (bytesB b.f0 b.f1) : Nat) : Int) = a.f0) && decide (((fitsB a.f0 a.f1 a.f2 (bytesB b.f0 b.f2) : Nat) : Int) = a.f0)) := by
          unfold holdsB
          rw [hb, Bool.true_and, fits_in ha q1 hn, fits_in ha q2 hn]
        rw [e]
        by_cases h1 : ((fitsB a.f0 a.f1 a.f2 (bytesB b.f0 b.f1) : Nat) : Int) = a.f0
        · simp only [if_pos h1]
          rw [decide_eq_true h1, Bool.true_and]
          refine Ev.bind (ref_highs _ _ _) ?_
          refine Ev.bind (ref_Fits_is _ _ _ _) ?_
          exact Ev.now _
        · simp only [if_neg h1]
          rw [decide_eq_false h1, Bool.false_and]
          exact Ev.now _
      · rw [show (a.f0 != b.f0) = true by rw [bne_iff_ne]; exact fun h => hn h.symm]
        exact no (Bool.eq_false_iff.mpr fun h => hn (holds_iff.mp h).2.2.1)
    · simp only [if_neg hb]
      exact no (Bool.eq_false_iff.mpr fun h => hb (holds_iff.mp h).2.1)
  · simp only [if_neg ha]
    exact no (Bool.eq_false_iff.mpr fun h => ha (holds_iff.mp h).1)
end Go.Proofs.YtfhlddlhoockaaaQ
namespace Go.Proofs.YtfhlddlhoockaaaQ
open Go.RowKit Go.Proofs.YtfhlddlhoockaaaW.PrintWords Go.Proofs.YtfhlddlhoockaaaW.PrintLast Go.Proofs.YtfhlddlhoockaaaW.PrintMore Go.Proofs.Ytfhlddlhoockaaa.PIsx
theorem ref_size_l0 (n lo hi : Int) (h : rectB n lo hi = true) : ∀ m i : Nat, i + m = (widR n lo hi).length →
    Ev (fun k => hornbookref06_Size.l0 k (bytes4 n lo) (bytes4 n hi) (prodN (widR n lo hi) i) (i : Int) n lo hi) (prodN (widR n lo hi) (widR n lo hi).length)
  | 0, i, hi' => by
    obtain ⟨l1, l2, l3, l4, l5⟩ := rect_lens h
    refine Ev.step (fun k => rfl) ?_
    simp only [hornbookref06_Size.l0]
    simp only [if_neg (show ¬ ((i : Int) < n) by omega)]
    rw [show i = (widR n lo hi).length by omega]
    exact Ev.now _
  | m + 1, i, hi' => by
    obtain ⟨l1, l2, l3, l4, l5⟩ := rect_lens h
    have hp := prodN_le (widR_wide h) (by omega) (i + 1) (by omega)
    have ih := ref_size_l0 n lo hi h m (i + 1) (by omega)
    have h1 : i < (bytes4 n lo).length := by omega
    have h2 : i < (bytes4 n hi).length := by omega
    have a1 := (bytes4_bytes n lo).get h1
    have a2 := (bytes4_bytes n hi).get h2
    have hw : at0 (widR n lo hi) i = (bytes4 n hi)[i] - (bytes4 n lo)[i] + 1 := by
      unfold widR
      rw [wids_at _ _ i h1 h2, at0_get h1, at0_get h2]
    refine Ev.step (fun k => rfl) ?_
    simp only [hornbookref06_Size.l0]
    simp only [if_pos (show (i : Int) < n by omega), if_pos (show (i : Int) < ((bytes4 n lo).length : Int) by omega), if_pos (show (i : Int) < ((bytes4 n hi).length : Int) by omega), if_pos (show (0 : Int) ≤ (i : Int) by omega)]
    rw [prodN, hw] at hp ih
    rw [rd_nat h1, rd_nat h2, w64 (n := (bytes4 n hi)[i]) (by omega) (by omega), w64 (n := (bytes4 n lo)[i]) (by omega) (by omega), w64 (n := (bytes4 n hi)[i] - (bytes4 n lo)[i]) (by omega) (by omega), w64 (n := (bytes4 n hi)[i] - (bytes4 n lo)[i] + 1) (by omega) (by omega), w64n (by omega), w64 (n := prodN (widR n lo hi) i * ((bytes4 n hi)[i] - (bytes4 n lo)[i] + 1)) (by omega) (by omega)]
    exact ih
theorem ref_Size_is (n lo hi : Int) : Ev (fun k => hornbookref06_Size.f k n lo hi) (sizeB n lo hi) := by
  unfold hornbookref06_Size.f
  refine Ev.bind (ref_Sane_is n lo hi) ?_
  unfold sizeB
  by_cases h : rectB n lo hi = true
  · obtain ⟨p1, p2, p3⟩ := rectB_parts h
    rw [if_pos h]
    simp only [if_pos h]
    refine Ev.bind (ref_lows n lo hi) ?_
    refine Ev.bind (ref_highs n lo hi) ?_
    unfold bytesB
    rw [if_pos p1, if_pos p2]
    exact ref_size_l0 n lo hi h (widR n lo hi).length 0 (by omega)
  · rw [if_neg h]
    simp only [if_neg h]
    exact Ev.now _
theorem ref_nth_l0 (n lo hi : Int) (h : rectB n lo hi = true) : ∀ (m : Nat) (k : Int) (r : List Int), m ≤ (widR n lo hi).length → 0 ≤ k → k ≤ 9223372036854775807 → m + r.length = (widR n lo hi).length → Bytes r →
    Ev (fun q => hornbookref06_Nth.l0 q k (bytes4 n lo) (bytes4 n hi) ((bytes4 n lo).take m ++ r) ((m : Int) - 1)) (n, valN (dig (bytes4 n lo) (widR n lo hi) m k ++ r), true)
  | 0, k, r, hm, hk, hk2, hr, hb => by
    obtain ⟨l1, l2, l3, l4, l5⟩ := rect_lens h
    refine Ev.step (fun k => rfl) ?_
    simp only [hornbookref06_Nth.l0]
    simp only [if_neg (show ¬ (((0 : Nat) : Int) - 1 ≥ 0) by omega)]
    rw [List.take_zero, List.nil_append, dig, List.nil_append]
    refine Ev.bind (ref_Val_is r hb (by omega) (by omega)) ?_
    rw [show (r.length : Int) = n by omega]
    exact Ev.now _
  | m + 1, k, r, hm, hk, hk2, hr, hb => by
    obtain ⟨l1, l2, l3, l4, l5⟩ := rect_lens h
    have hf := fit_rect h
    obtain ⟨f1, f2, f3⟩ := hf.2 m (by omega)
    have h1 : m < (bytes4 n lo).length := by omega
    have h2 : m < (bytes4 n hi).length := by omega
    have a1 := (bytes4_bytes n lo).get h1
    have a2 := (bytes4_bytes n hi).get h2
    have hw : (bytes4 n hi)[m] - (bytes4 n lo)[m] + 1 = at0 (widR n lo hi) m := by
      unfold widR
      rw [wids_at _ _ m h1 h2, at0_get h1, at0_get h2]
    have hd : 0 ≤ k / at0 (widR n lo hi) m ∧ k / at0 (widR n lo hi) m ≤ k := ⟨Int.ediv_nonneg hk (by omega), Int.ediv_le_self _ hk⟩
    have hr1 := Int.emod_nonneg k (show at0 (widR n lo hi) m ≠ 0 by omega)
    have hr2 := Int.emod_lt_of_pos k (show 0 < at0 (widR n lo hi) m by omega)
    have hlen : ((bytes4 n lo).take m).length = m := by rw [List.length_take]; omega
    have ih := ref_nth_l0 n lo hi h m (k / at0 (widR n lo hi) m) ((at0 (bytes4 n lo) m + k % at0 (widR n lo hi) m) :: r) (by omega) hd.1 (by omega) (by rw [List.length_cons]; omega) (by
      intro x hx
      rcases List.mem_cons.mp hx with rfl | hx
      · omega
      · exact hb x hx)
    refine Ev.step (fun k => rfl) ?_
    simp only [hornbookref06_Nth.l0]
    rw [show ((m + 1 : Nat) : Int) - 1 = (m : Int) by omega]
    simp only [if_pos (show (m : Int) ≥ 0 by omega), if_pos (show (m : Int) < ((bytes4 n lo).length : Int) by omega), if_pos (show (m : Int) < ((bytes4 n hi).length : Int) by omega), if_pos (show (0 : Int) ≤ (m : Int) by omega)]
    rw [rd_nat h1, rd_nat h2, w64 (n := (bytes4 n hi)[m]) (by omega) (by omega), w64 (n := (bytes4 n lo)[m]) (by omega) (by omega), w64 (n := (bytes4 n hi)[m] - (bytes4 n lo)[m]) (by omega) (by omega), w64 (n := (bytes4 n hi)[m] - (bytes4 n lo)[m] + 1) (by omega) (by omega), hw]
    have hxl : (m : Int) < (((bytes4 n lo).take (m + 1) ++ r).length : Int) := by
      rw [List.length_append, List.length_take]
      omega
    simp only [if_neg (show ¬ at0 (widR n lo hi) m = 0 by omega), if_pos hxl, Int.toNat_natCast]
    rw [Int.tdiv_eq_ediv_of_nonneg hk, Int.tmod_eq_emod_of_nonneg hk, w64 (n := k / at0 (widR n lo hi) m) (by omega) (by omega), w64 (n := (m : Int) - 1) (by omega) (by omega)]
    rw [← at0_get h1, Int.emod_eq_of_lt (a := k % at0 (widR n lo hi) m) (by omega) (by omega), Int.emod_eq_of_lt (a := at0 (bytes4 n lo) m + k % at0 (widR n lo hi) m) (by omega) (by omega)]
    have e2 : ((bytes4 n lo).take (m + 1) ++ r).set m (at0 (bytes4 n lo) m + k % at0 (widR n lo hi) m) = (bytes4 n lo).take m ++ (at0 (bytes4 n lo) m + k % at0 (widR n lo hi) m) :: r := by
      rw [take_at h1, List.append_assoc, List.singleton_append]
      have := set_mid ((bytes4 n lo).take m) (at0 (bytes4 n lo) m) (at0 (bytes4 n lo) m + k % at0 (widR n lo hi) m) r
      rw [hlen] at this
      exact this
    rw [e2]
    rw [dig, List.append_assoc, List.singleton_append]
    exact ih
theorem ref_Nth_in (n lo hi k : Int) (h0 : 0 ≤ k) (h1 : k < sizeB n lo hi) : Ev (fun q => hornbookref06_Nth.f q n lo hi k) (n, nthV n lo hi k, true) := by
  have h := sane_of_size h0 h1
  have hs := size_pos h
  obtain ⟨p1, p2, p3⟩ := rectB_parts h
  obtain ⟨l1, l2, l3, l4, l5⟩ := rect_lens h
  unfold hornbookref06_Nth.f
  simp only [if_neg (show ¬ k < 0 by omega)]
  refine Ev.bind (ref_Size_is n lo hi) ?_
  rw [decide_eq_false (show ¬ k ≥ sizeB n lo hi by omega)]
  refine Ev.step (fun k => rfl) ?_
  simp only [hornbookref06_Nth.j0, if_neg (show ¬ (false = true) by decide)]
  refine Ev.bind (ref_lows n lo hi) ?_
  refine Ev.bind (ref_highs n lo hi) ?_
  unfold bytesB
  rw [if_pos p1, if_pos p2]
  simp only [Option.bind_some, List.length_nil, List.nil_append]
  simp only [if_pos (show 0 + (bytes4 n lo).length < 140737488355328 by omega)]
  have := ref_nth_l0 n lo hi h (widR n lo hi).length k [] (Nat.le_refl _) h0 (by omega) rfl (fun x hx => by cases hx)
  rw [List.take_of_length_le (by omega), List.append_nil, List.append_nil] at this
  rw [w64 (n := n - 1) (by omega) (by omega), show n - 1 = ((widR n lo hi).length : Int) - 1 by omega]
  exact this
theorem ref_Nth_out (n lo hi k : Int) (h : k < 0 ∨ k ≥ sizeB n lo hi) : Ev (fun q => hornbookref06_Nth.f q n lo hi k) (0, 0, false) := by
  have j0 : Ev (fun q => hornbookref06_Nth.j0 q k true n lo hi) (0, 0, false) := by
    refine Ev.step (fun k => rfl) ?_
    simp only [hornbookref06_Nth.j0, if_true]
    exact Ev.now _
  unfold hornbookref06_Nth.f
  by_cases h0 : k < 0
  · simp only [if_pos h0]
    exact j0
  · simp only [if_neg h0]
    refine Ev.bind (ref_Size_is n lo hi) ?_
    rw [decide_eq_true (show k ≥ sizeB n lo hi by omega)]
    exact j0
end Go.Proofs.YtfhlddlhoockaaaQ
