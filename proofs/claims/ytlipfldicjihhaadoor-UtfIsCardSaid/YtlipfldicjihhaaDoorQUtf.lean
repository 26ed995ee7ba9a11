/- What layer 2 (utf) answers, in plain words: values as units, units as bytes, and back; and the document's own. -/
import Derived.Test.YtlipfldicjihhaaDoorQBase
import Derived.Test.YtlipfldicjihhaaDoorPTabx1
import Derived.Test.YtlipfldicjihhaaDoorPTabx3
import Derived.Test.YtlipfldicjihhaaDoorPTabx8
import Derived.Test.YtlipfldicjihhaaDoorPTabx11
set_option linter.unusedVariables false
set_option linter.unusedSimpArgs false
namespace Go.Proofs.YtlipfldicjihhaaDoorQ
open Go.RowKit Go.Proofs.YtlipfldicjihhaaDoorW.PrintWords Go.Proofs.YtlipfldicjihhaaDoorW.PrintLast Go.Proofs.YtlipfldicjihhaaDoorW.PrintMore Go.Proofs.YtlipfldicjihhaaDoor.PTab
/-- Is it a scalar value? -/
def goodB (r : Int) : Bool := decide (0 ≤ r ∧ r ≤ 1114111 ∧ (r < 55296 ∨ 57343 < r))
/-- A value, or what stands for it. -/
def gd (r : Int) : Int := if goodB r = true then r else 65533
theorem goodB_gd (r : Int) : goodB (gd r) = true := by
  unfold gd
  split
  · assumption
  · decide +kernel
theorem gd_range (r : Int) : 0 ≤ gd r ∧ gd r ≤ 1114111 ∧ (gd r < 55296 ∨ 57343 < gd r) := of_decide_eq_true (goodB_gd r)
theorem gd_good {r : Int} (h : goodB r = true) : gd r = r := if_pos h
/-- A value's units. -/
def enc1 (r : Int) : List Int := if gd r < 65536 then [gd r] else [55296 + (gd r - 65536) / 1024, 56320 + (gd r - 65536) % 1024]
def encL (l : List Int) : List Int := l.flatMap enc1
/-- A unit's bytes. -/
def un (x : Int) : Int := if x < 0 ∨ 65535 < x then 65533 else x
def byt1 (x : Int) : List Int := [un x / 256, un x % 256]
def bytL (u : List Int) : List Int := u.flatMap byt1
/-- Bytes as units; is one left over? -/
def unitsL : List Int → List Int × Bool
  | a :: b :: l => ((a * 256 + b) :: (unitsL l).1, (unitsL l).2)
  | [_] => ([], true)
  | [] => ([], false)
def hiB (u : Int) : Bool := decide (55296 ≤ u ∧ u < 56320)
def loB (u : Int) : Bool := decide (56320 ≤ u ∧ u ≤ 57343)
def one (u : Int) : Int := if 65535 < u then 65533 else gd u
def pair (a b : Int) : Int := 65536 + (a - 55296) * 1024 + (b - 56320)
/-- Units as values. -/
def decL : List Int → List Int
  | a :: b :: l => if hiB a = true ∧ loB b = true then pair a b :: decL l else one a :: decL (b :: l)
  | [a] => [one a]
  | [] => []
theorem Good_is (r : Int) : utf_Good.f r = some (goodB r) := by
  unfold utf_Good.f goodB
  by_cases h0 : r ≥ 0
  · rw [if_pos h0]
    by_cases h1 : r ≤ 1114111
    · rw [if_pos h1]
      by_cases h2 : r < 55296
      · rw [if_pos h2, decide_eq_true (show 0 ≤ r ∧ r ≤ 1114111 ∧ (r < 55296 ∨ 57343 < r) by omega)]
      · rw [if_neg h2]
        congr 1
        rw [decide_eq_decide]
        omega
    · rw [if_neg h1, decide_eq_false (by omega)]
  · rw [if_neg h0, decide_eq_false (by omega)]
theorem good_is (r : Int) : utf_good.f r = some (gd r) := by
  unfold utf_good.f gd
  rw [Good_is, Option.bind_some]
  split <;> rfl
theorem or_hi {y : Int} (h0 : 0 ≤ y) (h1 : y < 1024) : Go.bits .or .i64 55296 y = 55296 + y := bits_join .i64 63 (by decide) wraps_i64 10 55296 y (by decide) (by decide) (by decide) h0 h1 (by omega)
theorem or_lo {y : Int} (h0 : 0 ≤ y) (h1 : y < 1024) : Go.bits .or .i64 56320 y = 56320 + y := bits_join .i64 63 (by decide) wraps_i64 10 56320 y (by decide) (by decide) (by decide) h0 h1 (by omega)
theorem and_part {x : Int} (h0 : 0 ≤ x) (h1 : x < 2 ^ 40) : Go.bits .and .i64 x 1023 = x % 1024 := bits_mask .i64 63 (by decide) wraps_i64 10 (by decide) x h0 (by omega)
theorem enc1_len (r : Int) : 1 ≤ (enc1 r).length ∧ (enc1 r).length ≤ 2 := by
  unfold enc1
  split <;> simp
theorem encL_len : ∀ l : List Int, l.length ≤ (encL l).length ∧ (encL l).length ≤ 2 * l.length
  | [] => by simp [encL]
  | x :: l => by
    have h := encL_len l
    have h1 := enc1_len x
    unfold encL at h ⊢
    rw [List.flatMap_cons, List.length_append, List.length_cons]
    omega
theorem Enc16_l0 (l : List Int) (hl : l.length < 1000000000) : ∀ (n i : Nat) (acc : List Int), i + n = l.length → acc.length ≤ 2 * i → Ev (fun k => utf_Enc16.l0 k acc l (l.length : Int) (i : Int)) (acc ++ encL (l.drop i))
  | 0, i, acc, h, _ => by
    refine Ev.step (fun k => rfl) ?_
    simp only [utf_Enc16.l0]
    simp only [if_neg (show ¬ ((i : Int) < (l.length : Int)) by omega)]
    rw [List.drop_of_length_le (by omega)]
    simp only [encL, List.flatMap_nil, List.append_nil]
    exact Ev.now _
  | n + 1, i, acc, h, ha => by
    have hi : i < l.length := by omega
    refine Ev.step (fun k => rfl) ?_
    simp only [utf_Enc16.l0]
    simp only [if_pos (show (i : Int) < (l.length : Int) by omega), if_pos (show (0 : Int) ≤ (i : Int) by omega)]
    rw [rd_nat hi, good_is, List.drop_eq_getElem_cons hi, w64n (by omega)]
    simp only [Option.bind_some]
    have hg := gd_range l[i]
    have e : encL (l[i] :: l.drop (i + 1)) = enc1 l[i] ++ encL (l.drop (i + 1)) := rfl
    rw [e, ← List.append_assoc]
    by_cases hp : gd l[i] < 65536
    · have e1 : enc1 l[i] = [gd l[i]] := if_pos hp
      rw [e1]
      simp only [if_pos hp, if_pos (show acc.length < 17592186044416 by omega)]
      exact Enc16_l0 l hl n (i + 1) _ (by omega) (by simp; omega)
    · have e1 : enc1 l[i] = [55296 + (gd l[i] - 65536) / 1024, 56320 + (gd l[i] - 65536) % 1024] := if_neg hp
      rw [e1]
      simp only [if_neg hp]
      rw [w64 (n := gd l[i] - 65536) (by omega) (by omega), and_part (by omega) (by omega), or_hi (by omega) (by omega), or_lo (by omega) (by omega)]
      simp only [if_pos (show acc.length + ([55296 + (gd l[i] - 65536) / 1024, 56320 + (gd l[i] - 65536) % 1024] : List Int).length < 17592186044416 by simp; omega)]
      exact Enc16_l0 l hl n (i + 1) _ (by omega) (by simp; omega)
theorem Enc16_is (l : List Int) (hl : l.length < 1000000000) : Ev (fun k => utf_Enc16.f k l) (encL l) := Enc16_l0 l hl l.length 0 [] (by omega) (by simp)
theorem bytL_len : ∀ l : List Int, (bytL l).length = 2 * l.length
  | [] => rfl
  | x :: l => by
    have h := bytL_len l
    unfold bytL at h ⊢
    rw [List.flatMap_cons, List.length_append, h, List.length_cons]
    simp [byt1]
    omega
theorem Bytes_l0 (l : List Int) (hl : l.length < 4000000000) : ∀ (n i : Nat) (acc : List Int), i + n = l.length → acc.length ≤ 2 * i → Ev (fun k => utf_Bytes.l0 k acc l (l.length : Int) (i : Int)) (acc ++ bytL (l.drop i))
  | 0, i, acc, h, _ => by
    refine Ev.step (fun k => rfl) ?_
    simp only [utf_Bytes.l0]
    simp only [if_neg (show ¬ ((i : Int) < (l.length : Int)) by omega)]
    rw [List.drop_of_length_le (by omega)]
    simp only [bytL, List.flatMap_nil, List.append_nil]
    exact Ev.now _
  | n + 1, i, acc, h, ha => by
    have hi : i < l.length := by omega
    refine Ev.step (fun k => rfl) ?_
    simp only [utf_Bytes.l0]
    simp only [if_pos (show (i : Int) < (l.length : Int) by omega), if_pos (show (0 : Int) ≤ (i : Int) by omega), Option.bind_some]
    rw [rd_nat hi, List.drop_eq_getElem_cons hi, w64n (by omega)]
    have e : bytL (l[i] :: l.drop (i + 1)) = byt1 l[i] ++ bytL (l.drop (i + 1)) := rfl
    rw [e, ← List.append_assoc]
    by_cases h0 : l[i] < 0
    · have e1 : byt1 l[i] = [65533 / 256, 65533 % 256] := by unfold byt1 un; rw [if_pos (.inl h0)]
      rw [e1]
      simp only [if_pos h0, if_pos (show acc.length + ([65533 / 256, 65533 % 256] : List Int).length < 140737488355328 by simp; omega)]
      exact Bytes_l0 l hl n (i + 1) _ (by omega) (by simp; omega)
    · simp only [if_neg h0]
      by_cases h1 : l[i] > 65535
      · have e1 : byt1 l[i] = [65533 / 256, 65533 % 256] := by unfold byt1 un; rw [if_pos (.inr h1)]
        rw [e1]
        simp only [if_pos h1, if_pos (show acc.length + ([65533 / 256, 65533 % 256] : List Int).length < 140737488355328 by simp; omega)]
        exact Bytes_l0 l hl n (i + 1) _ (by omega) (by simp; omega)
      · have e1 : byt1 l[i] = [(l[i] / 256) % 256, l[i] % 256] := by unfold byt1 un; rw [if_neg (by omega), Int.emod_eq_of_lt (a := l[i] / 256) (by omega) (by omega)]
        rw [e1]
        simp only [if_neg h1, if_pos (show acc.length + ([(l[i] / 256) % 256, l[i] % 256] : List Int).length < 140737488355328 by simp; omega)]
        exact Bytes_l0 l hl n (i + 1) _ (by omega) (by simp; omega)
theorem Bytes_is (l : List Int) (hl : l.length < 4000000000) : Ev (fun k => utf_Bytes.f k l) (bytL l) := Bytes_l0 l hl l.length 0 [] (by omega) (by simp)
theorem Units_l0 : ∀ (l acc : List Int), l.length + acc.length < 4000000000 → Bytes l → Ev (fun k => utf_Units.l0 k l acc) (acc ++ (unitsL l).1, (unitsL l).2)
  | [], acc, h, _ => by
    refine Ev.step (fun k => rfl) ?_
    simp only [utf_Units.l0]
    simp only [if_neg (show ¬ ((([] : List Int).length : Int) > 1) by simp)]
    simp only [unitsL, List.append_nil]
    rw [show decide ((([] : List Int).length : Int) > 0) = false from rfl]
    exact Ev.now _
  | [a], acc, h, _ => by
    refine Ev.step (fun k => rfl) ?_
    simp only [utf_Units.l0]
    simp only [if_neg (show ¬ ((([a] : List Int).length : Int) > 1) by simp)]
    simp only [unitsL, List.append_nil]
    rw [show decide ((([a] : List Int).length : Int) > 0) = true from rfl]
    exact Ev.now _
  | a :: b :: l, acc, h, hb => by
    have ha := hb a (by simp)
    have hb' := hb b (by simp)
    simp only [List.length_cons] at h
    refine Ev.step (fun k => rfl) ?_
    simp only [utf_Units.l0]
    simp only [List.length_cons]
    simp only [if_pos (show ((l.length + 1 + 1 : Nat) : Int) > 1 by omega), if_pos (show 0 < ((l.length + 1 + 1 : Nat) : Int) by omega), if_pos (show 1 < ((l.length + 1 + 1 : Nat) : Int) by omega), if_pos (show acc.length < 17592186044416 by omega), if_pos (show 2 ≤ ((l.length + 1 + 1 : Nat) : Int) by omega)]
    rw [show rd (a :: b :: l) 0 = a from rfl, show rd (a :: b :: l) 1 = b from rfl, w64 (n := a) (by omega) (by omega), or_byte ha.1 (by omega) hb'.1 hb'.2]
    have ih := Units_l0 l (acc ++ [a * 256 + b]) (by simp; omega) (fun x hx => hb x (by simp [hx]))
    rw [List.append_assoc] at ih
    exact ih
theorem Units_is (l : List Int) (hl : l.length < 4000000000) (hb : Bytes l) : Ev (fun k => utf_Units.f k l) (unitsL l) := Units_l0 l [] (by simpa using hl) hb
theorem high_is (u : Int) : utf_high.f u = some (hiB u) := by
  unfold utf_high.f hiB
  by_cases h : u ≥ 55296
  · rw [if_pos h]
    congr 1
    rw [decide_eq_decide]
    omega
  · rw [if_neg h, decide_eq_false (by omega)]
theorem low_is (u : Int) : utf_low.f u = some (loB u) := by
  unfold utf_low.f loB
  by_cases h : u ≥ 56320
  · rw [if_pos h]
    congr 1
    rw [decide_eq_decide]
    omega
  · rw [if_neg h, decide_eq_false (by omega)]
theorem one_is (u : Int) : utf_one.f u = some (one u) := by
  unfold utf_one.f one
  by_cases h : u > 65535
  · rw [if_pos h, if_pos h]
  · rw [if_neg h, if_neg (by omega), good_is]
    rfl
theorem pair_w {a b : Int} (ha : hiB a = true) (hb : loB b = true) : wrap64 ((wrap64 ((wrap64 (65536 + (wrap64 ((wrap64 (a - 55296)) * 1024)))) + b)) - 56320) = pair a b := by
  have ha := of_decide_eq_true ha
  have hb := of_decide_eq_true hb
  unfold pair
  rw [w64 (n := a - 55296) (by omega) (by omega), w64 (n := (a - 55296) * 1024) (by omega) (by omega), w64 (n := 65536 + (a - 55296) * 1024) (by omega) (by omega), w64 (n := 65536 + (a - 55296) * 1024 + b) (by omega) (by omega), w64 (by omega) (by omega)]
  omega
theorem Dec16_l0 : ∀ (m : Nat) (l acc : List Int), l.length ≤ m → l.length + acc.length < 4000000000 → Ev (fun k => utf_Dec16.l0 k l acc) (acc ++ decL l)
  | _, [], acc, _, h => by
    refine Ev.step (fun k => rfl) ?_
    simp only [utf_Dec16.l0]
    simp only [if_neg (show ¬ ((([] : List Int).length : Int) > 0) by simp)]
    simp only [decL, List.append_nil]
    exact Ev.now _
  | 0, a :: l, acc, hm, _ => by simp at hm
  | m + 1, [a], acc, _, h => by
    simp only [List.length_cons, List.length_nil] at h
    refine Ev.step (fun k => rfl) ?_
    simp only [utf_Dec16.l0]
    simp only [if_pos (show (([a] : List Int).length : Int) > 0 by simp), if_neg (show ¬ ((([a] : List Int).length : Int) > 1) by simp), if_pos (show 0 < (([a] : List Int).length : Int) by simp), if_pos (show acc.length < 17592186044416 by omega), if_pos (show 1 ≤ (([a] : List Int).length : Int) by simp)]
    rw [show rd [a] 0 = a from rfl, one_is]
    simp only [Option.bind_some]
    have ih := Dec16_l0 m [] (acc ++ [one a]) (Nat.zero_le _) (by simp; omega)
    rw [List.append_assoc] at ih
    exact ih
  | m + 1, a :: b :: l, acc, hm, h => by
    simp only [List.length_cons] at h hm
    refine Ev.step (fun k => rfl) ?_
    simp only [utf_Dec16.l0]
    simp only [List.length_cons]
    simp only [if_pos (show ((l.length + 1 + 1 : Nat) : Int) > 0 by omega), if_pos (show ((l.length + 1 + 1 : Nat) : Int) > 1 by omega), if_pos (show 0 < ((l.length + 1 + 1 : Nat) : Int) by omega), if_pos (show 1 < ((l.length + 1 + 1 : Nat) : Int) by omega), if_pos (show acc.length < 17592186044416 by omega), if_pos (show 2 ≤ ((l.length + 1 + 1 : Nat) : Int) by omega), if_pos (show 1 ≤ ((l.length + 1 + 1 : Nat) : Int) by omega)]
    rw [show rd (a :: b :: l) 0 = a from rfl, show rd (a :: b :: l) 1 = b from rfl, high_is, one_is, low_is]
    simp only [Option.bind_some]
    have ih1 := Dec16_l0 m (b :: l) (acc ++ [one a]) (by simp only [List.length_cons]; omega) (by simp; omega)
    have ih2 := Dec16_l0 m l (acc ++ [pair a b]) (by omega) (by simp; omega)
    rw [List.append_assoc] at ih1 ih2
    by_cases ha : hiB a = true
    · simp only [if_pos ha]
      by_cases hb : loB b = true
      · simp only [if_pos hb]
        rw [pair_w ha hb]
        have e : decL (a :: b :: l) = pair a b :: decL l := by rw [decL, if_pos ⟨ha, hb⟩]
        rw [e]
        exact ih2
      · simp only [if_neg hb]
        have e : decL (a :: b :: l) = one a :: decL (b :: l) := by
          rw [decL, if_neg (fun h => hb h.2)]
        rw [e]
        exact ih1
    · simp only [if_neg ha]
      have e : decL (a :: b :: l) = one a :: decL (b :: l) := by
        rw [decL, if_neg (fun h => ha h.1)]
      rw [e]
      exact ih1
theorem Dec16_is (l : List Int) (hl : l.length < 4000000000) : Ev (fun k => utf_Dec16.f k l) (decL l) := Dec16_l0 l.length l [] (Nat.le_refl _) (by simpa using hl)
end Go.Proofs.YtlipfldicjihhaaDoorQ
