/- What the document's own layer 2 answers: the same. -/
import Derived.Test.YtlipfldicjihhaaDoorQUtf
import Derived.Test.YtlipfldicjihhaaDoorPTabx12
import Derived.Test.YtlipfldicjihhaaDoorPTabx15
import Derived.Test.YtlipfldicjihhaaDoorPTabx14
import Derived.Test.YtlipfldicjihhaaDoorPTabx12
set_option linter.unusedVariables false
set_option linter.unusedSimpArgs false
namespace Go.Proofs.YtlipfldicjihhaaDoorQ
open Go.RowKit Go.Proofs.YtlipfldicjihhaaDoorW.PrintWords Go.Proofs.YtlipfldicjihhaaDoorW.PrintLast Go.Proofs.YtlipfldicjihhaaDoorW.PrintMore Go.Proofs.YtlipfldicjihhaaDoor.PTab
theorem rGood_is (r : Int) : hornbookref02_Good.f r = some (goodB r) := Good_is r
theorem rgood_is (r : Int) : hornbookref02_good.f r = some (gd r) := by
  unfold hornbookref02_good.f gd
  rw [rGood_is, Option.bind_some]
  split <;> rfl
theorem rhigh_is (u : Int) : hornbookref02_high.f u = some (hiB u) := by
  unfold hornbookref02_high.f hiB
  by_cases h : u ≥ 55296
  · rw [if_pos h]
    congr 1
    rw [decide_eq_decide]
    omega
  · rw [if_neg h, decide_eq_false (by omega)]
theorem rlow_is (u : Int) : hornbookref02_low.f u = some (loB u) := low_is u
theorem rEnc16_l0 (l : List Int) (hl : l.length < 1000000000) : ∀ (n i : Nat) (acc : List Int), i + n = l.length → acc.length ≤ 2 * i → Ev (fun k => hornbookref02_Enc16.l0 k l acc (i : Int)) (acc ++ encL (l.drop i))
  | 0, i, acc, h, _ => by
    refine Ev.step (fun k => rfl) ?_
    simp only [hornbookref02_Enc16.l0]
    simp only [if_neg (show ¬ ((i : Int) < (l.length : Int)) by omega)]
    rw [List.drop_of_length_le (by omega)]
    simp only [encL, List.flatMap_nil, List.append_nil]
    exact Ev.now _
  | n + 1, i, acc, h, ha => by
    have hi : i < l.length := by omega
    refine Ev.step (fun k => rfl) ?_
    simp only [hornbookref02_Enc16.l0]
    simp only [if_pos (show (i : Int) < (l.length : Int) by omega), if_pos (show (0 : Int) ≤ (i : Int) by omega)]
    rw [rd_nat hi, rgood_is, List.drop_eq_getElem_cons hi, w64n (by omega)]
    simp only [Option.bind_some]
    have hg := gd_range l[i]
    have e : encL (l[i] :: l.drop (i + 1)) = enc1 l[i] ++ encL (l.drop (i + 1)) := rfl
    rw [e, ← List.append_assoc]
    by_cases hp : gd l[i] < 65536
    · have e1 : enc1 l[i] = [gd l[i]] := if_pos hp
      rw [e1]
      simp only [if_pos hp, if_pos (show acc.length < 17592186044416 by omega)]
      exact rEnc16_l0 l hl n (i + 1) _ (by omega) (by simp; omega)
    · have e1 : enc1 l[i] = [55296 + (gd l[i] - 65536) / 1024, 56320 + (gd l[i] - 65536) % 1024] := if_neg hp
      rw [e1]
      simp only [if_neg hp]
      rw [w64 (n := gd l[i] - 65536) (by omega) (by omega), Int.tdiv_eq_ediv_of_nonneg (by omega), Int.tmod_eq_emod_of_nonneg (by omega), w64 (n := (gd l[i] - 65536) / 1024) (by omega) (by omega), w64 (n := 55296 + (gd l[i] - 65536) / 1024) (by omega) (by omega), w64 (n := 56320 + (gd l[i] - 65536) % 1024) (by omega) (by omega)]
      simp only [if_pos (show acc.length + ([55296 + (gd l[i] - 65536) / 1024, 56320 + (gd l[i] - 65536) % 1024] : List Int).length < 17592186044416 by simp; omega)]
      exact rEnc16_l0 l hl n (i + 1) _ (by omega) (by simp; omega)
theorem rEnc16_is (l : List Int) (hl : l.length < 1000000000) : Ev (fun k => hornbookref02_Enc16.f k l) (encL l) := rEnc16_l0 l hl l.length 0 [] (by omega) (by simp)
theorem rBytes_l0 (l : List Int) (hl : l.length < 4000000000) : ∀ (n i : Nat) (acc : List Int), i + n = l.length → acc.length ≤ 2 * i → Ev (fun k => hornbookref02_Bytes.l0 k l acc (i : Int)) (acc ++ bytL (l.drop i))
  | 0, i, acc, h, _ => by
    refine Ev.step (fun k => rfl) ?_
    simp only [hornbookref02_Bytes.l0]
    simp only [if_neg (show ¬ ((i : Int) < (l.length : Int)) by omega)]
    rw [List.drop_of_length_le (by omega)]
    simp only [bytL, List.flatMap_nil, List.append_nil]
    exact Ev.now _
  | n + 1, i, acc, h, ha => by
    have hi : i < l.length := by omega
    refine Ev.step (fun k => rfl) ?_
    simp only [hornbookref02_Bytes.l0]
    simp only [if_pos (show (i : Int) < (l.length : Int) by omega), if_pos (show (0 : Int) ≤ (i : Int) by omega), Option.bind_some]
    rw [rd_nat hi, List.drop_eq_getElem_cons hi, w64n (by omega)]
    have e : bytL (l[i] :: l.drop (i + 1)) = byt1 l[i] ++ bytL (l.drop (i + 1)) := rfl
    rw [e, ← List.append_assoc]
    have eB : ([(65533 : Int) / 256 % 256, (65533 : Int) % 256] : List Int) = [65533 / 256, 65533 % 256] := by decide +kernel
    by_cases h0 : l[i] < 0
    · have e1 : byt1 l[i] = [65533 / 256, 65533 % 256] := by unfold byt1 un; rw [if_pos (.inl h0)]
      rw [e1]
      simp only [if_pos h0, eB, if_pos (show acc.length + ([65533 / 256, 65533 % 256] : List Int).length < 140737488355328 by simp; omega)]
      exact rBytes_l0 l hl n (i + 1) _ (by omega) (by simp; omega)
    · simp only [if_neg h0]
      by_cases h1 : l[i] > 65535
      · have e1 : byt1 l[i] = [65533 / 256, 65533 % 256] := by unfold byt1 un; rw [if_pos (.inr h1)]
        rw [e1]
        simp only [if_pos h1, eB, if_pos (show acc.length + ([65533 / 256, 65533 % 256] : List Int).length < 140737488355328 by simp; omega)]
        exact rBytes_l0 l hl n (i + 1) _ (by omega) (by simp; omega)
      · have e1 : byt1 l[i] = [l[i] / 256 % 256, l[i] % 256 % 256] := by unfold byt1 un; rw [if_neg (by omega), Int.emod_eq_of_lt (a := l[i] / 256) (by omega) (by omega), Int.emod_emod_of_dvd l[i] (Int.dvd_refl 256)]
        rw [e1, Int.tdiv_eq_ediv_of_nonneg (by omega), Int.tmod_eq_emod_of_nonneg (by omega), w64 (n := l[i] / 256) (by omega) (by omega)]
        simp only [if_neg h1, if_pos (show acc.length + ([l[i] / 256 % 256, l[i] % 256 % 256] : List Int).length < 140737488355328 by simp; omega)]
        exact rBytes_l0 l hl n (i + 1) _ (by omega) (by simp; omega)
theorem rBytes_is (l : List Int) (hl : l.length < 4000000000) : Ev (fun k => hornbookref02_Bytes.f k l) (bytL l) := rBytes_l0 l hl l.length 0 [] (by omega) (by simp)
theorem unitsL_odd : ∀ l : List Int, (unitsL l).2 = (((l.length : Nat) : Int) % 2 == 1)
  | [] => rfl
  | [_] => rfl
  | a :: b :: l => by
    rw [unitsL]
    simp only
    rw [unitsL_odd l, List.length_cons, List.length_cons]
    rw [Bool.eq_iff_iff, beq_iff_eq, beq_iff_eq]
    omega
theorem rUnits_l0 (l : List Int) (hl : l.length < 4000000000) (hb : Bytes l) : ∀ (n i : Nat) (acc : List Int), l.length ≤ i + n → i ≤ l.length → acc.length ≤ i → ((l.length : Int) - i) % 2 = (l.length : Int) % 2 → Ev (fun k => hornbookref02_Units.l0 k l acc (i : Int)) (acc ++ (unitsL (l.drop i)).1, (unitsL l).2)
  | n, i, acc, h, hle, ha, hp => by
    by_cases hi : i + 1 < l.length
    · obtain ⟨m, rfl⟩ : ∃ m, n = m + 1 := ⟨n - 1, by omega⟩
      have e : l.drop i = l[i] :: l[i + 1] :: l.drop (i + 2) := by rw [List.drop_eq_getElem_cons (by omega), List.drop_eq_getElem_cons (by omega)]
      refine Ev.step (fun k => rfl) ?_
      simp only [hornbookref02_Units.l0]
      rw [w64n (by omega)]
      simp only [if_pos (show ((i + 1 : Nat) : Int) < (l.length : Int) by omega), if_pos (show (0 : Int) ≤ (i : Int) by omega), if_pos (show (i : Int) < (l.length : Int) by omega), if_pos (show (0 : Int) ≤ ((i + 1 : Nat) : Int) by omega), if_pos (show acc.length < 17592186044416 by omega)]
      have h0 := hb.get (show i < l.length by omega)
      have h1 := hb.get hi
      rw [rd_nat (show i < l.length by omega), rd_nat hi, e, unitsL, w64 (n := l[i]) (by omega) (by omega), w64 (n := l[i] * 256) (by omega) (by omega), w64 (n := l[i + 1]) (by omega) (by omega), w64 (n := l[i] * 256 + l[i + 1]) (by omega) (by omega), w64 (n := (i : Int) + 2) (by omega) (by omega)]
      have ih := rUnits_l0 l hl hb m (i + 2) (acc ++ [l[i] * 256 + l[i + 1]]) (by omega) (by omega) (by simp; omega) (by omega)
      rw [List.append_assoc] at ih
      exact ih
    · refine Ev.step (fun k => rfl) ?_
      simp only [hornbookref02_Units.l0]
      rw [w64n (by omega)]
      simp only [if_neg (show ¬ ((i + 1 : Nat) : Int) < (l.length : Int) by omega)]
      have e : (unitsL (l.drop i)).1 = [] := by
        have hl : (l.drop i).length ≤ 1 := by rw [List.length_drop]; omega
        match hd : l.drop i, hl with
        | [], _ => rfl
        | [_], _ => rfl
      rw [e, List.append_nil, unitsL_odd]
      exact Ev.now _
theorem rUnits_is (l : List Int) (hl : l.length < 4000000000) (hb : Bytes l) : Ev (fun k => hornbookref02_Units.f k l) (unitsL l) := rUnits_l0 l hl hb l.length 0 [] (by omega) (by omega) (by simp) (by simp)
theorem decL_pair {a b : Int} (l : List Int) (ha : hiB a = true) (hb : loB b = true) : decL (a :: b :: l) = pair a b :: decL l := by rw [decL, if_pos ⟨ha, hb⟩]
theorem decL_one {a : Int} (l : List Int) (h : ∀ b l', l = b :: l' → ¬ (hiB a = true ∧ loB b = true)) : decL (a :: l) = one a :: decL l := by
  cases l with
  | nil => rfl
  | cons b l => rw [decL, if_neg (h b l rfl)]
theorem rDec16_l0 (l : List Int) (hl : l.length < 4000000000) : ∀ (n i : Nat) (acc : List Int), l.length ≤ i + n → i ≤ l.length → acc.length ≤ i → Ev (fun k => hornbookref02_Dec16.l0 k l acc (i : Int)) (acc ++ decL (l.drop i))
  | n, i, acc, h, hle, ha => by
    by_cases hi : i < l.length
    · obtain ⟨m, rfl⟩ : ∃ m, n = m + 1 := ⟨n - 1, by omega⟩
      have one1 : (∀ b l', l.drop (i + 1) = b :: l' → ¬ (hiB l[i] = true ∧ loB b = true)) → Ev (fun k => hornbookref02_Dec16.j1 k l acc (i : Int) false) (acc ++ decL (l.drop i)) := by
        intro hne
        rw [List.drop_eq_getElem_cons hi, decL_one _ hne]
        refine Ev.step (fun k => rfl) ?_
        simp only [hornbookref02_Dec16.j1]
        simp only [if_neg (show ¬ (false = true) by decide), if_pos (show (0 : Int) ≤ (i : Int) by omega), if_pos (show (i : Int) < (l.length : Int) by omega)]
        rw [rd_nat hi, rgood_is, w64n (by omega)]
        simp only [Option.bind_some, if_pos (show acc.length < 17592186044416 by omega)]
        have ih := rDec16_l0 l hl m (i + 1) (acc ++ [one l[i]]) (by omega) (by omega) (by simp; omega)
        rw [List.append_assoc] at ih
        by_cases hg : l[i] > 65535
        · simp only [if_pos hg]
          rw [show one l[i] = 65533 from if_pos hg] at ih ⊢
          exact ih
        · simp only [if_neg hg]
          rw [show one l[i] = gd l[i] from if_neg hg] at ih ⊢
          exact ih
      refine Ev.step (fun k => rfl) ?_
      simp only [hornbookref02_Dec16.l0]
      simp only [if_pos (show (i : Int) < (l.length : Int) by omega), if_pos (show (0 : Int) ≤ (i : Int) by omega)]
      rw [rd_nat hi, rhigh_is, w64n (by omega)]
      simp only [Option.bind_some]
      by_cases hh : hiB l[i] = true
      · simp only [if_pos hh]
        by_cases h2 : i + 1 < l.length
        · simp only [if_pos (show ((i + 1 : Nat) : Int) < (l.length : Int) by omega), if_pos (show (0 : Int) ≤ ((i + 1 : Nat) : Int) by omega)]
          rw [rd_nat h2, rlow_is]
          simp only [Option.bind_some]
          by_cases hlo : loB l[i + 1] = true
          · rw [hlo]
            have e : l.drop i = l[i] :: l[i + 1] :: l.drop (i + 2) := by rw [List.drop_eq_getElem_cons (by omega), List.drop_eq_getElem_cons (by omega)]
            rw [e, decL_pair _ hh hlo]
            refine Ev.step (fun k => rfl) ?_
            simp only [hornbookref02_Dec16.j1]
            rw [w64n (by omega)]
            simp only [if_pos (show (0 : Int) ≤ (i : Int) by omega), if_pos (show (i : Int) < (l.length : Int) by omega), if_pos (show (0 : Int) ≤ ((i + 1 : Nat) : Int) by omega), if_pos (show ((i + 1 : Nat) : Int) < (l.length : Int) by omega), if_pos (show acc.length < 17592186044416 by omega), if_true]
            rw [rd_nat hi, rd_nat h2, pair_w hh hlo, w64n (i := i + 1) (by omega)]
            have ih := rDec16_l0 l hl m (i + 2) (acc ++ [pair l[i] l[i + 1]]) (by omega) (by omega) (by simp; omega)
            rw [List.append_assoc] at ih
            exact ih
          · rw [Bool.eq_false_iff.mpr hlo]
            refine one1 fun b l' e => ?_
            rw [List.drop_eq_getElem_cons h2] at e
            obtain rfl := (List.cons.inj e).1
            exact fun h => hlo h.2
        · simp only [if_neg (show ¬ ((i + 1 : Nat) : Int) < (l.length : Int) by omega)]
          refine one1 fun b l' e => ?_
          rw [List.drop_of_length_le (by omega)] at e
          cases e
      · simp only [if_neg hh]
        exact one1 fun b l' e h => hh h.1
    · refine Ev.step (fun k => rfl) ?_
      simp only [hornbookref02_Dec16.l0]
      simp only [if_neg (show ¬ ((i : Int) < (l.length : Int)) by omega)]
      rw [List.drop_of_length_le (by omega)]
      simp only [decL, List.append_nil]
      exact Ev.now _
theorem rDec16_is (l : List Int) (hl : l.length < 4000000000) : Ev (fun k => hornbookref02_Dec16.f k l) (decL l) := rDec16_l0 l hl l.length 0 [] (by omega) (by omega) (by simp)
end Go.Proofs.YtlipfldicjihhaaDoorQ
