/- What the document's own layer 19 answers: the same. -/
import Derived.Test.YtfiaedpkbhnmkaaQDoc2
import Derived.Test.YtfiaedpkbhnmkaaQUtfRef
import Derived.Test.YtfiaedpkbhnmkaaPAllx23
import Derived.Test.YtfiaedpkbhnmkaaPAllx23
import Derived.Test.YtfiaedpkbhnmkaaPAllx21
set_option linter.unusedVariables false
set_option linter.unusedSimpArgs false
namespace Go.Proofs.YtfiaedpkbhnmkaaQ
open Go.RowKit Go.Proofs.YtfiaedpkbhnmkaaW.PrintWords Go.Proofs.YtfiaedpkbhnmkaaW.PrintLast Go.Proofs.YtfiaedpkbhnmkaaW.PrintMore Go.Proofs.Ytfiaedpkbhnmkaa.PAll
theorem rDoc_in : ∀ c, c < 256 → hornbookref19_Doc.f 5 ((c : Nat) : Int) = some (tabT c, tabT c != 0) := by decide +kernel
theorem doc_nat' {n : Nat} (h : n < 256) : docN (n : Int) = tabT n := by
  unfold docN
  rw [if_neg (by omega), Int.toNat_natCast]
theorem rDoc_is (c : Int) : Ev (fun k => hornbookref19_Doc.f k c) (docN c, docN c != 0) := by
  by_cases h : 0 ≤ c ∧ c < 256
  · obtain ⟨n, rfl⟩ := Int.eq_ofNat_of_zero_le h.1
    have hn : n < 256 := by omega
    rw [doc_nat' hn]
    exact Ev.of (k := 5) (fun k => hornbookref19_Doc.mono _ k) (rDoc_in n hn)
  · have e : docN c = 0 := by unfold docN; rw [if_pos (by omega)]
    rw [e]
    unfold hornbookref19_Doc.f
    have j : Ev (fun k => hornbookref19_Doc.j0 k c false) (0, false) := by
      have j2 : Ev (fun k => hornbookref19_Doc.j2 k c false) (0, false) := by
        refine Ev.step (fun k => rfl) ?_
        simp only [hornbookref19_Doc.j2, if_neg (show ¬ (false = true) by decide), if_neg (show ¬ c = 160 by omega)]
        exact Ev.now _
      have j1 : Ev (fun k => hornbookref19_Doc.j1 k c false) (0, false) := by
        refine Ev.step (fun k => rfl) ?_
        simp only [hornbookref19_Doc.j1, if_neg (show ¬ (false = true) by decide)]
        by_cases h1 : c ≥ 128
        · simp only [if_pos h1]
          rw [decide_eq_false (show ¬ c ≤ 158 by omega)]
          exact j2
        · simp only [if_neg h1]
          exact j2
      refine Ev.step (fun k => rfl) ?_
      simp only [hornbookref19_Doc.j0, if_neg (show ¬ (false = true) by decide)]
      by_cases h1 : c ≥ 24
      · simp only [if_pos h1]
        rw [decide_eq_false (show ¬ c ≤ 31 by omega)]
        exact j1
      · simp only [if_neg h1]
        exact j1
    simp only [if_neg (show ¬ c = 9 by omega), if_neg (show ¬ c = 10 by omega), if_neg (show ¬ c = 13 by omega)]
    by_cases h1 : c ≥ 32
    · simp only [if_pos h1, if_neg (show ¬ c ≤ 126 by omega), if_pos (show c ≥ 161 by omega), if_neg (show ¬ c ≤ 255 by omega)]
      exact j
    · simp only [if_neg h1, if_neg (show ¬ c ≥ 161 by omega)]
      exact j
theorem rByte_l0 (r : Int) : ∀ n i : Nat, i + n = 256 → (∀ c, c < i → tabT c ≠ 0 → tabT c ≠ r) → Ev (fun k => hornbookref19_Byte.l0 k r (i : Int)) (byteI r, byteH r)
  | 0, i, h, hno => by
    obtain rfl : i = 256 := by omega
    have hb := byte_no hno
    refine Ev.step (fun k => rfl) ?_
    simp only [hornbookref19_Byte.l0, if_neg (show ¬ (((256 : Nat) : Int) < 256) by omega)]
    rw [hb.1, hb.2]
    exact Ev.now _
  | n + 1, i, h, hno => by
    have hi : i < 256 := by omega
    refine Ev.step (fun k => rfl) ?_
    simp only [hornbookref19_Byte.l0, if_pos (show (i : Int) < 256 by omega)]
    refine Ev.bind (rDoc_is _) ?_
    rw [doc_nat' hi, w64n (by omega)]
    by_cases hz : tabT i = 0
    · rw [hz]
      simp only [bne_self_eq_false, if_neg (show ¬ (false = true) by decide)]
      exact rByte_l0 r n (i + 1) (by omega) (fun c hc hz' => by
        by_cases hc' : c = i
        · subst hc'
          exact absurd hz hz'
        · exact hno c (by omega) hz')
    · rw [bne_iff_ne.mpr hz]
      simp only [if_true]
      by_cases he : tabT i = r
      · subst he
        have hb := byte_at hi hz
        simp only [if_true]
        rw [hb.1, hb.2]
        exact Ev.now _
      · simp only [if_neg he]
        exact rByte_l0 r n (i + 1) (by omega) (fun c hc hz' => by
          by_cases hc' : c = i
          · subst hc'
            exact he
          · exact hno c (by omega) hz')
theorem rByte_is (r : Int) : Ev (fun k => hornbookref19_Byte.f k r) (byteI r, byteH r) := rByte_l0 r 256 0 rfl (fun c hc => absurd hc (Nat.not_lt_zero _))
theorem mark_end (l : List Int) : (if (l.length : Int) < 2 then some (l, true) else (if 0 < (l.length : Int) then (if (rd l 0) = 254 then (if 1 < (l.length : Int) then some (l, (rd l 1) != 255) else none) else some (l, true)) else none)) = some (l, !markB l) := by
  unfold markB
  match l with
  | [] => rfl
  | [a] => simp
  | a :: b :: t =>
    rw [if_neg (by simp only [List.length_cons]; omega), if_pos (by simp only [List.length_cons]; omega), show rd (a :: b :: t) 0 = a from rfl, show rd (a :: b :: t) 1 = b from rfl]
    by_cases h : a = 254
    · rw [if_pos h, if_pos (by simp only [List.length_cons]; omega)]
      subst h
      have e : decide ((254 :: b :: t).take 2 = [254, 255]) = (b == 255) := by
        rw [Bool.eq_iff_iff, beq_iff_eq, decide_eq_true_iff]
        simp
      rw [e]
      rfl
    · rw [if_neg h, decide_eq_false (by intro e; simp at e; exact h e.1)]
      rfl
theorem rplain_l0 (l : List Int) (hl : l.length < 1000000000) : ∀ (n i : Nat) (acc : List Int), i + n = l.length → (∀ x ∈ l.take i, byteH x = true) → acc = (l.take i).map byteI → Ev (fun k => hornbookref19_plain.l0 k l acc (i : Int)) (plainB l)
  | 0, i, acc, h, hA, hacc => by
    rw [List.take_of_length_le (by omega)] at hA hacc
    refine Ev.step (fun k => rfl) ?_
    simp only [hornbookref19_plain.l0]
    simp only [if_neg (show ¬ ((i : Int) < (l.length : Int)) by omega)]
    rw [mark_end, hacc]
    unfold plainB
    rw [if_pos (List.all_eq_true.mpr hA)]
    exact Ev.now _
  | n + 1, i, acc, h, hA, hacc => by
    have hi : i < l.length := by omega
    refine Ev.step (fun k => rfl) ?_
    simp only [hornbookref19_plain.l0]
    simp only [if_pos (show (i : Int) < (l.length : Int) by omega), if_pos (show (0 : Int) ≤ (i : Int) by omega)]
    rw [rd_nat hi, w64n (by omega)]
    refine Ev.bind (rByte_is _) ?_
    have hla : acc.length = i := by rw [hacc, List.length_map, List.length_take]; omega
    by_cases hb : byteH l[i] = true
    · simp only [if_pos hb, if_pos (show acc.length < 140737488355328 by omega)]
      have hr := byteT_byteI l[i]
      rw [show byteI l[i] % 256 = byteI l[i] by omega]
      refine rplain_l0 l hl n (i + 1) _ (by omega) ?_ (by rw [take_snoc hi, List.map_append, hacc]; rfl)
      intro x hx
      rw [take_snoc hi] at hx
      rcases List.mem_append.mp hx with hx | hx
      · exact hA x hx
      · obtain rfl : x = l[i] := by simpa using hx
        exact hb
    · simp only [if_neg hb]
      have e : plainB l = ([], false) := by
        unfold plainB
        rw [if_neg (fun ha => hb (List.all_eq_true.mp ha _ (List.getElem_mem hi)))]
      rw [e]
      exact Ev.now _
theorem rplain_is (l : List Int) (hl : l.length < 1000000000) : Ev (fun k => hornbookref19_plain.f k l) (plainB l) := rplain_l0 l hl l.length 0 [] (by omega) (fun x hx => by simp at hx) (by simp)
theorem rPlain_is (l : List Int) (hl : l.length < 1000000000) : Ev (fun k => hornbookref19_Plain.f k l) (plainB l).2 := by
  unfold hornbookref19_Plain.f
  exact Ev.bind (rplain_is l hl) (Ev.now _)
theorem rEncode_is (l : List Int) (hl : l.length < 1000000000) : Ev (fun k => hornbookref19_Encode.f k l) (encodeB l) := by
  unfold hornbookref19_Encode.f encodeB
  refine Ev.bind (rplain_is l hl) ?_
  by_cases h : (plainB l).2 = true
  · simp only [if_pos h]
    exact Ev.now _
  · simp only [if_neg h, Option.bind_some]
    have h1 := encL_len l
    have h2 := bytL_len (encL l)
    refine Ev.bind (rEnc16_is l hl) (Ev.bind (rBytes_is _ (by omega)) ?_)
    simp only [if_pos (show ([254, 255] : List Int).length + (bytL (encL l)).length < 140737488355328 by rw [show ([254, 255] : List Int).length = 2 from rfl]; omega)]
    exact Ev.now _
theorem rDecode_l0 (b : List Int) (hb : Bytes b) (hl : b.length < 4000000000) : ∀ (n i : Nat) (acc : List Int), i + n = b.length → acc.length = i → Ev (fun k => hornbookref19_Decode.l0 k b acc (i : Int)) (acc ++ (b.drop i).map decN)
  | 0, i, acc, h, _ => by
    refine Ev.step (fun k => rfl) ?_
    simp only [hornbookref19_Decode.l0]
    simp only [if_neg (show ¬ ((i : Int) < (b.length : Int)) by omega)]
    rw [List.drop_of_length_le (by omega), List.map_nil, List.append_nil]
    exact Ev.now _
  | n + 1, i, acc, h, ha => by
    have hi : i < b.length := by omega
    have h0 := hb.get hi
    refine Ev.step (fun k => rfl) ?_
    simp only [hornbookref19_Decode.l0]
    simp only [if_pos (show (i : Int) < (b.length : Int) by omega), if_pos (show (0 : Int) ≤ (i : Int) by omega)]
    rw [rd_nat hi, w64 (n := b[i]) (by omega) (by omega), w64n (by omega), List.drop_eq_getElem_cons hi, List.map_cons]
    refine Ev.bind (rDoc_is _) ?_
    simp only [if_pos (show acc.length < 17592186044416 by omega)]
    have ih := rDecode_l0 b hb hl n (i + 1) (acc ++ [decN b[i]]) (by omega) (by simp; omega)
    rw [List.append_assoc] at ih
    obtain ⟨c, hc⟩ := Int.eq_ofNat_of_zero_le h0.1
    have hc2 : c < 256 := by omega
    have ed : decN b[i] = if tabT c = 0 then 65533 else tabT c := by unfold decN; rw [hc]; rfl
    rw [show docN b[i] = tabT c by rw [hc]; exact doc_nat' hc2]
    by_cases hz : tabT c = 0
    · rw [ed, if_pos hz] at ih ⊢
      rw [hz]
      simp only [bne_self_eq_false, if_neg (show ¬ (false = true) by decide)]
      exact ih
    · rw [ed, if_neg hz] at ih ⊢
      rw [bne_iff_ne.mpr hz]
      simp only [if_true]
      exact ih
theorem rDecode_is (b : List Int) (hb : Bytes b) (hl : b.length < 4000000000) : Ev (fun k => hornbookref19_Decode.f k b) (decodeB b) := by
  have hj : ∀ m, m = markB b → Ev (fun k => hornbookref19_Decode.j0 k b m) (decodeB b) := by
    intro m hm
    refine Ev.step (fun k => rfl) ?_
    simp only [hornbookref19_Decode.j0]
    unfold decodeB
    cases hmm : markB b with
    | true =>
      obtain ⟨t, rfl⟩ := (markB_iff b).mp hmm
      rw [hm, hmm]
      simp only [if_true]
      rw [show (254 :: 255 :: t).drop 2 = t from rfl]
      simp only [List.length_cons] at hl
      simp only [if_pos (show 2 ≤ ((254 :: 255 :: t).length : Int) by simp only [List.length_cons]; omega)]
      have h1 := unitsL_len t
      have h2 := decL_len _ (unitsL t).1 (Nat.le_refl _)
      unfold undec
      refine Ev.bind (rUnits_is t (by omega) (fun x hx => hb x (by simp [hx]))) (Ev.bind (rDec16_is _ (by omega)) ?_)
      by_cases ho : (unitsL t).2 = true
      · simp only [if_pos ho, if_pos (show (decL (unitsL t).1).length < 17592186044416 by omega)]
        exact Ev.now _
      · simp only [if_neg ho, List.append_nil]
        exact Ev.now _
    | false =>
      rw [hm, hmm]
      simp only [if_neg (show ¬ (false = true) by decide)]
      exact rDecode_l0 b hb hl b.length 0 [] (by omega) rfl
  unfold hornbookref19_Decode.f
  match b, hj with
  | [], hj =>
    simp only [if_neg (show ¬ (([] : List Int).length : Int) ≥ 2 by simp)]
    exact hj false rfl
  | [a], hj =>
    simp only [if_neg (show ¬ (([a] : List Int).length : Int) ≥ 2 by simp)]
    exact hj false (by unfold markB; exact (decide_eq_false (by simp)).symm)
  | a :: c :: t, hj =>
    simp only [if_pos (show ((a :: c :: t).length : Int) ≥ 2 by simp only [List.length_cons]; omega), if_pos (show 0 < ((a :: c :: t).length : Int) by simp only [List.length_cons]; omega), if_pos (show 1 < ((a :: c :: t).length : Int) by simp only [List.length_cons]; omega)]
    rw [show rd (a :: c :: t) 0 = a from rfl, show rd (a :: c :: t) 1 = c from rfl]
    by_cases h : a = 254
    · simp only [if_pos h]
      refine hj _ ?_
      unfold markB
      rw [Bool.eq_iff_iff, beq_iff_eq, decide_eq_true_iff, h]
      simp
    · simp only [if_neg h]
      refine hj _ ?_
      unfold markB
      rw [decide_eq_false]
      intro e
      simp at e
      exact h e.1
end Go.Proofs.YtfiaedpkbhnmkaaQ
