/- Of any value how long it is in UTF-8 and in units, what its first byte tells, and what is read behind that byte. Conditions: none beyond the statement's own. -/
import Derived.Test.YtlipfldicjihhaaDoorQRune
import Derived.Test.YtlipfldicjihhaaDoorSUtfSizes
set_option linter.unusedVariables false
set_option linter.unusedSimpArgs false
namespace Go.Proofs.YtlipfldicjihhaaDoor.Pure
open Go.RowKit Go.Proofs.YtlipfldicjihhaaDoor.PAll Go.Proofs.YtlipfldicjihhaaDoorW.PrintWords Go.Proofs.YtlipfldicjihhaaDoorW.PrintLast Go.Proofs.YtlipfldicjihhaaDoorW.PrintMore Go.Proofs.YtlipfldicjihhaaDoorQ
open Go.Lib (encodeRune encodeRuneZ encodeRuneZ_one encodeRuneZ_two encodeRuneZ_three encodeRuneZ_four)
theorem tx1 (r : Int) (hg : goodB r = true) : txt [r] = encodeRune r := by
  rw [txt_cons, gd_good hg]
  simp [txt]
theorem bt0 (l : List Int) (b : UInt8) (t : List UInt8) (h : txt l = b :: t) : bt (txB l) 0 = (b.toNat : Int) := by
  unfold bt txB
  rw [h]
  rw [dif_pos (show (0 : Int).toNat < (⟨(b :: t).toArray⟩ : ByteArray).size by simp [ByteArray.size])]
  rfl
theorem tail_list (l : List Int) : ((txB l).extract 1 (txB l).size).data.toList = (txt l).drop 1 := by
  rw [ByteArray.data_extract, txB_size]
  simp [txB]
  exact List.take_of_length_le (by simp)
theorem byteI {z : Int} (h0 : 0 ≤ z) (h1 : z < 256) : ((z.toNat.toUInt8).toNat : Int) = z := by
  rw [byte_num _ (by omega)]
  omega
/-- What a scalar value's text is like. -/
theorem enc_facts (r : Int) (hg : goodB r = true) : ∃ (b : UInt8) (t : List UInt8), encodeRune r = b :: t ∧ (∀ c ∈ t, c.toNat / 64 = 2) ∧
    ((r < 128 ∧ t.length = 0 ∧ (b.toNat : Int) < 128) ∨ (128 ≤ r ∧ r < 2048 ∧ t.length = 1 ∧ 194 ≤ (b.toNat : Int) ∧ (b.toNat : Int) < 224) ∨
     (2048 ≤ r ∧ r < 65536 ∧ t.length = 2 ∧ 224 ≤ (b.toNat : Int) ∧ (b.toNat : Int) < 240) ∨ (65536 ≤ r ∧ t.length = 3 ∧ 240 ≤ (b.toNat : Int) ∧ (b.toNat : Int) < 245)) := by
  have h := of_decide_eq_true hg
  have ct : ∀ z : Int, 128 ≤ z → z < 192 → z.toNat.toUInt8.toNat / 64 = 2 := fun z h0 h1 => by
    rw [byte_num _ (by omega)]
    omega
  unfold encodeRune
  by_cases h1 : r ≤ 127
  · rw [encodeRuneZ_one (by omega) h1]
    refine ⟨_, _, rfl, by simp, .inl ⟨by omega, rfl, ?_⟩⟩
    rw [byteI (by omega) (by omega)]
    omega
  by_cases h2 : r ≤ 2047
  · rw [encodeRuneZ_two (by omega) h2]
    refine ⟨_, _, rfl, ?_, .inr (.inl ⟨by omega, by omega, rfl, ?_⟩)⟩
    · intro c hc
      simp only [List.mem_map, List.mem_cons, List.mem_nil_iff, or_false] at hc
      obtain ⟨z, rfl, rfl⟩ := hc
      exact ct _ (by omega) (by omega)
    · rw [byteI (by omega) (by omega)]
      omega
  by_cases h3 : r ≤ 65535
  · rw [encodeRuneZ_three (by omega)]
    refine ⟨_, _, rfl, ?_, .inr (.inr (.inl ⟨by omega, by omega, rfl, ?_⟩))⟩
    · intro c hc
      simp only [List.mem_map, List.mem_cons, List.mem_nil_iff, or_false] at hc
      obtain ⟨z, rfl | rfl, rfl⟩ := hc
      · exact ct _ (by omega) (by omega)
      · exact ct _ (by omega) (by omega)
    · rw [byteI (by omega) (by omega)]
      omega
  · rw [encodeRuneZ_four (by omega) (by omega)]
    refine ⟨_, _, rfl, ?_, .inr (.inr (.inr ⟨by omega, rfl, ?_⟩))⟩
    · intro c hc
      simp only [List.mem_map, List.mem_cons, List.mem_nil_iff, or_false] at hc
      obtain ⟨z, rfl | rfl | rfl, rfl⟩ := hc
      · exact ct _ (by omega) (by omega)
      · exact ct _ (by omega) (by omega)
      · exact ct _ (by omega) (by omega)
    · rw [byteI (by omega) (by omega)]
      omega
theorem units_len (r : Int) (hg : goodB r = true) : ((((encL [r]).length : Int) == 1) == (decide (r < 65536))) = true := by
  have e : encL [r] = enc1 r := by simp [encL]
  rw [e]
  unfold enc1
  rw [gd_good hg]
  by_cases h : r < 65536
  · rw [if_pos h, decide_eq_true h]
    rfl
  · rw [if_neg h, decide_eq_false h]
    rfl
theorem n12 : ((1 : Int) = 2) = False := by decide
theorem n13 : ((1 : Int) = 3) = False := by decide
theorem n14 : ((1 : Int) = 4) = False := by decide
theorem n21 : ((2 : Int) = 1) = False := by decide
theorem n31 : ((3 : Int) = 1) = False := by decide
theorem n32 : ((3 : Int) = 2) = False := by decide
theorem n41 : ((4 : Int) = 1) = False := by decide
theorem n42 : ((4 : Int) = 2) = False := by decide
theorem n43 : ((4 : Int) = 3) = False := by decide
theorem sizes_j1 (r : Int) (hg : goodB r = true) (n : Int) (hn : n = if r < 2048 then 2 else if r < 65536 then 3 else 4) : Ev (fun k => hornbooklaw02_UtfSizes.j1 k r true (txB [r]) (encL [r]) n) true := by
  obtain ⟨b, t, he, hc, hf⟩ := enc_facts r hg
  have ht : txt [r] = b :: t := (tx1 r hg).trans he
  have hb := bt0 [r] b t ht
  have hs : ((txB [r]).size : Int) = t.length + 1 := by rw [txB_size, ht]; rfl
  have hr : utf_Runes.f ((txB [r]).extract 1 (txB [r]).size) = some (rns t) := by
    have hl : ((txB [r]).extract 1 (txB [r]).size).size < 17592186044416 := by
      have := congrArg List.length (tail_list [r])
      rw [ht, List.drop_succ_cons, List.drop_zero] at this
      have e2 : ((txB [r]).extract 1 (txB [r]).size).data.toList.length = ((txB [r]).extract 1 (txB [r]).size).size := Array.length_toList
      omega
    rw [Runes_is _ hl, tail_list, ht, List.drop_succ_cons, List.drop_zero]
  have hrl : ((rns t).length : Int) = t.length := by rw [rns_conts t hc]
  have hu := units_len r hg
  refine Ev.step (fun k => rfl) ?_
  simp only [hornbooklaw02_UtfSizes.j1]
  rw [hb, hs, hr]
  simp only [Option.bind_some, hrl, hu, if_true]
  rcases hf with ⟨h1, h2, h3⟩ | ⟨h1, h2, h3, h4, h5⟩ | ⟨h1, h2, h3, h4, h5⟩ | ⟨h1, h3, h4, h5⟩
  · simp only [if_pos h1, h2, if_pos (show ((0 : Nat) : Int) + 1 = 1 by rfl), if_pos (show (0 : Int) < ((0 : Nat) : Int) + 1 by decide), if_pos h3, if_pos (show (1 : Int) ≤ ((0 : Nat) : Int) + 1 by decide)]
    exact Ev.now _
  · obtain rfl : n = 2 := by rw [hn, if_pos h2]
    simp only [if_neg (show ¬ r < 128 by omega), h3, if_pos (show ((1 : Nat) : Int) + 1 = 2 by rfl), if_pos (show (0 : Int) < ((1 : Nat) : Int) + 1 by decide), n21, if_false, if_true, if_pos (show (b.toNat : Int) ≥ 194 by omega), if_pos h5, if_pos (show (1 : Int) ≤ ((1 : Nat) : Int) + 1 by decide)]
    rw [w64 (n := 2 - 1) (by decide) (by decide)]
    exact Ev.now _
  · obtain rfl : n = 3 := by rw [hn, if_neg (by omega), if_pos h2]
    simp only [if_neg (show ¬ r < 128 by omega), h3, if_pos (show ((2 : Nat) : Int) + 1 = 3 by rfl), if_pos (show (0 : Int) < ((2 : Nat) : Int) + 1 by decide), n31, n32, if_false, if_true, if_pos (show (b.toNat : Int) ≥ 224 by omega), if_pos h5, if_pos (show (1 : Int) ≤ ((2 : Nat) : Int) + 1 by decide)]
    rw [w64 (n := 3 - 1) (by decide) (by decide)]
    exact Ev.now _
  · obtain rfl : n = 4 := by rw [hn, if_neg (by omega), if_neg (by omega)]
    simp only [if_neg (show ¬ r < 128 by omega), h3, if_pos (show ((3 : Nat) : Int) + 1 = 4 by rfl), if_pos (show (0 : Int) < ((3 : Nat) : Int) + 1 by decide), n41, n42, n43, if_false, if_true, if_pos (show (b.toNat : Int) ≥ 240 by omega), if_pos h5, if_pos (show (1 : Int) ≤ ((3 : Nat) : Int) + 1 by decide)]
    rw [w64 (n := 4 - 1) (by decide) (by decide)]
    exact Ev.now _
theorem sizes_j0 (r : Int) (hg : goodB r = true) (n : Int) (hn : n = if r < 65536 then 3 else 4) : Ev (fun k => hornbooklaw02_UtfSizes.j0 k r true (txB [r]) (encL [r]) n) true := by
  refine Ev.step (fun k => rfl) ?_
  simp only [hornbooklaw02_UtfSizes.j0]
  by_cases h : r < 2048
  · simp only [if_pos h]
    exact sizes_j1 r hg 2 (by rw [if_pos h])
  · simp only [if_neg h]
    exact sizes_j1 r hg n (by rw [if_neg h]; exact hn)
theorem UtfSizes : hornbooklaw02_UtfSizes.Pure := by
  intro r _
  refine Ev.rounds ?_
  unfold hornbooklaw02_UtfSizes.f
  refine Ev.bind awake02 ?_
  rw [Text_is [r] (by simp)]
  simp only [Option.bind_some]
  refine Ev.bind (Enc16_is [r] (by simp)) ?_
  rw [Good_is]
  simp only [Option.bind_some]
  by_cases hg : goodB r = true
  · simp only [if_pos hg]
    by_cases h : r < 65536
    · simp only [if_pos h]
      exact sizes_j0 r hg 3 (by rw [if_pos h])
    · simp only [if_neg h]
      exact sizes_j0 r hg 4 (by rw [if_neg h])
  · have hd : gd r = 65533 := if_neg hg
    have e1 : txt [r] = [239, 191, 189] := by
      rw [txt_cons, hd]
      decide +kernel
    have e2 : encL [r] = [65533] := by
      have e : encL [r] = enc1 r := by simp [encL]
      rw [e]
      unfold enc1
      rw [hd]
      rfl
    rw [txB_toList, e2]
    simp only [if_neg hg, if_true, if_pos e1, if_pos (show ((([65533] : List Int).length : Nat) : Int) = 1 from rfl), if_pos (show (0 : Int) < ((([65533] : List Int).length : Nat) : Int) by decide)]
    exact Ev.now _
end Go.Proofs.YtlipfldicjihhaaDoor.Pure
