/- The document's own UTF-8: a value's form, the value that a text begins with, a text's values, whether it is whole: the same as the program's. -/
import Derived.Test.YtlipfldicjihhaaDoorQRune
import Derived.Test.YtlipfldicjihhaaDoorQUtfRef
import Derived.Test.YtlipfldicjihhaaDoorPTabx15
import Derived.Test.YtlipfldicjihhaaDoorPTabx16
import Derived.Test.YtlipfldicjihhaaDoorPTabx17
set_option linter.unusedVariables false
set_option linter.unusedSimpArgs false
namespace Go.Proofs.YtlipfldicjihhaaDoorQ
open Go.RowKit Go.Proofs.YtlipfldicjihhaaDoorW.PrintWords Go.Proofs.YtlipfldicjihhaaDoorW.PrintLast Go.Proofs.YtlipfldicjihhaaDoorW.PrintMore Go.Proofs.YtlipfldicjihhaaDoor.PTab
open Go.Lib (decodeL decodeL_width decodeL_N decodeN decodeN_ascii decodeN_cont decodeN_shape decodeL_drop decodeL_le encodeRune encodeRuneZ encodeRuneZ_one encodeRuneZ_two encodeRuneZ_three encodeRuneZ_four encodeRuneZ_length encodeRuneZ_byte validD validD_step validD_nil encode_decode)
theorem form_is (r : Int) (h : goodB r = true) : hornbookref02_form.f r = some (encodeRuneZ r) := by
  have hr := of_decide_eq_true h
  have td : ∀ d : Int, 0 < d → Int.tdiv r d = r / d := fun d hd => Int.tdiv_eq_ediv_of_nonneg hr.1
  have tm : ∀ d : Int, Int.tmod r d = r % d := fun d => Int.tmod_eq_emod_of_nonneg hr.1
  have tm2 : ∀ z d : Int, 0 ≤ z → Int.tmod z d = z % d := fun z d hz => Int.tmod_eq_emod_of_nonneg hz
  unfold hornbookref02_form.f
  by_cases h1 : r < 128
  · rw [if_pos h1, encodeRuneZ_one hr.1 (by omega)]
    congr 2
    omega
  rw [if_neg h1]
  by_cases h2 : r < 2048
  · rw [if_pos h2, encodeRuneZ_two (by omega) (by omega), td 64 (by decide), tm 64]
    rw [w64 (n := r / 64) (by omega) (by omega), w64 (n := 192 + r / 64) (by omega) (by omega), w64 (n := 128 + r % 64) (by omega) (by omega)]
    simp only [Option.some.injEq, List.cons.injEq, and_true]
    omega
  rw [if_neg h2]
  by_cases h3 : r < 65536
  · rw [if_pos h3, encodeRuneZ_three (by omega), td 4096 (by decide), td 64 (by decide), tm 64]
    rw [w64 (n := r / 64) (by omega) (by omega), w64 (n := r / 4096) (by omega) (by omega), tm2 _ _ (by omega), w64 (n := 224 + r / 4096) (by omega) (by omega), w64 (n := 128 + r / 64 % 64) (by omega) (by omega), w64 (n := 128 + r % 64) (by omega) (by omega)]
    simp only [Option.some.injEq, List.cons.injEq, and_true]
    omega
  · rw [if_neg h3, encodeRuneZ_four (by omega) (by omega), td 262144 (by decide), td 4096 (by decide), td 64 (by decide), tm 64]
    rw [w64 (n := r / 64) (by omega) (by omega), w64 (n := r / 4096) (by omega) (by omega), w64 (n := r / 262144) (by omega) (by omega), tm2 (r / 4096) _ (by omega), tm2 (r / 64) _ (by omega), w64 (n := 240 + r / 262144) (by omega) (by omega), w64 (n := 128 + r / 4096 % 64) (by omega) (by omega), w64 (n := 128 + r / 64 % 64) (by omega) (by omega), w64 (n := 128 + r % 64) (by omega) (by omega)]
    simp only [Option.some.injEq, List.cons.injEq, and_true]
    omega
open Go.Maps in
theorem str_form (r : Int) : (strOfNums (encodeRuneZ r)).toList = encodeRune r := by
  unfold strOfNums
  rw [ByteArray.toList_mk]
  rfl
/-! ### a text's values -/
theorem rText_l0 (l : List Int) (hl : l.length < 1000000000) : ∀ (n i : Nat) (acc : List Int), i + n = l.length → acc.length ≤ 4 * i → Ev (fun k => hornbookref02_Text.l0 k l acc (i : Int)) (strOfNums (acc ++ (l.drop i).flatMap fun x => encodeRuneZ (gd x)))
  | 0, i, acc, h, _ => by
    refine Ev.step (fun k => rfl) ?_
    simp only [hornbookref02_Text.l0]
    simp only [if_neg (show ¬ ((i : Int) < (l.length : Int)) by omega)]
    rw [List.drop_of_length_le (by omega)]
    simp only [List.flatMap_nil, List.append_nil]
    exact Ev.now _
  | n + 1, i, acc, h, ha => by
    have hi : i < l.length := by omega
    refine Ev.step (fun k => rfl) ?_
    simp only [hornbookref02_Text.l0]
    simp only [if_pos (show (i : Int) < (l.length : Int) by omega), if_pos (show (0 : Int) ≤ (i : Int) by omega)]
    rw [rd_nat hi, rgood_is, w64n (by omega)]
    simp only [Option.bind_some]
    rw [form_is _ (goodB_gd l[i])]
    have hz := encodeRuneZ_length (gd l[i])
    simp only [Option.bind_some, if_pos (show acc.length + (encodeRuneZ (gd l[i])).length < 140737488355328 by omega)]
    rw [List.drop_eq_getElem_cons hi, List.flatMap_cons, ← List.append_assoc]
    exact rText_l0 l hl n (i + 1) _ (by omega) (by rw [List.length_append]; omega)
theorem str_txt (l : List Int) : strOfNums (l.flatMap fun x => encodeRuneZ (gd x)) = txB l := by
  unfold strOfNums txB txt encodeRune
  rw [List.map_flatMap]
theorem rText_is (l : List Int) (hl : l.length < 1000000000) : Ev (fun k => hornbookref02_Text.f k l) (txB l) := by
  have h := rText_l0 l hl l.length 0 [] (by omega) (by simp)
  rw [List.nil_append, List.drop_zero, str_txt] at h
  exact h
/-! ### the value that a text begins with -/
/-- Bytes as a number, the head's mark taken off. -/
def strip (c : Int) : Int := if c ≥ 240 then c - 240 else if c ≥ 224 then c - 224 else if c ≥ 192 then c - 192 else c
def by_ (l : List UInt8) (i : Nat) : Int := ((l.getD i 0).toNat : Int)
def ac (l : List UInt8) : Nat → Int
  | 0 => 0
  | 1 => strip (by_ l 0)
  | n + 2 => ac l (n + 1) * 64 + by_ l (n + 1) % 64
theorem by_range (l : List UInt8) (i : Nat) : 0 ≤ by_ l i ∧ by_ l i ≤ 255 := by
  have := (l.getD i 0).toNat_lt
  unfold by_
  omega
theorem strip_range (c : Int) (h0 : 0 ≤ c) (h1 : c ≤ 255) : 0 ≤ strip c ∧ strip c ≤ 255 := by
  unfold strip
  repeat' split
  all_goals omega
theorem ac1_range (l : List UInt8) : 0 ≤ ac l 1 ∧ ac l 1 ≤ 255 := strip_range _ (by_range l 0).1 (by_range l 0).2
theorem ac2 (l : List UInt8) : ac l 2 = ac l 1 * 64 + by_ l 1 % 64 := rfl
theorem ac3 (l : List UInt8) : ac l 3 = ac l 2 * 64 + by_ l 2 % 64 := rfl
theorem ac4 (l : List UInt8) : ac l 4 = ac l 3 * 64 + by_ l 3 % 64 := rfl
theorem ac_range (l : List UInt8) : ∀ n, n ≤ 4 → 0 ≤ ac l n ∧ ac l n ≤ 68000000
  | 0, _ => by unfold ac; decide
  | 1, _ => by have := ac1_range l; omega
  | 2, _ => by have := ac1_range l; have := by_range l 1; have := ac2 l; omega
  | 3, _ => by have := ac1_range l; have := by_range l 1; have := by_range l 2; have := ac2 l; have := ac3 l; omega
  | 4, _ => by have := ac1_range l; have := by_range l 1; have := by_range l 2; have := by_range l 3; have := ac2 l; have := ac3 l; have := ac4 l; omega
  | n + 5, h => by omega
theorem strip0 {c : Int} (h : c < 192) : strip c = c := by unfold strip; rw [if_neg (by omega), if_neg (by omega), if_neg (by omega)]
theorem strip1 {c : Int} (h : 192 ≤ c) (h2 : c < 224) : strip c = c - 192 := by unfold strip; rw [if_neg (by omega), if_neg (by omega), if_pos (by omega)]
theorem strip2 {c : Int} (h : 224 ≤ c) (h2 : c < 240) : strip c = c - 224 := by unfold strip; rw [if_neg (by omega), if_pos (by omega)]
theorem strip3 {c : Int} (h : 240 ≤ c) : strip c = c - 240 := by unfold strip; rw [if_pos (by omega)]
/-- No value's form stands at the head. -/
def bad (l : List UInt8) : Prop := (decodeL l).1 = 65533 ∧ (decodeL l).2 = 1
instance (l : List UInt8) : Decidable (bad l) := inferInstanceAs (Decidable (_ ∧ _))
def tk (l : List UInt8) : Int × Int := if bad l then (0, 0) else (((decodeL l).1 : Int), ((decodeL l).2 : Int))
theorem ac_valid (l : List UInt8) (hv : ¬ bad l) : ac l (decodeL l).2 = ((decodeL l).1 : Int) ∧ (decodeL l).2 ≤ 4 := by
  unfold bad at hv
  rw [decodeL_N] at hv ⊢
  have a1 : ac l 1 = strip (by_ l 0) := rfl
  have a2 := ac2 l
  have a3 := ac3 l
  have a4 := ac4 l
  have b0 : by_ l 0 = ((l.getD 0 0).toNat : Int) := rfl
  have b1 : by_ l 1 = ((l.getD 1 0).toNat : Int) := rfl
  have b2 : by_ l 2 = ((l.getD 2 0).toNat : Int) := rfl
  have b3 : by_ l 3 = ((l.getD 3 0).toNat : Int) := rfl
  generalize (l.getD 0 0).toNat = x0 at *
  generalize (l.getD 1 0).toNat = x1 at *
  generalize (l.getD 2 0).toNat = x2 at *
  generalize (l.getD 3 0).toNat = x3 at *
  rcases decodeN_shape l.length x0 x1 x2 x3 with ⟨c, e⟩ | ⟨c1, c2, c3, cv, e⟩ | ⟨c1, c2, c3, c4, cv, cs, e⟩ | ⟨c1, c2, c3, c4, c5, cv, cw, e⟩ | e
  · rw [e]
    have hs := strip0 (c := by_ l 0) (by omega)
    refine ⟨?_, Nat.le_of_ble_eq_true rfl⟩
    show ac l 1 = _
    rw [a1, hs, b0]
  · rw [e]
    have hs := strip1 (c := by_ l 0) (by omega) (by omega)
    refine ⟨?_, Nat.le_of_ble_eq_true rfl⟩
    show ac l 2 = ((x0 % 32 * 64 + x1 % 64 : Nat) : Int)
    omega
  · rw [e]
    have hs := strip2 (c := by_ l 0) (by omega) (by omega)
    refine ⟨?_, Nat.le_of_ble_eq_true rfl⟩
    show ac l 3 = ((x0 % 16 * 4096 + x1 % 64 * 64 + x2 % 64 : Nat) : Int)
    omega
  · rw [e]
    have hs := strip3 (c := by_ l 0) (by omega)
    refine ⟨?_, Nat.le_of_ble_eq_true rfl⟩
    show ac l 4 = ((x0 % 8 * 262144 + x1 % 64 * 4096 + x2 % 64 * 64 + x3 % 64 : Nat) : Int)
    omega
  · rw [e] at hv
    exact absurd ⟨rfl, rfl⟩ hv
/-- A form at the head is the value that is read. -/
theorem form_head (l : List UInt8) (r : Int) (n : Nat) (hn : n ≤ l.length) (hg : goodB r = true) (h : encodeRune r = l.take n) : tk l = (r, (n : Int)) := by
  have hr := of_decide_eq_true hg
  have hd := decode_encode r hg (l.drop n)
  have e : encodeRune r ++ l.drop n = l := by rw [h, List.take_append_drop]
  rw [e] at hd
  have hlen : (encodeRune r).length = n := by rw [h, List.length_take]; omega
  rw [hlen] at hd
  have hnb : ¬ bad l := by
    unfold bad
    rw [hd]
    rintro ⟨h1, h2⟩
    have h3 := enc_long r (hlen.trans h2)
    simp only at h1
    omega
  unfold tk
  rw [if_neg hnb, hd]
  refine Prod.ext ?_ rfl
  show ((r.toNat : Nat) : Int) = r
  omega
theorem bt_list (s : ByteArray) (i : Nat) (h : i < s.size) : bt s (i : Int) = by_ s.data.toList i := by
  unfold bt by_
  rw [dif_pos (show ((i : Int)).toNat < s.size from h)]
  have h2 : i < s.data.toList.length := by rw [Array.length_toList]; exact h
  have e : s.data.toList.getD i 0 = s.data.toList[i] := by rw [List.getD_eq_getElem?_getD, List.getElem?_eq_getElem h2]; rfl
  rw [e]
  rfl
open Go.Maps in
theorem extract_head (s : ByteArray) (n : Nat) : (s.extract 0 n).toList = s.data.toList.take n := by
  have e : s.extract 0 n = ⟨(s.data.toList.take n).toArray⟩ := by
    apply ByteArray.ext
    rw [ByteArray.data_extract, ← Array.toList_inj]
    simp only [Array.toList_extract, List.extract_eq_take_drop, List.drop_zero, Nat.sub_zero, List.toList_toArray]
  rw [e, ByteArray.toList_mk]
theorem extract_tail (s : ByteArray) (n : Nat) : (s.extract n s.size).data.toList = s.data.toList.drop n := by
  rw [ByteArray.data_extract]
  have hz : s.data.size = s.size := rfl
  simp only [Array.toList_extract, List.extract_eq_take_drop]
  rw [← hz, ← Array.length_toList]
  exact List.take_of_length_le (by rw [List.length_drop]; exact Nat.le_refl _)
theorem take_j2 (s : ByteArray) (hs : s.size ≤ 1000000) (n : Nat) (h1 : 1 ≤ n) (h4 : n ≤ 4) (hn : n ≤ s.size)
    (next : ((decodeL s.data.toList).2 = n → bad s.data.toList) → Ev (fun k => hornbookref02_Take.l0 k s (ac s.data.toList n) ((n + 1 : Nat) : Int)) (tk s.data.toList)) :
    Ev (fun k => hornbookref02_Take.j2 k s (ac s.data.toList n) (n : Int)) (tk s.data.toList) := by
  have hz : s.data.toList.length = s.size := Array.length_toList
  refine Ev.step (fun k => rfl) ?_
  simp only [hornbookref02_Take.j2]
  rw [rGood_is]
  simp only [Option.bind_some]
  have hne : s.data.toList ≠ [] := by
    intro e
    rw [e] at hz
    simp at hz
    omega
  have hno : ∀ (p : ¬ (goodB (ac s.data.toList n) = true ∧ encodeRune (ac s.data.toList n) = s.data.toList.take n)), (decodeL s.data.toList).2 = n → bad s.data.toList := by
    intro p e
    by_cases hb : bad s.data.toList
    · exact hb
    · exfalso
      have hv := ac_valid _ hb
      rw [e] at hv
      have he := encode_decode s.data.toList hne hb
      rw [e] at he
      exact p ⟨by rw [hv.1]; exact rune_good _, by rw [hv.1]; exact he⟩
  by_cases hg : goodB (ac s.data.toList n) = true
  · simp only [if_pos hg]
    rw [form_is _ hg]
    simp only [Option.bind_some, if_pos (show (0 : Int) ≤ (n : Int) by omega), if_pos (show (n : Int) ≤ (s.size : Int) by omega)]
    have e0 : ((n : Int)).toNat = n := by omega
    rw [w64n (by omega), e0, str_form, extract_head]
    by_cases hf : encodeRune (ac s.data.toList n) = s.data.toList.take n
    · simp only [if_pos hf]
      rw [form_head _ _ n (by omega) hg hf]
      exact Ev.now _
    · simp only [if_neg hf]
      exact next (hno fun h => hf h.2)
  · simp only [if_neg hg]
    rw [w64n (by omega)]
    exact next (hno fun h => hg h.1)
/-- No form of at most so many bytes stands at the head. -/
def none_to (l : List UInt8) (n : Nat) : Prop := ∀ m, m ≤ n → (decodeL l).2 = m → bad l
theorem tk_none (l : List UInt8) (hne : l ≠ []) (n : Nat) (h : none_to l n) (hn : n = 4 ∨ n = l.length) : tk l = (0, 0) := by
  unfold tk
  by_cases hb : bad l
  · rw [if_pos hb]
  · have hv := ac_valid l hb
    have hle := decodeL_le l hne
    exact absurd (h (decodeL l).2 (by omega) rfl) hb
theorem take_l0 (s : ByteArray) (hs : s.size ≤ 1000000) (h0 : 0 < s.size) : ∀ (m n : Nat), n + m = 4 → n ≤ s.size → none_to s.data.toList n → Ev (fun k => hornbookref02_Take.l0 k s (ac s.data.toList n) ((n + 1 : Nat) : Int)) (tk s.data.toList) := by
  have hz : s.data.toList.length = s.size := Array.length_toList
  have hne : s.data.toList ≠ [] := by
    intro e
    rw [e] at hz
    simp at hz
    omega
  intro m
  induction m with
  | zero =>
    intro n h hn hno
    obtain rfl : n = 4 := by omega
    refine Ev.step (fun k => rfl) ?_
    simp only [hornbookref02_Take.l0]
    simp only [if_neg (show ¬ (((4 + 1 : Nat) : Int) ≤ 4) by decide)]
    refine Ev.step (fun k => rfl) ?_
    simp only [hornbookref02_Take.j1]
    simp only [if_neg (show ¬ (false = true) by decide)]
    rw [tk_none _ hne 4 hno (.inl rfl)]
    exact Ev.now _
  | succ m ih =>
    intro n h hn hno
    refine Ev.step (fun k => rfl) ?_
    simp only [hornbookref02_Take.l0]
    simp only [if_pos (show (((n + 1 : Nat) : Int) ≤ 4) by omega)]
    refine Ev.step (fun k => rfl) ?_
    simp only [hornbookref02_Take.j1]
    by_cases hn1 : n + 1 ≤ s.size
    · rw [decide_eq_true (show ((n + 1 : Nat) : Int) ≤ (s.size : Int) by omega)]
      have e0 : wrap64 (((n + 1 : Nat) : Int) - 1) = (n : Int) := by rw [w64 (by omega) (by omega)]; omega
      have hb := by_range s.data.toList n
      rw [e0]
      simp only [if_true, if_pos (show (0 : Int) ≤ (n : Int) by omega), if_pos (show (n : Int) < (s.size : Int) by omega)]
      rw [bt_list s n (by omega), w64 (n := by_ s.data.toList n) (by omega) (by omega)]
      have nx : ((decodeL s.data.toList).2 = n + 1 → bad s.data.toList) → Ev (fun k => hornbookref02_Take.l0 k s (ac s.data.toList (n + 1)) ((n + 1 + 1 : Nat) : Int)) (tk s.data.toList) := fun hx => ih (n + 1) (by omega) hn1 (fun q hq e => by
        rcases Nat.lt_or_ge q (n + 1) with h5 | h5
        · exact hno q (by omega) e
        · exact hx (by omega))
      have key := take_j2 s hs (n + 1) (by omega) (by omega) hn1 nx
      cases n with
      | zero =>
        simp only [if_pos (show (((0 + 1 : Nat) : Int) = 1) by rfl)]
        have ea : ac s.data.toList (0 + 1) = strip (by_ s.data.toList 0) := rfl
        rw [ea] at key
        unfold strip at key
        by_cases q1 : by_ s.data.toList 0 ≥ 240
        · rw [if_pos q1] at key
          simp only [if_pos q1]
          rw [w64 (n := by_ s.data.toList 0 - 240) (by omega) (by omega)]
          exact key
        rw [if_neg q1] at key
        simp only [if_neg q1]
        by_cases q2 : by_ s.data.toList 0 ≥ 224
        · rw [if_pos q2] at key
          simp only [if_pos q2]
          rw [w64 (n := by_ s.data.toList 0 - 224) (by omega) (by omega)]
          exact key
        rw [if_neg q2] at key
        simp only [if_neg q2]
        by_cases q3 : by_ s.data.toList 0 ≥ 192
        · rw [if_pos q3] at key
          simp only [if_pos q3]
          rw [w64 (n := by_ s.data.toList 0 - 192) (by omega) (by omega)]
          exact key
        rw [if_neg q3] at key
        simp only [if_neg q3]
        exact key
      | succ n =>
        have hr := ac_range s.data.toList (n + 1) (by omega)
        simp only [if_neg (show ¬ (((n + 1 + 1 : Nat) : Int) = 1) by omega)]
        rw [Int.tmod_eq_emod_of_nonneg hb.1, w64 (n := ac s.data.toList (n + 1) * 64) (by omega) (by omega), w64 (n := ac s.data.toList (n + 1) * 64 + by_ s.data.toList (n + 1) % 64) (by omega) (by omega)]
        exact key
    · rw [decide_eq_false (show ¬ ((n + 1 : Nat) : Int) ≤ (s.size : Int) by omega)]
      simp only [if_neg (show ¬ (false = true) by decide)]
      rw [tk_none _ hne n hno (.inr (by omega))]
      exact Ev.now _
theorem rTake_is (s : ByteArray) (hs : s.size ≤ 1000000) (h0 : 0 < s.size) : Ev (fun k => hornbookref02_Take.f k s) (tk s.data.toList) :=
  take_l0 s hs h0 4 0 rfl (by omega) (fun m hm e => by
    have := decodeL_width s.data.toList
    omega)
theorem rRunes_l0 : ∀ (m : Nat) (s : ByteArray) (acc : List Int), s.size ≤ m → s.size ≤ 1000000 → acc.length ≤ 1000000 - s.size → Ev (fun k => hornbookref02_Runes.l0 k s acc) (acc ++ rns s.data.toList) := by
  intro m
  induction m with
  | zero =>
    intro s acc hm hs ha
    have hz : s.data.toList.length = s.size := Array.length_toList
    have e : s.data.toList = [] := List.eq_nil_of_length_eq_zero (by omega)
    refine Ev.step (fun k => rfl) ?_
    simp only [hornbookref02_Runes.l0]
    simp only [if_neg (show ¬ ((s.size : Int) > 0) by omega)]
    rw [e, rns_nil, List.append_nil]
    exact Ev.now _
  | succ m ih =>
    intro s acc hm hs ha
    have hz : s.data.toList.length = s.size := Array.length_toList
    by_cases h0 : 0 < s.size
    · have hne : s.data.toList ≠ [] := by
        intro e
        rw [e] at hz
        simp at hz
        omega
      have hw := decodeL_width s.data.toList
      have hle := decodeL_le s.data.toList hne
      have ht : ∀ n : Nat, 1 ≤ n → n ≤ s.size → (s.extract n s.size).size + n = s.size := fun n h1 h2 => by
        have e := congrArg List.length (extract_tail s n)
        rw [List.length_drop] at e
        have e2 : (s.extract n s.size).data.toList.length = (s.extract n s.size).size := Array.length_toList
        omega
      refine Ev.step (fun k => rfl) ?_
      simp only [hornbookref02_Runes.l0]
      simp only [if_pos (show (s.size : Int) > 0 by omega)]
      refine Ev.bind (rTake_is s hs h0) ?_
      rw [rns_step _ hne]
      by_cases hb : bad s.data.toList
      · have e : tk s.data.toList = (0, 0) := if_pos hb
        rw [e, hb.1, hb.2]
        simp only [if_true, if_pos (show acc.length < 17592186044416 by omega), if_pos (show (1 : Int) ≤ (s.size : Int) by omega)]
        have h2 := ht 1 (by omega) (by omega)
        have h3 := ih (s.extract 1 s.size) (acc ++ [65533]) (by omega) (by omega) (by simp; omega)
        rw [extract_tail, List.append_assoc] at h3
        exact h3
      · have e : tk s.data.toList = (((decodeL s.data.toList).1 : Int), ((decodeL s.data.toList).2 : Int)) := if_neg hb
        rw [e]
        simp only [if_neg (show ¬ (((decodeL s.data.toList).2 : Nat) : Int) = 0 by omega), if_pos (show acc.length < 17592186044416 by omega), if_pos (show (0 : Int) ≤ ((decodeL s.data.toList).2 : Int) by omega), if_pos (show ((decodeL s.data.toList).2 : Int) ≤ (s.size : Int) by omega), Int.toNat_natCast]
        have h2 := ht (decodeL s.data.toList).2 (by omega) (by omega)
        have h3 := ih (s.extract (decodeL s.data.toList).2 s.size) (acc ++ [((decodeL s.data.toList).1 : Int)]) (by omega) (by omega) (by simp; omega)
        rw [extract_tail, List.append_assoc] at h3
        exact h3
    · have e : s.data.toList = [] := List.eq_nil_of_length_eq_zero (by omega)
      refine Ev.step (fun k => rfl) ?_
      simp only [hornbookref02_Runes.l0]
      simp only [if_neg (show ¬ ((s.size : Int) > 0) by omega)]
      rw [e, rns_nil, List.append_nil]
      exact Ev.now _
theorem rRunes_is (s : ByteArray) (hs : s.size ≤ 1000000) : Ev (fun k => hornbookref02_Runes.f k s) (rns s.data.toList) := rRunes_l0 s.size s [] (Nat.le_refl _) hs (by simp)
theorem rWhole_l0 : ∀ (m : Nat) (s : ByteArray), s.size ≤ m → s.size ≤ 1000000 → Ev (fun k => hornbookref02_Whole.l0 k s) (validD s.data.toList) := by
  intro m
  induction m with
  | zero =>
    intro s hm hs
    have hz : s.data.toList.length = s.size := Array.length_toList
    have e : s.data.toList = [] := List.eq_nil_of_length_eq_zero (by omega)
    refine Ev.step (fun k => rfl) ?_
    simp only [hornbookref02_Whole.l0]
    simp only [if_neg (show ¬ ((s.size : Int) > 0) by omega)]
    rw [e, validD_nil]
    exact Ev.now _
  | succ m ih =>
    intro s hm hs
    have hz : s.data.toList.length = s.size := Array.length_toList
    by_cases h0 : 0 < s.size
    · have hne : s.data.toList ≠ [] := by
        intro e
        rw [e] at hz
        simp at hz
        omega
      have hw := decodeL_width s.data.toList
      have hle := decodeL_le s.data.toList hne
      refine Ev.step (fun k => rfl) ?_
      simp only [hornbookref02_Whole.l0]
      simp only [if_pos (show (s.size : Int) > 0 by omega)]
      refine Ev.bind (rTake_is s hs h0) ?_
      rw [validD_step _ hne]
      by_cases hb : bad s.data.toList
      · have e : tk s.data.toList = (0, 0) := if_pos hb
        rw [e, if_pos (show (decodeL s.data.toList).1 = 65533 ∧ (decodeL s.data.toList).2 = 1 from hb)]
        simp only [if_true]
        exact Ev.now _
      · have e : tk s.data.toList = (((decodeL s.data.toList).1 : Int), ((decodeL s.data.toList).2 : Int)) := if_neg hb
        rw [e, if_neg (show ¬ ((decodeL s.data.toList).1 = 65533 ∧ (decodeL s.data.toList).2 = 1) from hb)]
        simp only [if_neg (show ¬ (((decodeL s.data.toList).2 : Nat) : Int) = 0 by omega), if_pos (show (0 : Int) ≤ ((decodeL s.data.toList).2 : Int) by omega), if_pos (show ((decodeL s.data.toList).2 : Int) ≤ (s.size : Int) by omega), Int.toNat_natCast]
        have h2 : (s.extract (decodeL s.data.toList).2 s.size).size + (decodeL s.data.toList).2 = s.size := by
          have e := congrArg List.length (extract_tail s (decodeL s.data.toList).2)
          rw [List.length_drop] at e
          have e2 : (s.extract (decodeL s.data.toList).2 s.size).data.toList.length = (s.extract (decodeL s.data.toList).2 s.size).size := Array.length_toList
          omega
        have h3 := ih (s.extract (decodeL s.data.toList).2 s.size) (by omega) (by omega)
        rw [extract_tail] at h3
        exact h3
    · have e : s.data.toList = [] := List.eq_nil_of_length_eq_zero (by omega)
      refine Ev.step (fun k => rfl) ?_
      simp only [hornbookref02_Whole.l0]
      simp only [if_neg (show ¬ ((s.size : Int) > 0) by omega)]
      rw [e, validD_nil]
      exact Ev.now _
theorem rWhole_is (s : ByteArray) (hs : s.size ≤ 1000000) : Ev (fun k => hornbookref02_Whole.f k s) (validD s.data.toList) := rWhole_l0 s.size s (Nat.le_refl _) hs
end Go.Proofs.YtlipfldicjihhaaDoorQ
