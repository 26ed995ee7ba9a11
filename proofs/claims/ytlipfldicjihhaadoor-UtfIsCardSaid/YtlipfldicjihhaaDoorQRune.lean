/- Texts in UTF-8, in plain words: how values are written and read again; units and bytes read again. -/
import Derived.Test.YtlipfldicjihhaaDoorQUtf
import Derived.Test.YtlipfldicjihhaaDoorPTabx2
import Derived.Test.YtlipfldicjihhaaDoorPTabx6
import Derived.Test.YtlipfldicjihhaaDoorPTabx5
import Derived.Lib.ValidLaws
import Derived.Maps.Views
set_option linter.unusedVariables false
set_option linter.unusedSimpArgs false
namespace Go.Proofs.YtlipfldicjihhaaDoorQ
open Go.RowKit Go.Proofs.YtlipfldicjihhaaDoorW.PrintWords Go.Proofs.YtlipfldicjihhaaDoorW.PrintLast Go.Proofs.YtlipfldicjihhaaDoorW.PrintMore Go.Proofs.YtlipfldicjihhaaDoor.PTab
open Go.Lib (decodeL decodeL_width decodeL_N decodeN decodeN_ascii decodeN_cont decodeN_shape decodeL_drop encodeRune encodeRuneZ encodeRuneZ_one encodeRuneZ_two encodeRuneZ_three encodeRuneZ_four encodeRuneZ_length validD validD_step encode_decode)
/-- Values written. -/
def txt (l : List Int) : List UInt8 := l.flatMap fun x => encodeRune (gd x)
/-- Bytes read. -/
def rnsG : Nat → List UInt8 → List Int
  | 0, _ => []
  | n + 1, l => if l = [] then [] else ((decodeL l).1 : Int) :: rnsG n (l.drop (decodeL l).2)
def rns (l : List UInt8) : List Int := rnsG l.length l
theorem rnsG_nil : ∀ n, rnsG n [] = []
  | 0 => rfl
  | _ + 1 => by simp [rnsG]
theorem rnsG_fuel : ∀ (n m : Nat) (l : List UInt8), l.length ≤ n → l.length ≤ m → rnsG n l = rnsG m l
  | 0, m, l, hn, _ => by
    have : l = [] := List.eq_nil_of_length_eq_zero (by omega)
    subst this
    rw [rnsG_nil, rnsG_nil]
  | n + 1, 0, l, _, hm => by
    have : l = [] := List.eq_nil_of_length_eq_zero (by omega)
    subst this
    rw [rnsG_nil, rnsG_nil]
  | n + 1, m + 1, l, hn, hm => by
    unfold rnsG
    by_cases hne : l = []
    · simp [hne]
    · have hw := decodeL_width l
      have hl : 0 < l.length := List.length_pos_iff.2 hne
      rw [if_neg hne, if_neg hne, rnsG_fuel n m (l.drop (decodeL l).2) (by rw [List.length_drop]; omega) (by rw [List.length_drop]; omega)]
theorem rns_nil : rns [] = [] := rfl
theorem rns_step (l : List UInt8) (hne : l ≠ []) : rns l = ((decodeL l).1 : Int) :: rns (l.drop (decodeL l).2) := by
  have hl : 0 < l.length := List.length_pos_iff.2 hne
  have hw := decodeL_width l
  obtain ⟨n, hn⟩ : ∃ n, l.length = n + 1 := ⟨l.length - 1, by omega⟩
  unfold rns
  rw [hn]
  show (if l = [] then [] else _) = _
  rw [if_neg hne, rnsG_fuel n (l.drop (decodeL l).2).length _ (by rw [List.length_drop]; omega) (Nat.le_refl _)]
theorem byte_num (n : Nat) (h : n < 256) : (n.toUInt8).toNat = n := by
  simp [Nat.toUInt8, UInt8.toNat_ofNat']
  omega
set_option maxRecDepth 100000 in
set_option maxHeartbeats 4000000 in
theorem decode_encodeN (n : Nat) (h : n ≤ 1114111 ∧ (n < 55296 ∨ 57343 < n)) (t : List UInt8) : decodeL (encodeRune (n : Int) ++ t) = (n, (encodeRune (n : Int)).length) := by
  rw [decodeL_N]
  unfold encodeRune
  by_cases h1 : n ≤ 127
  · rw [encodeRuneZ_one (by omega) (by omega)]
    simp only [List.map_cons, List.map_nil, List.cons_append, List.nil_append, List.getD_cons_zero, List.length_cons, List.length_nil, Int.toNat_natCast]
    rw [byte_num n (by omega), decodeN_ascii _ _ _ _ _ (by omega)]
  by_cases h2 : n ≤ 2047
  · rw [encodeRuneZ_two (by omega) (by omega)]
    have e0 : (192 + (n : Int) / 64).toNat = 192 + n / 64 := by omega
    have e1 : (128 + (n : Int) % 64).toNat = 128 + n % 64 := by omega
    simp only [List.map_cons, List.map_nil, List.cons_append, List.nil_append, List.getD_cons_zero, List.getD_cons_succ, List.length_cons, List.length_nil, e0, e1]
    rw [byte_num (192 + n / 64) (by omega), byte_num (128 + n % 64) (by omega)]
    unfold decodeN
    rw [if_neg (by omega), if_pos (by omega), if_pos (by omega)]
    refine Prod.ext ?_ rfl
    show _ = n
    omega
  by_cases h3 : n ≤ 65535
  · rw [encodeRuneZ_three (by omega)]
    have e0 : (224 + (n : Int) / 4096).toNat = 224 + n / 4096 := by omega
    have e1 : (128 + (n : Int) / 64 % 64).toNat = 128 + n / 64 % 64 := by omega
    have e2 : (128 + (n : Int) % 64).toNat = 128 + n % 64 := by omega
    simp only [List.map_cons, List.map_nil, List.cons_append, List.nil_append, List.getD_cons_zero, List.getD_cons_succ, List.length_cons, List.length_nil, e0, e1, e2]
    rw [byte_num (224 + n / 4096) (by omega), byte_num (128 + n / 64 % 64) (by omega), byte_num (128 + n % 64) (by omega)]
    unfold decodeN
    rw [if_neg (by omega), if_neg (by omega), if_pos (by omega), if_pos (by omega)]
    refine Prod.ext ?_ rfl
    show _ = n
    omega
  · rw [encodeRuneZ_four (by omega) (by omega)]
    have e0 : (240 + (n : Int) / 262144).toNat = 240 + n / 262144 := by omega
    have e1 : (128 + (n : Int) / 4096 % 64).toNat = 128 + n / 4096 % 64 := by omega
    have e2 : (128 + (n : Int) / 64 % 64).toNat = 128 + n / 64 % 64 := by omega
    have e3 : (128 + (n : Int) % 64).toNat = 128 + n % 64 := by omega
    simp only [List.map_cons, List.map_nil, List.cons_append, List.nil_append, List.getD_cons_zero, List.getD_cons_succ, List.length_cons, List.length_nil, e0, e1, e2, e3]
    rw [byte_num (240 + n / 262144) (by omega), byte_num (128 + n / 4096 % 64) (by omega), byte_num (128 + n / 64 % 64) (by omega), byte_num (128 + n % 64) (by omega)]
    unfold decodeN
    rw [if_neg (by omega), if_neg (by omega), if_neg (by omega), if_pos (by omega), if_pos (by omega)]
    refine Prod.ext ?_ rfl
    show _ = n
    omega
theorem encLen (r : Int) : 1 ≤ (encodeRune r).length ∧ (encodeRune r).length ≤ 4 := by
  unfold encodeRune
  rw [List.length_map]
  exact encodeRuneZ_length r
theorem decode_encode (r : Int) (h : goodB r = true) (t : List UInt8) : decodeL (encodeRune r ++ t) = (r.toNat, (encodeRune r).length) := by
  have h := of_decide_eq_true h
  obtain ⟨n, rfl⟩ : ∃ n : Nat, r = n := ⟨r.toNat, by omega⟩
  rw [decode_encodeN n (by omega) t]
  rfl
theorem enc_long (r : Int) (h : (encodeRune r).length = 1) : 0 ≤ r ∧ r ≤ 127 := by
  unfold encodeRune encodeRuneZ at h
  repeat' split at h
  all_goals first | assumption | simp at h
theorem enc_ne (r : Int) : encodeRune r ≠ [] := by
  intro h
  have := (encLen r).1
  rw [h] at this
  simp at this
theorem txt_cons (x : Int) (l : List Int) : txt (x :: l) = encodeRune (gd x) ++ txt l := rfl
theorem txt_append (a b : List Int) : txt (a ++ b) = txt a ++ txt b := List.flatMap_append
theorem txt_len : ∀ l : List Int, (txt l).length ≤ 4 * l.length
  | [] => by simp [txt]
  | x :: l => by
    have := txt_len l
    have := encLen (gd x)
    rw [txt_cons, List.length_append, List.length_cons]
    omega
theorem rns_txt : ∀ l : List Int, rns (txt l) = l.map gd
  | [] => rfl
  | x :: l => by
    have hg := gd_range x
    rw [rns_step _ (by rw [txt_cons]; intro h; exact enc_ne _ (List.append_eq_nil_iff.1 h).1), txt_cons, decode_encode _ (goodB_gd x)]
    simp only [List.drop_left, List.map_cons]
    rw [rns_txt l]
    congr 1
    omega
theorem valid_txt : ∀ l : List Int, validD (txt l) = true
  | [] => rfl
  | x :: l => by
    have hg := gd_range x
    rw [validD_step _ (by rw [txt_cons]; intro h; exact enc_ne _ (List.append_eq_nil_iff.1 h).1), txt_cons, decode_encode _ (goodB_gd x)]
    rw [if_neg (by
      rintro ⟨h1, h2⟩
      have := enc_long _ h2
      simp only at h1
      omega)]
    simp only [List.drop_left]
    exact valid_txt l
theorem rune_good (l : List UInt8) : goodB ((decodeL l).1 : Int) = true := by
  have k0 := (l.getD 0 0).toNat_lt
  have k1 := (l.getD 1 0).toNat_lt
  have k2 := (l.getD 2 0).toNat_lt
  have k3 := (l.getD 3 0).toNat_lt
  unfold goodB
  rw [decodeL_N]
  apply decide_eq_true
  rcases decodeN_shape l.length (l.getD 0 0).toNat (l.getD 1 0).toNat (l.getD 2 0).toNat (l.getD 3 0).toNat with ⟨c, e⟩ | ⟨c1, c2, c3, cv, e⟩ | ⟨c1, c2, c3, c4, cv, cs, e⟩ | ⟨c1, c2, c3, c4, c5, cv, cw, e⟩ | e
  all_goals (rw [e]; dsimp only; omega)
theorem rns_good : ∀ (n : Nat) (l : List UInt8), l.length ≤ n → ∀ x ∈ rns l, goodB x = true
  | 0, l, h, x, hx => by
    have : l = [] := List.eq_nil_of_length_eq_zero (by omega)
    subst this
    cases hx
  | n + 1, l, h, x, hx => by
    by_cases hne : l = []
    · subst hne; cases hx
    have hw := decodeL_width l
    have hl : 0 < l.length := List.length_pos_iff.2 hne
    rw [rns_step l hne] at hx
    rcases List.mem_cons.1 hx with rfl | hx
    · exact rune_good l
    · exact rns_good n _ (by rw [List.length_drop]; omega) x hx
theorem rns_len : ∀ (n : Nat) (l : List UInt8), l.length ≤ n → (rns l).length ≤ l.length
  | 0, l, h => by
    have : l = [] := List.eq_nil_of_length_eq_zero (by omega)
    subst this
    simp [rns_nil]
  | n + 1, l, h => by
    by_cases hne : l = []
    · subst hne; simp [rns_nil]
    have hw := decodeL_width l
    have hl : 0 < l.length := List.length_pos_iff.2 hne
    have := rns_len n (l.drop (decodeL l).2) (by rw [List.length_drop]; omega)
    rw [List.length_drop] at this
    rw [rns_step l hne, List.length_cons]
    omega
theorem txt_rns : ∀ (n : Nat) (l : List UInt8), l.length ≤ n → validD l = true → txt (rns l) = l
  | 0, l, h, _ => by
    have : l = [] := List.eq_nil_of_length_eq_zero (by omega)
    subst this
    rfl
  | n + 1, l, h, hv => by
    by_cases hne : l = []
    · subst hne; rfl
    have hw := decodeL_width l
    have hl : 0 < l.length := List.length_pos_iff.2 hne
    rw [validD_step l hne] at hv
    by_cases hb : (decodeL l).1 = 65533 ∧ (decodeL l).2 = 1
    · rw [if_pos hb] at hv; cases hv
    rw [if_neg hb] at hv
    rw [rns_step l hne, txt_cons, txt_rns n _ (by rw [List.length_drop]; omega) hv, gd_good (rune_good l), encode_decode l hne hb, List.take_append_drop]
theorem txt_rns_iff (l : List UInt8) : txt (rns l) = l ↔ validD l = true :=
  ⟨fun h => by have := valid_txt (rns l); rwa [h] at this, txt_rns _ l (Nat.le_refl _)⟩
theorem rns_conts : ∀ l : List UInt8, (∀ b ∈ l, b.toNat / 64 = 2) → (rns l).length = l.length
  | [], _ => rfl
  | b :: l, h => by
    have hb := h b (by simp)
    rw [rns_step _ (by simp), decodeL_N]
    simp only [List.getD_cons_zero]
    rw [decodeN_cont _ _ _ _ _ hb]
    simp only [List.length_cons, List.drop_succ_cons, List.drop_zero]
    rw [rns_conts l (fun c hc => h c (by simp [hc]))]
theorem decL_len : ∀ (m : Nat) (l : List Int), l.length ≤ m → (decL l).length ≤ l.length
  | _, [], _ => by simp [decL]
  | _, [a], _ => by simp [decL]
  | 0, a :: b :: l, h => by simp at h
  | m + 1, a :: b :: l, h => by
    simp only [List.length_cons] at h
    rw [decL]
    split
    · have := decL_len m l (by omega)
      simp only [List.length_cons]
      omega
    · have := decL_len m (b :: l) (by simp only [List.length_cons]; omega)
      simp only [List.length_cons] at this ⊢
      omega
theorem unitsL_len : ∀ l : List Int, (unitsL l).1.length ≤ l.length
  | [] => by simp [unitsL]
  | [_] => by simp [unitsL]
  | a :: b :: l => by
    have := unitsL_len l
    simp only [unitsL, List.length_cons]
    omega
/-- Are they units? -/
def Units16 (u : List Int) : Prop := ∀ x ∈ u, 0 ≤ x ∧ x ≤ 65535
theorem unitsL_bytL : ∀ (u t : List Int), Units16 u → unitsL (bytL u ++ t) = (u ++ (unitsL t).1, (unitsL t).2)
  | [], t, _ => by simp [bytL]
  | x :: u, t, h => by
    have hx := h x (by simp)
    have ih := unitsL_bytL u t (fun y hy => h y (by simp [hy]))
    have e : bytL (x :: u) = [x / 256, x % 256] ++ bytL u := by
      unfold bytL
      rw [List.flatMap_cons]
      congr 1
      unfold byt1 un
      rw [if_neg (by omega)]
    rw [e]
    show unitsL (x / 256 :: x % 256 :: (bytL u ++ t)) = _
    rw [unitsL, ih]
    simp only [List.cons_append, Prod.mk.injEq, and_true, List.cons.injEq]
    omega
theorem enc1_units (r : Int) : Units16 (enc1 r) := by
  have h := gd_range r
  intro x hx
  unfold enc1 at hx
  split at hx
  · obtain rfl : x = gd r := by simpa using hx
    omega
  · have : x = 55296 + (gd r - 65536) / 1024 ∨ x = 56320 + (gd r - 65536) % 1024 := by simpa using hx
    rcases this with rfl | rfl <;> omega
theorem encL_units (l : List Int) : Units16 (encL l) := by
  intro x hx
  obtain ⟨y, _, hy⟩ := List.mem_flatMap.mp hx
  exact enc1_units y x hy
theorem decL_enc1 (r : Int) (t : List Int) : decL (enc1 r ++ t) = gd r :: decL t := by
  have h := gd_range r
  unfold enc1
  split
  · rename_i hp
    have e : one (gd r) = gd r := by
      unfold one
      rw [if_neg (by omega), gd_good (goodB_gd r)]
    have hh : hiB (gd r) = false := decide_eq_false (by omega)
    show decL (gd r :: t) = _
    cases t with
    | nil => simp [decL, e]
    | cons b t =>
      rw [decL, if_neg (fun h => by rw [hh] at h; exact absurd h.1 (by decide)), e]
  · rename_i hp
    show decL ((55296 + (gd r - 65536) / 1024) :: (56320 + (gd r - 65536) % 1024) :: t) = _
    rw [decL, if_pos ⟨decide_eq_true (by omega), decide_eq_true (by omega)⟩]
    congr 1
    unfold pair
    omega
theorem decL_encL : ∀ l : List Int, decL (encL l) = l.map gd
  | [] => rfl
  | x :: l => by
    have e : encL (x :: l) = enc1 x ++ encL l := rfl
    rw [e, decL_enc1, decL_encL l, List.map_cons]
theorem bytL_bytes (u : List Int) : Bytes (bytL u) := by
  intro x hx
  obtain ⟨y, _, hy⟩ := List.mem_flatMap.mp hx
  unfold byt1 at hy
  have hu : 0 ≤ un y ∧ un y ≤ 65535 := by unfold un; split <;> omega
  have : x = un y / 256 ∨ x = un y % 256 := by simpa using hy
  omega

/-! ### the program's own words -/
theorem tgd_is (x : Int) : utf_Text.gd x = gd x := by
  unfold utf_Text.gd gd goodB
  by_cases h : 0 ≤ x ∧ x ≤ 1114111 ∧ (x < 55296 ∨ 57343 < x)
  · rw [if_pos h, decide_eq_true h, if_pos rfl]
  · rw [if_neg h, decide_eq_false h, if_neg (by simp)]
theorem tenc_is (l : List Int) : utf_Text.enc l = txt l := by
  unfold utf_Text.enc txt
  exact congrArg (fun f => List.flatMap f l) (funext fun x => by rw [tgd_is])
/-- The text's bytes. -/
def txB (l : List Int) : ByteArray := ⟨(txt l).toArray⟩
theorem Text_is (l : List Int) (hl : l.length < 4398046511104) : utf_Text.f l = some (txB l) := by
  unfold utf_Text.f
  rw [if_pos hl, tenc_is]
  rfl
theorem go_is (s : ByteArray) : ∀ n pos, utf_Runes.go s n pos = rnsG n (s.data.toList.drop pos)
  | 0, _ => rfl
  | n + 1, pos => by
    unfold utf_Runes.go rnsG
    have hsz : s.data.toList.length = s.size := Array.length_toList
    by_cases h : pos < s.size
    · have hne : s.data.toList.drop pos ≠ [] := by
        intro e
        have := congrArg List.length e
        rw [List.length_drop, hsz] at this
        simp at this
        omega
      rw [if_pos h, if_neg hne, go_is s n, decodeL_drop, List.drop_drop]
    · rw [if_neg h, if_pos (List.drop_of_length_le (by omega))]
theorem Runes_is (s : ByteArray) (hl : s.size < 17592186044416) : utf_Runes.f s = some (rns s.data.toList) := by
  unfold utf_Runes.f
  rw [if_pos hl, go_is, List.drop_zero]
  rfl
theorem txB_list (l : List Int) : (txB l).data.toList = txt l := by simp [txB]
theorem txB_size (l : List Int) : (txB l).size = (txt l).length := by simp [txB, ByteArray.size]
open Go.Maps in
theorem txB_toList (l : List Int) : (txB l).toList = txt l := by
  unfold txB
  rw [ByteArray.toList_mk]
theorem txB_append (a b : List Int) : txB (a ++ b) = txB a ++ txB b := by
  apply ByteArray.ext
  rw [ByteArray.data_append]
  simp [txB, txt_append]
theorem str_append (a b : List Int) : strOfNums (a ++ b) = strOfNums a ++ strOfNums b := by
  apply ByteArray.ext
  rw [ByteArray.data_append]
  simp [strOfNums]
theorem str_size (a : List Int) : (strOfNums a).size = a.length := by simp [strOfNums, ByteArray.size]
theorem awake02 : Ev (fun k => hornbooklaw02_awake.f k) true := by
  unfold hornbooklaw02_awake.f
  have e0 : Ev (fun k => utf_Enc16.f k [128512]) [55357, 56832] := by
    have h := Enc16_is [128512] (by simp)
    have e : encL [128512] = [55357, 56832] := by decide +kernel
    rw [e] at h
    exact h
  refine Ev.bind e0 ?_
  have e : encL [128512] = [55357, 56832] := by decide +kernel
  have e2 : txt [128512] = [240, 159, 152, 128] := by decide +kernel
  simp only [if_pos (show ((([55357, 56832] : List Int).length : Nat) : Int) = 2 by decide), if_pos (show (0 : Int) < ((([55357, 56832] : List Int).length : Nat) : Int) by decide), if_pos (show rd [55357, 56832] 0 = 55357 by decide +kernel), if_pos (show (1 : Int) < ((([55357, 56832] : List Int).length : Nat) : Int) by decide), if_pos (show rd [55357, 56832] 1 = 56832 by decide +kernel)]
  rw [Text_is [128512] (by simp)]
  simp only [Option.bind_some]
  rw [txB_toList]
  simp only [if_pos e2]
  rw [Good_is]
  simp only [Option.bind_some, if_pos (show goodB 65 = true by decide +kernel)]
  have e3 : utf_Whole.f (⟨#[97]⟩ : ByteArray) = some true := by first | exact if_pos rfl | (unfold utf_Whole.f; rw [if_pos (by simp [ByteArray.size])]; exact congrArg some (by decide +kernel))
  rw [e3]
  simp only [Option.bind_some, if_true]
  refine Ev.bind (Bytes_is _ (by simp)) ?_
  have e4 : ((bytL [55357, 56832]).length : Int) = 4 := by rw [bytL_len]; rfl
  rw [e4]
  exact Ev.now _
theorem encL_append (a b : List Int) : encL (a ++ b) = encL a ++ encL b := List.flatMap_append
theorem bytL_append (a b : List Int) : bytL (a ++ b) = bytL a ++ bytL b := List.flatMap_append
end Go.Proofs.YtlipfldicjihhaaDoorQ
