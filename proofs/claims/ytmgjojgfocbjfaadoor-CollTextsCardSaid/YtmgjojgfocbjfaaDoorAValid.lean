/- Texts in UTF-8 are whole. -/
import Derived.Test.YtmgjojgfocbjfaaDoorATxt
import Derived.Lib.ValidLaws
set_option linter.all false
set_option maxRecDepth 100000
namespace Go.Abs.Txt
open Go.RowKit Go.Proofs Go.Abs.Utf
open Go.Lib (decodeL decodeL_width decodeL_N decodeN decodeN_ascii decodeN_cont decodeN_shape decodeL_drop encodeRune encodeRuneZ encodeRuneZ_one encodeRuneZ_two encodeRuneZ_three encodeRuneZ_four encodeRuneZ_length validD validD_step encode_decode)
theorem goodB_gd (x : Int) : goodB (gd x) = true := by
  unfold gd
  split
  · assumption
  · decide
theorem byte_num (n : Nat) (h : n < 256) : (n.toUInt8).toNat = n := by
  simp [Nat.toUInt8, UInt8.toNat_ofNat']
  omega
set_option maxRecDepth 100000 in
set_option maxHeartbeats 4000000 in
theorem decode_encodeN (n : Nat) (h : n ≤ 1114111 ∧ (n < 55296 ∨ 57343 < n)) (t : List UInt8) : decodeL (encodeRune (n : Int) ++ t) = (n, (encodeRune (n : Int)).length) := by
  rw [decodeL_N]
  unfold encodeRune
  by_cases h1 : n ≤ 127
  · rw [encodeRuneZ_one (by omega) (by omega)]
    simp only [List.map_cons, List.map_nil, List.cons_append, List.nil_append, List.getD_cons_zero, List.length_cons, List.length_nil, Int.toNat_natCast]
    rw [byte_num n (by omega), decodeN_ascii _ _ _ _ _ (by omega)]
  by_cases h2 : n ≤ 2047
  · rw [encodeRuneZ_two (by omega) (by omega)]
    have e0 : (192 + (n : Int) / 64).toNat = 192 + n / 64 := by omega
    have e1 : (128 + (n : Int) % 64).toNat = 128 + n % 64 := by omega
    simp only [List.map_cons, List.map_nil, List.cons_append, List.nil_append, List.getD_cons_zero, List.getD_cons_succ, List.length_cons, List.length_nil, e0, e1]
    rw [byte_num (192 + n / 64) (by omega), byte_num (128 + n % 64) (by omega)]
    unfold decodeN
    rw [if_neg (by omega), if_pos (by omega), if_pos (by omega)]
    refine Prod.ext ?_ rfl
    show _ = n
    omega
  by_cases h3 : n ≤ 65535
  · rw [encodeRuneZ_three (by omega)]
    have e0 : (224 + (n : Int) / 4096).toNat = 224 + n / 4096 := by omega
    have e1 : (128 + (n : Int) / 64 % 64).toNat = 128 + n / 64 % 64 := by omega
    have e2 : (128 + (n : Int) % 64).toNat = 128 + n % 64 := by omega
    simp only [List.map_cons, List.map_nil, List.cons_append, List.nil_append, List.getD_cons_zero, List.getD_cons_succ, List.length_cons, List.length_nil, e0, e1, e2]
    rw [byte_num (224 + n / 4096) (by omega), byte_num (128 + n / 64 % 64) (by omega), byte_num (128 + n % 64) (by omega)]
    unfold decodeN
    rw [if_neg (by omega), if_neg (by omega), if_pos (by omega), if_pos (by omega)]
    refine Prod.ext ?_ rfl
    show _ = n
    omega
  · rw [encodeRuneZ_four (by omega) (by omega)]
    have e0 : (240 + (n : Int) / 262144).toNat = 240 + n / 262144 := by omega
    have e1 : (128 + (n : Int) / 4096 % 64).toNat = 128 + n / 4096 % 64 := by omega
    have e2 : (128 + (n : Int) / 64 % 64).toNat = 128 + n / 64 % 64 := by omega
    have e3 : (128 + (n : Int) % 64).toNat = 128 + n % 64 := by omega
    simp only [List.map_cons, List.map_nil, List.cons_append, List.nil_append, List.getD_cons_zero, List.getD_cons_succ, List.length_cons, List.length_nil, e0, e1, e2, e3]
    rw [byte_num (240 + n / 262144) (by omega), byte_num (128 + n / 4096 % 64) (by omega), byte_num (128 + n / 64 % 64) (by omega), byte_num (128 + n % 64) (by omega)]
    unfold decodeN
    rw [if_neg (by omega), if_neg (by omega), if_neg (by omega), if_pos (by omega), if_pos (by omega)]
    refine Prod.ext ?_ rfl
    show _ = n
    omega
theorem encLen (r : Int) : 1 ≤ (encodeRune r).length ∧ (encodeRune r).length ≤ 4 := by
  unfold encodeRune
  rw [List.length_map]
  exact encodeRuneZ_length r
theorem decode_encode (r : Int) (h : goodB r = true) (t : List UInt8) : decodeL (encodeRune r ++ t) = (r.toNat, (encodeRune r).length) := by
  have h := of_decide_eq_true h
  obtain ⟨n, rfl⟩ : ∃ n : Nat, r = n := ⟨r.toNat, by omega⟩
  rw [decode_encodeN n (by omega) t]
  rfl
theorem enc_long (r : Int) (h : (encodeRune r).length = 1) : 0 ≤ r ∧ r ≤ 127 := by
  unfold encodeRune encodeRuneZ at h
  repeat' split at h
  all_goals first | assumption | simp at h
theorem enc_ne (r : Int) : encodeRune r ≠ [] := by
  intro h
  have := (encLen r).1
  rw [h] at this
  simp at this
theorem enc_cons (x : Int) (l : List Int) : enc (x :: l) = encodeRune (gd x) ++ enc l := rfl
theorem valid_enc : ∀ l : List Int, validD (enc l) = true
  | [] => rfl
  | x :: l => by
    have hg := gd_range x
    rw [validD_step _ (by rw [enc_cons]; intro h; exact enc_ne _ (List.append_eq_nil_iff.1 h).1), enc_cons, decode_encode _ (goodB_gd x)]
    rw [if_neg (by
      rintro ⟨h1, h2⟩
      have := enc_long _ h2
      simp only at h1
      omega)]
    simp only [List.drop_left]
    exact valid_enc l
end Go.Abs.Txt
