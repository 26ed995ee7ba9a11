/- Layer 19's laws without a program in sight: what is encoded is decoded again. -/
import Derived.Test.YtfiaedpkbhnmkaaQDoc
import Derived.Test.YtfiaedpkbhnmkaaQSm
import Derived.Test.YtfiaedpkbhnmkaaPAllx12
set_option linter.unusedVariables false
set_option linter.unusedSimpArgs false
namespace Go.Proofs.YtfiaedpkbhnmkaaQ
open Go.RowKit Go.Proofs.YtfiaedpkbhnmkaaW.PrintWords Go.Proofs.YtfiaedpkbhnmkaaW.PrintLast Go.Proofs.YtfiaedpkbhnmkaaW.PrintMore Go.Proofs.Ytfiaedpkbhnmkaa.PAll
theorem byte_of {c : Nat} {r : Int} (hc : c < 256) (h : tabT c = r) (hz : r ≠ 0) : byteH r = true ∧ byteI r = (c : Int) := by
  subst h
  exact byte_at hc hz
theorem plain_fe : plainB [254, 255] = ([254, 255], false) := by
  have h1 := byte_of (c := 254) (r := 254) (by decide) (by decide +kernel) (by decide)
  have h2 := byte_of (c := 255) (r := 255) (by decide) (by decide +kernel) (by decide)
  unfold plainB
  rw [if_pos (by simp [h1.1, h2.1])]
  simp only [List.map_cons, List.map_nil, h1.2, h2.2]
  decide +kernel
theorem plain_euro : plainB [8364] = ([160], true) := by
  have h1 := byte_of (c := 160) (r := 8364) (by decide) (by decide +kernel) (by decide)
  unfold plainB
  rw [if_pos (by simp [h1.1])]
  simp only [List.map_cons, List.map_nil, h1.2]
  decide +kernel
theorem awake19 : Ev (fun k => hornbooklaw19_awake.f k) true := by
  unfold hornbooklaw19_awake.f
  have e1 : decodeB [254, 255, 0, 65, 216] = [65, 65533] := by decide +kernel
  have e2 : encodeB [254, 255] = [254, 255, 0, 254, 0, 255] := by
    unfold encodeB
    rw [plain_fe]
    decide +kernel
  have w1 : Wf [254, 255] := by intro x hx; have : x = 254 ∨ x = 255 := by simpa using hx
                                rcases this with rfl | rfl <;> decide +kernel
  have w2 : Wf [8364] := by intro x hx; have : x = 8364 := by simpa using hx
                            subst this
                            decide +kernel
  have b1 : Bytes [254, 255, 0, 65, 216] := by
    intro x hx
    have : x = 254 ∨ x = 255 ∨ x = 0 ∨ x = 65 ∨ x = 216 := by simpa using hx
    omega
  refine Ev.bind (Decode_is _ b1 (by simp)) (Ev.bind (Encode_is _ w1 (by simp)) ?_)
  rw [e1, e2, Plain_is [8364] w2 (by simp), plain_euro]
  simp only [Option.bind_some]
  have e3 : (strOfNums [254, 255, 0, 254, 0, 255]).toList = ([254, 255, 0, 254, 0, 255] : List UInt8) := by
    unfold strOfNums
    rw [ByteArray.toList_mk]
    decide +kernel
  rw [if_pos (by decide +kernel), if_pos (by decide +kernel), if_pos (by decide +kernel), if_pos (by decide +kernel), if_pos (by decide +kernel), if_pos e3]
  exact Ev.now _
/-- Are they units? -/
def Units16 (u : List Int) : Prop := ∀ x ∈ u, 0 ≤ x ∧ x ≤ 65535
theorem unitsL_bytL : ∀ (u t : List Int), Units16 u → unitsL (bytL u ++ t) = (u ++ (unitsL t).1, (unitsL t).2)
  | [], t, _ => by simp [bytL]
  | x :: u, t, h => by
    have hx := h x (by simp)
    have ih := unitsL_bytL u t (fun y hy => h y (by simp [hy]))
    have e : bytL (x :: u) = [x / 256, x % 256] ++ bytL u := by
      unfold bytL
      rw [List.flatMap_cons]
      congr 1
      unfold byt1 un
      rw [if_neg (by omega)]
    rw [e]
    show unitsL (x / 256 :: x % 256 :: (bytL u ++ t)) = _
    rw [unitsL, ih]
    simp only [List.cons_append, Prod.mk.injEq, and_true, List.cons.injEq]
    omega
theorem enc1_units (r : Int) : Units16 (enc1 r) := by
  have h := gd_range r
  intro x hx
  unfold enc1 at hx
  split at hx
  · obtain rfl : x = gd r := by simpa using hx
    omega
  · have : x = 55296 + (gd r - 65536) / 1024 ∨ x = 56320 + (gd r - 65536) % 1024 := by simpa using hx
    rcases this with rfl | rfl <;> omega
theorem encL_units (l : List Int) : Units16 (encL l) := by
  intro x hx
  obtain ⟨y, _, hy⟩ := List.mem_flatMap.mp hx
  exact enc1_units y x hy
theorem decL_enc1 (r : Int) (t : List Int) : decL (enc1 r ++ t) = gd r :: decL t := by
  have h := gd_range r
  unfold enc1
  split
  · rename_i hp
    have e : one (gd r) = gd r := by
      unfold one
      rw [if_neg (by omega), gd_good (goodB_gd r)]
    have hh : hiB (gd r) = false := decide_eq_false (by omega)
    show decL (gd r :: t) = _
    cases t with
    | nil => simp [decL, e]
    | cons b t =>
      rw [decL, if_neg (fun h => by rw [hh] at h; exact absurd h.1 (by decide)), e]
  · rename_i hp
    show decL ((55296 + (gd r - 65536) / 1024) :: (56320 + (gd r - 65536) % 1024) :: t) = _
    rw [decL, if_pos ⟨decide_eq_true (by omega), decide_eq_true (by omega)⟩]
    congr 1
    unfold pair
    omega
theorem decL_encL : ∀ l : List Int, decL (encL l) = l.map gd
  | [] => rfl
  | x :: l => by
    have e : encL (x :: l) = enc1 x ++ encL l := rfl
    rw [e, decL_enc1, decL_encL l, List.map_cons]
theorem bytL_bytes (u : List Int) : Bytes (bytL u) := by
  intro x hx
  obtain ⟨y, _, hy⟩ := List.mem_flatMap.mp hx
  unfold byt1 at hy
  have hu : 0 ≤ un y ∧ un y ≤ 65535 := by unfold un; split <;> omega
  have : x = un y / 256 ∨ x = un y % 256 := by simpa using hy
  omega
theorem encode_bytes (l : List Int) : Bytes (encodeB l) := by
  unfold encodeB
  split
  · unfold plainB
    split
    · exact bytes_byteI l
    · intro x hx
      cases hx
  · exact bytes2.append (bytL_bytes _)
theorem encode_len (l : List Int) : (encodeB l).length ≤ 2 + 4 * l.length := by
  have h1 := encL_len l
  have h2 := bytL_len (encL l)
  unfold encodeB
  split
  · unfold plainB
    split
    · rw [List.length_map]
      omega
    · simp
  · rw [List.length_append, h2, List.length_cons, List.length_cons, List.length_nil]
    omega
theorem decode_units (u t : List Int) (hu : Units16 u) : decodeB ([254, 255] ++ (bytL u ++ t)) = decL (u ++ (unitsL t).1) ++ (if (unitsL t).2 = true then [65533] else []) := by
  unfold decodeB
  have hm : markB ([254, 255] ++ (bytL u ++ t)) = true := (markB_iff _).mpr ⟨bytL u ++ t, rfl⟩
  rw [if_pos hm]
  show undec (bytL u ++ t) = _
  unfold undec
  rw [unitsL_bytL u t hu]
theorem decN_byteI {r : Int} (h : byteH r = true) : decN (byteI r) = r ∧ gd r = r := by
  obtain ⟨c, h1, h2, h3, h4⟩ := byteH_iff.mp h
  have ht := tab_ok c h1
  unfold decN
  rw [h4, Int.toNat_natCast, if_neg h2]
  exact ⟨h3, gd_good (h3 ▸ ht.2.2.1)⟩
theorem decode_encode (l : List Int) : decodeB (encodeB l) = l.map gd := by
  unfold encodeB
  by_cases h : (plainB l).2 = true
  · rw [if_pos h]
    unfold plainB at h ⊢
    by_cases ha : l.all byteH = true
    · rw [if_pos ha] at h ⊢
      unfold decodeB
      rw [if_neg (by simpa using h), List.map_map]
      refine List.map_congr_left fun x hx => ?_
      have hb := decN_byteI (List.all_eq_true.mp ha x hx)
      rw [Function.comp, hb.1, hb.2]
    · rw [if_neg ha] at h
      cases h
  · rw [if_neg h]
    have e := decode_units (encL l) [] (encL_units l)
    rw [List.append_nil] at e
    rw [e]
    simp only [unitsL, List.append_nil]
    rw [decL_encL]
    simp
end Go.Proofs.YtfiaedpkbhnmkaaQ
