/- What layer 19 (doctext) answers, in plain words: Doc, Byte, Decode, Encode, Plain. -/
import Derived.Test.YtfiaedpkbhnmkaaQUtf
import Derived.Maps.Views
import Derived.Test.YtfiaedpkbhnmkaaPAllx11
import Derived.Test.YtfiaedpkbhnmkaaPAllx7
import Derived.Test.YtfiaedpkbhnmkaaPAllx12
set_option linter.unusedVariables false
set_option linter.unusedSimpArgs false
namespace Go.Proofs.YtfiaedpkbhnmkaaQ
open Go.RowKit Go.Proofs.YtfiaedpkbhnmkaaW.PrintWords Go.Proofs.YtfiaedpkbhnmkaaW.PrintLast Go.Proofs.YtfiaedpkbhnmkaaW.PrintMore Go.Proofs.Ytfiaedpkbhnmkaa.PAll
open Go.Maps in
/-- Texts of bytes. -/
theorem str_inj {a b : List Int} (ha : Bytes a) (hb : Bytes b) : (strOfNums a).toList = (strOfNums b).toList ↔ a = b := by
  refine ⟨fun h => ?_, fun h => by rw [h]⟩
  unfold strOfNums at h
  rw [ByteArray.toList_mk, ByteArray.toList_mk] at h
  have key : ∀ l : List Int, Bytes l → (l.map fun n => UInt8.ofNat n.toNat).map (fun u => (u.toNat : Int)) = l := by
    intro l hl
    rw [List.map_map]
    refine (List.map_congr_left fun x hx => ?_).trans (List.map_id _)
    have h2 := hl x hx
    simp only [Function.comp, UInt8.toNat_ofNat', id]
    omega
  rw [← key a ha, ← key b hb, h]
theorem tab_ok : ∀ c, c < 256 → (0 ≤ tabT c ∧ tabT c < 65533 ∧ goodB (tabT c) = true ∧ (Lit.int .i64 (tabT c)).wf = true) := by decide +kernel
def tabs : List Int := (List.range 256).map tabT
theorem tabs_apart : tabs.Pairwise (fun a b => a = 0 ∨ a ≠ b) := by decide +kernel
theorem tab_inj {c d : Nat} (hc : c < 256) (hd : d < 256) (hz : tabT c ≠ 0) (h : tabT c = tabT d) : c = d := by
  have hp := List.pairwise_iff_getElem.mp tabs_apart
  have hl : tabs.length = 256 := by simp [tabs]
  have hg : ∀ (i : Nat) (hi : i < 256), tabs[i]'(by omega) = tabT i := fun i hi => by simp [tabs]
  rcases Nat.lt_trichotomy c d with h1 | h1 | h1
  · have := hp c d (by omega) (by omega) h1
    rw [hg c hc, hg d hd] at this
    rcases this with e | e
    · exact absurd e hz
    · exact absurd h e
  · exact h1
  · have := hp d c (by omega) (by omega) h1
    rw [hg c hc, hg d hd] at this
    rcases this with e | e
    · exact absurd (h.trans e) hz
    · exact absurd h.symm e
open Go.Maps in
theorem backM_map : ∀ n, IsMap (backM n)
  | 0 => isMap_empty
  | n + 1 => by
    unfold backM
    split
    · exact backM_map n
    · exact (backM_map n).put _ _
open Go.Maps in
theorem back_no (r : Int) : ∀ n, (∀ c, c < n → tabT c ≠ 0 → tabT c ≠ r) → has (backM n) (.int .i64 r) = false
  | 0, _ => rfl
  | n + 1, h => by
    have ih := back_no r n (fun c hc => h c (by omega))
    unfold backM
    split
    · exact ih
    · rename_i hz
      rw [has_put_other (fun e => h n (by omega) hz (by injection e with _ e; exact e.symm))]
      exact ih
open Go.Maps in
theorem back_at (c : Nat) (hz : tabT c ≠ 0) : ∀ n, n ≤ 256 → c < n → has (backM n) (.int .i64 (tabT c)) = true ∧ (backM n).atKey (.int .i64 (tabT c)) (.lit (.int .i64 0)) = .lit (.int .i64 (c : Int))
  | 0, _, h => by omega
  | n + 1, hn, h => by
    by_cases hc : c = n
    · subst hc
      unfold backM
      rw [if_neg hz]
      have hk : WideAt.IsKeyLit (.int .i64 (tabT c)) := by first | trivial | (unfold WideAt.IsKeyLit; trivial) | (simp [WideAt.IsKeyLit])
      exact ⟨has_put_same (backM_map _) hk _, atKey_put_same (backM_map _) hk _ _⟩
    · obtain ⟨h1, h2⟩ := back_at c hz n (by omega) (by omega)
      unfold backM
      split
      · exact ⟨h1, h2⟩
      · have hne : (Lit.int .i64 (tabT c)) ≠ (Lit.int .i64 (tabT n)) := fun e => by
          injection e with _ e
          exact hc (tab_inj (by omega) (by omega) hz e)
        rw [has_put_other hne, atKey_put_other hne]
        exact ⟨h1, h2⟩
theorem byte_at {c : Nat} (hc : c < 256) (hz : tabT c ≠ 0) : byteH (tabT c) = true ∧ byteI (tabT c) = (c : Int) := by
  obtain ⟨h1, h2⟩ := back_at c hz 256 (Nat.le_refl _) hc
  exact ⟨h1, byteI_of h2⟩
open Go.Maps in
theorem byte_no {r : Int} (h : ∀ c, c < 256 → tabT c ≠ 0 → tabT c ≠ r) : byteH r = false ∧ byteI r = 0 := by
  have h1 := back_no r 256 h
  exact ⟨h1, byteI_of (atKey_of_not_has h1 _)⟩
theorem byte_or (r : Int) : (∃ c : Nat, c < 256 ∧ tabT c ≠ 0 ∧ tabT c = r ∧ byteH r = true ∧ byteI r = (c : Int)) ∨ (byteH r = false ∧ byteI r = 0 ∧ ∀ c, c < 256 → tabT c ≠ 0 → tabT c ≠ r) := by
  by_cases h : ∃ c : Nat, c < 256 ∧ tabT c ≠ 0 ∧ tabT c = r
  · obtain ⟨c, h1, h2, rfl⟩ := h
    exact .inl ⟨c, h1, h2, rfl, byte_at h1 h2⟩
  · have h' : ∀ c, c < 256 → tabT c ≠ 0 → tabT c ≠ r := fun c h1 h2 h3 => h ⟨c, h1, h2, h3⟩
    exact .inr ⟨(byte_no h').1, (byte_no h').2, h'⟩
theorem byteH_iff {r : Int} : byteH r = true ↔ ∃ c : Nat, c < 256 ∧ tabT c ≠ 0 ∧ tabT c = r ∧ byteI r = (c : Int) := by
  rcases byte_or r with ⟨c, h1, h2, h3, h4, h5⟩ | ⟨h1, h2, h3⟩
  · exact ⟨fun _ => ⟨c, h1, h2, h3, h5⟩, fun _ => h4⟩
  · refine ⟨fun h => ?_, fun ⟨c, h4, h5, h6, _⟩ => absurd h6 (h3 c h4 h5)⟩
    rw [h1] at h
    cases h
theorem byteT_byteI (r : Int) : byteT r = byteI r ∧ 0 ≤ byteI r ∧ byteI r < 256 := by
  unfold byteT
  rcases byte_or r with ⟨c, h1, h2, h3, h4, h5⟩ | ⟨h1, h2, h3⟩
  · rw [h5]
    omega
  · rw [h2]
    omega
/-- Does a text begin with the mark? -/
def markB (l : List Int) : Bool := decide (l.take 2 = [254, 255])
theorem markB_iff (l : List Int) : markB l = true ↔ ∃ t, l = 254 :: 255 :: t := by
  unfold markB
  rw [decide_eq_true_iff]
  match l with
  | [] => simp
  | [a] => simp
  | a :: b :: t => simp
theorem bytes2 : Bytes ([254, 255] : List Int) := by
  intro x hx
  have : x = 254 ∨ x = 255 := by simpa using hx
  omega
theorem HasPrefix_is (l : List Int) (hb : Bytes l) : bytes_HasPrefix.f l [254, 255] = some (markB l) := by
  unfold bytes_HasPrefix.f markB
  rw [show (([254, 255] : List Int).length : Int) = 2 from rfl]
  by_cases h : (l.length : Int) ≥ 2
  · rw [if_pos h, if_pos (by omega), if_pos (by omega)]
    unfold bytes_Equal.f
    rw [Option.bind_some, show (((2 : Int) : Int)).toNat = 2 from rfl]
    congr 1
    rw [Bool.eq_iff_iff, beq_iff_eq, decide_eq_true_iff]
    exact str_inj (hb.take 2) bytes2
  · rw [if_neg h, decide_eq_false]
    intro e
    have := congrArg List.length e
    rw [List.length_take] at this
    simp at this
    omega
/-- The byte of each; have all one, and do they not begin with the mark? -/
def plainB (l : List Int) : List Int × Bool := if l.all byteH = true then (l.map byteI, !markB (l.map byteI)) else ([], false)
theorem map_byteT (l : List Int) : l.map byteT = l.map byteI := List.map_congr_left fun x _ => (byteT_byteI x).1
theorem bytes_byteI (l : List Int) : Bytes (l.map byteI) := by
  intro x hx
  obtain ⟨y, _, rfl⟩ := List.mem_map.mp hx
  exact (byteT_byteI y).2
def Wf (l : List Int) : Prop := ∀ x ∈ l, (Lit.int .i64 x).wf = true
theorem plain_is (l : List Int) (hw : Wf l) (hl : l.length ≤ 999999999) : doctext_plain.f l = some (plainB l) := by
  unfold doctext_plain.f plainB
  rw [if_pos ⟨List.all_eq_true.mpr hw, hl⟩, map_byteT]
  split
  · rw [HasPrefix_is _ (bytes_byteI l), Option.bind_some]
  · rfl
theorem Plain_is (l : List Int) (hw : Wf l) (hl : l.length ≤ 999999999) : doctext_Plain.f l = some (plainB l).2 := by
  unfold doctext_Plain.f
  rw [plain_is l hw hl, Option.bind_some]
def encodeB (l : List Int) : List Int := if (plainB l).2 = true then (plainB l).1 else [254, 255] ++ bytL (encL l)
theorem Encode_is (l : List Int) (hw : Wf l) (hl : l.length ≤ 999999999) : Ev (fun k => doctext_Encode.f k l) (encodeB l) := by
  unfold doctext_Encode.f encodeB
  rw [plain_is l hw hl]
  simp only [Option.bind_some]
  by_cases h : (plainB l).2 = true
  · simp only [if_pos h]
    exact Ev.now _
  · simp only [if_neg h]
    rw [show doctext_mark.f = some [254, 255] from rfl]
    simp only [Option.bind_some]
    have h1 := encL_len l
    have h2 := bytL_len (encL l)
    refine Ev.bind (Enc16_is l (by omega)) (Ev.bind (Bytes_is _ (by omega)) ?_)
    simp only [if_pos (show ([254, 255] : List Int).length + (bytL (encL l)).length < 140737488355328 by simp; omega)]
    exact Ev.now _
/-- What units behind the mark tell. -/
def undec (b : List Int) : List Int := decL (unitsL b).1 ++ (if (unitsL b).2 = true then [65533] else [])
def decodeB (b : List Int) : List Int := if markB b = true then undec (b.drop 2) else b.map decN
theorem decL_len : ∀ (m : Nat) (l : List Int), l.length ≤ m → (decL l).length ≤ l.length
  | _, [], _ => by simp [decL]
  | _, [a], _ => by simp [decL]
  | 0, a :: b :: l, h => by simp at h
  | m + 1, a :: b :: l, h => by
    simp only [List.length_cons] at h
    rw [decL]
    split
    · have := decL_len m l (by omega)
      simp only [List.length_cons]
      omega
    · have := decL_len m (b :: l) (by simp only [List.length_cons]; omega)
      simp only [List.length_cons] at this ⊢
      omega
theorem unitsL_len : ∀ l : List Int, (unitsL l).1.length ≤ l.length
  | [] => by simp [unitsL]
  | [_] => by simp [unitsL]
  | a :: b :: l => by
    have := unitsL_len l
    simp only [unitsL, List.length_cons]
    omega
theorem Decode_is (b : List Int) (hb : Bytes b) (hl : b.length < 4000000000) : Ev (fun k => doctext_Decode.f k b) (decodeB b) := by
  unfold doctext_Decode.f decodeB bytes_CutPrefix.f
  rw [HasPrefix_is b hb]
  simp only [Option.bind_some]
  by_cases h : markB b = true
  · obtain ⟨t, rfl⟩ := (markB_iff b).mp h
    have hc : ((([254, 255] : List Int).length : Nat) : Int) ≤ ((254 :: 255 :: t).length : Int) := by simp only [List.length_cons, List.length_nil]; omega
    simp only [if_pos h, if_pos hc, Option.bind_some]
    unfold doctext_Decode.u undec
    have e : (254 :: 255 :: t).drop ([254, 255] : List Int).length = t := rfl
    rw [e, show (254 :: 255 :: t).drop 2 = t from rfl]
    simp only [List.length_cons] at hl
    have h1 := unitsL_len t
    have h2 := decL_len _ (unitsL t).1 (Nat.le_refl _)
    refine Ev.bind (Units_is t (by omega) (fun x hx => hb x (by simp [hx]))) (Ev.bind (Dec16_is _ (by omega)) ?_)
    by_cases ho : (unitsL t).2 = true
    · simp only [if_pos ho, if_pos (show (decL (unitsL t).1).length < 17592186044416 by omega)]
      exact Ev.now _
    · simp only [if_neg ho, List.append_nil]
      exact Ev.now _
  · have e : (some (b, false) : Option (List Int × Bool)) = some (b, false) := rfl
    simp only [if_neg h, Option.bind_some, if_neg (show ¬ (false = true) by decide)]
    rw [if_pos ⟨by omega, List.all_eq_true.mpr fun x hx => decide_eq_true (hb x hx)⟩]
    exact Ev.now _
end Go.Proofs.YtfiaedpkbhnmkaaQ
