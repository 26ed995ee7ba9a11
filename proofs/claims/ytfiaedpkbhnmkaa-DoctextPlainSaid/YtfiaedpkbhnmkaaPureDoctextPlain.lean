/- Of any at most 300 bytes: where each has a value and they do not begin with the mark FE FF, they are encoded again as they are, and are plain, a value a byte; else their values are scalar values, and are plain or encoded behind the mark. Conditions: none beyond the statement's own. -/
import Derived.Test.YtfiaedpkbhnmkaaQDoc2
import Derived.Test.YtfiaedpkbhnmkaaSDoctextPlain
set_option linter.unusedVariables false
set_option linter.unusedSimpArgs false
namespace Go.Proofs.Ytfiaedpkbhnmkaa.Pure
open Go.RowKit Go.Proofs.Ytfiaedpkbhnmkaa.PAll Go.Proofs.YtfiaedpkbhnmkaaW.PrintWords Go.Proofs.YtfiaedpkbhnmkaaW.PrintLast Go.Proofs.YtfiaedpkbhnmkaaW.PrintMore Go.Proofs.YtfiaedpkbhnmkaaQ
theorem good_pair {a b : Int} (ha : hiB a = true) (hb : loB b = true) : goodB (pair a b) = true := by
  have ha := of_decide_eq_true ha
  have hb := of_decide_eq_true hb
  unfold goodB pair
  exact decide_eq_true (by omega)
theorem good_one (a : Int) : goodB (one a) = true := by
  unfold one
  split
  · decide +kernel
  · exact goodB_gd a
theorem good_decL : ∀ (m : Nat) (l : List Int), l.length ≤ m → ∀ x ∈ decL l, goodB x = true
  | _, [], _, x, hx => by simp [decL] at hx
  | _, [a], _, x, hx => by
    obtain rfl : x = one a := by simpa [decL] using hx
    exact good_one a
  | 0, a :: b :: l, h, x, hx => by simp at h
  | m + 1, a :: b :: l, h, x, hx => by
    simp only [List.length_cons] at h
    rw [decL] at hx
    split at hx
    · rename_i hc
      rcases List.mem_cons.mp hx with rfl | hx
      · exact good_pair hc.1 hc.2
      · exact good_decL m l (by omega) x hx
    · rcases List.mem_cons.mp hx with rfl | hx
      · exact good_one a
      · exact good_decL m (b :: l) (by simp only [List.length_cons]; omega) x hx
theorem good_decN {c : Int} (h : 0 ≤ c ∧ c < 256) : goodB (decN c) = true := by
  unfold decN
  split
  · decide +kernel
  · exact (tab_ok c.toNat (by omega)).2.2.1
theorem good_decode (b : List Int) (hb : Bytes b) : ∀ x ∈ decodeB b, goodB x = true := by
  intro x hx
  unfold decodeB at hx
  split at hx
  · unfold undec at hx
    rcases List.mem_append.mp hx with hx | hx
    · exact good_decL _ _ (Nat.le_refl _) x hx
    · split at hx
      · obtain rfl : x = 65533 := by simpa using hx
        decide +kernel
      · cases hx
  · obtain ⟨y, hy, rfl⟩ := List.mem_map.mp hx
    exact good_decN (hb y hy)
theorem wf_good {x : Int} (h : goodB x = true) : (Lit.int .i64 x).wf = true := by
  have h := of_decide_eq_true h
  have e : (Lit.int .i64 x).wf = (decide (-9223372036854775808 ≤ x) && decide (x ≤ 9223372036854775807)) := rfl
  rw [e, decide_eq_true (by omega), decide_eq_true (by omega)]
  rfl
theorem decode_len (b : List Int) : (decodeB b).length ≤ b.length + 1 := by
  unfold decodeB
  split
  · rename_i hm
    obtain ⟨t, rfl⟩ := (markB_iff b).mp hm
    have h1 := unitsL_len t
    have h2 := decL_len _ (unitsL t).1 (Nat.le_refl _)
    show (undec t).length ≤ _
    unfold undec
    rw [List.length_append, List.length_cons, List.length_cons]
    split <;> simp only [List.length_cons, List.length_nil] <;> omega
  · rw [List.length_map]
    omega
/-- Has each a value? -/
def docAll (b : List Int) : Bool := b.all fun c => docN c != 0
theorem byte_doc {c : Int} (h : 0 ≤ c ∧ c < 256) (hz : docN c ≠ 0) : byteH (decN c) = true ∧ byteI (decN c) = c := by
  obtain ⟨n, rfl⟩ := Int.eq_ofNat_of_zero_le h.1
  have hn : n < 256 := by omega
  have e : docN (n : Int) = tabT n := by unfold docN; rw [if_neg (by omega), Int.toNat_natCast]
  rw [e] at hz
  have e2 : decN (n : Int) = tabT n := by unfold decN; rw [Int.toNat_natCast, if_neg hz]
  rw [e2]
  exact byte_at hn hz
theorem plain_all (b : List Int) (hb : Bytes b) (hm : markB b = false) (ha : docAll b = true) : plainB (decodeB b) = (b, true) := by
  have e : decodeB b = b.map decN := by unfold decodeB; rw [if_neg (by rw [hm]; decide)]
  have h : ∀ c ∈ b, byteH (decN c) = true ∧ byteI (decN c) = c := fun c hc => byte_doc (hb c hc) (bne_iff_ne.mp (List.all_eq_true.mp ha c hc))
  unfold plainB
  rw [e, if_pos (List.all_eq_true.mpr (by intro x hx; obtain ⟨c, hc, rfl⟩ := List.mem_map.mp hx; exact (h c hc).1)), List.map_map]
  have e2 : b.map (byteI ∘ decN) = b := by
    have e3 : b.map (byteI ∘ decN) = b.map id := List.map_congr_left fun c hc => by rw [Function.comp, (h c hc).2]; rfl
    rw [e3, List.map_id]
  rw [e2, hm]
  rfl
theorem plain_l1 (e l : List Int) (he : e = encodeB l) (hg : ∀ x ∈ l, goodB x = true) (hl : l.length ≤ 301) : ∀ n i : Nat, i + n = l.length → Ev (fun k => hornbooklaw19_DoctextPlain.l1 k true l e (i : Int)) true
  | 0, i, h => by
    refine Ev.step (fun k => rfl) ?_
    simp only [hornbooklaw19_DoctextPlain.l1]
    simp only [if_neg (show ¬ ((i : Int) < (l.length : Int)) by omega), if_true]
    rw [Plain_is l (fun x hx => wf_good (hg x hx)) (by omega)]
    simp only [Option.bind_some]
    by_cases hp : (plainB l).2 = true
    · simp only [if_pos hp]
      exact Ev.now _
    · simp only [if_neg hp]
      obtain ⟨t, ht⟩ : ∃ t, e = 254 :: 255 :: t := ⟨bytL (encL l), by rw [he]; unfold encodeB; rw [if_neg hp]; rfl⟩
      rw [ht]
      rw [if_pos (by simp only [List.length_cons]; omega), if_pos (by simp only [List.length_cons]; omega), if_pos (show rd (254 :: 255 :: t) 0 = 254 from rfl), if_pos (by simp only [List.length_cons]; omega), show rd (254 :: 255 :: t) 1 = 255 from rfl]
      exact Ev.now _
  | n + 1, i, h => by
    have hi : i < l.length := by omega
    refine Ev.step (fun k => rfl) ?_
    simp only [hornbooklaw19_DoctextPlain.l1]
    simp only [if_pos (show (i : Int) < (l.length : Int) by omega), if_pos (show (0 : Int) ≤ (i : Int) by omega)]
    rw [rd_nat hi, Good_is, hg _ (List.getElem_mem hi), w64n (by omega)]
    simp only [Option.bind_some, if_true]
    exact plain_l1 e l he hg hl n (i + 1) (by omega)
theorem plain_l0 (b : List Int) (hb : Bytes b) (hl : b.length ≤ 300) : ∀ (n i : Nat) (a : Bool), i + n = b.length → a = docAll (b.take i) → Ev (fun k => hornbooklaw19_DoctextPlain.l0 k b true (decodeB b) (encodeB (decodeB b)) (markB b) a (i : Int)) true
  | 0, i, a, h, ha => by
    rw [List.take_of_length_le (by omega)] at ha
    have hg := good_decode b hb
    have hdl := decode_len b
    refine Ev.step (fun k => rfl) ?_
    simp only [hornbooklaw19_DoctextPlain.l0]
    simp only [if_neg (show ¬ ((i : Int) < (b.length : Int)) by omega)]
    have no : Ev (fun k => hornbooklaw19_DoctextPlain.j2 k b true (decodeB b) (encodeB (decodeB b)) false) true := by
      refine Ev.step (fun k => rfl) ?_
      simp only [hornbooklaw19_DoctextPlain.j2, if_neg (show ¬ (false = true) by decide)]
      exact plain_l1 _ _ rfl hg (by omega) (decodeB b).length 0 (by omega)
    by_cases hm : markB b = true
    · simp only [if_pos hm]
      exact no
    · simp only [if_neg hm]
      cases a with
      | false => exact no
      | true =>
        have hp := plain_all b hb (Bool.eq_false_iff.mpr hm) ha.symm
        have e : encodeB (decodeB b) = b := by unfold encodeB; rw [hp]; rfl
        have el : (decodeB b).length = b.length := by unfold decodeB; rw [if_neg hm, List.length_map]
        refine Ev.step (fun k => rfl) ?_
        simp only [hornbooklaw19_DoctextPlain.j2, if_true]
        rw [e, Plain_is _ (fun x hx => wf_good (hg x hx)) (by omega), hp, el]
        simp only [if_true, Option.bind_some, BEq.rfl]
        exact Ev.now _
  | n + 1, i, a, h, ha => by
    have hi : i < b.length := by omega
    have h0 := hb.get hi
    refine Ev.step (fun k => rfl) ?_
    simp only [hornbooklaw19_DoctextPlain.l0]
    simp only [if_pos (show (i : Int) < (b.length : Int) by omega), if_pos (show (0 : Int) ≤ (i : Int) by omega)]
    rw [rd_nat hi, w64 (n := b[i]) (by omega) (by omega), w64n (by omega)]
    unfold doctext_Doc.f
    simp only [Option.bind_some]
    have ea : docAll (b.take (i + 1)) = (docAll (b.take i) && (docN b[i] != 0)) := by
      rw [take_snoc hi]
      unfold docAll
      rw [List.all_append]
      simp
    cases a with
    | true =>
      simp only [if_true]
      exact plain_l0 b hb hl n (i + 1) _ (by omega) (by rw [ea, ← ha, Bool.true_and])
    | false =>
      simp only [if_neg (show ¬ (false = true) by decide)]
      exact plain_l0 b hb hl n (i + 1) _ (by omega) (by rw [ea, ← ha, Bool.false_and])
theorem plain_j0 (b : List Int) (hb : Bytes b) (hl : b.length ≤ 300) : Ev (fun k => hornbooklaw19_DoctextPlain.j0 k b true (decodeB b) (encodeB (decodeB b)) (markB b)) true := by
  refine Ev.step (fun k => rfl) ?_
  simp only [hornbooklaw19_DoctextPlain.j0]
  exact plain_l0 b hb hl b.length 0 true (by omega) rfl
theorem DoctextPlain : hornbooklaw19_DoctextPlain.Pure := by
  intro b h
  have hb : Bytes b := fun x hx => byte_wf (h.2 x hx)
  refine Ev.rounds ?_
  unfold hornbooklaw19_DoctextPlain.f
  refine Ev.bind awake19 ?_
  by_cases hl : (b.length : Int) > 300
  · simp only [if_pos hl]
    exact Ev.now _
  · simp only [if_neg hl]
    have hg := good_decode b hb
    have hdl := decode_len b
    refine Ev.bind (Decode_is b hb (by omega)) (Ev.bind (Encode_is _ (fun x hx => wf_good (hg x hx)) (by omega)) ?_)
    have hj := plain_j0 b hb (by omega)
    match b, hj with
    | [], hj =>
      simp only [if_neg (show ¬ (([] : List Int).length : Int) ≥ 2 by simp)]
      have e : markB [] = false := by unfold markB; exact decide_eq_false (by simp)
      rw [← e]
      exact hj
    | [a], hj =>
      simp only [if_neg (show ¬ (([a] : List Int).length : Int) ≥ 2 by simp)]
      have e : markB [a] = false := by unfold markB; exact decide_eq_false (by simp)
      rw [← e]
      exact hj
    | a :: c :: t, hj =>
      simp only [if_pos (show ((a :: c :: t).length : Int) ≥ 2 by simp only [List.length_cons]; omega), if_pos (show 0 < ((a :: c :: t).length : Int) by simp only [List.length_cons]; omega), if_pos (show 1 < ((a :: c :: t).length : Int) by simp only [List.length_cons]; omega)]
      rw [show rd (a :: c :: t) 0 = a from rfl, show rd (a :: c :: t) 1 = c from rfl]
      by_cases h : a = 254
      · simp only [if_pos h]
        have e : markB (a :: c :: t) = (c == 255) := by
          unfold markB
          rw [Bool.eq_iff_iff, beq_iff_eq, decide_eq_true_iff, h]
          simp
        rw [← e]
        exact hj
      · simp only [if_neg h]
        have e : markB (a :: c :: t) = false := by
          unfold markB
          rw [decide_eq_false]
          intro e
          simp at e
          exact h e.1
        rw [← e]
        exact hj
end Go.Proofs.Ytfiaedpkbhnmkaa.Pure
