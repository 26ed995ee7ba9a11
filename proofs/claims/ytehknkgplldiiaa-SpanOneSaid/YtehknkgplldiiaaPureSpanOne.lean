/- Statement SpanOne, without the program: a table is one for all. -/
import Derived.Test.YtehknkgplldiiaaSSpanOne
import Derived.Test.YtehknkgplldiiaaQSpanLaw
set_option linter.unusedVariables false
set_option linter.unusedSimpArgs false
namespace Go.Proofs.Ytehknkgplldiiaa.Pure
open Go.RowKit Go.Proofs.Ytehknkgplldiiaa.PAll Go.Proofs.YtehknkgplldiiaaW.PrintWords Go.Proofs.YtehknkgplldiiaaW.PrintLast Go.Proofs.YtehknkgplldiiaaQ Go.Proofs.Ytehknkgplldiiaa.Tab
theorem get_some {step : Bool} {u : List S23} {q : S23} {n c : Int} (hq : q ∈ u) (h : (TS step).has q n c) : ∃ w, (TS step).get u n c = some w := by
  induction u with
  | nil => cases hq
  | cons y u ih =>
    unfold Tb.get
    by_cases hy : (TS step).has y n c
    · exact ⟨_, if_pos hy⟩
    · rw [if_neg hy]
      rcases List.mem_cons.1 hq with rfl | hq
      · exact absurd h hy
      · exact ih hq
theorem get_pieces {step : Bool} (u : List S23) (x : S23) (h1 : ∀ q ∈ u, ∀ n c, (TS step).has q n c → (TS step).has x n c ∧ (TS step).val q c = (TS step).val x c) (h2 : ∀ n c, (TS step).has x n c → ∃ q ∈ u, (TS step).has q n c) (n c : Int) : (TS step).get u n c = (TS step).get [x] n c := by
  cases e : (TS step).get u n c with
  | some w =>
    obtain ⟨q, hq, hh, hv⟩ := Tb.get_mem _ e
    obtain ⟨a, b⟩ := h1 q hq n c hh
    unfold Tb.get
    rw [if_pos a, ← b, hv]
  | none =>
    unfold Tb.get
    rw [if_neg]
    · rfl
    · intro hx
      obtain ⟨q, hq, hh⟩ := h2 n c hx
      obtain ⟨w, hw⟩ := get_some hq hh
      rw [e] at hw
      cases hw
/-- One code of a span. -/
def piece (step : Bool) (n lo hi tv : Int) (i : Nat) : S23 := ⟨n, hi - (i : Int), hi - (i : Int), tv + riseI (hi - (i : Int) - lo) step⟩
def pieces (step : Bool) (n lo hi tv : Int) (m : Nat) : List S23 := (List.range m).map (piece step n lo hi tv)
theorem pieces_succ (step : Bool) (n lo hi tv : Int) (m : Nat) : pieces step n lo hi tv (m + 1) = pieces step n lo hi tv m ++ [piece step n lo hi tv m] := by simp [pieces, List.range_succ]
theorem build_pieces {step : Bool} {n lo hi tv : Int} (hx : Go.Proofs.YtehknkgplldiiaaQ.Good step ⟨n, lo, hi, tv⟩) {m : Nat} (hm : (m : Int) = hi - lo + 1) : buildS step (pieces step n lo hi tv m) = [⟨n, lo, hi, tv⟩] := by
  have hlh : lo ≤ hi := hx.num.2.1.2.1
  have good : ∀ q ∈ pieces step n lo hi tv m, Go.Proofs.YtehknkgplldiiaaQ.Good step q := fun q hq => by
    obtain ⟨i, hi2, rfl⟩ := List.mem_map.1 hq
    have := List.mem_range.1 hi2
    exact hx.part (a := hi - (i : Int)) (b := hi - (i : Int)) (by show lo ≤ _; omega) (Int.le_refl _) (by show _ ≤ hi; omega)
  obtain ⟨b1, b2, _, _, b5⟩ := build_ok step (pieces step n lo hi tv m)
  refine same_table b1 b2 ⟨hlh, (fun y hy => by cases hy), trivial⟩ trivial (fun n' c => ?_)
  rw [b5]
  have hrev : lastL step (pieces step n lo hi tv m) = (pieces step n lo hi tv m).reverse := by
    unfold lastL
    rw [List.filter_eq_self.2 good]
  rw [hrev]
  refine get_pieces _ _ (fun q hq n' c hh => ?_) (fun n' c hh => ?_) n' c
  · obtain ⟨i, hi2, rfl⟩ := List.mem_map.1 (List.mem_reverse.1 hq)
    have := List.mem_range.1 hi2
    obtain ⟨c1, c2, c3⟩ := hh
    have c1' : n = n' := c1
    have c2' : hi - (i : Int) ≤ c := c2
    have c3' : c ≤ hi - (i : Int) := c3
    obtain rfl : c = hi - (i : Int) := by omega
    refine ⟨⟨c1, (by show lo ≤ _; omega), (by show _ ≤ hi; omega)⟩, ?_⟩
    show tv + riseI (hi - (i : Int) - lo) step + riseI (hi - (i : Int) - (hi - (i : Int))) step = tv + riseI (hi - (i : Int) - lo) step
    rw [Int.sub_self, rise_zero, Int.add_zero]
  · obtain ⟨c1, c2, c3⟩ := hh
    have c2' : lo ≤ c := c2
    have c3' : c ≤ hi := c3
    refine ⟨piece step n lo hi tv (hi - c).toNat, List.mem_reverse.2 (List.mem_map.2 ⟨_, List.mem_range.2 (by omega), rfl⟩), c1, ?_, ?_⟩
    · show hi - (((hi - c).toNat : Nat) : Int) ≤ c
      omega
    · show c ≤ hi - (((hi - c).toNat : Nat) : Int)
      omega
theorem one_l0 {step : Bool} {n lo hi tv : Int} (hx : Go.Proofs.YtehknkgplldiiaaQ.Good step ⟨n, lo, hi, tv⟩) (h64 : hi - lo ≤ 63) : ∀ m' m : Nat, (m : Int) + (m' : Int) = hi - lo + 1 → Ev (fun k => hornbooklaw07_SpanOne.l0 k step true (pieces step n lo hi tv m) (hi - (m : Int)) n lo hi tv) true
  | 0, m, hm => by
    have hn := hx.num
    have hlen : (pieces step n lo hi tv m).length = m := by simp [pieces]
    refine Ev.step (fun k => rfl) ?_
    simp only [hornbooklaw07_SpanOne.l0]
    simp only [if_neg (show ¬ (hi - (m : Int) ≥ lo) by omega)]
    refine Ev.bind (span_Build_is step _ (by rw [hlen]; omega)) ?_
    rw [build_pieces hx (by omega)]
    have r0 : rd_T23 [(⟨n, lo, hi, tv⟩ : S23)] 0 = ⟨n, lo, hi, tv⟩ := rfl
    simp only [r0, if_true, List.length_singleton, if_pos (show ((1 : Nat) : Int) = 1 by decide), if_pos (show (0 : Int) < ((1 : Nat) : Int) by decide), beq_self_eq_true, Bool.and_self]
    exact Ev.now _
  | m' + 1, m, hm => by
    have hn := hx.num
    have hn2 : 0 ≤ lo ∧ lo ≤ hi ∧ hi < 4294967296 := hn.2.1
    have hlen : (pieces step n lo hi tv m).length = m := by simp [pieces]
    refine Ev.step (fun k => rfl) ?_
    simp only [hornbooklaw07_SpanOne.l0]
    simp only [if_pos (show hi - (m : Int) ≥ lo by omega)]
    have ht : span_To.f n lo hi tv n (hi - (m : Int)) step = some (tv + riseI (hi - (m : Int) - lo) step, true) := by
      have h := toS_is (⟨n, lo, hi, tv⟩ : S23) n (hi - (m : Int)) step
      rw [to_good hx, if_pos (show (TS step).has ⟨n, lo, hi, tv⟩ n (hi - (m : Int)) from ⟨rfl, (by show lo ≤ _; omega), (by show _ ≤ hi; omega)⟩)] at h
      exact h
    refine Ev.bind (a := (tv + riseI (hi - (m : Int) - lo) step, true)) (Ev.congr (fun _ => ht) (Ev.now _)) ?_
    simp only [if_true, hlen, if_pos (show m < 4398046511104 by omega)]
    rw [w64 (n := hi - (m : Int) - 1) (by omega) (by omega)]
    have ih := one_l0 hx h64 m' (m + 1) (by omega)
    rw [pieces_succ, show hi - ((m + 1 : Nat) : Int) = hi - (m : Int) - 1 by omega] at ih
    exact ih
theorem SpanOne : hornbooklaw07_SpanOne.Pure := by
  rintro n lo hi tv a1 step hw haw
  refine Ev.rounds (g := fun k => hornbooklaw07_SpanOne.f k n lo hi tv a1 step) ?_
  unfold hornbooklaw07_SpanOne.f
  refine Ev.bind awake ?_
  refine Ev.bind (a := saneS ⟨n, lo, hi, tv⟩ step) (Ev.congr (fun _ => saneS_is ⟨n, lo, hi, tv⟩ step) (Ev.now _)) ?_
  by_cases hs : saneS (⟨n, lo, hi, tv⟩ : S23) step = true
  · simp only [if_pos hs]
    have hx : Go.Proofs.YtehknkgplldiiaaQ.Good step ⟨n, lo, hi, tv⟩ := hs
    have hn2 : 0 ≤ lo ∧ lo ≤ hi ∧ hi < 4294967296 := hx.num.2.1
    have hm0 : 0 ≤ a1 % 64 := Int.emod_nonneg _ (by decide)
    have hm1 : a1 % 64 < 64 := Int.emod_lt_of_pos _ (by decide)
    rw [and63, w64 (n := lo + a1 % 64) (by omega) (by omega)]
    obtain ⟨h2, hh2⟩ : ∃ h2, h2 = mn hi (lo + a1 % 64) := ⟨_, rfl⟩
    have hb : lo ≤ h2 ∧ h2 ≤ hi ∧ h2 - lo ≤ 63 := by
      rw [hh2]
      unfold mn
      split <;> omega
    rw [← hh2]
    have hx2 : Go.Proofs.YtehknkgplldiiaaQ.Good step ⟨n, lo, h2, tv⟩ := by
      have := hx.part (a := lo) (b := h2) (Int.le_refl _) hb.1 hb.2.1
      have e : tv + riseI (lo - lo) step = tv := by rw [Int.sub_self, rise_zero, Int.add_zero]
      have this2 : Go.Proofs.YtehknkgplldiiaaQ.Good step ⟨n, lo, h2, tv + riseI (lo - lo) step⟩ := this
      rw [e] at this2
      exact this2
    have h := one_l0 hx2 hb.2.2 (h2 - lo + 1).toNat 0 (by omega)
    rw [show h2 - ((0 : Nat) : Int) = h2 by omega] at h
    exact h
  · simp only [if_neg hs, if_true]
    have hb : buildS step [(⟨n, lo, hi, tv⟩ : S23)] = [] := by
      have hf : foldS step [] [(⟨n, lo, hi, tv⟩ : S23)] = [] := if_neg hs
      unfold buildS
      rw [hf]
      rfl
    refine Ev.bind (span_Build_is step _ (by simp)) ?_
    rw [hb]
    exact Ev.now _
end Go.Proofs.Ytehknkgplldiiaa.Pure
