/- What the laws of layer 7 lean on: the example, a number's last bits, one more, the same. -/
import Derived.Test.YtehknkgplldiiaaQSpan
import Derived.Test.YtehknkgplldiiaaPAllx14
set_option linter.unusedVariables false
set_option linter.unusedSimpArgs false
namespace Go.Proofs.YtehknkgplldiiaaQ
open Go.RowKit Go.Proofs.YtehknkgplldiiaaW.PrintWords Go.Proofs.YtehknkgplldiiaaW.PrintLast Go.Proofs.YtehknkgplldiiaaW.PrintMore Go.Proofs.Ytehknkgplldiiaa.PAll Go.Proofs.Ytehknkgplldiiaa.Tab
theorem awake : Ev (fun k => hornbooklaw07_awake.f k) true := by
  have e : buildS true [(⟨1, 10, 20, 5⟩ : S23), ⟨1, 15, 15, 99⟩] = [⟨1, 10, 14, 5⟩, ⟨1, 15, 15, 99⟩, ⟨1, 16, 20, 11⟩] := by kernel_rfl
  have hb := span_Build_is true [(⟨1, 10, 20, 5⟩ : S23), ⟨1, 15, 15, 99⟩] (by decide)
  have hc := build_canon true [(⟨1, 10, 20, 5⟩ : S23), ⟨1, 15, 15, 99⟩]
  rw [e] at hb hc
  unfold hornbooklaw07_awake.f
  refine Ev.bind hb ?_
  have hf : span_Find.f [(⟨1, 10, 14, 5⟩ : S23), ⟨1, 15, 15, 99⟩, ⟨1, 16, 20, 11⟩] 1 16 true = some (11, true) := by kernel_rfl
  have hcc : span_Canon.f [(⟨1, 10, 14, 5⟩ : S23), ⟨1, 15, 15, 99⟩, ⟨1, 16, 20, 11⟩] true = some true := by
    unfold span_Canon.f
    rw [if_pos (by decide), hc]
  refine Ev.bind (a := (11, true)) (Ev.congr (fun _ => hf) (Ev.now _)) ?_
  simp only [List.length_cons, List.length_nil, if_true, if_pos (show ((0 + 1 + 1 + 1 : Nat) : Int) = 3 by decide)]
  exact Ev.bind (a := true) (Ev.congr (fun _ => hcc) (Ev.now _)) (Ev.now _)
theorem and_low (p : Nat) (hp : p ≤ 16) (n : Int) : Go.bits .and .i64 n ((2 : Int) ^ p - 1) = n % (2 : Int) ^ p := by
  have hc : p = 0 ∨ p = 1 ∨ p = 2 ∨ p = 3 ∨ p = 4 ∨ p = 5 ∨ p = 6 ∨ p = 7 ∨ p = 8 ∨ p = 9 ∨ p = 10 ∨ p = 11 ∨ p = 12 ∨ p = 13 ∨ p = 14 ∨ p = 15 ∨ p = 16 := by omega
  have h127 : (BitVec.ofInt 64 ((2 : Int) ^ p - 1)).toNat = 2 ^ p - 1 := by
    rcases hc with rfl | rfl | rfl | rfl | rfl | rfl | rfl | rfl | rfl | rfl | rfl | rfl | rfl | rfl | rfl | rfl | rfl <;> decide +kernel
  have key : (BitVec.ofInt 64 n &&& BitVec.ofInt 64 ((2 : Int) ^ p - 1)).toNat = (n % ((2 ^ 64 : Nat) : Int)).toNat % 2 ^ p := by
    rw [BitVec.toNat_and, BitVec.toNat_ofInt, h127, Nat.and_two_pow_sub_one_eq_mod]
  show IntKind.i64.wrap ((BitVec.ofInt 64 n &&& BitVec.ofInt 64 ((2 : Int) ^ p - 1)).toNat : Nat) = n % (2 : Int) ^ p
  rw [key, IntKind.wrap_i64]
  rcases hc with rfl | rfl | rfl | rfl | rfl | rfl | rfl | rfl | rfl | rfl | rfl | rfl | rfl | rfl | rfl | rfl | rfl <;> simp <;> omega
theorem and63 (n : Int) : Go.bits .and .i64 n 63 = n % 64 := and_low 6 (by decide) n
theorem and65535 (n : Int) : Go.bits .and .i64 n 65535 = n % 65536 := and_low 16 (by decide) n
/-- The table of a table is that table. -/
theorem build_again (step : Bool) {t : List S23} (hc : canonS t step = true) : buildS step t = t := by
  obtain ⟨h1, h2, h3⟩ := (canon_iff step t).1 hc
  obtain ⟨b1, b2, _, _, b5⟩ := build_ok step t
  exact same_table b1 b2 h2 h3 (fun n c => (b5 n c).trans (get_lastL h2 h1 n c))
/-- One more, put on a table. -/
theorem get_put (step : Bool) {t : List S23} (hc : canonS t step = true) (s : S23) (n c : Int) :
    (TS step).get (buildS step (t ++ [s])) n c = if saneS s step = true ∧ (TS step).has s n c then some ((TS step).val s c) else (TS step).get t n c := by
  obtain ⟨h1, h2, h3⟩ := (canon_iff step t).1 hc
  rw [(build_ok step (t ++ [s])).2.2.2.2, lastL_snoc]
  by_cases hs : saneS s step = true
  · rw [if_pos hs]
    by_cases hh : (TS step).has s n c
    · rw [if_pos ⟨hs, hh⟩]
      exact if_pos hh
    · rw [if_neg (fun h => hh h.2), ← get_lastL h2 h1]
      exact if_neg hh
  · rw [if_neg hs, if_neg (fun h => hs h.1), get_lastL h2 h1]
theorem put_tells (step : Bool) {t : List S23} (hc : canonS t step = true) (s : S23) (n v : Int) :
    findV (buildS step (t ++ [s])) n v step = if (toS s n v step).2 = true then toS s n v step else findV t n v step := by
  rw [find_canon (build_canon step _), find_canon hc, get_put step hc]
  by_cases hs : saneS s step = true
  · rw [to_good hs]
    by_cases hh : (TS step).has s n v
    · rw [if_pos ⟨hs, hh⟩, if_pos hh]
      rfl
    · rw [if_neg (fun h => hh h.2), if_neg hh]
      rfl
  · rw [to_bad hs, if_neg (fun h => hs h.1)]
    rfl
end Go.Proofs.YtehknkgplldiiaaQ
