/- Of any byte and value: the value of a byte that has one is a scalar value, and that byte's alone; what is no byte has none; a value's byte has that value. Conditions: none beyond the statement's own. -/
import Derived.Test.YtfiaedpkbhnmkaaQDoc2
import Derived.Test.YtfiaedpkbhnmkaaSDoctextBytes
set_option linter.unusedVariables false
set_option linter.unusedSimpArgs false
namespace Go.Proofs.Ytfiaedpkbhnmkaa.Pure
open Go.RowKit Go.Proofs.Ytfiaedpkbhnmkaa.PAll Go.Proofs.YtfiaedpkbhnmkaaW.PrintWords Go.Proofs.YtfiaedpkbhnmkaaW.PrintLast Go.Proofs.YtfiaedpkbhnmkaaW.PrintMore Go.Proofs.YtfiaedpkbhnmkaaQ
theorem doc_cases (c : Int) : (docN c ≠ 0 ∧ ∃ n : Nat, c = (n : Int) ∧ n < 256 ∧ docN c = tabT n) ∨ docN c = 0 := by
  by_cases h : docN c = 0
  · exact .inr h
  · refine .inl ⟨h, ?_⟩
    unfold docN at h ⊢
    by_cases hc : c < 0 ∨ c ≥ 256
    · rw [if_pos hc] at h
      exact absurd rfl h
    · rw [if_neg hc] at h ⊢
      exact ⟨c.toNat, by omega, by omega, rfl⟩
theorem doc_nat {n : Nat} (h : n < 256) : docN (n : Int) = tabT n := by
  unfold docN
  rw [if_neg (by omega), Int.toNat_natCast]
theorem bytes_j0 (r : Int) (v : Int) (ok : Bool) (hz : ok = false → v = 0) : Ev (fun k => hornbooklaw19_DoctextBytes.j0 k r true v ok (byteI r) (byteH r)) true := by
  refine Ev.step (fun k => rfl) ?_
  simp only [hornbooklaw19_DoctextBytes.j0]
  have hv : ok = true ∨ v = 0 := by
    cases ok with
    | true => exact .inl rfl
    | false => exact .inr (hz rfl)
  rcases byte_or r with ⟨c, h1, h2, h3, h4, h5⟩ | ⟨h1, h2, h3⟩
  · simp only [if_pos h4]
    rw [h5]
    unfold doctext_Doc.f
    rw [doc_nat h1, bne_iff_ne.mpr h2]
    simp only [Option.bind_some, if_true, if_pos h3]
    rcases hv with hv | hv
    · simp only [if_pos hv]
      exact Ev.now _
    · simp only [if_pos hv]
      split <;> exact Ev.now _
  · rw [h1, h2]
    simp only [if_neg (show ¬ (false = true) by decide), if_true, BEq.rfl]
    rcases hv with hv | hv
    · simp only [if_pos hv]
      exact Ev.now _
    · simp only [if_pos hv]
      split <;> exact Ev.now _
theorem DoctextBytes : hornbooklaw19_DoctextBytes.Pure := by
  intro c r hc hr
  refine Ev.rounds ?_
  unfold hornbooklaw19_DoctextBytes.f
  refine Ev.bind awake19 ?_
  have eB : ∀ x : Int, (Lit.int .i64 x).wf = true → doctext_Byte.f x = some (byteI x, byteH x) := fun x hx => if_pos hx
  rw [eB r hr]
  unfold doctext_Doc.f
  simp only [Option.bind_some]
  rcases doc_cases c with ⟨hz, n, rfl, hn, hd⟩ | hz
  · have ht := tab_ok n hn
    rw [hd] at hz ⊢
    have hb := byte_at hn hz
    rw [bne_iff_ne.mpr hz, eB _ ht.2.2.2, hb.1, hb.2, Good_is, ht.2.2.1]
    simp only [Option.bind_some, if_true, if_neg (show ¬ ((n : Int) < 0) by omega), if_neg (show ¬ ((n : Int) > 255) by omega)]
    exact bytes_j0 r _ true (fun h => by cases h)
  · rw [hz]
    simp only [bne_self_eq_false, if_neg (show ¬ (false = true) by decide)]
    exact bytes_j0 r 0 false (fun _ => rfl)
end Go.Proofs.Ytfiaedpkbhnmkaa.Pure
