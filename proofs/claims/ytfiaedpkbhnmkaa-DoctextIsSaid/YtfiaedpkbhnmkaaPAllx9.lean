-- made by xprint.py of this session
import Derived.Test.YtfiaedpkbhnmkaaPAllx0
import Derived.Test.YtfiaedpkbhnmkaaPAllx2
namespace Go.Proofs.Ytfiaedpkbhnmkaa.PAll
open Go.RowKit Go.Proofs.YtfiaedpkbhnmkaaW.PrintWords Go.Proofs.YtfiaedpkbhnmkaaW.PrintLast Go.Proofs.YtfiaedpkbhnmkaaW.PrintMore
attribute [local go_sem] max2_int min2_int max_two min_two max_three min_three max_four min_four   -- for this text's walks alone
set_option linter.unusedVariables false
set_option linter.unusedSimpArgs false

/-! ### EXT doctext_Doc: function 19 -/
/-! doctext.Doc: a byte's value. -/
def docN (a0 : Int) : Int := if a0 < 0 ∨ a0 ≥ 256 then 0 else tabT a0.toNat
def doctext_Doc.f (a0 : Int) : Option (Int × Bool) := some (docN a0, docN a0 != 0)
/-- A value of the array. -/
theorem cellsT_index (f : Nat → Int) (c : Nat) (hc : c < 256) (W : World) : (Instr.index 44 (.agg (cellsT f)) (.int .i64 (c : Int))).run Try.prog W = .ok (.int .i64 (f c)) W := by
  have hg : (cellsT f)[c]? = some (.int .i64 (f c)) := cellsT_get f hc
  have hu := Try.underlying44
  have hs := Try.sizeOf3
  have ha := Try.isAgg3
  have h0 : (0 : Int) ≤ (c : Int) := by omega
  have h1 : (c : Int) < 256 := by omega
  simp [Instr.index, asIntOf, run_underlying hu, Sem.run_bind, h0, h1, hs, ha, part, hg]
  omega
set_option maxRecDepth 100000 in
set_option maxHeartbeats 2000000 in
theorem doctext_Doc.calls (a0 : Int) (r1 : Int) (r2 : Bool) (w : World) (h : doctext_Doc.f a0 = some (r1, r2)) :
    Calls Try.prog 19 #[.int .i64 a0] w fun e w' => e = .returned (.tuple #[.int .i64 r1, .bool r2]) ∧ Below w.heap.size w w' := by
  obtain ⟨rfl, rfl⟩ := Prod.mk.inj (Option.some.inj h)
  clear h
  by_cases h0 : a0 < 0
  · have e : docN a0 = 0 := if_pos (.inl h0)
    have c0 : decide (a0 < 0) = true := decide_eq_true h0
    rw [e]
    go_enter Try.func19, Try.ntmps19
    go_wp2
    refine bodyPost_ret (results_list (rs := [.tmp 2, .tmp 3]) rfl (by simp) (.tmp (.tmp .nil))) rfl ?_
    exact ⟨rfl, by first | exact Below.refl _ _ | exact below_drew (Below.refl _ _)⟩
  · have c0 : decide (a0 < 0) = false := decide_eq_false h0
    by_cases h1 : a0 ≥ 256
    · have e : docN a0 = 0 := if_pos (.inr h1)
      have c1 : decide (a0 ≥ 256) = true := decide_eq_true h1
      rw [e]
      go_enter Try.func19, Try.ntmps19
      go_wp2
      refine bodyPost_ret (results_list (rs := [.tmp 2, .tmp 3]) rfl (by simp) (.tmp (.tmp .nil))) rfl ?_
      exact ⟨rfl, by first | exact Below.refl _ _ | exact below_drew (Below.refl _ _)⟩
    · have c1 : decide (a0 ≥ 256) = false := decide_eq_false h1
      obtain ⟨c, rfl⟩ := Int.eq_ofNat_of_zero_le (show 0 ≤ a0 by omega)
      have hc : c < 256 := by omega
      have e : docN (c : Int) = tabT c := by
        unfold docN
        rw [if_neg (by omega)]
        rfl
      have hix := cellsT_index tabT c hc
      have p0 : (0 ≤ (c : Int)) = True := eq_true (by omega)
      have p1 : ((c : Int) < 256) = True := eq_true (by omega)
      rw [e]
      go_enter Try.func19, Try.ntmps19
      go_wp2_with (go_at_call 30; refine (doctext_table.calls _).mono ?_; rintro e w1 ⟨rfl, hb⟩; have HB := Aside0.mk hb; clear hb)
      refine bodyPost_ret (results_list (rs := [.tmp 2, .tmp 3]) rfl (by simp) (.tmp (.tmp .nil))) rfl ?_
      exact ⟨by first | rfl | (simp; done), by first | exact HB.out | exact below_drew HB.out⟩

end Go.Proofs.Ytfiaedpkbhnmkaa.PAll
