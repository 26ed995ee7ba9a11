-- made by xprint.py of this session
import Derived.Test.YtfiaedpkbhnmkaaPAllx0
import Derived.Test.YtfiaedpkbhnmkaaPAllx3
namespace Go.Proofs.Ytfiaedpkbhnmkaa.PAll
open Go.RowKit Go.Proofs.YtfiaedpkbhnmkaaW.PrintWords Go.Proofs.YtfiaedpkbhnmkaaW.PrintLast Go.Proofs.YtfiaedpkbhnmkaaW.PrintMore
attribute [local go_sem] max2_int min2_int max_two min_two max_three min_three max_four min_four   -- for this text's walks alone
set_option linter.unusedVariables false
set_option linter.unusedSimpArgs false

/-! ### EXT doctext_Byte: function 21 -/
/-! doctext.Byte: a value's byte. -/
def byteH (r : Int) : Bool := Go.Maps.has (backM 256) (.int .i64 r)
def byteI (r : Int) : Int := match (backM 256).atKey (.int .i64 r) (.lit (.int .i64 0)) with
  | .lit (.int _ c) => c
  | _ => 0
theorem byteI_of {r c : Int} (h : (backM 256).atKey (.int .i64 r) (.lit (.int .i64 0)) = .lit (.int .i64 c)) : byteI r = c := by
  unfold byteI
  rw [h]
def doctext_Byte.f (a0 : Int) : Option (Int × Bool) := if (Lit.int .i64 a0).wf = true then some (byteI a0, byteH a0) else none
set_option maxRecDepth 100000 in
set_option maxHeartbeats 2000000 in
open Go.Maps in
theorem doctext_Byte.calls (a0 : Int) (r1 : Int) (r2 : Bool) (w : World) (h : doctext_Byte.f a0 = some (r1, r2)) :
    Calls Try.prog 21 #[.int .i64 a0] w fun e w' => e = .returned (.tuple #[.int .i64 r1, .bool r2]) ∧ Below w.heap.size w w' := by
  unfold doctext_Byte.f at h
  by_cases hwf : (Lit.int .i64 a0).wf = true
  · rw [if_pos hwf] at h
    obtain ⟨rfl, rfl⟩ := Prod.mk.inj (Option.some.inj h)
    clear h
    have HW := Aside0.mk hwf
    clear hwf
    obtain ⟨h0, hh⟩ : ∃ b, b = byteH a0 := ⟨_, rfl⟩
    go_enter Try.func21, Try.ntmps21
    go_wp2_with (first | (go_at_call 37; refine (doctext_back.calls _).mono ?_; rintro e w1 ⟨b, rfl, hown, hb⟩; have HO := Aside0.mk hown; have HB := Aside0.mk hb; clear hown hb) | (at_lookup; refine wpList_lookup_own_ok_int _ rfl _ _ 49 rfl 3 3 .i64 (int_keyed Try.underlying3) Try.underlying49 Try.underlying3 (Try.zeroValue3 _) _ 256 _ rfl HO.out _ _ rfl (keyOf_int_mk Try.underlying3 HW.out) ?_; intro c hat hwc; have hc := byteI_of hat; clear hat hwc; subst hc))
    refine bodyPost_ret (results_list (rs := [.tmp 2, .tmp 3]) rfl (by simp) (.tmp (.tmp .nil))) rfl ?_
    exact ⟨by first | rfl | (simp [byteH]; done), by first | exact HB.out | exact below_drew HB.out⟩
  · rw [if_neg hwf] at h
    cases h

end Go.Proofs.Ytfiaedpkbhnmkaa.PAll
