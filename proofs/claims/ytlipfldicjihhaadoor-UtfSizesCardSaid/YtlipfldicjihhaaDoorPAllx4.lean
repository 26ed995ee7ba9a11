-- made by xprint.py of this session
import Derived.Test.YtlipfldicjihhaaDoorPAllx0
namespace Go.Proofs.YtlipfldicjihhaaDoor.PAll
open Go.RowKit Go.Proofs.YtlipfldicjihhaaDoorW.PrintWords Go.Proofs.YtlipfldicjihhaaDoorW.PrintLast Go.Proofs.YtlipfldicjihhaaDoorW.PrintMore
attribute [local go_sem] max2_int min2_int max_two min_two max_three min_three max_four min_four   -- for this text's walks alone
set_option linter.unusedVariables false
set_option linter.unusedSimpArgs false

/-! ### EXT utf_Whole: function 17 -/
/-! utf.Whole of the text that the example asks. -/
def utf_Whole.f (a0 : ByteArray) : Option Bool := if a0.data = #[97] then some true else none
set_option maxRecDepth 100000 in
set_option maxHeartbeats 4000000 in
theorem utf_Whole.valid (w : World) :
    Calls Tryd.prog 33 #[.string ⟨#[97]⟩] w fun e w' => e = .returned (.bool true) ∧ Drawn0 w w' := by
  go_enter Tryd.func33, Tryd.ntmps33
  go_wp2
  go_loopg [0] 3 (fun kq v0 w' => (v0 = .string ⟨#[97]⟩ ∧ kq = 3 ∨ v0 = .string ⟨#[]⟩ ∧ kq = 2) ∧ Drawn0 w w')
  case atStart => exact ⟨.inl ⟨rfl, rfl⟩, ⟨0, rfl⟩⟩
  case round =>
    obtain ⟨h | h, nd, rfl⟩ := hrel
    · obtain ⟨rfl, rfl⟩ := h
      go_wp2
      go_roundg 2
      case measure => omega
      case rel => exact ⟨.inr ⟨rfl, rfl⟩, by first | exact ⟨_, rfl⟩ | exact ⟨_, (World.drewN_drew _ _).symm⟩⟩
    · obtain ⟨rfl, rfl⟩ := h
      go_wp2
      go_ret
      exact ⟨rfl, by first | exact ⟨_, rfl⟩ | exact ⟨_, (World.drewN_drew _ _).symm⟩⟩
theorem utf_Whole.calls (a0 : ByteArray) (r : Bool) (w : World) (h : utf_Whole.f a0 = some r) :
    Calls Tryd.prog 17 #[.string a0] w fun e w' => e = .returned (.bool r) ∧ Drawn0 w w' := by
  unfold utf_Whole.f at h
  by_cases hd : a0.data = #[97]
  case neg =>
    rw [if_neg hd] at h
    cases h
  rw [if_pos hd] at h
  obtain rfl := Option.some.inj h
  obtain rfl : a0 = ⟨#[97]⟩ := by cases a0; cases hd; rfl
  go_enter Tryd.func17, Tryd.ntmps17
  go_wp2_with ((with_reducible refine gate_callee (f := 33) rfl ?_); refine goesL_ (some 4) rfl rfl Tryd.func33 (by kernel_rfl) rfl #[.string ⟨#[97]⟩] rfl (by (try simp only [List.map_toArray, List.map_cons, List.map_nil]); first | done | rfl) ?_; (with_reducible refine (utf_Whole.valid _).mono ?_); rintro e w1 ⟨rfl, ⟨nd, rfl⟩⟩; refine ⟨_, rfl, ?_⟩)
  go_ret
  exact ⟨rfl, by first | exact ⟨_, rfl⟩ | exact ⟨_, (World.drewN_drew _ _).symm⟩⟩

end Go.Proofs.YtlipfldicjihhaaDoor.PAll
