-- made by xprint.py of this session
import Derived.Test.YtlipfldicjihhaaDoorPTabx0
import Derived.Test.YtlipfldicjihhaaDoorShelfV
import Derived.Lib.LaidU8T
namespace Go.Proofs.YtlipfldicjihhaaDoor.PTab
open Go.RowKit Go.Proofs.YtlipfldicjihhaaDoorW.PrintWords Go.Proofs.YtlipfldicjihhaaDoorW.PrintLast Go.Proofs.YtlipfldicjihhaaDoorW.PrintMore
attribute [local go_sem] max2_int min2_int max_two min_two max_three min_three max_four min_four   -- for this text's walks alone
set_option linter.unusedVariables false
set_option linter.unusedSimpArgs false

/-! ### EXT utf_Whole: function 17 -/
-- IMPORTS Derived.Test.YtlipfldicjihhaaDoorShelfV;Derived.Lib.LaidU8T
/-! utf.Whole, where Go's two tables of UTF-8 lie in the world. -/
theorem Tryd.u8extra : U8Extra Tryd.prog Tryd.lays196_ren := ⟨by kernel_rfl, by kernel_rfl, by kernel_rfl, by kernel_rfl, by kernel_rfl, by kernel_rfl, by kernel_rfl⟩
theorem utf_Whole.cell_below {w0 w : World} {a : Addr} {v : Value} (h : w0.cell? a = some v) (hb : Below w0.heap.size w0 w) : w.cell? a = some v := by
  have hl : a.block < w0.heap.size := by
    rcases Nat.lt_or_ge a.block w0.heap.size with h1 | h1
    · exact h1
    · have e : w0.heap[a.block]? = none := Array.getElem?_eq_none h1
      unfold World.cell? at h
      rw [e] at h
      cases h
  have hk := hb.block a.block hl
  unfold World.cell? at h ⊢
  rw [hk]
  exact h
theorem utf_Whole.tabs_below {w0 w : World} (h : Lib.Utf8Tabs 0 1 w0) (hb : Below w0.heap.size w0 w) : Lib.Utf8Tabs 0 1 w :=
  ⟨fun c hc => utf_Whole.cell_below (h.1 c hc) hb, fun i hi => ⟨utf_Whole.cell_below (h.2 i hi).1 hb, utf_Whole.cell_below (h.2 i hi).2 hb⟩⟩
def utf_Whole.f (a0 : ByteArray) : Option Bool := if a0.size ≤ 9223372036854775807 then some (Lib.validD a0.data.toList) else none
theorem utf_Whole.calls (a0 : ByteArray) (r : Bool) (w : World) (hT : Lib.Utf8Tabs 0 1 w) (h : utf_Whole.f a0 = some r) :
    Calls Tryd.prog 17 #[.string a0] w fun e w' => e = .returned (.bool r) ∧ Below w.heap.size w w' := by
  unfold utf_Whole.f at h
  by_cases hs : a0.size ≤ 9223372036854775807
  case neg =>
    rw [if_neg hs] at h
    cases h
  rw [if_pos hs] at h
  obtain rfl := Option.some.inj h
  clear h
  go_enter Tryd.func17, Tryd.ntmps17
  go_wp2_with (go_at_call 33; refine (Tryd.utf8_ValidString a0 _ hs hT).mono ?_; rintro e w1 ⟨rfl, hb⟩)
  go_ret
  exact ⟨rfl, hb⟩

end Go.Proofs.YtlipfldicjihhaaDoor.PTab
