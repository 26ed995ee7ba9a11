/- utf.Whole, where Go's UTF-8 tables lie in the world. -/
import Derived.Test.YtmgjojgfocbjfaaDoorAValid
import Derived.Test.YtmgjojgfocbjfaaDoorShelf
set_option linter.all false
set_option maxRecDepth 100000
namespace Go.Abs.Txt
open Go.RowKit Go.Proofs Go.Abs.Utf
/-- Go's UTF-8 tables lie in the world. -/
def UT (w : World) : Prop := Lib.Utf8Tabs (Tryd.lays196_ren.g 3) (Tryd.lays196_ren.g 4) w
def SWhole : Sp := ⟨ByteArray, fun s => s.size ≤ 9223372036854775807, fun s => [.str s], fun s => .st (.sb (Lib.validD s.data.toList))⟩
theorem validS : SpOKT UT Tryd.prog 24 SWhole := fun (s : ByteArray) hs => by
  refine ⟨⟨_, Tryd.func24, by decide +kernel, rfl⟩, fun w S vs hT hlt hv => ?_⟩
  obtain ⟨hvl, hv⟩ := hv
  match vs, hvl, hv with
  | [u1], _, hv =>
    have g1 := hv 0 _ _ rfl rfl
    cases g1
    refine (Tryd.utf8_ValidString s w hs (hT w (Below.refl _ _))).mono ?_
    rintro e w' ⟨he, hb⟩
    exact ⟨_, S, he, .sb _, fun b h => h, fun b h => ⟨Nat.lt_of_lt_of_le (hlt b h) hb.size, .inl h⟩, hb⟩
theorem whole : SpOKT UT Tryd.prog 11 SWhole := fun (s : ByteArray) hs => by
  have hC : COKT Tryd.prog UT (cfg [(24, SWhole)]) := Ty.ty.cfgT ⟨validS, trivial⟩
  refine FnT.ofF hC Tryd.func11 Tryd.ntmps11 rfl rfl rfl ?_
  (repeat' first | (with_reducible exact trivial) | (with_reducible rfl) | (refine And.intro ?_ ?_) | (refine Need.mk ?_) | exact True.intro | (first | (refine ⟨_, Told.refl _, ?_, ?_⟩) | (refine ⟨⟨_, _⟩, Told.refl _, ?_, ?_⟩) | (refine ⟨⟨_, _, _⟩, Told.refl _, ?_, ?_⟩) | (refine ⟨⟨_, _, _, _⟩, Told.refl _, ?_, ?_⟩) | (refine ⟨⟨_, _, _, _, _⟩, Told.refl _, ?_, ?_⟩) | (refine ⟨(), Told.refl _, ?_, ?_⟩)) | (with_reducible intro _) | (refine fun (_ : Bool) => ?_))
  exact hs
end Go.Abs.Txt
