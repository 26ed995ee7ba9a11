/-
  DERIVED. GIVEN WITH THE SEED: THE CARDS: each row of YtmgjojgfocbjfaaDoorRows.lean that lists a variable, with what it lists TIED to the program's text (the seventh form; the later family's looks); each row that meets fmt, with fmt's text TOLD by the authors' own Lean function (tested against real Go, not proved from fmt's source: count such statements apart). THE CARD IS WHAT COUNTS. Prove the row's statement (the work); the ties are given (YtmgjojgfocbjfaaDoorTie.lean); close each card by the builder's one call (the guide's Derived/Test/ToyasCard.lean, 'card_holds'). Laid BY PROGRAM, IN A SANDBOX (cutbox-door.mjs). By AI agents, Wed Nov 11 2026. No macro, syntax, notation, axiom, sorry.
-/
import Derived.Test.YtmgjojgfocbjfaaDoorRows
import GoSem.ClaimSeven
namespace Go.Proofs.YtmgjojgfocbjfaaDoor
namespace Rows

/-- THE TIED CARD OF 'hornbooklaw20.CollTexts'. -/
def collTextsCard : Claim7 := { stood := { row := collTextsRow, standIns := [], harness := (true, "018dce86d4d25951968211d6eb4c5c6d72c5b0a95ce3f60e3f4570700d568981"), looks := false }, kinds := [], alts := [], laidByText := true, laidKinds := [.data, .pinned], laidTests := true, laidLooks := .later }
def CollTextsCardSaid : Prop := Claim7.holds Tryd.pinned (.plain (OpenSpec.ofChange collTextsSpec)) collTextsCard

/-- THE SECOND FORM's CARD OF 'hornbooklaw20.CollTexts'. -/
def collTextsUptoCard : Claim7 := { stood := { row := collTextsUptoRow, standIns := [], harness := (true, "018dce86d4d25951968211d6eb4c5c6d72c5b0a95ce3f60e3f4570700d568981"), looks := false }, kinds := [], alts := [], laidByText := true, laidKinds := [.data, .pinned], laidTests := true, laidLooks := .later }
def CollTextsUptoCardSaid : Prop := Claim7.holds Tryd.pinned (.plain (OpenSpec.upto collTextsSpec)) collTextsUptoCard
end Rows
end Go.Proofs.YtmgjojgfocbjfaaDoor
