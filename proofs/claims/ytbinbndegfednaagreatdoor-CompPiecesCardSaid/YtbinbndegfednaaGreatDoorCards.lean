/-
  DERIVED. GIVEN WITH THE SEED: THE CARDS: each row of YtbinbndegfednaaGreatDoorRows.lean that lists a variable, with what it lists TIED to the program's text (the seventh form; the later family's looks); each row that meets fmt, with fmt's text TOLD by the authors' own Lean function (tested against real Go, not proved from fmt's source: count such statements apart). THE CARD IS WHAT COUNTS. Prove the row's statement (the work); the ties are given (YtbinbndegfednaaGreatDoorTie.lean); close each card by the builder's one call (the guide's Derived/Test/ToyasCard.lean, 'card_holds'). Laid BY PROGRAM, IN A SANDBOX (cutbox-door.mjs). By AI agents, Wed Nov 11 2026. No macro, syntax, notation, axiom, sorry.
-/
import Derived.Test.YtbinbndegfednaaGreatDoorRows
import GoSem.ClaimSeven
namespace Go.Proofs.YtbinbndegfednaaGreatDoor
namespace Rows

/-- THE TIED CARD OF 'hornbooklaw21.CompPieces'. -/
def compPiecesCard : Claim7 := { stood := { row := compPiecesRow, standIns := [], harness := (true, "37be0d15082bc2fc8595a504bb30f0836b33c259f9c29af115c2a3de9c7d95fd"), looks := false }, kinds := [], alts := [], laidByText := true, laidKinds := [.data, .pinned], laidTests := true, laidLooks := .later }
def CompPiecesCardSaid : Prop := Claim7.holds Tryz.pinned (.plain (OpenSpec.ofChange compPiecesSpec)) compPiecesCard

/-- THE SECOND FORM's CARD OF 'hornbooklaw21.CompPieces'. -/
def compPiecesUptoCard : Claim7 := { stood := { row := compPiecesUptoRow, standIns := [], harness := (true, "37be0d15082bc2fc8595a504bb30f0836b33c259f9c29af115c2a3de9c7d95fd"), looks := false }, kinds := [], alts := [], laidByText := true, laidKinds := [.data, .pinned], laidTests := true, laidLooks := .later }
def CompPiecesUptoCardSaid : Prop := Claim7.holds Tryz.pinned (.plain (OpenSpec.upto compPiecesSpec)) compPiecesUptoCard
end Rows
end Go.Proofs.YtbinbndegfednaaGreatDoor
