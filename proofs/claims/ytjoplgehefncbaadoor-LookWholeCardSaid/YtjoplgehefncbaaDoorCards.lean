/-
  DERIVED. GIVEN WITH THE SEED: THE CARDS: each row of YtjoplgehefncbaaDoorRows.lean that lists a variable, with what it lists TIED to the program's text (the seventh form; the later family's looks); each row that meets fmt, with fmt's text TOLD by the authors' own Lean function (tested against real Go, not proved from fmt's source: count such statements apart). THE CARD IS WHAT COUNTS. Prove the row's statement (the work); the ties are given (YtjoplgehefncbaaDoorTie.lean); close each card by the builder's one call (the guide's Derived/Test/ToyasCard.lean, 'card_holds'). Laid BY PROGRAM, IN A SANDBOX (cutbox-door.mjs). By AI agents, Wed Nov 11 2026. No macro, syntax, notation, axiom, sorry.
-/
import Derived.Test.YtjoplgehefncbaaDoorRows
import GoSem.ClaimSeven
namespace Go.Proofs.YtjoplgehefncbaaDoor
namespace Rows

/-- THE TIED CARD OF 'hornbooklaw12.LookWhole'. -/
def lookWholeCard : Claim7 := { stood := { row := lookWholeRow, standIns := [], harness := (true, "c034baa258e0e26827bf4441cc04a24e1c2ad59d15c78c0c35e62389792581a1"), looks := false }, kinds := [], alts := [], laidByText := true, laidKinds := [.data, .pinned], laidTests := true, laidLooks := .later }
def LookWholeCardSaid : Prop := Claim7.holds Tryd.pinned (.plain (OpenSpec.ofChange lookWholeSpec)) lookWholeCard

/-- THE SECOND FORM's CARD OF 'hornbooklaw12.LookWhole'. -/
def lookWholeUptoCard : Claim7 := { stood := { row := lookWholeUptoRow, standIns := [], harness := (true, "c034baa258e0e26827bf4441cc04a24e1c2ad59d15c78c0c35e62389792581a1"), looks := false }, kinds := [], alts := [], laidByText := true, laidKinds := [.data, .pinned], laidTests := true, laidLooks := .later }
def LookWholeUptoCardSaid : Prop := Claim7.holds Tryd.pinned (.plain (OpenSpec.upto lookWholeSpec)) lookWholeUptoCard
end Rows
end Go.Proofs.YtjoplgehefncbaaDoor
