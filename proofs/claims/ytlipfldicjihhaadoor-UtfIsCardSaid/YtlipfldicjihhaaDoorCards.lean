/-
  DERIVED. GIVEN WITH THE SEED: THE CARDS: each row of YtlipfldicjihhaaDoorRows.lean that lists a variable, with what it lists TIED to the program's text (the seventh form; the later family's looks); each row that meets fmt, with fmt's text TOLD by the authors' own Lean function (tested against real Go, not proved from fmt's source: count such statements apart). THE CARD IS WHAT COUNTS. Prove the row's statement (the work); the ties are given (YtlipfldicjihhaaDoorTie.lean); close each card by the builder's one call (the guide's Derived/Test/ToyasCard.lean, 'card_holds'). Laid BY PROGRAM, IN A SANDBOX (cutbox-door.mjs). By AI agents, Wed Nov 11 2026. No macro, syntax, notation, axiom, sorry.
-/
import Derived.Test.YtlipfldicjihhaaDoorRows
import GoSem.ClaimSeven
namespace Go.Proofs.YtlipfldicjihhaaDoor
namespace Rows

/-- THE TIED CARD OF 'hornbooklaw02.UtfRows'. -/
def utfRowsCard : Claim7 := { stood := { row := utfRowsRow, standIns := [], harness := (true, "6f054b1e8ac9eebb89d2b67910bdc075ef7e769d6999e86075f25c447791f1e1"), looks := false }, kinds := [], alts := [], laidByText := true, laidKinds := [.data, .pinned], laidTests := true, laidLooks := .later }
def UtfRowsCardSaid : Prop := Claim7.holds Tryd.pinned (.plain (OpenSpec.ofChange utfRowsSpec)) utfRowsCard

/-- THE TIED CARD OF 'hornbooklaw02.UtfSizes'. -/
def utfSizesCard : Claim7 := { stood := { row := utfSizesRow, standIns := [], harness := (true, "6f054b1e8ac9eebb89d2b67910bdc075ef7e769d6999e86075f25c447791f1e1"), looks := false }, kinds := [], alts := [], laidByText := true, laidKinds := [.data, .pinned], laidTests := true, laidLooks := .later }
def UtfSizesCardSaid : Prop := Claim7.holds Tryd.pinned (.plain (OpenSpec.ofChange utfSizesSpec)) utfSizesCard

/-- THE TIED CARD OF 'hornbooklaw02.UtfPairs'. -/
def utfPairsCard : Claim7 := { stood := { row := utfPairsRow, standIns := [], harness := (true, "6f054b1e8ac9eebb89d2b67910bdc075ef7e769d6999e86075f25c447791f1e1"), looks := false }, kinds := [], alts := [], laidByText := true, laidKinds := [.data, .pinned], laidTests := true, laidLooks := .later }
def UtfPairsCardSaid : Prop := Claim7.holds Tryd.pinned (.plain (OpenSpec.ofChange utfPairsSpec)) utfPairsCard

/-- THE TIED CARD OF 'hornbooklaw02.UtfWhole'. -/
def utfWholeCard : Claim7 := { stood := { row := utfWholeRow, standIns := [], harness := (true, "6f054b1e8ac9eebb89d2b67910bdc075ef7e769d6999e86075f25c447791f1e1"), looks := false }, kinds := [], alts := [], laidByText := true, laidKinds := [.data, .pinned], laidTests := true, laidLooks := .later }
def UtfWholeCardSaid : Prop := Claim7.holds Tryd.pinned (.plain (OpenSpec.ofChange utfWholeSpec)) utfWholeCard

/-- THE TIED CARD OF 'hornbooklaw02.UtfIs'. -/
def utfIsCard : Claim7 := { stood := { row := utfIsRow, standIns := [], harness := (true, "6f054b1e8ac9eebb89d2b67910bdc075ef7e769d6999e86075f25c447791f1e1"), looks := false }, kinds := [], alts := [], laidByText := true, laidKinds := [.data, .pinned], laidTests := true, laidLooks := .later }
def UtfIsCardSaid : Prop := Claim7.holds Tryd.pinned (.plain (OpenSpec.ofChange utfIsSpec)) utfIsCard

/-- THE TIED CARD OF 'hornbooklaw02.UtfBack'. -/
def utfBackCard : Claim7 := { stood := { row := utfBackRow, standIns := [], harness := (true, "6f054b1e8ac9eebb89d2b67910bdc075ef7e769d6999e86075f25c447791f1e1"), looks := false }, kinds := [], alts := [], laidByText := true, laidKinds := [.data, .pinned], laidTests := true, laidLooks := .later }
def UtfBackCardSaid : Prop := Claim7.holds Tryd.pinned (.plain (OpenSpec.ofChange utfBackSpec)) utfBackCard

/-- THE SECOND FORM's CARD OF 'hornbooklaw02.UtfRows'. -/
def utfRowsUptoCard : Claim7 := { stood := { row := utfRowsUptoRow, standIns := [], harness := (true, "6f054b1e8ac9eebb89d2b67910bdc075ef7e769d6999e86075f25c447791f1e1"), looks := false }, kinds := [], alts := [], laidByText := true, laidKinds := [.data, .pinned], laidTests := true, laidLooks := .later }
def UtfRowsUptoCardSaid : Prop := Claim7.holds Tryd.pinned (.plain (OpenSpec.upto utfRowsSpec)) utfRowsUptoCard

/-- THE SECOND FORM's CARD OF 'hornbooklaw02.UtfSizes'. -/
def utfSizesUptoCard : Claim7 := { stood := { row := utfSizesUptoRow, standIns := [], harness := (true, "6f054b1e8ac9eebb89d2b67910bdc075ef7e769d6999e86075f25c447791f1e1"), looks := false }, kinds := [], alts := [], laidByText := true, laidKinds := [.data, .pinned], laidTests := true, laidLooks := .later }
def UtfSizesUptoCardSaid : Prop := Claim7.holds Tryd.pinned (.plain (OpenSpec.upto utfSizesSpec)) utfSizesUptoCard

/-- THE SECOND FORM's CARD OF 'hornbooklaw02.UtfPairs'. -/
def utfPairsUptoCard : Claim7 := { stood := { row := utfPairsUptoRow, standIns := [], harness := (true, "6f054b1e8ac9eebb89d2b67910bdc075ef7e769d6999e86075f25c447791f1e1"), looks := false }, kinds := [], alts := [], laidByText := true, laidKinds := [.data, .pinned], laidTests := true, laidLooks := .later }
def UtfPairsUptoCardSaid : Prop := Claim7.holds Tryd.pinned (.plain (OpenSpec.upto utfPairsSpec)) utfPairsUptoCard

/-- THE SECOND FORM's CARD OF 'hornbooklaw02.UtfWhole'. -/
def utfWholeUptoCard : Claim7 := { stood := { row := utfWholeUptoRow, standIns := [], harness := (true, "6f054b1e8ac9eebb89d2b67910bdc075ef7e769d6999e86075f25c447791f1e1"), looks := false }, kinds := [], alts := [], laidByText := true, laidKinds := [.data, .pinned], laidTests := true, laidLooks := .later }
def UtfWholeUptoCardSaid : Prop := Claim7.holds Tryd.pinned (.plain (OpenSpec.upto utfWholeSpec)) utfWholeUptoCard

/-- THE SECOND FORM's CARD OF 'hornbooklaw02.UtfIs'. -/
def utfIsUptoCard : Claim7 := { stood := { row := utfIsUptoRow, standIns := [], harness := (true, "6f054b1e8ac9eebb89d2b67910bdc075ef7e769d6999e86075f25c447791f1e1"), looks := false }, kinds := [], alts := [], laidByText := true, laidKinds := [.data, .pinned], laidTests := true, laidLooks := .later }
def UtfIsUptoCardSaid : Prop := Claim7.holds Tryd.pinned (.plain (OpenSpec.upto utfIsSpec)) utfIsUptoCard

/-- THE SECOND FORM's CARD OF 'hornbooklaw02.UtfBack'. -/
def utfBackUptoCard : Claim7 := { stood := { row := utfBackUptoRow, standIns := [], harness := (true, "6f054b1e8ac9eebb89d2b67910bdc075ef7e769d6999e86075f25c447791f1e1"), looks := false }, kinds := [], alts := [], laidByText := true, laidKinds := [.data, .pinned], laidTests := true, laidLooks := .later }
def UtfBackUptoCardSaid : Prop := Claim7.holds Tryd.pinned (.plain (OpenSpec.upto utfBackSpec)) utfBackUptoCard
end Rows
end Go.Proofs.YtlipfldicjihhaaDoor
