/-
  No cell of these rows narrows 'for every input' (looked for: loops, veiled, ifaces, maps, wideKeys, modest, calm, conditions, laid).
  DERIVED. THE GIVEN ROWS OF THIS SEAT. 3 by the template 'for every input the law returns true; each argument reads behind the call as it read before'; 0 by the template 'total and deterministic' (their statements: YtjoplgehefncbaaTotals.lean).
  GIVEN WITH THE SEED: the statements are not yours to turn. If you find one false, say at which input.
  Laid BY PROGRAM, IN A SANDBOX (cutbox-rows.mjs): the forced cells as the released guide's own fill.sh prints them over the translation 13a5ab98ec3b5b49… (all of the seat's roots in one cut). By AI agents, Wed Nov 11 2026. No macro, syntax, notation, axiom, sorry.
-/
import Derived.Test.YtjoplgehefncbaaChecked
import GoSem.Claim
import GoSem.ClaimJoined
import GoSem.ClaimMapViews
import Derived.JoinedTies
import Derived.KernelRfl
namespace Go.Proofs.Ytjoplgehefncbaa
/- THE CELL 'sum', in the pinned program and in every row, IS THE sha256 OF THE DUMP (.gsa) THAT YtjoplgehefncbaaProg.lean LOADS. Nothing in Lean hashes anything: it is a label: what it is worth is what the hold of that sum in a sandbox is worth. -/
noncomputable def Try.pinned : Pinned := { name := "ytjoplgehefncbaa", sum := "13a5ab98ec3b5b49bb484fe5a29e823aa068303418b91735196aac62a749ee99", checked := Try.checked }
namespace Rows
def none {H : Type} : Left H := { results := [], args := [] }

/-- 'hornbooklaw12.LookRows': WHATEVER THE INPUT: true; the input reads as it did. -/
def lookRowsSpec : ChangeSpec := { name := "lookRows", fn := fun _ => fun
  | [d1, d2, d3] => { results := [.lit (.bool true)], args := [d1, d2, d3] }
  | _ => none }
def lookRowsRow : OpenClaim := { program := "ytjoplgehefncbaa", sum := "13a5ab98ec3b5b49bb484fe5a29e823aa068303418b91735196aac62a749ee99", func := "hornbook/hornbooklaw12.LookRows", spec := "lookRows", inPlace := ["internal/abi.NoEscape"], unfollowed := true, recurses := true, apart := false }
def LookRowsSaid : Prop := lookRowsRow.holds Try.pinned (OpenSpec.ofChange lookRowsSpec)

/-- ITS FALSE NEIGHBOUR: 'it returns false'. Refute it at one input. -/
def lookRowsWrong : ChangeSpec := { name := "lookRows", fn := fun _ => fun
  | [d1, d2, d3] => { results := [.lit (.bool false)], args := [d1, d2, d3] }
  | _ => none }
def LookRowsWrongFalsely : Prop := lookRowsRow.holds Try.pinned (OpenSpec.ofChange lookRowsWrong)

/-- 'hornbooklaw12.LookKinds': WHATEVER THE INPUT: true; the input reads as it did. -/
def lookKindsSpec : ChangeSpec := { name := "lookKinds", fn := fun _ => fun
  | [d1, d2] => { results := [.lit (.bool true)], args := [d1, d2] }
  | _ => none }
def lookKindsRow : OpenClaim := { program := "ytjoplgehefncbaa", sum := "13a5ab98ec3b5b49bb484fe5a29e823aa068303418b91735196aac62a749ee99", func := "hornbook/hornbooklaw12.LookKinds", spec := "lookKinds", inPlace := ["internal/abi.NoEscape"], unfollowed := true, recurses := true, apart := false }
def LookKindsSaid : Prop := lookKindsRow.holds Try.pinned (OpenSpec.ofChange lookKindsSpec)

/-- ITS FALSE NEIGHBOUR: 'it returns false'. Refute it at one input. -/
def lookKindsWrong : ChangeSpec := { name := "lookKinds", fn := fun _ => fun
  | [d1, d2] => { results := [.lit (.bool false)], args := [d1, d2] }
  | _ => none }
def LookKindsWrongFalsely : Prop := lookKindsRow.holds Try.pinned (OpenSpec.ofChange lookKindsWrong)

/-- 'hornbooklaw12.LookModes': WHATEVER THE INPUT: true; the input reads as it did. -/
def lookModesSpec : ChangeSpec := { name := "lookModes", fn := fun _ => fun
  | [d1, d2, d3, d4] => { results := [.lit (.bool true)], args := [d1, d2, d3, d4] }
  | _ => none }
def lookModesRow : OpenClaim := { program := "ytjoplgehefncbaa", sum := "13a5ab98ec3b5b49bb484fe5a29e823aa068303418b91735196aac62a749ee99", func := "hornbook/hornbooklaw12.LookModes", spec := "lookModes", inPlace := ["internal/abi.NoEscape"], unfollowed := true, recurses := true, apart := false }
def LookModesSaid : Prop := lookModesRow.holds Try.pinned (OpenSpec.ofChange lookModesSpec)

/-- ITS FALSE NEIGHBOUR: 'it returns false'. Refute it at one input. -/
def lookModesWrong : ChangeSpec := { name := "lookModes", fn := fun _ => fun
  | [d1, d2, d3, d4] => { results := [.lit (.bool false)], args := [d1, d2, d3, d4] }
  | _ => none }
def LookModesWrongFalsely : Prop := lookModesRow.holds Try.pinned (OpenSpec.ofChange lookModesWrong)

/- THE SECOND FORM. 'bulk': how many values and letters a reading holds, each counted each time it is reached (what is shared counts as often as it is met; a slice's spare places count too). A statement '..UptoSaid' is the law's where the arguments, and the package variables that the reading takes, are together of bulk at most 1048576: NARROWER than '..Said'. Prove '..Said' where nothing that the law and all that it calls make is longer than what came in: it says more and counts as full. Else prove '..UptoSaid'. A law counts once. -/
mutual
def uptoBulk {H : Type} : DataW H → Nat
  | .lit (.string bytes) => bytes.length + 1
  | .lit _ => 1
  | .nil => 1
  | .ptr d => uptoBulk d + 1
  | .slice elems spare => uptoBulkAll elems + uptoBulkAll spare + 1
  | .agg parts => uptoBulkAll parts + 1
  | .iface _ d => uptoBulk d + 1
  | .map entries => uptoBulkEntries entries + 1
  | .held _ => 1
def uptoBulkAll {H : Type} : List (DataW H) → Nat
  | [] => 0
  | d :: r => uptoBulk d + uptoBulkAll r
def uptoBulkEntries {H : Type} : List (Lit × DataW H) → Nat
  | [] => 0
  | x :: r => uptoBulkEntry x + uptoBulkEntries r
def uptoBulkEntry {H : Type} : Lit × DataW H → Nat
  | (.string bytes, d) => bytes.length + uptoBulk d + 1
  | (_, d) => uptoBulk d + 1
 end
def uptoSmall : (H : Type) → List (DataW H) → Bool := fun _ ds => decide (uptoBulkAll ds ≤ 1048576)
def OpenSpec.upto (s : _root_.Go.ChangeSpec) : _root_.Go.OpenSpec := { _root_.Go.OpenSpec.ofChange s with cond := some uptoSmall }

/-- 'hornbooklaw12.LookRows', WHERE WHAT IT READS IS OF BULK AT MOST 1048576: true; the input reads as it did. -/
def lookRowsUptoRow : OpenClaim := { program := "ytjoplgehefncbaa", sum := "13a5ab98ec3b5b49bb484fe5a29e823aa068303418b91735196aac62a749ee99", func := "hornbook/hornbooklaw12.LookRows", spec := "lookRows", inPlace := ["internal/abi.NoEscape"], unfollowed := true, recurses := true, apart := false, narrowed := true }
def LookRowsUptoSaid : Prop := lookRowsUptoRow.holds Try.pinned (OpenSpec.upto lookRowsSpec)

/-- 'hornbooklaw12.LookKinds', WHERE WHAT IT READS IS OF BULK AT MOST 1048576: true; the input reads as it did. -/
def lookKindsUptoRow : OpenClaim := { program := "ytjoplgehefncbaa", sum := "13a5ab98ec3b5b49bb484fe5a29e823aa068303418b91735196aac62a749ee99", func := "hornbook/hornbooklaw12.LookKinds", spec := "lookKinds", inPlace := ["internal/abi.NoEscape"], unfollowed := true, recurses := true, apart := false, narrowed := true }
def LookKindsUptoSaid : Prop := lookKindsUptoRow.holds Try.pinned (OpenSpec.upto lookKindsSpec)

/-- 'hornbooklaw12.LookModes', WHERE WHAT IT READS IS OF BULK AT MOST 1048576: true; the input reads as it did. -/
def lookModesUptoRow : OpenClaim := { program := "ytjoplgehefncbaa", sum := "13a5ab98ec3b5b49bb484fe5a29e823aa068303418b91735196aac62a749ee99", func := "hornbook/hornbooklaw12.LookModes", spec := "lookModes", inPlace := ["internal/abi.NoEscape"], unfollowed := true, recurses := true, apart := false, narrowed := true }
def LookModesUptoSaid : Prop := lookModesUptoRow.holds Try.pinned (OpenSpec.upto lookModesSpec)

end Rows
end Go.Proofs.Ytjoplgehefncbaa
