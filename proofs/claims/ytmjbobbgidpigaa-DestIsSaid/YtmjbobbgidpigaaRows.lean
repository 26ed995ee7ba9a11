/-
  No cell of these rows narrows 'for every input' (looked for: loops, veiled, ifaces, maps, wideKeys, modest, calm, conditions, laid).
  DERIVED. THE GIVEN ROWS OF THIS SEAT. 6 by the template 'for every input the law returns true; each argument reads behind the call as it read before'; 0 by the template 'total and deterministic' (their statements: YtmjbobbgidpigaaTotals.lean).
  GIVEN WITH THE SEED: the statements are not yours to turn. If you find one false, say at which input.
  Laid BY PROGRAM, IN A SANDBOX (cutbox-rows.mjs): the forced cells as the released guide's own fill.sh prints them over the translation 0d41280fc431a2e3… (all of the seat's roots in one cut). By AI agents, Wed Nov 11 2026. No macro, syntax, notation, axiom, sorry.
-/
import Derived.Test.YtmjbobbgidpigaaChecked
import GoSem.Claim
import GoSem.ClaimJoined
import GoSem.ClaimMapViews
import Derived.JoinedTies
import Derived.KernelRfl
namespace Go.Proofs.Ytmjbobbgidpigaa
/- THE CELL 'sum', in the pinned program and in every row, IS THE sha256 OF THE DUMP (.gsa) THAT YtmjbobbgidpigaaProg.lean LOADS. Nothing in Lean hashes anything: it is a label: what it is worth is what the hold of that sum in a sandbox is worth. -/
noncomputable def Try.pinned : Pinned := { name := "ytmjbobbgidpigaa", sum := "0d41280fc431a2e387f47f7eb0b6f9d825b6a130715c0b55a58043277fdb27fc", checked := Try.checked }
namespace Rows
def none {H : Type} : Left H := { results := [], args := [] }

/-- 'hornbooklaw08.DestOne': WHATEVER THE INPUT: true; the input reads as it did. -/
def destOneSpec : ChangeSpec := { name := "destOne", fn := fun _ => fun
  | [d1, d2, d3] => { results := [.lit (.bool true)], args := [d1, d2, d3] }
  | _ => none }
def destOneRow : OpenClaim := { program := "ytmjbobbgidpigaa", sum := "0d41280fc431a2e387f47f7eb0b6f9d825b6a130715c0b55a58043277fdb27fc", func := "hornbook/hornbooklaw08.DestOne", spec := "destOne", inPlace := ["slices.overlaps[hornbook/api.Bf]"], unfollowed := true, recurses := true, apart := false }
def DestOneSaid : Prop := destOneRow.holds Try.pinned (OpenSpec.ofChange destOneSpec)

/-- ITS FALSE NEIGHBOUR: 'it returns false'. Refute it at one input. -/
def destOneWrong : ChangeSpec := { name := "destOne", fn := fun _ => fun
  | [d1, d2, d3] => { results := [.lit (.bool false)], args := [d1, d2, d3] }
  | _ => none }
def DestOneWrongFalsely : Prop := destOneRow.holds Try.pinned (OpenSpec.ofChange destOneWrong)

/-- 'hornbooklaw08.DestEnds': WHATEVER THE INPUT: true; the input reads as it did. -/
def destEndsSpec : ChangeSpec := { name := "destEnds", fn := fun _ => fun
  | [d1, d2] => { results := [.lit (.bool true)], args := [d1, d2] }
  | _ => none }
def destEndsRow : OpenClaim := { program := "ytmjbobbgidpigaa", sum := "0d41280fc431a2e387f47f7eb0b6f9d825b6a130715c0b55a58043277fdb27fc", func := "hornbook/hornbooklaw08.DestEnds", spec := "destEnds", inPlace := ["slices.overlaps[hornbook/api.Bf]"], unfollowed := true, recurses := true, apart := false }
def DestEndsSaid : Prop := destEndsRow.holds Try.pinned (OpenSpec.ofChange destEndsSpec)

/-- ITS FALSE NEIGHBOUR: 'it returns false'. Refute it at one input. -/
def destEndsWrong : ChangeSpec := { name := "destEnds", fn := fun _ => fun
  | [d1, d2] => { results := [.lit (.bool false)], args := [d1, d2] }
  | _ => none }
def DestEndsWrongFalsely : Prop := destEndsRow.holds Try.pinned (OpenSpec.ofChange destEndsWrong)

/-- 'hornbooklaw08.DestOrder': WHATEVER THE INPUT: true; the input reads as it did. -/
def destOrderSpec : ChangeSpec := { name := "destOrder", fn := fun _ => fun
  | [d1, d2, d3] => { results := [.lit (.bool true)], args := [d1, d2, d3] }
  | _ => none }
def destOrderRow : OpenClaim := { program := "ytmjbobbgidpigaa", sum := "0d41280fc431a2e387f47f7eb0b6f9d825b6a130715c0b55a58043277fdb27fc", func := "hornbook/hornbooklaw08.DestOrder", spec := "destOrder", inPlace := ["slices.overlaps[hornbook/api.Bf]"], unfollowed := true, recurses := true, apart := false }
def DestOrderSaid : Prop := destOrderRow.holds Try.pinned (OpenSpec.ofChange destOrderSpec)

/-- ITS FALSE NEIGHBOUR: 'it returns false'. Refute it at one input. -/
def destOrderWrong : ChangeSpec := { name := "destOrder", fn := fun _ => fun
  | [d1, d2, d3] => { results := [.lit (.bool false)], args := [d1, d2, d3] }
  | _ => none }
def DestOrderWrongFalsely : Prop := destOrderRow.holds Try.pinned (OpenSpec.ofChange destOrderWrong)

/-- 'hornbooklaw08.DestIs': WHATEVER THE INPUT: true; the input reads as it did. -/
def destIsSpec : ChangeSpec := { name := "destIs", fn := fun _ => fun
  | [d1, d2, d3] => { results := [.lit (.bool true)], args := [d1, d2, d3] }
  | _ => none }
def destIsRow : OpenClaim := { program := "ytmjbobbgidpigaa", sum := "0d41280fc431a2e387f47f7eb0b6f9d825b6a130715c0b55a58043277fdb27fc", func := "hornbook/hornbooklaw08.DestIs", spec := "destIs", inPlace := ["slices.overlaps[hornbook/api.Bf]"], unfollowed := true, recurses := true, apart := false }
def DestIsSaid : Prop := destIsRow.holds Try.pinned (OpenSpec.ofChange destIsSpec)

/-- ITS FALSE NEIGHBOUR: 'it returns false'. Refute it at one input. -/
def destIsWrong : ChangeSpec := { name := "destIs", fn := fun _ => fun
  | [d1, d2, d3] => { results := [.lit (.bool false)], args := [d1, d2, d3] }
  | _ => none }
def DestIsWrongFalsely : Prop := destIsRow.holds Try.pinned (OpenSpec.ofChange destIsWrong)

/-- 'hornbooklaw08.DestFinds': WHATEVER THE INPUT: true; the input reads as it did. -/
def destFindsSpec : ChangeSpec := { name := "destFinds", fn := fun _ => fun
  | [d1, d2] => { results := [.lit (.bool true)], args := [d1, d2] }
  | _ => none }
def destFindsRow : OpenClaim := { program := "ytmjbobbgidpigaa", sum := "0d41280fc431a2e387f47f7eb0b6f9d825b6a130715c0b55a58043277fdb27fc", func := "hornbook/hornbooklaw08.DestFinds", spec := "destFinds", inPlace := ["slices.overlaps[hornbook/api.Bf]"], unfollowed := true, recurses := true, apart := false }
def DestFindsSaid : Prop := destFindsRow.holds Try.pinned (OpenSpec.ofChange destFindsSpec)

/-- ITS FALSE NEIGHBOUR: 'it returns false'. Refute it at one input. -/
def destFindsWrong : ChangeSpec := { name := "destFinds", fn := fun _ => fun
  | [d1, d2] => { results := [.lit (.bool false)], args := [d1, d2] }
  | _ => none }
def DestFindsWrongFalsely : Prop := destFindsRow.holds Try.pinned (OpenSpec.ofChange destFindsWrong)

/-- 'hornbooklaw08.DestRows': WHATEVER THE INPUT: true; the input reads as it did. -/
def destRowsSpec : ChangeSpec := { name := "destRows", fn := fun _ => fun
  | [d1, d2] => { results := [.lit (.bool true)], args := [d1, d2] }
  | _ => none }
def destRowsRow : OpenClaim := { program := "ytmjbobbgidpigaa", sum := "0d41280fc431a2e387f47f7eb0b6f9d825b6a130715c0b55a58043277fdb27fc", func := "hornbook/hornbooklaw08.DestRows", spec := "destRows", inPlace := ["slices.overlaps[hornbook/api.Bf]"], unfollowed := true, recurses := true, apart := false }
def DestRowsSaid : Prop := destRowsRow.holds Try.pinned (OpenSpec.ofChange destRowsSpec)

/-- ITS FALSE NEIGHBOUR: 'it returns false'. Refute it at one input. -/
def destRowsWrong : ChangeSpec := { name := "destRows", fn := fun _ => fun
  | [d1, d2] => { results := [.lit (.bool false)], args := [d1, d2] }
  | _ => none }
def DestRowsWrongFalsely : Prop := destRowsRow.holds Try.pinned (OpenSpec.ofChange destRowsWrong)

/- THE SECOND FORM. 'bulk': how many values and letters a reading holds, each counted each time it is reached (what is shared counts as often as it is met; a slice's spare places count too). A statement '..UptoSaid' is the law's where the arguments, and the package variables that the reading takes, are together of bulk at most 1048576: NARROWER than '..Said'. Prove '..Said' where nothing that the law and all that it calls make is longer than what came in: it says more and counts as full. Else prove '..UptoSaid'. A law counts once. -/
mutual
def uptoBulk {H : Type} : DataW H → Nat
  | .lit (.string bytes) => bytes.length + 1
  | .lit _ => 1
  | .nil => 1
  | .ptr d => uptoBulk d + 1
  | .slice elems spare => uptoBulkAll elems + uptoBulkAll spare + 1
  | .agg parts => uptoBulkAll parts + 1
  | .iface _ d => uptoBulk d + 1
  | .map entries => uptoBulkEntries entries + 1
  | .held _ => 1
def uptoBulkAll {H : Type} : List (DataW H) → Nat
  | [] => 0
  | d :: r => uptoBulk d + uptoBulkAll r
def uptoBulkEntries {H : Type} : List (Lit × DataW H) → Nat
  | [] => 0
  | x :: r => uptoBulkEntry x + uptoBulkEntries r
def uptoBulkEntry {H : Type} : Lit × DataW H → Nat
  | (.string bytes, d) => bytes.length + uptoBulk d + 1
  | (_, d) => uptoBulk d + 1
 end
def uptoSmall : (H : Type) → List (DataW H) → Bool := fun _ ds => decide (uptoBulkAll ds ≤ 1048576)
def OpenSpec.upto (s : _root_.Go.ChangeSpec) : _root_.Go.OpenSpec := { _root_.Go.OpenSpec.ofChange s with cond := some uptoSmall }

/-- 'hornbooklaw08.DestOne', WHERE WHAT IT READS IS OF BULK AT MOST 1048576: true; the input reads as it did. -/
def destOneUptoRow : OpenClaim := { program := "ytmjbobbgidpigaa", sum := "0d41280fc431a2e387f47f7eb0b6f9d825b6a130715c0b55a58043277fdb27fc", func := "hornbook/hornbooklaw08.DestOne", spec := "destOne", inPlace := ["slices.overlaps[hornbook/api.Bf]"], unfollowed := true, recurses := true, apart := false, narrowed := true }
def DestOneUptoSaid : Prop := destOneUptoRow.holds Try.pinned (OpenSpec.upto destOneSpec)

/-- 'hornbooklaw08.DestEnds', WHERE WHAT IT READS IS OF BULK AT MOST 1048576: true; the input reads as it did. -/
def destEndsUptoRow : OpenClaim := { program := "ytmjbobbgidpigaa", sum := "0d41280fc431a2e387f47f7eb0b6f9d825b6a130715c0b55a58043277fdb27fc", func := "hornbook/hornbooklaw08.DestEnds", spec := "destEnds", inPlace := ["slices.overlaps[hornbook/api.Bf]"], unfollowed := true, recurses := true, apart := false, narrowed := true }
def DestEndsUptoSaid : Prop := destEndsUptoRow.holds Try.pinned (OpenSpec.upto destEndsSpec)

/-- 'hornbooklaw08.DestOrder', WHERE WHAT IT READS IS OF BULK AT MOST 1048576: true; the input reads as it did. -/
def destOrderUptoRow : OpenClaim := { program := "ytmjbobbgidpigaa", sum := "0d41280fc431a2e387f47f7eb0b6f9d825b6a130715c0b55a58043277fdb27fc", func := "hornbook/hornbooklaw08.DestOrder", spec := "destOrder", inPlace := ["slices.overlaps[hornbook/api.Bf]"], unfollowed := true, recurses := true, apart := false, narrowed := true }
def DestOrderUptoSaid : Prop := destOrderUptoRow.holds Try.pinned (OpenSpec.upto destOrderSpec)

/-- 'hornbooklaw08.DestIs', WHERE WHAT IT READS IS OF BULK AT MOST 1048576: true; the input reads as it did. -/
def destIsUptoRow : OpenClaim := { program := "ytmjbobbgidpigaa", sum := "0d41280fc431a2e387f47f7eb0b6f9d825b6a130715c0b55a58043277fdb27fc", func := "hornbook/hornbooklaw08.DestIs", spec := "destIs", inPlace := ["slices.overlaps[hornbook/api.Bf]"], unfollowed := true, recurses := true, apart := false, narrowed := true }
def DestIsUptoSaid : Prop := destIsUptoRow.holds Try.pinned (OpenSpec.upto destIsSpec)

/-- 'hornbooklaw08.DestFinds', WHERE WHAT IT READS IS OF BULK AT MOST 1048576: true; the input reads as it did. -/
def destFindsUptoRow : OpenClaim := { program := "ytmjbobbgidpigaa", sum := "0d41280fc431a2e387f47f7eb0b6f9d825b6a130715c0b55a58043277fdb27fc", func := "hornbook/hornbooklaw08.DestFinds", spec := "destFinds", inPlace := ["slices.overlaps[hornbook/api.Bf]"], unfollowed := true, recurses := true, apart := false, narrowed := true }
def DestFindsUptoSaid : Prop := destFindsUptoRow.holds Try.pinned (OpenSpec.upto destFindsSpec)

/-- 'hornbooklaw08.DestRows', WHERE WHAT IT READS IS OF BULK AT MOST 1048576: true; the input reads as it did. -/
def destRowsUptoRow : OpenClaim := { program := "ytmjbobbgidpigaa", sum := "0d41280fc431a2e387f47f7eb0b6f9d825b6a130715c0b55a58043277fdb27fc", func := "hornbook/hornbooklaw08.DestRows", spec := "destRows", inPlace := ["slices.overlaps[hornbook/api.Bf]"], unfollowed := true, recurses := true, apart := false, narrowed := true }
def DestRowsUptoSaid : Prop := destRowsUptoRow.holds Try.pinned (OpenSpec.upto destRowsSpec)

end Rows
end Go.Proofs.Ytmjbobbgidpigaa
