/-
  No cell of these rows narrows 'for every input' (looked for: loops, veiled, ifaces, maps, wideKeys, modest, calm, conditions, laid).
  DERIVED. THE GIVEN ROWS OF THIS SEAT. 6 by the template 'for every input the law returns true; each argument reads behind the call as it read before'; 0 by the template 'total and deterministic' (their statements: YtfiaedpkbhnmkaaTotals.lean).
  GIVEN WITH THE SEED: the statements are not yours to turn. If you find one false, say at which input.
  Laid BY PROGRAM, IN A SANDBOX (cutbox-rows.mjs): the forced cells as the released guide's own fill.sh prints them over the translation e37ee94c3813a377… (all of the seat's roots in one cut). By AI agents, Wed Nov 11 2026. No macro, syntax, notation, axiom, sorry.
-/
import Derived.Test.YtfiaedpkbhnmkaaChecked
import GoSem.Claim
import GoSem.ClaimJoined
import GoSem.ClaimMapViews
import Derived.JoinedTies
import Derived.KernelRfl
namespace Go.Proofs.Ytfiaedpkbhnmkaa
/- THE CELL 'sum', in the pinned program and in every row, IS THE sha256 OF THE DUMP (.gsa) THAT YtfiaedpkbhnmkaaProg.lean LOADS. Nothing in Lean hashes anything: it is a label: what it is worth is what the hold of that sum in a sandbox is worth. -/
noncomputable def Try.pinned : Pinned := { name := "ytfiaedpkbhnmkaa", sum := "e37ee94c3813a3771fd1648ce1140af3ee786bf016f1352c9395894f5f6d58e1", checked := Try.checked }
namespace Rows
def none {H : Type} : Left H := { results := [], args := [] }

/-- 'hornbooklaw19.DoctextBack': WHATEVER THE INPUT: true; the input reads as it did. -/
def doctextBackSpec : ChangeSpec := { name := "doctextBack", fn := fun _ => fun
  | [d] => { results := [.lit (.bool true)], args := [d] }
  | _ => none }
def doctextBackRow : OpenClaim := { program := "ytfiaedpkbhnmkaa", sum := "e37ee94c3813a3771fd1648ce1140af3ee786bf016f1352c9395894f5f6d58e1", func := "hornbook/hornbooklaw19.DoctextBack", spec := "doctextBack", unfollowed := true, recurses := true, apart := false }
def DoctextBackSaid : Prop := doctextBackRow.holds Try.pinned (OpenSpec.ofChange doctextBackSpec)

/-- ITS FALSE NEIGHBOUR: 'it returns false'. Refute it at one input. -/
def doctextBackWrong : ChangeSpec := { name := "doctextBack", fn := fun _ => fun
  | [d] => { results := [.lit (.bool false)], args := [d] }
  | _ => none }
def DoctextBackWrongFalsely : Prop := doctextBackRow.holds Try.pinned (OpenSpec.ofChange doctextBackWrong)

/-- 'hornbooklaw19.DoctextUnits': WHATEVER THE INPUT: true; the input reads as it did. -/
def doctextUnitsSpec : ChangeSpec := { name := "doctextUnits", fn := fun _ => fun
  | [d1, d2] => { results := [.lit (.bool true)], args := [d1, d2] }
  | _ => none }
def doctextUnitsRow : OpenClaim := { program := "ytfiaedpkbhnmkaa", sum := "e37ee94c3813a3771fd1648ce1140af3ee786bf016f1352c9395894f5f6d58e1", func := "hornbook/hornbooklaw19.DoctextUnits", spec := "doctextUnits", unfollowed := true, recurses := true, apart := false }
def DoctextUnitsSaid : Prop := doctextUnitsRow.holds Try.pinned (OpenSpec.ofChange doctextUnitsSpec)

/-- ITS FALSE NEIGHBOUR: 'it returns false'. Refute it at one input. -/
def doctextUnitsWrong : ChangeSpec := { name := "doctextUnits", fn := fun _ => fun
  | [d1, d2] => { results := [.lit (.bool false)], args := [d1, d2] }
  | _ => none }
def DoctextUnitsWrongFalsely : Prop := doctextUnitsRow.holds Try.pinned (OpenSpec.ofChange doctextUnitsWrong)

/-- 'hornbooklaw19.DoctextRows': WHATEVER THE INPUT: true; the input reads as it did. -/
def doctextRowsSpec : ChangeSpec := { name := "doctextRows", fn := fun _ => fun
  | [d1, d2] => { results := [.lit (.bool true)], args := [d1, d2] }
  | _ => none }
def doctextRowsRow : OpenClaim := { program := "ytfiaedpkbhnmkaa", sum := "e37ee94c3813a3771fd1648ce1140af3ee786bf016f1352c9395894f5f6d58e1", func := "hornbook/hornbooklaw19.DoctextRows", spec := "doctextRows", unfollowed := true, recurses := true, apart := false }
def DoctextRowsSaid : Prop := doctextRowsRow.holds Try.pinned (OpenSpec.ofChange doctextRowsSpec)

/-- ITS FALSE NEIGHBOUR: 'it returns false'. Refute it at one input. -/
def doctextRowsWrong : ChangeSpec := { name := "doctextRows", fn := fun _ => fun
  | [d1, d2] => { results := [.lit (.bool false)], args := [d1, d2] }
  | _ => none }
def DoctextRowsWrongFalsely : Prop := doctextRowsRow.holds Try.pinned (OpenSpec.ofChange doctextRowsWrong)

/-- 'hornbooklaw19.DoctextPlain': WHATEVER THE INPUT: true; the input reads as it did. -/
def doctextPlainSpec : ChangeSpec := { name := "doctextPlain", fn := fun _ => fun
  | [d] => { results := [.lit (.bool true)], args := [d] }
  | _ => none }
def doctextPlainRow : OpenClaim := { program := "ytfiaedpkbhnmkaa", sum := "e37ee94c3813a3771fd1648ce1140af3ee786bf016f1352c9395894f5f6d58e1", func := "hornbook/hornbooklaw19.DoctextPlain", spec := "doctextPlain", unfollowed := true, recurses := true, apart := false }
def DoctextPlainSaid : Prop := doctextPlainRow.holds Try.pinned (OpenSpec.ofChange doctextPlainSpec)

/-- ITS FALSE NEIGHBOUR: 'it returns false'. Refute it at one input. -/
def doctextPlainWrong : ChangeSpec := { name := "doctextPlain", fn := fun _ => fun
  | [d] => { results := [.lit (.bool false)], args := [d] }
  | _ => none }
def DoctextPlainWrongFalsely : Prop := doctextPlainRow.holds Try.pinned (OpenSpec.ofChange doctextPlainWrong)

/-- 'hornbooklaw19.DoctextIs': WHATEVER THE INPUT: true; the input reads as it did. -/
def doctextIsSpec : ChangeSpec := { name := "doctextIs", fn := fun _ => fun
  | [d1, d2, d3] => { results := [.lit (.bool true)], args := [d1, d2, d3] }
  | _ => none }
def doctextIsRow : OpenClaim := { program := "ytfiaedpkbhnmkaa", sum := "e37ee94c3813a3771fd1648ce1140af3ee786bf016f1352c9395894f5f6d58e1", func := "hornbook/hornbooklaw19.DoctextIs", spec := "doctextIs", unfollowed := true, recurses := true, apart := false }
def DoctextIsSaid : Prop := doctextIsRow.holds Try.pinned (OpenSpec.ofChange doctextIsSpec)

/-- ITS FALSE NEIGHBOUR: 'it returns false'. Refute it at one input. -/
def doctextIsWrong : ChangeSpec := { name := "doctextIs", fn := fun _ => fun
  | [d1, d2, d3] => { results := [.lit (.bool false)], args := [d1, d2, d3] }
  | _ => none }
def DoctextIsWrongFalsely : Prop := doctextIsRow.holds Try.pinned (OpenSpec.ofChange doctextIsWrong)

/-- 'hornbooklaw19.DoctextBytes': WHATEVER THE INPUT: true; the input reads as it did. -/
def doctextBytesSpec : ChangeSpec := { name := "doctextBytes", fn := fun _ => fun
  | [d1, d2] => { results := [.lit (.bool true)], args := [d1, d2] }
  | _ => none }
def doctextBytesRow : OpenClaim := { program := "ytfiaedpkbhnmkaa", sum := "e37ee94c3813a3771fd1648ce1140af3ee786bf016f1352c9395894f5f6d58e1", func := "hornbook/hornbooklaw19.DoctextBytes", spec := "doctextBytes", unfollowed := true, recurses := true, apart := false }
def DoctextBytesSaid : Prop := doctextBytesRow.holds Try.pinned (OpenSpec.ofChange doctextBytesSpec)

/-- ITS FALSE NEIGHBOUR: 'it returns false'. Refute it at one input. -/
def doctextBytesWrong : ChangeSpec := { name := "doctextBytes", fn := fun _ => fun
  | [d1, d2] => { results := [.lit (.bool false)], args := [d1, d2] }
  | _ => none }
def DoctextBytesWrongFalsely : Prop := doctextBytesRow.holds Try.pinned (OpenSpec.ofChange doctextBytesWrong)

/- THE SECOND FORM. 'bulk': how many values and letters a reading holds, each counted each time it is reached (what is shared counts as often as it is met; a slice's spare places count too). A statement '..UptoSaid' is the law's where the arguments, and the package variables that the reading takes, are together of bulk at most 1048576: NARROWER than '..Said'. Prove '..Said' where nothing that the law and all that it calls make is longer than what came in: it says more and counts as full. Else prove '..UptoSaid'. A law counts once. -/
mutual
def uptoBulk {H : Type} : DataW H → Nat
  | .lit (.string bytes) => bytes.length + 1
  | .lit _ => 1
  | .nil => 1
  | .ptr d => uptoBulk d + 1
  | .slice elems spare => uptoBulkAll elems + uptoBulkAll spare + 1
  | .agg parts => uptoBulkAll parts + 1
  | .iface _ d => uptoBulk d + 1
  | .map entries => uptoBulkEntries entries + 1
  | .held _ => 1
def uptoBulkAll {H : Type} : List (DataW H) → Nat
  | [] => 0
  | d :: r => uptoBulk d + uptoBulkAll r
def uptoBulkEntries {H : Type} : List (Lit × DataW H) → Nat
  | [] => 0
  | x :: r => uptoBulkEntry x + uptoBulkEntries r
def uptoBulkEntry {H : Type} : Lit × DataW H → Nat
  | (.string bytes, d) => bytes.length + uptoBulk d + 1
  | (_, d) => uptoBulk d + 1
 end
def uptoSmall : (H : Type) → List (DataW H) → Bool := fun _ ds => decide (uptoBulkAll ds ≤ 1048576)
def OpenSpec.upto (s : _root_.Go.ChangeSpec) : _root_.Go.OpenSpec := { _root_.Go.OpenSpec.ofChange s with cond := some uptoSmall }

/-- 'hornbooklaw19.DoctextBack', WHERE WHAT IT READS IS OF BULK AT MOST 1048576: true; the input reads as it did. -/
def doctextBackUptoRow : OpenClaim := { program := "ytfiaedpkbhnmkaa", sum := "e37ee94c3813a3771fd1648ce1140af3ee786bf016f1352c9395894f5f6d58e1", func := "hornbook/hornbooklaw19.DoctextBack", spec := "doctextBack", unfollowed := true, recurses := true, apart := false, narrowed := true }
def DoctextBackUptoSaid : Prop := doctextBackUptoRow.holds Try.pinned (OpenSpec.upto doctextBackSpec)

/-- 'hornbooklaw19.DoctextUnits', WHERE WHAT IT READS IS OF BULK AT MOST 1048576: true; the input reads as it did. -/
def doctextUnitsUptoRow : OpenClaim := { program := "ytfiaedpkbhnmkaa", sum := "e37ee94c3813a3771fd1648ce1140af3ee786bf016f1352c9395894f5f6d58e1", func := "hornbook/hornbooklaw19.DoctextUnits", spec := "doctextUnits", unfollowed := true, recurses := true, apart := false, narrowed := true }
def DoctextUnitsUptoSaid : Prop := doctextUnitsUptoRow.holds Try.pinned (OpenSpec.upto doctextUnitsSpec)

/-- 'hornbooklaw19.DoctextRows', WHERE WHAT IT READS IS OF BULK AT MOST 1048576: true; the input reads as it did. -/
def doctextRowsUptoRow : OpenClaim := { program := "ytfiaedpkbhnmkaa", sum := "e37ee94c3813a3771fd1648ce1140af3ee786bf016f1352c9395894f5f6d58e1", func := "hornbook/hornbooklaw19.DoctextRows", spec := "doctextRows", unfollowed := true, recurses := true, apart := false, narrowed := true }
def DoctextRowsUptoSaid : Prop := doctextRowsUptoRow.holds Try.pinned (OpenSpec.upto doctextRowsSpec)

/-- 'hornbooklaw19.DoctextPlain', WHERE WHAT IT READS IS OF BULK AT MOST 1048576: true; the input reads as it did. -/
def doctextPlainUptoRow : OpenClaim := { program := "ytfiaedpkbhnmkaa", sum := "e37ee94c3813a3771fd1648ce1140af3ee786bf016f1352c9395894f5f6d58e1", func := "hornbook/hornbooklaw19.DoctextPlain", spec := "doctextPlain", unfollowed := true, recurses := true, apart := false, narrowed := true }
def DoctextPlainUptoSaid : Prop := doctextPlainUptoRow.holds Try.pinned (OpenSpec.upto doctextPlainSpec)

/-- 'hornbooklaw19.DoctextIs', WHERE WHAT IT READS IS OF BULK AT MOST 1048576: true; the input reads as it did. -/
def doctextIsUptoRow : OpenClaim := { program := "ytfiaedpkbhnmkaa", sum := "e37ee94c3813a3771fd1648ce1140af3ee786bf016f1352c9395894f5f6d58e1", func := "hornbook/hornbooklaw19.DoctextIs", spec := "doctextIs", unfollowed := true, recurses := true, apart := false, narrowed := true }
def DoctextIsUptoSaid : Prop := doctextIsUptoRow.holds Try.pinned (OpenSpec.upto doctextIsSpec)

/-- 'hornbooklaw19.DoctextBytes', WHERE WHAT IT READS IS OF BULK AT MOST 1048576: true; the input reads as it did. -/
def doctextBytesUptoRow : OpenClaim := { program := "ytfiaedpkbhnmkaa", sum := "e37ee94c3813a3771fd1648ce1140af3ee786bf016f1352c9395894f5f6d58e1", func := "hornbook/hornbooklaw19.DoctextBytes", spec := "doctextBytes", unfollowed := true, recurses := true, apart := false, narrowed := true }
def DoctextBytesUptoSaid : Prop := doctextBytesUptoRow.holds Try.pinned (OpenSpec.upto doctextBytesSpec)

end Rows
end Go.Proofs.Ytfiaedpkbhnmkaa
