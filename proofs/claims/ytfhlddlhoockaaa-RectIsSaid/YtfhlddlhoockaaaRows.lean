/-
  No cell of these rows narrows 'for every input' (looked for: loops, veiled, ifaces, maps, wideKeys, modest, calm, conditions, laid).
  DERIVED. THE GIVEN ROWS OF THIS SEAT. 7 by the template 'for every input the law returns true; each argument reads behind the call as it read before'; 0 by the template 'total and deterministic' (their statements: YtfhlddlhoockaaaTotals.lean).
  GIVEN WITH THE SEED: the statements are not yours to turn. If you find one false, say at which input.
  Laid BY PROGRAM, IN A SANDBOX (cutbox-rows.mjs): the forced cells as the released guide's own fill.sh prints them over the translation ad33c6f452792c62… (all of the seat's roots in one cut). By AI agents, Wed Nov 11 2026. No macro, syntax, notation, axiom, sorry.
-/
import Derived.Test.YtfhlddlhoockaaaChecked
import GoSem.Claim
import GoSem.ClaimJoined
import GoSem.ClaimMapViews
import Derived.JoinedTies
import Derived.KernelRfl
namespace Go.Proofs.Ytfhlddlhoockaaa
/- THE CELL 'sum', in the pinned program and in every row, IS THE sha256 OF THE DUMP (.gsa) THAT YtfhlddlhoockaaaProg.lean LOADS. Nothing in Lean hashes anything: it is a label: what it is worth is what the hold of that sum in a sandbox is worth. -/
noncomputable def Try.pinned : Pinned := { name := "ytfhlddlhoockaaa", sum := "ad33c6f452792c62ccff4846d5d09955cad36a927663b7b0db381e60b4c83816", checked := Try.checked }
namespace Rows
def none {H : Type} : Left H := { results := [], args := [] }

/-- 'hornbooklaw06.RectCanon': WHATEVER THE INPUT: true; the input reads as it did. -/
def rectCanonSpec : ChangeSpec := { name := "rectCanon", fn := fun _ => fun
  | [d] => { results := [.lit (.bool true)], args := [d] }
  | _ => none }
def rectCanonRow : OpenClaim := { program := "ytfhlddlhoockaaa", sum := "ad33c6f452792c62ccff4846d5d09955cad36a927663b7b0db381e60b4c83816", func := "hornbook/hornbooklaw06.RectCanon", spec := "rectCanon", unfollowed := true, recurses := true, apart := false }
def RectCanonSaid : Prop := rectCanonRow.holds Try.pinned (OpenSpec.ofChange rectCanonSpec)

/-- ITS FALSE NEIGHBOUR: 'it returns false'. Refute it at one input. -/
def rectCanonWrong : ChangeSpec := { name := "rectCanon", fn := fun _ => fun
  | [d] => { results := [.lit (.bool false)], args := [d] }
  | _ => none }
def RectCanonWrongFalsely : Prop := rectCanonRow.holds Try.pinned (OpenSpec.ofChange rectCanonWrong)

/-- 'hornbooklaw06.RectWhole': WHATEVER THE INPUT: true; the input reads as it did. -/
def rectWholeSpec : ChangeSpec := { name := "rectWhole", fn := fun _ => fun
  | [d1, d2] => { results := [.lit (.bool true)], args := [d1, d2] }
  | _ => none }
def rectWholeRow : OpenClaim := { program := "ytfhlddlhoockaaa", sum := "ad33c6f452792c62ccff4846d5d09955cad36a927663b7b0db381e60b4c83816", func := "hornbook/hornbooklaw06.RectWhole", spec := "rectWhole", unfollowed := true, recurses := true, apart := false }
def RectWholeSaid : Prop := rectWholeRow.holds Try.pinned (OpenSpec.ofChange rectWholeSpec)

/-- ITS FALSE NEIGHBOUR: 'it returns false'. Refute it at one input. -/
def rectWholeWrong : ChangeSpec := { name := "rectWhole", fn := fun _ => fun
  | [d1, d2] => { results := [.lit (.bool false)], args := [d1, d2] }
  | _ => none }
def RectWholeWrongFalsely : Prop := rectWholeRow.holds Try.pinned (OpenSpec.ofChange rectWholeWrong)

/-- 'hornbooklaw06.RectMore': WHATEVER THE INPUT: true; the input reads as it did. -/
def rectMoreSpec : ChangeSpec := { name := "rectMore", fn := fun _ => fun
  | [d1, d2] => { results := [.lit (.bool true)], args := [d1, d2] }
  | _ => none }
def rectMoreRow : OpenClaim := { program := "ytfhlddlhoockaaa", sum := "ad33c6f452792c62ccff4846d5d09955cad36a927663b7b0db381e60b4c83816", func := "hornbook/hornbooklaw06.RectMore", spec := "rectMore", unfollowed := true, recurses := true, apart := false }
def RectMoreSaid : Prop := rectMoreRow.holds Try.pinned (OpenSpec.ofChange rectMoreSpec)

/-- ITS FALSE NEIGHBOUR: 'it returns false'. Refute it at one input. -/
def rectMoreWrong : ChangeSpec := { name := "rectMore", fn := fun _ => fun
  | [d1, d2] => { results := [.lit (.bool false)], args := [d1, d2] }
  | _ => none }
def RectMoreWrongFalsely : Prop := rectMoreRow.holds Try.pinned (OpenSpec.ofChange rectMoreWrong)

/-- 'hornbooklaw06.RectFits': WHATEVER THE INPUT: true; the input reads as it did. -/
def rectFitsSpec : ChangeSpec := { name := "rectFits", fn := fun _ => fun
  | [d1, d2, d3] => { results := [.lit (.bool true)], args := [d1, d2, d3] }
  | _ => none }
def rectFitsRow : OpenClaim := { program := "ytfhlddlhoockaaa", sum := "ad33c6f452792c62ccff4846d5d09955cad36a927663b7b0db381e60b4c83816", func := "hornbook/hornbooklaw06.RectFits", spec := "rectFits", unfollowed := true, recurses := true, apart := false }
def RectFitsSaid : Prop := rectFitsRow.holds Try.pinned (OpenSpec.ofChange rectFitsSpec)

/-- ITS FALSE NEIGHBOUR: 'it returns false'. Refute it at one input. -/
def rectFitsWrong : ChangeSpec := { name := "rectFits", fn := fun _ => fun
  | [d1, d2, d3] => { results := [.lit (.bool false)], args := [d1, d2, d3] }
  | _ => none }
def RectFitsWrongFalsely : Prop := rectFitsRow.holds Try.pinned (OpenSpec.ofChange rectFitsWrong)

/-- 'hornbooklaw06.RectIs': WHATEVER THE INPUT: true; the input reads as it did. -/
def rectIsSpec : ChangeSpec := { name := "rectIs", fn := fun _ => fun
  | [d1, d2, d3, d4, d5] => { results := [.lit (.bool true)], args := [d1, d2, d3, d4, d5] }
  | _ => none }
def rectIsRow : OpenClaim := { program := "ytfhlddlhoockaaa", sum := "ad33c6f452792c62ccff4846d5d09955cad36a927663b7b0db381e60b4c83816", func := "hornbook/hornbooklaw06.RectIs", spec := "rectIs", unfollowed := true, recurses := true, apart := false }
def RectIsSaid : Prop := rectIsRow.holds Try.pinned (OpenSpec.ofChange rectIsSpec)

/-- ITS FALSE NEIGHBOUR: 'it returns false'. Refute it at one input. -/
def rectIsWrong : ChangeSpec := { name := "rectIs", fn := fun _ => fun
  | [d1, d2, d3, d4, d5] => { results := [.lit (.bool false)], args := [d1, d2, d3, d4, d5] }
  | _ => none }
def RectIsWrongFalsely : Prop := rectIsRow.holds Try.pinned (OpenSpec.ofChange rectIsWrong)

/-- 'hornbooklaw06.RectCounts': WHATEVER THE INPUT: true; the input reads as it did. -/
def rectCountsSpec : ChangeSpec := { name := "rectCounts", fn := fun _ => fun
  | [d1, d2] => { results := [.lit (.bool true)], args := [d1, d2] }
  | _ => none }
def rectCountsRow : OpenClaim := { program := "ytfhlddlhoockaaa", sum := "ad33c6f452792c62ccff4846d5d09955cad36a927663b7b0db381e60b4c83816", func := "hornbook/hornbooklaw06.RectCounts", spec := "rectCounts", unfollowed := true, recurses := true, apart := false }
def RectCountsSaid : Prop := rectCountsRow.holds Try.pinned (OpenSpec.ofChange rectCountsSpec)

/-- ITS FALSE NEIGHBOUR: 'it returns false'. Refute it at one input. -/
def rectCountsWrong : ChangeSpec := { name := "rectCounts", fn := fun _ => fun
  | [d1, d2] => { results := [.lit (.bool false)], args := [d1, d2] }
  | _ => none }
def RectCountsWrongFalsely : Prop := rectCountsRow.holds Try.pinned (OpenSpec.ofChange rectCountsWrong)

/-- 'hornbooklaw06.RectSub': WHATEVER THE INPUT: true; the input reads as it did. -/
def rectSubSpec : ChangeSpec := { name := "rectSub", fn := fun _ => fun
  | [d1, d2, d3] => { results := [.lit (.bool true)], args := [d1, d2, d3] }
  | _ => none }
def rectSubRow : OpenClaim := { program := "ytfhlddlhoockaaa", sum := "ad33c6f452792c62ccff4846d5d09955cad36a927663b7b0db381e60b4c83816", func := "hornbook/hornbooklaw06.RectSub", spec := "rectSub", unfollowed := true, recurses := true, apart := false }
def RectSubSaid : Prop := rectSubRow.holds Try.pinned (OpenSpec.ofChange rectSubSpec)

/-- ITS FALSE NEIGHBOUR: 'it returns false'. Refute it at one input. -/
def rectSubWrong : ChangeSpec := { name := "rectSub", fn := fun _ => fun
  | [d1, d2, d3] => { results := [.lit (.bool false)], args := [d1, d2, d3] }
  | _ => none }
def RectSubWrongFalsely : Prop := rectSubRow.holds Try.pinned (OpenSpec.ofChange rectSubWrong)

/- THE SECOND FORM. 'bulk': how many values and letters a reading holds, each counted each time it is reached (what is shared counts as often as it is met; a slice's spare places count too). A statement '..UptoSaid' is the law's where the arguments, and the package variables that the reading takes, are together of bulk at most 1048576: NARROWER than '..Said'. Prove '..Said' where nothing that the law and all that it calls make is longer than what came in: it says more and counts as full. Else prove '..UptoSaid'. A law counts once. -/
mutual
def uptoBulk {H : Type} : DataW H → Nat
  | .lit (.string bytes) => bytes.length + 1
  | .lit _ => 1
  | .nil => 1
  | .ptr d => uptoBulk d + 1
  | .slice elems spare => uptoBulkAll elems + uptoBulkAll spare + 1
  | .agg parts => uptoBulkAll parts + 1
  | .iface _ d => uptoBulk d + 1
  | .map entries => uptoBulkEntries entries + 1
  | .held _ => 1
def uptoBulkAll {H : Type} : List (DataW H) → Nat
  | [] => 0
  | d :: r => uptoBulk d + uptoBulkAll r
def uptoBulkEntries {H : Type} : List (Lit × DataW H) → Nat
  | [] => 0
  | x :: r => uptoBulkEntry x + uptoBulkEntries r
def uptoBulkEntry {H : Type} : Lit × DataW H → Nat
  | (.string bytes, d) => bytes.length + uptoBulk d + 1
  | (_, d) => uptoBulk d + 1
 end
def uptoSmall : (H : Type) → List (DataW H) → Bool := fun _ ds => decide (uptoBulkAll ds ≤ 1048576)
def OpenSpec.upto (s : _root_.Go.ChangeSpec) : _root_.Go.OpenSpec := { _root_.Go.OpenSpec.ofChange s with cond := some uptoSmall }

/-- 'hornbooklaw06.RectCanon', WHERE WHAT IT READS IS OF BULK AT MOST 1048576: true; the input reads as it did. -/
def rectCanonUptoRow : OpenClaim := { program := "ytfhlddlhoockaaa", sum := "ad33c6f452792c62ccff4846d5d09955cad36a927663b7b0db381e60b4c83816", func := "hornbook/hornbooklaw06.RectCanon", spec := "rectCanon", unfollowed := true, recurses := true, apart := false, narrowed := true }
def RectCanonUptoSaid : Prop := rectCanonUptoRow.holds Try.pinned (OpenSpec.upto rectCanonSpec)

/-- 'hornbooklaw06.RectWhole', WHERE WHAT IT READS IS OF BULK AT MOST 1048576: true; the input reads as it did. -/
def rectWholeUptoRow : OpenClaim := { program := "ytfhlddlhoockaaa", sum := "ad33c6f452792c62ccff4846d5d09955cad36a927663b7b0db381e60b4c83816", func := "hornbook/hornbooklaw06.RectWhole", spec := "rectWhole", unfollowed := true, recurses := true, apart := false, narrowed := true }
def RectWholeUptoSaid : Prop := rectWholeUptoRow.holds Try.pinned (OpenSpec.upto rectWholeSpec)

/-- 'hornbooklaw06.RectMore', WHERE WHAT IT READS IS OF BULK AT MOST 1048576: true; the input reads as it did. -/
def rectMoreUptoRow : OpenClaim := { program := "ytfhlddlhoockaaa", sum := "ad33c6f452792c62ccff4846d5d09955cad36a927663b7b0db381e60b4c83816", func := "hornbook/hornbooklaw06.RectMore", spec := "rectMore", unfollowed := true, recurses := true, apart := false, narrowed := true }
def RectMoreUptoSaid : Prop := rectMoreUptoRow.holds Try.pinned (OpenSpec.upto rectMoreSpec)

/-- 'hornbooklaw06.RectFits', WHERE WHAT IT READS IS OF BULK AT MOST 1048576: true; the input reads as it did. -/
def rectFitsUptoRow : OpenClaim := { program := "ytfhlddlhoockaaa", sum := "ad33c6f452792c62ccff4846d5d09955cad36a927663b7b0db381e60b4c83816", func := "hornbook/hornbooklaw06.RectFits", spec := "rectFits", unfollowed := true, recurses := true, apart := false, narrowed := true }
def RectFitsUptoSaid : Prop := rectFitsUptoRow.holds Try.pinned (OpenSpec.upto rectFitsSpec)

/-- 'hornbooklaw06.RectIs', WHERE WHAT IT READS IS OF BULK AT MOST 1048576: true; the input reads as it did. -/
def rectIsUptoRow : OpenClaim := { program := "ytfhlddlhoockaaa", sum := "ad33c6f452792c62ccff4846d5d09955cad36a927663b7b0db381e60b4c83816", func := "hornbook/hornbooklaw06.RectIs", spec := "rectIs", unfollowed := true, recurses := true, apart := false, narrowed := true }
def RectIsUptoSaid : Prop := rectIsUptoRow.holds Try.pinned (OpenSpec.upto rectIsSpec)

/-- 'hornbooklaw06.RectCounts', WHERE WHAT IT READS IS OF BULK AT MOST 1048576: true; the input reads as it did. -/
def rectCountsUptoRow : OpenClaim := { program := "ytfhlddlhoockaaa", sum := "ad33c6f452792c62ccff4846d5d09955cad36a927663b7b0db381e60b4c83816", func := "hornbook/hornbooklaw06.RectCounts", spec := "rectCounts", unfollowed := true, recurses := true, apart := false, narrowed := true }
def RectCountsUptoSaid : Prop := rectCountsUptoRow.holds Try.pinned (OpenSpec.upto rectCountsSpec)

/-- 'hornbooklaw06.RectSub', WHERE WHAT IT READS IS OF BULK AT MOST 1048576: true; the input reads as it did. -/
def rectSubUptoRow : OpenClaim := { program := "ytfhlddlhoockaaa", sum := "ad33c6f452792c62ccff4846d5d09955cad36a927663b7b0db381e60b4c83816", func := "hornbook/hornbooklaw06.RectSub", spec := "rectSub", unfollowed := true, recurses := true, apart := false, narrowed := true }
def RectSubUptoSaid : Prop := rectSubUptoRow.holds Try.pinned (OpenSpec.upto rectSubSpec)

end Rows
end Go.Proofs.Ytfhlddlhoockaaa
