/-
  No cell of these rows narrows 'for every input' (looked for: loops, veiled, ifaces, maps, wideKeys, modest, calm, conditions, laid).
  DERIVED. THE GIVEN ROWS OF THIS SEAT. 6 by the template 'for every input the law returns true; each argument reads behind the call as it read before'; 0 by the template 'total and deterministic' (their statements: YtehknkgplldiiaaTotals.lean).
  GIVEN WITH THE SEED: the statements are not yours to turn. If you find one false, say at which input.
  Laid BY PROGRAM, IN A SANDBOX (cutbox-rows.mjs): the forced cells as the released guide's own fill.sh prints them over the translation c50d645d63f3bca2… (all of the seat's roots in one cut). By AI agents, Wed Nov 11 2026. No macro, syntax, notation, axiom, sorry.
-/
import Derived.Test.YtehknkgplldiiaaChecked
import GoSem.Claim
import GoSem.ClaimJoined
import GoSem.ClaimMapViews
import Derived.JoinedTies
import Derived.KernelRfl
namespace Go.Proofs.Ytehknkgplldiiaa
/- THE CELL 'sum', in the pinned program and in every row, IS THE sha256 OF THE DUMP (.gsa) THAT YtehknkgplldiiaaProg.lean LOADS. Nothing in Lean hashes anything: it is a label: what it is worth is what the hold of that sum in a sandbox is worth. -/
noncomputable def Try.pinned : Pinned := { name := "ytehknkgplldiiaa", sum := "c50d645d63f3bca22a1034212ebaf60b163db27f5ac8b78ec9306e33341784d1", checked := Try.checked }
namespace Rows
def none {H : Type} : Left H := { results := [], args := [] }

/-- 'hornbooklaw07.SpanOne': WHATEVER THE INPUT: true; the input reads as it did. -/
def spanOneSpec : ChangeSpec := { name := "spanOne", fn := fun _ => fun
  | [d1, d2, d3] => { results := [.lit (.bool true)], args := [d1, d2, d3] }
  | _ => none }
def spanOneRow : OpenClaim := { program := "ytehknkgplldiiaa", sum := "c50d645d63f3bca22a1034212ebaf60b163db27f5ac8b78ec9306e33341784d1", func := "hornbook/hornbooklaw07.SpanOne", spec := "spanOne", inPlace := ["slices.overlaps[hornbook/api.Span]"], unfollowed := true, recurses := true, apart := false }
def SpanOneSaid : Prop := spanOneRow.holds Try.pinned (OpenSpec.ofChange spanOneSpec)

/-- ITS FALSE NEIGHBOUR: 'it returns false'. Refute it at one input. -/
def spanOneWrong : ChangeSpec := { name := "spanOne", fn := fun _ => fun
  | [d1, d2, d3] => { results := [.lit (.bool false)], args := [d1, d2, d3] }
  | _ => none }
def SpanOneWrongFalsely : Prop := spanOneRow.holds Try.pinned (OpenSpec.ofChange spanOneWrong)

/-- 'hornbooklaw07.SpanEnds': WHATEVER THE INPUT: true; the input reads as it did. -/
def spanEndsSpec : ChangeSpec := { name := "spanEnds", fn := fun _ => fun
  | [d1, d2, d3] => { results := [.lit (.bool true)], args := [d1, d2, d3] }
  | _ => none }
def spanEndsRow : OpenClaim := { program := "ytehknkgplldiiaa", sum := "c50d645d63f3bca22a1034212ebaf60b163db27f5ac8b78ec9306e33341784d1", func := "hornbook/hornbooklaw07.SpanEnds", spec := "spanEnds", inPlace := ["slices.overlaps[hornbook/api.Span]"], unfollowed := true, recurses := true, apart := false }
def SpanEndsSaid : Prop := spanEndsRow.holds Try.pinned (OpenSpec.ofChange spanEndsSpec)

/-- ITS FALSE NEIGHBOUR: 'it returns false'. Refute it at one input. -/
def spanEndsWrong : ChangeSpec := { name := "spanEnds", fn := fun _ => fun
  | [d1, d2, d3] => { results := [.lit (.bool false)], args := [d1, d2, d3] }
  | _ => none }
def SpanEndsWrongFalsely : Prop := spanEndsRow.holds Try.pinned (OpenSpec.ofChange spanEndsWrong)

/-- 'hornbooklaw07.SpanOverrides': WHATEVER THE INPUT: true; the input reads as it did. -/
def spanOverridesSpec : ChangeSpec := { name := "spanOverrides", fn := fun _ => fun
  | [d1, d2, d3, d4] => { results := [.lit (.bool true)], args := [d1, d2, d3, d4] }
  | _ => none }
def spanOverridesRow : OpenClaim := { program := "ytehknkgplldiiaa", sum := "c50d645d63f3bca22a1034212ebaf60b163db27f5ac8b78ec9306e33341784d1", func := "hornbook/hornbooklaw07.SpanOverrides", spec := "spanOverrides", inPlace := ["slices.overlaps[hornbook/api.Span]"], unfollowed := true, recurses := true, apart := false }
def SpanOverridesSaid : Prop := spanOverridesRow.holds Try.pinned (OpenSpec.ofChange spanOverridesSpec)

/-- ITS FALSE NEIGHBOUR: 'it returns false'. Refute it at one input. -/
def spanOverridesWrong : ChangeSpec := { name := "spanOverrides", fn := fun _ => fun
  | [d1, d2, d3, d4] => { results := [.lit (.bool false)], args := [d1, d2, d3, d4] }
  | _ => none }
def SpanOverridesWrongFalsely : Prop := spanOverridesRow.holds Try.pinned (OpenSpec.ofChange spanOverridesWrong)

/-- 'hornbooklaw07.SpanOrder': WHATEVER THE INPUT: true; the input reads as it did. -/
def spanOrderSpec : ChangeSpec := { name := "spanOrder", fn := fun _ => fun
  | [d1, d2, d3, d4] => { results := [.lit (.bool true)], args := [d1, d2, d3, d4] }
  | _ => none }
def spanOrderRow : OpenClaim := { program := "ytehknkgplldiiaa", sum := "c50d645d63f3bca22a1034212ebaf60b163db27f5ac8b78ec9306e33341784d1", func := "hornbook/hornbooklaw07.SpanOrder", spec := "spanOrder", inPlace := ["slices.overlaps[hornbook/api.Span]"], unfollowed := true, recurses := true, apart := false }
def SpanOrderSaid : Prop := spanOrderRow.holds Try.pinned (OpenSpec.ofChange spanOrderSpec)

/-- ITS FALSE NEIGHBOUR: 'it returns false'. Refute it at one input. -/
def spanOrderWrong : ChangeSpec := { name := "spanOrder", fn := fun _ => fun
  | [d1, d2, d3, d4] => { results := [.lit (.bool false)], args := [d1, d2, d3, d4] }
  | _ => none }
def SpanOrderWrongFalsely : Prop := spanOrderRow.holds Try.pinned (OpenSpec.ofChange spanOrderWrong)

/-- 'hornbooklaw07.SpanFinds': WHATEVER THE INPUT: true; the input reads as it did. -/
def spanFindsSpec : ChangeSpec := { name := "spanFinds", fn := fun _ => fun
  | [d1, d2, d3] => { results := [.lit (.bool true)], args := [d1, d2, d3] }
  | _ => none }
def spanFindsRow : OpenClaim := { program := "ytehknkgplldiiaa", sum := "c50d645d63f3bca22a1034212ebaf60b163db27f5ac8b78ec9306e33341784d1", func := "hornbook/hornbooklaw07.SpanFinds", spec := "spanFinds", inPlace := ["slices.overlaps[hornbook/api.Span]"], unfollowed := true, recurses := true, apart := false }
def SpanFindsSaid : Prop := spanFindsRow.holds Try.pinned (OpenSpec.ofChange spanFindsSpec)

/-- ITS FALSE NEIGHBOUR: 'it returns false'. Refute it at one input. -/
def spanFindsWrong : ChangeSpec := { name := "spanFinds", fn := fun _ => fun
  | [d1, d2, d3] => { results := [.lit (.bool false)], args := [d1, d2, d3] }
  | _ => none }
def SpanFindsWrongFalsely : Prop := spanFindsRow.holds Try.pinned (OpenSpec.ofChange spanFindsWrong)

/-- 'hornbooklaw07.SpanIs': WHATEVER THE INPUT: true; the input reads as it did. -/
def spanIsSpec : ChangeSpec := { name := "spanIs", fn := fun _ => fun
  | [d1, d2, d3, d4] => { results := [.lit (.bool true)], args := [d1, d2, d3, d4] }
  | _ => none }
def spanIsRow : OpenClaim := { program := "ytehknkgplldiiaa", sum := "c50d645d63f3bca22a1034212ebaf60b163db27f5ac8b78ec9306e33341784d1", func := "hornbook/hornbooklaw07.SpanIs", spec := "spanIs", inPlace := ["slices.overlaps[hornbook/api.Span]"], unfollowed := true, recurses := true, apart := false }
def SpanIsSaid : Prop := spanIsRow.holds Try.pinned (OpenSpec.ofChange spanIsSpec)

/-- ITS FALSE NEIGHBOUR: 'it returns false'. Refute it at one input. -/
def spanIsWrong : ChangeSpec := { name := "spanIs", fn := fun _ => fun
  | [d1, d2, d3, d4] => { results := [.lit (.bool false)], args := [d1, d2, d3, d4] }
  | _ => none }
def SpanIsWrongFalsely : Prop := spanIsRow.holds Try.pinned (OpenSpec.ofChange spanIsWrong)

/- THE SECOND FORM. 'bulk': how many values and letters a reading holds, each counted each time it is reached (what is shared counts as often as it is met; a slice's spare places count too). A statement '..UptoSaid' is the law's where the arguments, and the package variables that the reading takes, are together of bulk at most 1048576: NARROWER than '..Said'. Prove '..Said' where nothing that the law and all that it calls make is longer than what came in: it says more and counts as full. Else prove '..UptoSaid'. A law counts once. -/
mutual
def uptoBulk {H : Type} : DataW H → Nat
  | .lit (.string bytes) => bytes.length + 1
  | .lit _ => 1
  | .nil => 1
  | .ptr d => uptoBulk d + 1
  | .slice elems spare => uptoBulkAll elems + uptoBulkAll spare + 1
  | .agg parts => uptoBulkAll parts + 1
  | .iface _ d => uptoBulk d + 1
  | .map entries => uptoBulkEntries entries + 1
  | .held _ => 1
def uptoBulkAll {H : Type} : List (DataW H) → Nat
  | [] => 0
  | d :: r => uptoBulk d + uptoBulkAll r
def uptoBulkEntries {H : Type} : List (Lit × DataW H) → Nat
  | [] => 0
  | x :: r => uptoBulkEntry x + uptoBulkEntries r
def uptoBulkEntry {H : Type} : Lit × DataW H → Nat
  | (.string bytes, d) => bytes.length + uptoBulk d + 1
  | (_, d) => uptoBulk d + 1
 end
def uptoSmall : (H : Type) → List (DataW H) → Bool := fun _ ds => decide (uptoBulkAll ds ≤ 1048576)
def OpenSpec.upto (s : _root_.Go.ChangeSpec) : _root_.Go.OpenSpec := { _root_.Go.OpenSpec.ofChange s with cond := some uptoSmall }

/-- 'hornbooklaw07.SpanOne', WHERE WHAT IT READS IS OF BULK AT MOST 1048576: true; the input reads as it did. -/
def spanOneUptoRow : OpenClaim := { program := "ytehknkgplldiiaa", sum := "c50d645d63f3bca22a1034212ebaf60b163db27f5ac8b78ec9306e33341784d1", func := "hornbook/hornbooklaw07.SpanOne", spec := "spanOne", inPlace := ["slices.overlaps[hornbook/api.Span]"], unfollowed := true, recurses := true, apart := false, narrowed := true }
def SpanOneUptoSaid : Prop := spanOneUptoRow.holds Try.pinned (OpenSpec.upto spanOneSpec)

/-- 'hornbooklaw07.SpanEnds', WHERE WHAT IT READS IS OF BULK AT MOST 1048576: true; the input reads as it did. -/
def spanEndsUptoRow : OpenClaim := { program := "ytehknkgplldiiaa", sum := "c50d645d63f3bca22a1034212ebaf60b163db27f5ac8b78ec9306e33341784d1", func := "hornbook/hornbooklaw07.SpanEnds", spec := "spanEnds", inPlace := ["slices.overlaps[hornbook/api.Span]"], unfollowed := true, recurses := true, apart := false, narrowed := true }
def SpanEndsUptoSaid : Prop := spanEndsUptoRow.holds Try.pinned (OpenSpec.upto spanEndsSpec)

/-- 'hornbooklaw07.SpanOverrides', WHERE WHAT IT READS IS OF BULK AT MOST 1048576: true; the input reads as it did. -/
def spanOverridesUptoRow : OpenClaim := { program := "ytehknkgplldiiaa", sum := "c50d645d63f3bca22a1034212ebaf60b163db27f5ac8b78ec9306e33341784d1", func := "hornbook/hornbooklaw07.SpanOverrides", spec := "spanOverrides", inPlace := ["slices.overlaps[hornbook/api.Span]"], unfollowed := true, recurses := true, apart := false, narrowed := true }
def SpanOverridesUptoSaid : Prop := spanOverridesUptoRow.holds Try.pinned (OpenSpec.upto spanOverridesSpec)

/-- 'hornbooklaw07.SpanOrder', WHERE WHAT IT READS IS OF BULK AT MOST 1048576: true; the input reads as it did. -/
def spanOrderUptoRow : OpenClaim := { program := "ytehknkgplldiiaa", sum := "c50d645d63f3bca22a1034212ebaf60b163db27f5ac8b78ec9306e33341784d1", func := "hornbook/hornbooklaw07.SpanOrder", spec := "spanOrder", inPlace := ["slices.overlaps[hornbook/api.Span]"], unfollowed := true, recurses := true, apart := false, narrowed := true }
def SpanOrderUptoSaid : Prop := spanOrderUptoRow.holds Try.pinned (OpenSpec.upto spanOrderSpec)

/-- 'hornbooklaw07.SpanFinds', WHERE WHAT IT READS IS OF BULK AT MOST 1048576: true; the input reads as it did. -/
def spanFindsUptoRow : OpenClaim := { program := "ytehknkgplldiiaa", sum := "c50d645d63f3bca22a1034212ebaf60b163db27f5ac8b78ec9306e33341784d1", func := "hornbook/hornbooklaw07.SpanFinds", spec := "spanFinds", inPlace := ["slices.overlaps[hornbook/api.Span]"], unfollowed := true, recurses := true, apart := false, narrowed := true }
def SpanFindsUptoSaid : Prop := spanFindsUptoRow.holds Try.pinned (OpenSpec.upto spanFindsSpec)

/-- 'hornbooklaw07.SpanIs', WHERE WHAT IT READS IS OF BULK AT MOST 1048576: true; the input reads as it did. -/
def spanIsUptoRow : OpenClaim := { program := "ytehknkgplldiiaa", sum := "c50d645d63f3bca22a1034212ebaf60b163db27f5ac8b78ec9306e33341784d1", func := "hornbook/hornbooklaw07.SpanIs", spec := "spanIs", inPlace := ["slices.overlaps[hornbook/api.Span]"], unfollowed := true, recurses := true, apart := false, narrowed := true }
def SpanIsUptoSaid : Prop := spanIsUptoRow.holds Try.pinned (OpenSpec.upto spanIsSpec)

end Rows
end Go.Proofs.Ytehknkgplldiiaa
