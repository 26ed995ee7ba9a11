/-
  No cell of these rows narrows 'for every input' (looked for: loops, veiled, ifaces, maps, wideKeys, modest, calm, conditions, laid).
  DERIVED. THE GIVEN ROWS OF THIS SEAT. 6 by the template 'for every input the law returns true; each argument reads behind the call as it read before'; 0 by the template 'total and deterministic' (their statements: YtpkgkdcfolmbhaaGreatTotals.lean).
  GIVEN WITH THE SEED: the statements are not yours to turn. If you find one false, say at which input.
  Laid BY PROGRAM, IN A SANDBOX (cutbox-rows.mjs): the forced cells as the released guide's own fill.sh prints them over the translation 02af7aa4e01dd165… (all of the seat's roots in one cut). By AI agents, Wed Nov 11 2026. No macro, syntax, notation, axiom, sorry.
-/
import Derived.Test.YtpkgkdcfolmbhaaGreatChecked
import GoSem.Claim
import GoSem.ClaimJoined
import GoSem.ClaimMapViews
import Derived.JoinedTies
import Derived.KernelRfl
namespace Go.Proofs.YtpkgkdcfolmbhaaGreat
/- THE CELL 'sum', in the pinned program and in every row, IS THE sha256 OF THE DUMP (.gsa) THAT YtpkgkdcfolmbhaaGreatProg.lean LOADS. Nothing in Lean hashes anything: it is a label: what it is worth is what the hold of that sum in a sandbox is worth. -/
noncomputable def Tryz.pinned : Pinned := { name := "ytpkgkdcfolmbhaagreat", sum := "02af7aa4e01dd16515e8be824ffc86edef2a62e9d211c90a07b6152dd8b5249e", checked := Tryz.checked }
namespace Rows
def none {H : Type} : Left H := { results := [], args := [] }

/-- 'hornbooklaw09.SemNames': WHATEVER THE INPUT: true; the input reads as it did. -/
def semNamesSpec : ChangeSpec := { name := "semNames", fn := fun _ => fun
  | [d1, d2] => { results := [.lit (.bool true)], args := [d1, d2] }
  | _ => none }
def semNamesRow : OpenClaim := { program := "ytpkgkdcfolmbhaagreat", sum := "02af7aa4e01dd16515e8be824ffc86edef2a62e9d211c90a07b6152dd8b5249e", func := "hornbook/hornbooklaw09.SemNames", spec := "semNames", inPlace := ["slices.overlaps[hornbook/api.Span]", "slices.overlaps[hornbook/api.Bf]"], unfollowed := true, recurses := true, apart := false }
def SemNamesSaid : Prop := semNamesRow.holds Tryz.pinned (OpenSpec.ofChange semNamesSpec)

/-- ITS FALSE NEIGHBOUR: 'it returns false'. Refute it at one input. -/
def semNamesWrong : ChangeSpec := { name := "semNames", fn := fun _ => fun
  | [d1, d2] => { results := [.lit (.bool false)], args := [d1, d2] }
  | _ => none }
def SemNamesWrongFalsely : Prop := semNamesRow.holds Tryz.pinned (OpenSpec.ofChange semNamesWrong)

/-- 'hornbooklaw09.SemTwice': WHATEVER THE INPUT: true; the input reads as it did. -/
def semTwiceSpec : ChangeSpec := { name := "semTwice", fn := fun _ => fun
  | [d] => { results := [.lit (.bool true)], args := [d] }
  | _ => none }
def semTwiceRow : OpenClaim := { program := "ytpkgkdcfolmbhaagreat", sum := "02af7aa4e01dd16515e8be824ffc86edef2a62e9d211c90a07b6152dd8b5249e", func := "hornbook/hornbooklaw09.SemTwice", spec := "semTwice", inPlace := ["slices.overlaps[hornbook/api.Span]", "slices.overlaps[hornbook/api.Bf]"], unfollowed := true, recurses := true, apart := false }
def SemTwiceSaid : Prop := semTwiceRow.holds Tryz.pinned (OpenSpec.ofChange semTwiceSpec)

/-- ITS FALSE NEIGHBOUR: 'it returns false'. Refute it at one input. -/
def semTwiceWrong : ChangeSpec := { name := "semTwice", fn := fun _ => fun
  | [d] => { results := [.lit (.bool false)], args := [d] }
  | _ => none }
def SemTwiceWrongFalsely : Prop := semTwiceRow.holds Tryz.pinned (OpenSpec.ofChange semTwiceWrong)

/-- 'hornbooklaw09.SemParts': WHATEVER THE INPUT: true; the input reads as it did. -/
def semPartsSpec : ChangeSpec := { name := "semParts", fn := fun _ => fun
  | [d1, d2] => { results := [.lit (.bool true)], args := [d1, d2] }
  | _ => none }
def semPartsRow : OpenClaim := { program := "ytpkgkdcfolmbhaagreat", sum := "02af7aa4e01dd16515e8be824ffc86edef2a62e9d211c90a07b6152dd8b5249e", func := "hornbook/hornbooklaw09.SemParts", spec := "semParts", inPlace := ["slices.overlaps[hornbook/api.Span]", "slices.overlaps[hornbook/api.Bf]"], unfollowed := true, recurses := true, apart := false }
def SemPartsSaid : Prop := semPartsRow.holds Tryz.pinned (OpenSpec.ofChange semPartsSpec)

/-- ITS FALSE NEIGHBOUR: 'it returns false'. Refute it at one input. -/
def semPartsWrong : ChangeSpec := { name := "semParts", fn := fun _ => fun
  | [d1, d2] => { results := [.lit (.bool false)], args := [d1, d2] }
  | _ => none }
def SemPartsWrongFalsely : Prop := semPartsRow.holds Tryz.pinned (OpenSpec.ofChange semPartsWrong)

/-- 'hornbooklaw09.SemMerges': WHATEVER THE INPUT: true; the input reads as it did. -/
def semMergesSpec : ChangeSpec := { name := "semMerges", fn := fun _ => fun
  | [d1, d2] => { results := [.lit (.bool true)], args := [d1, d2] }
  | _ => none }
def semMergesRow : OpenClaim := { program := "ytpkgkdcfolmbhaagreat", sum := "02af7aa4e01dd16515e8be824ffc86edef2a62e9d211c90a07b6152dd8b5249e", func := "hornbook/hornbooklaw09.SemMerges", spec := "semMerges", inPlace := ["slices.overlaps[hornbook/api.Span]", "slices.overlaps[hornbook/api.Bf]"], unfollowed := true, recurses := true, apart := false }
def SemMergesSaid : Prop := semMergesRow.holds Tryz.pinned (OpenSpec.ofChange semMergesSpec)

/-- ITS FALSE NEIGHBOUR: 'it returns false'. Refute it at one input. -/
def semMergesWrong : ChangeSpec := { name := "semMerges", fn := fun _ => fun
  | [d1, d2] => { results := [.lit (.bool false)], args := [d1, d2] }
  | _ => none }
def SemMergesWrongFalsely : Prop := semMergesRow.holds Tryz.pinned (OpenSpec.ofChange semMergesWrong)

/-- 'hornbooklaw09.SemIs': WHATEVER THE INPUT: true; the input reads as it did. -/
def semIsSpec : ChangeSpec := { name := "semIs", fn := fun _ => fun
  | [d1, d2, d3] => { results := [.lit (.bool true)], args := [d1, d2, d3] }
  | _ => none }
def semIsRow : OpenClaim := { program := "ytpkgkdcfolmbhaagreat", sum := "02af7aa4e01dd16515e8be824ffc86edef2a62e9d211c90a07b6152dd8b5249e", func := "hornbook/hornbooklaw09.SemIs", spec := "semIs", inPlace := ["slices.overlaps[hornbook/api.Span]", "slices.overlaps[hornbook/api.Bf]"], unfollowed := true, recurses := true, apart := false }
def SemIsSaid : Prop := semIsRow.holds Tryz.pinned (OpenSpec.ofChange semIsSpec)

/-- ITS FALSE NEIGHBOUR: 'it returns false'. Refute it at one input. -/
def semIsWrong : ChangeSpec := { name := "semIs", fn := fun _ => fun
  | [d1, d2, d3] => { results := [.lit (.bool false)], args := [d1, d2, d3] }
  | _ => none }
def SemIsWrongFalsely : Prop := semIsRow.holds Tryz.pinned (OpenSpec.ofChange semIsWrong)

/-- 'hornbooklaw09.SemLast': WHATEVER THE INPUT: true; the input reads as it did. -/
def semLastSpec : ChangeSpec := { name := "semLast", fn := fun _ => fun
  | [d1, d2] => { results := [.lit (.bool true)], args := [d1, d2] }
  | _ => none }
def semLastRow : OpenClaim := { program := "ytpkgkdcfolmbhaagreat", sum := "02af7aa4e01dd16515e8be824ffc86edef2a62e9d211c90a07b6152dd8b5249e", func := "hornbook/hornbooklaw09.SemLast", spec := "semLast", inPlace := ["slices.overlaps[hornbook/api.Span]", "slices.overlaps[hornbook/api.Bf]"], unfollowed := true, recurses := true, apart := false }
def SemLastSaid : Prop := semLastRow.holds Tryz.pinned (OpenSpec.ofChange semLastSpec)

/-- ITS FALSE NEIGHBOUR: 'it returns false'. Refute it at one input. -/
def semLastWrong : ChangeSpec := { name := "semLast", fn := fun _ => fun
  | [d1, d2] => { results := [.lit (.bool false)], args := [d1, d2] }
  | _ => none }
def SemLastWrongFalsely : Prop := semLastRow.holds Tryz.pinned (OpenSpec.ofChange semLastWrong)

/- THE SECOND FORM. 'bulk': how many values and letters a reading holds, each counted each time it is reached (what is shared counts as often as it is met; a slice's spare places count too). A statement '..UptoSaid' is the law's where the arguments, and the package variables that the reading takes, are together of bulk at most 1048576: NARROWER than '..Said'. Prove '..Said' where nothing that the law and all that it calls make is longer than what came in: it says more and counts as full. Else prove '..UptoSaid'. A law counts once. -/
mutual
def uptoBulk {H : Type} : DataW H → Nat
  | .lit (.string bytes) => bytes.length + 1
  | .lit _ => 1
  | .nil => 1
  | .ptr d => uptoBulk d + 1
  | .slice elems spare => uptoBulkAll elems + uptoBulkAll spare + 1
  | .agg parts => uptoBulkAll parts + 1
  | .iface _ d => uptoBulk d + 1
  | .map entries => uptoBulkEntries entries + 1
  | .held _ => 1
def uptoBulkAll {H : Type} : List (DataW H) → Nat
  | [] => 0
  | d :: r => uptoBulk d + uptoBulkAll r
def uptoBulkEntries {H : Type} : List (Lit × DataW H) → Nat
  | [] => 0
  | x :: r => uptoBulkEntry x + uptoBulkEntries r
def uptoBulkEntry {H : Type} : Lit × DataW H → Nat
  | (.string bytes, d) => bytes.length + uptoBulk d + 1
  | (_, d) => uptoBulk d + 1
 end
def uptoSmall : (H : Type) → List (DataW H) → Bool := fun _ ds => decide (uptoBulkAll ds ≤ 1048576)
def OpenSpec.upto (s : _root_.Go.ChangeSpec) : _root_.Go.OpenSpec := { _root_.Go.OpenSpec.ofChange s with cond := some uptoSmall }

/-- 'hornbooklaw09.SemNames', WHERE WHAT IT READS IS OF BULK AT MOST 1048576: true; the input reads as it did. -/
def semNamesUptoRow : OpenClaim := { program := "ytpkgkdcfolmbhaagreat", sum := "02af7aa4e01dd16515e8be824ffc86edef2a62e9d211c90a07b6152dd8b5249e", func := "hornbook/hornbooklaw09.SemNames", spec := "semNames", inPlace := ["slices.overlaps[hornbook/api.Span]", "slices.overlaps[hornbook/api.Bf]"], unfollowed := true, recurses := true, apart := false, narrowed := true }
def SemNamesUptoSaid : Prop := semNamesUptoRow.holds Tryz.pinned (OpenSpec.upto semNamesSpec)

/-- 'hornbooklaw09.SemTwice', WHERE WHAT IT READS IS OF BULK AT MOST 1048576: true; the input reads as it did. -/
def semTwiceUptoRow : OpenClaim := { program := "ytpkgkdcfolmbhaagreat", sum := "02af7aa4e01dd16515e8be824ffc86edef2a62e9d211c90a07b6152dd8b5249e", func := "hornbook/hornbooklaw09.SemTwice", spec := "semTwice", inPlace := ["slices.overlaps[hornbook/api.Span]", "slices.overlaps[hornbook/api.Bf]"], unfollowed := true, recurses := true, apart := false, narrowed := true }
def SemTwiceUptoSaid : Prop := semTwiceUptoRow.holds Tryz.pinned (OpenSpec.upto semTwiceSpec)

/-- 'hornbooklaw09.SemParts', WHERE WHAT IT READS IS OF BULK AT MOST 1048576: true; the input reads as it did. -/
def semPartsUptoRow : OpenClaim := { program := "ytpkgkdcfolmbhaagreat", sum := "02af7aa4e01dd16515e8be824ffc86edef2a62e9d211c90a07b6152dd8b5249e", func := "hornbook/hornbooklaw09.SemParts", spec := "semParts", inPlace := ["slices.overlaps[hornbook/api.Span]", "slices.overlaps[hornbook/api.Bf]"], unfollowed := true, recurses := true, apart := false, narrowed := true }
def SemPartsUptoSaid : Prop := semPartsUptoRow.holds Tryz.pinned (OpenSpec.upto semPartsSpec)

/-- 'hornbooklaw09.SemMerges', WHERE WHAT IT READS IS OF BULK AT MOST 1048576: true; the input reads as it did. -/
def semMergesUptoRow : OpenClaim := { program := "ytpkgkdcfolmbhaagreat", sum := "02af7aa4e01dd16515e8be824ffc86edef2a62e9d211c90a07b6152dd8b5249e", func := "hornbook/hornbooklaw09.SemMerges", spec := "semMerges", inPlace := ["slices.overlaps[hornbook/api.Span]", "slices.overlaps[hornbook/api.Bf]"], unfollowed := true, recurses := true, apart := false, narrowed := true }
def SemMergesUptoSaid : Prop := semMergesUptoRow.holds Tryz.pinned (OpenSpec.upto semMergesSpec)

/-- 'hornbooklaw09.SemIs', WHERE WHAT IT READS IS OF BULK AT MOST 1048576: true; the input reads as it did. -/
def semIsUptoRow : OpenClaim := { program := "ytpkgkdcfolmbhaagreat", sum := "02af7aa4e01dd16515e8be824ffc86edef2a62e9d211c90a07b6152dd8b5249e", func := "hornbook/hornbooklaw09.SemIs", spec := "semIs", inPlace := ["slices.overlaps[hornbook/api.Span]", "slices.overlaps[hornbook/api.Bf]"], unfollowed := true, recurses := true, apart := false, narrowed := true }
def SemIsUptoSaid : Prop := semIsUptoRow.holds Tryz.pinned (OpenSpec.upto semIsSpec)

/-- 'hornbooklaw09.SemLast', WHERE WHAT IT READS IS OF BULK AT MOST 1048576: true; the input reads as it did. -/
def semLastUptoRow : OpenClaim := { program := "ytpkgkdcfolmbhaagreat", sum := "02af7aa4e01dd16515e8be824ffc86edef2a62e9d211c90a07b6152dd8b5249e", func := "hornbook/hornbooklaw09.SemLast", spec := "semLast", inPlace := ["slices.overlaps[hornbook/api.Span]", "slices.overlaps[hornbook/api.Bf]"], unfollowed := true, recurses := true, apart := false, narrowed := true }
def SemLastUptoSaid : Prop := semLastUptoRow.holds Tryz.pinned (OpenSpec.upto semLastSpec)

end Rows
end Go.Proofs.YtpkgkdcfolmbhaaGreat
