/-
  No cell of these rows narrows 'for every input' (looked for: loops, veiled, ifaces, maps, wideKeys, modest, calm, conditions, laid).
  DERIVED. THE GIVEN ROWS OF THIS SEAT. 6 by the template 'for every input the law returns true; each argument reads behind the call as it read before'; 0 by the template 'total and deterministic' (their statements: YtippodpmggcniaaTotals.lean).
  GIVEN WITH THE SEED: the statements are not yours to turn. If you find one false, say at which input.
  Laid BY PROGRAM, IN A SANDBOX (cutbox-rows.mjs): the forced cells as the released guide's own fill.sh prints them over the translation 49b784d2e6c5d5cb… (all of the seat's roots in one cut). By AI agents, Wed Nov 11 2026. No macro, syntax, notation, axiom, sorry.
-/
import Derived.Test.YtippodpmggcniaaChecked
import GoSem.Claim
import GoSem.ClaimJoined
import GoSem.ClaimMapViews
import Derived.JoinedTies
import Derived.KernelRfl
namespace Go.Proofs.Ytippodpmggcniaa
/- THE CELL 'sum', in the pinned program and in every row, IS THE sha256 OF THE DUMP (.gsa) THAT YtippodpmggcniaaProg.lean LOADS. Nothing in Lean hashes anything: it is a label: what it is worth is what the hold of that sum in a sandbox is worth. -/
noncomputable def Try.pinned : Pinned := { name := "ytippodpmggcniaa", sum := "49b784d2e6c5d5cbc880aa9542dfbea28ea9fa3ca47dbb2096d0c373a4e4455e", checked := Try.checked }
namespace Rows
def none {H : Type} : Left H := { results := [], args := [] }

/-- 'hornbooklaw11.MatchCodes': WHATEVER THE INPUT: true; the input reads as it did. -/
def matchCodesSpec : ChangeSpec := { name := "matchCodes", fn := fun _ => fun
  | [d1, d2] => { results := [.lit (.bool true)], args := [d1, d2] }
  | _ => none }
def matchCodesRow : OpenClaim := { program := "ytippodpmggcniaa", sum := "49b784d2e6c5d5cbc880aa9542dfbea28ea9fa3ca47dbb2096d0c373a4e4455e", func := "hornbook/hornbooklaw11.MatchCodes", spec := "matchCodes", unfollowed := true, recurses := true, apart := false }
def MatchCodesSaid : Prop := matchCodesRow.holds Try.pinned (OpenSpec.ofChange matchCodesSpec)

/-- ITS FALSE NEIGHBOUR: 'it returns false'. Refute it at one input. -/
def matchCodesWrong : ChangeSpec := { name := "matchCodes", fn := fun _ => fun
  | [d1, d2] => { results := [.lit (.bool false)], args := [d1, d2] }
  | _ => none }
def MatchCodesWrongFalsely : Prop := matchCodesRow.holds Try.pinned (OpenSpec.ofChange matchCodesWrong)

/-- 'hornbooklaw11.MatchNone': WHATEVER THE INPUT: true; the input reads as it did. -/
def matchNoneSpec : ChangeSpec := { name := "matchNone", fn := fun _ => fun
  | [d] => { results := [.lit (.bool true)], args := [d] }
  | _ => none }
def matchNoneRow : OpenClaim := { program := "ytippodpmggcniaa", sum := "49b784d2e6c5d5cbc880aa9542dfbea28ea9fa3ca47dbb2096d0c373a4e4455e", func := "hornbook/hornbooklaw11.MatchNone", spec := "matchNone", unfollowed := true, recurses := true, apart := false }
def MatchNoneSaid : Prop := matchNoneRow.holds Try.pinned (OpenSpec.ofChange matchNoneSpec)

/-- ITS FALSE NEIGHBOUR: 'it returns false'. Refute it at one input. -/
def matchNoneWrong : ChangeSpec := { name := "matchNone", fn := fun _ => fun
  | [d] => { results := [.lit (.bool false)], args := [d] }
  | _ => none }
def MatchNoneWrongFalsely : Prop := matchNoneRow.holds Try.pinned (OpenSpec.ofChange matchNoneWrong)

/-- 'hornbooklaw11.MatchMore': WHATEVER THE INPUT: true; the input reads as it did. -/
def matchMoreSpec : ChangeSpec := { name := "matchMore", fn := fun _ => fun
  | [d1, d2, d3, d4] => { results := [.lit (.bool true)], args := [d1, d2, d3, d4] }
  | _ => none }
def matchMoreRow : OpenClaim := { program := "ytippodpmggcniaa", sum := "49b784d2e6c5d5cbc880aa9542dfbea28ea9fa3ca47dbb2096d0c373a4e4455e", func := "hornbook/hornbooklaw11.MatchMore", spec := "matchMore", unfollowed := true, recurses := true, apart := false }
def MatchMoreSaid : Prop := matchMoreRow.holds Try.pinned (OpenSpec.ofChange matchMoreSpec)

/-- ITS FALSE NEIGHBOUR: 'it returns false'. Refute it at one input. -/
def matchMoreWrong : ChangeSpec := { name := "matchMore", fn := fun _ => fun
  | [d1, d2, d3, d4] => { results := [.lit (.bool false)], args := [d1, d2, d3, d4] }
  | _ => none }
def MatchMoreWrongFalsely : Prop := matchMoreRow.holds Try.pinned (OpenSpec.ofChange matchMoreWrong)

/-- 'hornbooklaw11.MatchIs': WHATEVER THE INPUT: true; the input reads as it did. -/
def matchIsSpec : ChangeSpec := { name := "matchIs", fn := fun _ => fun
  | [d1, d2, d3] => { results := [.lit (.bool true)], args := [d1, d2, d3] }
  | _ => none }
def matchIsRow : OpenClaim := { program := "ytippodpmggcniaa", sum := "49b784d2e6c5d5cbc880aa9542dfbea28ea9fa3ca47dbb2096d0c373a4e4455e", func := "hornbook/hornbooklaw11.MatchIs", spec := "matchIs", unfollowed := true, recurses := true, apart := false }
def MatchIsSaid : Prop := matchIsRow.holds Try.pinned (OpenSpec.ofChange matchIsSpec)

/-- ITS FALSE NEIGHBOUR: 'it returns false'. Refute it at one input. -/
def matchIsWrong : ChangeSpec := { name := "matchIs", fn := fun _ => fun
  | [d1, d2, d3] => { results := [.lit (.bool false)], args := [d1, d2, d3] }
  | _ => none }
def MatchIsWrongFalsely : Prop := matchIsRow.holds Try.pinned (OpenSpec.ofChange matchIsWrong)

/-- 'hornbooklaw11.MatchJoins': WHATEVER THE INPUT: true; the input reads as it did. -/
def matchJoinsSpec : ChangeSpec := { name := "matchJoins", fn := fun _ => fun
  | [d1, d2, d3] => { results := [.lit (.bool true)], args := [d1, d2, d3] }
  | _ => none }
def matchJoinsRow : OpenClaim := { program := "ytippodpmggcniaa", sum := "49b784d2e6c5d5cbc880aa9542dfbea28ea9fa3ca47dbb2096d0c373a4e4455e", func := "hornbook/hornbooklaw11.MatchJoins", spec := "matchJoins", unfollowed := true, recurses := true, apart := false }
def MatchJoinsSaid : Prop := matchJoinsRow.holds Try.pinned (OpenSpec.ofChange matchJoinsSpec)

/-- ITS FALSE NEIGHBOUR: 'it returns false'. Refute it at one input. -/
def matchJoinsWrong : ChangeSpec := { name := "matchJoins", fn := fun _ => fun
  | [d1, d2, d3] => { results := [.lit (.bool false)], args := [d1, d2, d3] }
  | _ => none }
def MatchJoinsWrongFalsely : Prop := matchJoinsRow.holds Try.pinned (OpenSpec.ofChange matchJoinsWrong)

/-- 'hornbooklaw11.MatchSame': WHATEVER THE INPUT: true; the input reads as it did. -/
def matchSameSpec : ChangeSpec := { name := "matchSame", fn := fun _ => fun
  | [d1, d2] => { results := [.lit (.bool true)], args := [d1, d2] }
  | _ => none }
def matchSameRow : OpenClaim := { program := "ytippodpmggcniaa", sum := "49b784d2e6c5d5cbc880aa9542dfbea28ea9fa3ca47dbb2096d0c373a4e4455e", func := "hornbook/hornbooklaw11.MatchSame", spec := "matchSame", unfollowed := true, recurses := true, apart := false }
def MatchSameSaid : Prop := matchSameRow.holds Try.pinned (OpenSpec.ofChange matchSameSpec)

/-- ITS FALSE NEIGHBOUR: 'it returns false'. Refute it at one input. -/
def matchSameWrong : ChangeSpec := { name := "matchSame", fn := fun _ => fun
  | [d1, d2] => { results := [.lit (.bool false)], args := [d1, d2] }
  | _ => none }
def MatchSameWrongFalsely : Prop := matchSameRow.holds Try.pinned (OpenSpec.ofChange matchSameWrong)

/- THE SECOND FORM. 'bulk': how many values and letters a reading holds, each counted each time it is reached (what is shared counts as often as it is met; a slice's spare places count too). A statement '..UptoSaid' is the law's where the arguments, and the package variables that the reading takes, are together of bulk at most 1048576: NARROWER than '..Said'. Prove '..Said' where nothing that the law and all that it calls make is longer than what came in: it says more and counts as full. Else prove '..UptoSaid'. A law counts once. -/
mutual
def uptoBulk {H : Type} : DataW H → Nat
  | .lit (.string bytes) => bytes.length + 1
  | .lit _ => 1
  | .nil => 1
  | .ptr d => uptoBulk d + 1
  | .slice elems spare => uptoBulkAll elems + uptoBulkAll spare + 1
  | .agg parts => uptoBulkAll parts + 1
  | .iface _ d => uptoBulk d + 1
  | .map entries => uptoBulkEntries entries + 1
  | .held _ => 1
def uptoBulkAll {H : Type} : List (DataW H) → Nat
  | [] => 0
  | d :: r => uptoBulk d + uptoBulkAll r
def uptoBulkEntries {H : Type} : List (Lit × DataW H) → Nat
  | [] => 0
  | x :: r => uptoBulkEntry x + uptoBulkEntries r
def uptoBulkEntry {H : Type} : Lit × DataW H → Nat
  | (.string bytes, d) => bytes.length + uptoBulk d + 1
  | (_, d) => uptoBulk d + 1
 end
def uptoSmall : (H : Type) → List (DataW H) → Bool := fun _ ds => decide (uptoBulkAll ds ≤ 1048576)
def OpenSpec.upto (s : _root_.Go.ChangeSpec) : _root_.Go.OpenSpec := { _root_.Go.OpenSpec.ofChange s with cond := some uptoSmall }

/-- 'hornbooklaw11.MatchCodes', WHERE WHAT IT READS IS OF BULK AT MOST 1048576: true; the input reads as it did. -/
def matchCodesUptoRow : OpenClaim := { program := "ytippodpmggcniaa", sum := "49b784d2e6c5d5cbc880aa9542dfbea28ea9fa3ca47dbb2096d0c373a4e4455e", func := "hornbook/hornbooklaw11.MatchCodes", spec := "matchCodes", unfollowed := true, recurses := true, apart := false, narrowed := true }
def MatchCodesUptoSaid : Prop := matchCodesUptoRow.holds Try.pinned (OpenSpec.upto matchCodesSpec)

/-- 'hornbooklaw11.MatchNone', WHERE WHAT IT READS IS OF BULK AT MOST 1048576: true; the input reads as it did. -/
def matchNoneUptoRow : OpenClaim := { program := "ytippodpmggcniaa", sum := "49b784d2e6c5d5cbc880aa9542dfbea28ea9fa3ca47dbb2096d0c373a4e4455e", func := "hornbook/hornbooklaw11.MatchNone", spec := "matchNone", unfollowed := true, recurses := true, apart := false, narrowed := true }
def MatchNoneUptoSaid : Prop := matchNoneUptoRow.holds Try.pinned (OpenSpec.upto matchNoneSpec)

/-- 'hornbooklaw11.MatchMore', WHERE WHAT IT READS IS OF BULK AT MOST 1048576: true; the input reads as it did. -/
def matchMoreUptoRow : OpenClaim := { program := "ytippodpmggcniaa", sum := "49b784d2e6c5d5cbc880aa9542dfbea28ea9fa3ca47dbb2096d0c373a4e4455e", func := "hornbook/hornbooklaw11.MatchMore", spec := "matchMore", unfollowed := true, recurses := true, apart := false, narrowed := true }
def MatchMoreUptoSaid : Prop := matchMoreUptoRow.holds Try.pinned (OpenSpec.upto matchMoreSpec)

/-- 'hornbooklaw11.MatchIs', WHERE WHAT IT READS IS OF BULK AT MOST 1048576: true; the input reads as it did. -/
def matchIsUptoRow : OpenClaim := { program := "ytippodpmggcniaa", sum := "49b784d2e6c5d5cbc880aa9542dfbea28ea9fa3ca47dbb2096d0c373a4e4455e", func := "hornbook/hornbooklaw11.MatchIs", spec := "matchIs", unfollowed := true, recurses := true, apart := false, narrowed := true }
def MatchIsUptoSaid : Prop := matchIsUptoRow.holds Try.pinned (OpenSpec.upto matchIsSpec)

/-- 'hornbooklaw11.MatchJoins', WHERE WHAT IT READS IS OF BULK AT MOST 1048576: true; the input reads as it did. -/
def matchJoinsUptoRow : OpenClaim := { program := "ytippodpmggcniaa", sum := "49b784d2e6c5d5cbc880aa9542dfbea28ea9fa3ca47dbb2096d0c373a4e4455e", func := "hornbook/hornbooklaw11.MatchJoins", spec := "matchJoins", unfollowed := true, recurses := true, apart := false, narrowed := true }
def MatchJoinsUptoSaid : Prop := matchJoinsUptoRow.holds Try.pinned (OpenSpec.upto matchJoinsSpec)

/-- 'hornbooklaw11.MatchSame', WHERE WHAT IT READS IS OF BULK AT MOST 1048576: true; the input reads as it did. -/
def matchSameUptoRow : OpenClaim := { program := "ytippodpmggcniaa", sum := "49b784d2e6c5d5cbc880aa9542dfbea28ea9fa3ca47dbb2096d0c373a4e4455e", func := "hornbook/hornbooklaw11.MatchSame", spec := "matchSame", unfollowed := true, recurses := true, apart := false, narrowed := true }
def MatchSameUptoSaid : Prop := matchSameUptoRow.holds Try.pinned (OpenSpec.upto matchSameSpec)

end Rows
end Go.Proofs.Ytippodpmggcniaa
