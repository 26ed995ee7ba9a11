/-
  No cell of these rows narrows 'for every input' (looked for: loops, veiled, ifaces, maps, wideKeys, modest, calm, conditions, laid).
  DERIVED. THE GIVEN ROWS OF THIS SEAT. 4 by the template 'for every input the law returns true; each argument reads behind the call as it read before'; 0 by the template 'total and deterministic' (their statements: YtmgjojgfocbjfaaTotals.lean).
  GIVEN WITH THE SEED: the statements are not yours to turn. If you find one false, say at which input.
  Laid BY PROGRAM, IN A SANDBOX (cutbox-rows.mjs): the forced cells as the released guide's own fill.sh prints them over the translation f35a0958b834f31a… (all of the seat's roots in one cut). By AI agents, Wed Nov 11 2026. No macro, syntax, notation, axiom, sorry.
-/
import Derived.Test.YtmgjojgfocbjfaaChecked
import GoSem.Claim
import GoSem.ClaimJoined
import GoSem.ClaimMapViews
import Derived.JoinedTies
import Derived.KernelRfl
namespace Go.Proofs.Ytmgjojgfocbjfaa
/- THE CELL 'sum', in the pinned program and in every row, IS THE sha256 OF THE DUMP (.gsa) THAT YtmgjojgfocbjfaaProg.lean LOADS. Nothing in Lean hashes anything: it is a label: what it is worth is what the hold of that sum in a sandbox is worth. -/
noncomputable def Try.pinned : Pinned := { name := "ytmgjojgfocbjfaa", sum := "f35a0958b834f31a60de7d29c10d04c5614cebbb47ae458b76132d47f60209e4", checked := Try.checked }
namespace Rows
def none {H : Type} : Left H := { results := [], args := [] }

/-- 'hornbooklaw20.CollBack': WHATEVER THE INPUT: true; the input reads as it did. -/
def collBackSpec : ChangeSpec := { name := "collBack", fn := fun _ => fun
  | [d1, d2, d3] => { results := [.lit (.bool true)], args := [d1, d2, d3] }
  | _ => none }
def collBackRow : OpenClaim := { program := "ytmgjojgfocbjfaa", sum := "f35a0958b834f31a60de7d29c10d04c5614cebbb47ae458b76132d47f60209e4", func := "hornbook/hornbooklaw20.CollBack", spec := "collBack", unfollowed := true, recurses := true, apart := false }
def CollBackSaid : Prop := collBackRow.holds Try.pinned (OpenSpec.ofChange collBackSpec)

/-- ITS FALSE NEIGHBOUR: 'it returns false'. Refute it at one input. -/
def collBackWrong : ChangeSpec := { name := "collBack", fn := fun _ => fun
  | [d1, d2, d3] => { results := [.lit (.bool false)], args := [d1, d2, d3] }
  | _ => none }
def CollBackWrongFalsely : Prop := collBackRow.holds Try.pinned (OpenSpec.ofChange collBackWrong)

/-- 'hornbooklaw20.CollIs': WHATEVER THE INPUT: true; the input reads as it did. -/
def collIsSpec : ChangeSpec := { name := "collIs", fn := fun _ => fun
  | [d1, d2, d3] => { results := [.lit (.bool true)], args := [d1, d2, d3] }
  | _ => none }
def collIsRow : OpenClaim := { program := "ytmgjojgfocbjfaa", sum := "f35a0958b834f31a60de7d29c10d04c5614cebbb47ae458b76132d47f60209e4", func := "hornbook/hornbooklaw20.CollIs", spec := "collIs", inPlace := ["internal/abi.NoEscape"], unfollowed := true, recurses := true, apart := false }
def CollIsSaid : Prop := collIsRow.holds Try.pinned (OpenSpec.ofChange collIsSpec)

/-- ITS FALSE NEIGHBOUR: 'it returns false'. Refute it at one input. -/
def collIsWrong : ChangeSpec := { name := "collIs", fn := fun _ => fun
  | [d1, d2, d3] => { results := [.lit (.bool false)], args := [d1, d2, d3] }
  | _ => none }
def CollIsWrongFalsely : Prop := collIsRow.holds Try.pinned (OpenSpec.ofChange collIsWrong)

/-- 'hornbooklaw20.CollCounts': WHATEVER THE INPUT: true; the input reads as it did. -/
def collCountsSpec : ChangeSpec := { name := "collCounts", fn := fun _ => fun
  | [d1, d2, d3] => { results := [.lit (.bool true)], args := [d1, d2, d3] }
  | _ => none }
def collCountsRow : OpenClaim := { program := "ytmgjojgfocbjfaa", sum := "f35a0958b834f31a60de7d29c10d04c5614cebbb47ae458b76132d47f60209e4", func := "hornbook/hornbooklaw20.CollCounts", spec := "collCounts", inPlace := ["slices.overlaps[hornbook/api.Bf]", "internal/abi.NoEscape"], unfollowed := true, recurses := true, apart := false }
def CollCountsSaid : Prop := collCountsRow.holds Try.pinned (OpenSpec.ofChange collCountsSpec)

/-- ITS FALSE NEIGHBOUR: 'it returns false'. Refute it at one input. -/
def collCountsWrong : ChangeSpec := { name := "collCounts", fn := fun _ => fun
  | [d1, d2, d3] => { results := [.lit (.bool false)], args := [d1, d2, d3] }
  | _ => none }
def CollCountsWrongFalsely : Prop := collCountsRow.holds Try.pinned (OpenSpec.ofChange collCountsWrong)

/-- 'hornbooklaw20.CollIdentity': WHATEVER THE INPUT: true; the input reads as it did. -/
def collIdentitySpec : ChangeSpec := { name := "collIdentity", fn := fun _ => fun
  | [d1, d2, d3] => { results := [.lit (.bool true)], args := [d1, d2, d3] }
  | _ => none }
def collIdentityRow : OpenClaim := { program := "ytmgjojgfocbjfaa", sum := "f35a0958b834f31a60de7d29c10d04c5614cebbb47ae458b76132d47f60209e4", func := "hornbook/hornbooklaw20.CollIdentity", spec := "collIdentity", unfollowed := true, recurses := true, apart := false }
def CollIdentitySaid : Prop := collIdentityRow.holds Try.pinned (OpenSpec.ofChange collIdentitySpec)

/-- ITS FALSE NEIGHBOUR: 'it returns false'. Refute it at one input. -/
def collIdentityWrong : ChangeSpec := { name := "collIdentity", fn := fun _ => fun
  | [d1, d2, d3] => { results := [.lit (.bool false)], args := [d1, d2, d3] }
  | _ => none }
def CollIdentityWrongFalsely : Prop := collIdentityRow.holds Try.pinned (OpenSpec.ofChange collIdentityWrong)

/- THE SECOND FORM. 'bulk': how many values and letters a reading holds, each counted each time it is reached (what is shared counts as often as it is met; a slice's spare places count too). A statement '..UptoSaid' is the law's where the arguments, and the package variables that the reading takes, are together of bulk at most 1048576: NARROWER than '..Said'. Prove '..Said' where nothing that the law and all that it calls make is longer than what came in: it says more and counts as full. Else prove '..UptoSaid'. A law counts once. -/
mutual
def uptoBulk {H : Type} : DataW H → Nat
  | .lit (.string bytes) => bytes.length + 1
  | .lit _ => 1
  | .nil => 1
  | .ptr d => uptoBulk d + 1
  | .slice elems spare => uptoBulkAll elems + uptoBulkAll spare + 1
  | .agg parts => uptoBulkAll parts + 1
  | .iface _ d => uptoBulk d + 1
  | .map entries => uptoBulkEntries entries + 1
  | .held _ => 1
def uptoBulkAll {H : Type} : List (DataW H) → Nat
  | [] => 0
  | d :: r => uptoBulk d + uptoBulkAll r
def uptoBulkEntries {H : Type} : List (Lit × DataW H) → Nat
  | [] => 0
  | x :: r => uptoBulkEntry x + uptoBulkEntries r
def uptoBulkEntry {H : Type} : Lit × DataW H → Nat
  | (.string bytes, d) => bytes.length + uptoBulk d + 1
  | (_, d) => uptoBulk d + 1
 end
def uptoSmall : (H : Type) → List (DataW H) → Bool := fun _ ds => decide (uptoBulkAll ds ≤ 1048576)
def OpenSpec.upto (s : _root_.Go.ChangeSpec) : _root_.Go.OpenSpec := { _root_.Go.OpenSpec.ofChange s with cond := some uptoSmall }

/-- 'hornbooklaw20.CollBack', WHERE WHAT IT READS IS OF BULK AT MOST 1048576: true; the input reads as it did. -/
def collBackUptoRow : OpenClaim := { program := "ytmgjojgfocbjfaa", sum := "f35a0958b834f31a60de7d29c10d04c5614cebbb47ae458b76132d47f60209e4", func := "hornbook/hornbooklaw20.CollBack", spec := "collBack", unfollowed := true, recurses := true, apart := false, narrowed := true }
def CollBackUptoSaid : Prop := collBackUptoRow.holds Try.pinned (OpenSpec.upto collBackSpec)

/-- 'hornbooklaw20.CollIs', WHERE WHAT IT READS IS OF BULK AT MOST 1048576: true; the input reads as it did. -/
def collIsUptoRow : OpenClaim := { program := "ytmgjojgfocbjfaa", sum := "f35a0958b834f31a60de7d29c10d04c5614cebbb47ae458b76132d47f60209e4", func := "hornbook/hornbooklaw20.CollIs", spec := "collIs", inPlace := ["internal/abi.NoEscape"], unfollowed := true, recurses := true, apart := false, narrowed := true }
def CollIsUptoSaid : Prop := collIsUptoRow.holds Try.pinned (OpenSpec.upto collIsSpec)

/-- 'hornbooklaw20.CollCounts', WHERE WHAT IT READS IS OF BULK AT MOST 1048576: true; the input reads as it did. -/
def collCountsUptoRow : OpenClaim := { program := "ytmgjojgfocbjfaa", sum := "f35a0958b834f31a60de7d29c10d04c5614cebbb47ae458b76132d47f60209e4", func := "hornbook/hornbooklaw20.CollCounts", spec := "collCounts", inPlace := ["slices.overlaps[hornbook/api.Bf]", "internal/abi.NoEscape"], unfollowed := true, recurses := true, apart := false, narrowed := true }
def CollCountsUptoSaid : Prop := collCountsUptoRow.holds Try.pinned (OpenSpec.upto collCountsSpec)

/-- 'hornbooklaw20.CollIdentity', WHERE WHAT IT READS IS OF BULK AT MOST 1048576: true; the input reads as it did. -/
def collIdentityUptoRow : OpenClaim := { program := "ytmgjojgfocbjfaa", sum := "f35a0958b834f31a60de7d29c10d04c5614cebbb47ae458b76132d47f60209e4", func := "hornbook/hornbooklaw20.CollIdentity", spec := "collIdentity", unfollowed := true, recurses := true, apart := false, narrowed := true }
def CollIdentityUptoSaid : Prop := collIdentityUptoRow.holds Try.pinned (OpenSpec.upto collIdentitySpec)

end Rows
end Go.Proofs.Ytmgjojgfocbjfaa
