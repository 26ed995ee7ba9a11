/-
  No cell of these rows narrows 'for every input' (looked for: loops, veiled, ifaces, maps, wideKeys, modest, calm, conditions, laid).
  DERIVED. THE GIVEN ROWS OF THIS SEAT. 5 by the template 'for every input the law returns true; each argument reads behind the call as it read before'; 0 by the template 'total and deterministic' (their statements: YtbinbndegfednaaGreatTotals.lean).
  GIVEN WITH THE SEED: the statements are not yours to turn. If you find one false, say at which input.
  Laid BY PROGRAM, IN A SANDBOX (cutbox-rows.mjs): the forced cells as the released guide's own fill.sh prints them over the translation ae1002f21e3000c2… (all of the seat's roots in one cut). By AI agents, Wed Nov 11 2026. No macro, syntax, notation, axiom, sorry.
-/
import Derived.Test.YtbinbndegfednaaGreatChecked
import GoSem.Claim
import GoSem.ClaimJoined
import GoSem.ClaimMapViews
import Derived.JoinedTies
import Derived.KernelRfl
namespace Go.Proofs.YtbinbndegfednaaGreat
/- THE CELL 'sum', in the pinned program and in every row, IS THE sha256 OF THE DUMP (.gsa) THAT YtbinbndegfednaaGreatProg.lean LOADS. Nothing in Lean hashes anything: it is a label: what it is worth is what the hold of that sum in a sandbox is worth. -/
noncomputable def Tryz.pinned : Pinned := { name := "ytbinbndegfednaagreat", sum := "ae1002f21e3000c292b10736f0af4a45ba0a8eba81dbf7d7dbdd05b1a2228a1f", checked := Tryz.checked }
namespace Rows
def none {H : Type} : Left H := { results := [], args := [] }

/-- 'hornbooklaw21.CompIs': WHATEVER THE INPUT: true; the input reads as it did. -/
def compIsSpec : ChangeSpec := { name := "compIs", fn := fun _ => fun
  | [d1, d2] => { results := [.lit (.bool true)], args := [d1, d2] }
  | _ => none }
def compIsRow : OpenClaim := { program := "ytbinbndegfednaagreat", sum := "ae1002f21e3000c292b10736f0af4a45ba0a8eba81dbf7d7dbdd05b1a2228a1f", func := "hornbook/hornbooklaw21.CompIs", spec := "compIs", inPlace := ["internal/abi.NoEscape"], unfollowed := true, recurses := true, apart := false }
def CompIsSaid : Prop := compIsRow.holds Tryz.pinned (OpenSpec.ofChange compIsSpec)

/-- ITS FALSE NEIGHBOUR: 'it returns false'. Refute it at one input. -/
def compIsWrong : ChangeSpec := { name := "compIs", fn := fun _ => fun
  | [d1, d2] => { results := [.lit (.bool false)], args := [d1, d2] }
  | _ => none }
def CompIsWrongFalsely : Prop := compIsRow.holds Tryz.pinned (OpenSpec.ofChange compIsWrong)

/-- 'hornbooklaw21.CompFirst': WHATEVER THE INPUT: true; the input reads as it did. -/
def compFirstSpec : ChangeSpec := { name := "compFirst", fn := fun _ => fun
  | [d1, d2] => { results := [.lit (.bool true)], args := [d1, d2] }
  | _ => none }
def compFirstRow : OpenClaim := { program := "ytbinbndegfednaagreat", sum := "ae1002f21e3000c292b10736f0af4a45ba0a8eba81dbf7d7dbdd05b1a2228a1f", func := "hornbook/hornbooklaw21.CompFirst", spec := "compFirst", inPlace := ["internal/abi.NoEscape"], unfollowed := true, recurses := true, apart := false }
def CompFirstSaid : Prop := compFirstRow.holds Tryz.pinned (OpenSpec.ofChange compFirstSpec)

/-- ITS FALSE NEIGHBOUR: 'it returns false'. Refute it at one input. -/
def compFirstWrong : ChangeSpec := { name := "compFirst", fn := fun _ => fun
  | [d1, d2] => { results := [.lit (.bool false)], args := [d1, d2] }
  | _ => none }
def CompFirstWrongFalsely : Prop := compFirstRow.holds Tryz.pinned (OpenSpec.ofChange compFirstWrong)

/-- 'hornbooklaw21.CompIdentity': WHATEVER THE INPUT: true; the input reads as it did. -/
def compIdentitySpec : ChangeSpec := { name := "compIdentity", fn := fun _ => fun
  | [d1, d2, d3] => { results := [.lit (.bool true)], args := [d1, d2, d3] }
  | _ => none }
def compIdentityRow : OpenClaim := { program := "ytbinbndegfednaagreat", sum := "ae1002f21e3000c292b10736f0af4a45ba0a8eba81dbf7d7dbdd05b1a2228a1f", func := "hornbook/hornbooklaw21.CompIdentity", spec := "compIdentity", inPlace := ["internal/abi.NoEscape"], unfollowed := true, recurses := true, apart := false }
def CompIdentitySaid : Prop := compIdentityRow.holds Tryz.pinned (OpenSpec.ofChange compIdentitySpec)

/-- ITS FALSE NEIGHBOUR: 'it returns false'. Refute it at one input. -/
def compIdentityWrong : ChangeSpec := { name := "compIdentity", fn := fun _ => fun
  | [d1, d2, d3] => { results := [.lit (.bool false)], args := [d1, d2, d3] }
  | _ => none }
def CompIdentityWrongFalsely : Prop := compIdentityRow.holds Tryz.pinned (OpenSpec.ofChange compIdentityWrong)

/-- 'hornbooklaw21.CompRows': WHATEVER THE INPUT: true; the input reads as it did. -/
def compRowsSpec : ChangeSpec := { name := "compRows", fn := fun _ => fun
  | [d1, d2, d3] => { results := [.lit (.bool true)], args := [d1, d2, d3] }
  | _ => none }
def compRowsRow : OpenClaim := { program := "ytbinbndegfednaagreat", sum := "ae1002f21e3000c292b10736f0af4a45ba0a8eba81dbf7d7dbdd05b1a2228a1f", func := "hornbook/hornbooklaw21.CompRows", spec := "compRows", inPlace := ["internal/abi.NoEscape"], unfollowed := true, recurses := true, apart := false }
def CompRowsSaid : Prop := compRowsRow.holds Tryz.pinned (OpenSpec.ofChange compRowsSpec)

/-- ITS FALSE NEIGHBOUR: 'it returns false'. Refute it at one input. -/
def compRowsWrong : ChangeSpec := { name := "compRows", fn := fun _ => fun
  | [d1, d2, d3] => { results := [.lit (.bool false)], args := [d1, d2, d3] }
  | _ => none }
def CompRowsWrongFalsely : Prop := compRowsRow.holds Tryz.pinned (OpenSpec.ofChange compRowsWrong)

/-- 'hornbooklaw21.CompBare': WHATEVER THE INPUT: true; the input reads as it did. -/
def compBareSpec : ChangeSpec := { name := "compBare", fn := fun _ => fun
  | [d1, d2] => { results := [.lit (.bool true)], args := [d1, d2] }
  | _ => none }
def compBareRow : OpenClaim := { program := "ytbinbndegfednaagreat", sum := "ae1002f21e3000c292b10736f0af4a45ba0a8eba81dbf7d7dbdd05b1a2228a1f", func := "hornbook/hornbooklaw21.CompBare", spec := "compBare", inPlace := ["internal/abi.NoEscape"], unfollowed := true, recurses := true, apart := false }
def CompBareSaid : Prop := compBareRow.holds Tryz.pinned (OpenSpec.ofChange compBareSpec)

/-- ITS FALSE NEIGHBOUR: 'it returns false'. Refute it at one input. -/
def compBareWrong : ChangeSpec := { name := "compBare", fn := fun _ => fun
  | [d1, d2] => { results := [.lit (.bool false)], args := [d1, d2] }
  | _ => none }
def CompBareWrongFalsely : Prop := compBareRow.holds Tryz.pinned (OpenSpec.ofChange compBareWrong)

/- THE SECOND FORM. 'bulk': how many values and letters a reading holds, each counted each time it is reached (what is shared counts as often as it is met; a slice's spare places count too). A statement '..UptoSaid' is the law's where the arguments, and the package variables that the reading takes, are together of bulk at most 1048576: NARROWER than '..Said'. Prove '..Said' where nothing that the law and all that it calls make is longer than what came in: it says more and counts as full. Else prove '..UptoSaid'. A law counts once. -/
mutual
def uptoBulk {H : Type} : DataW H → Nat
  | .lit (.string bytes) => bytes.length + 1
  | .lit _ => 1
  | .nil => 1
  | .ptr d => uptoBulk d + 1
  | .slice elems spare => uptoBulkAll elems + uptoBulkAll spare + 1
  | .agg parts => uptoBulkAll parts + 1
  | .iface _ d => uptoBulk d + 1
  | .map entries => uptoBulkEntries entries + 1
  | .held _ => 1
def uptoBulkAll {H : Type} : List (DataW H) → Nat
  | [] => 0
  | d :: r => uptoBulk d + uptoBulkAll r
def uptoBulkEntries {H : Type} : List (Lit × DataW H) → Nat
  | [] => 0
  | x :: r => uptoBulkEntry x + uptoBulkEntries r
def uptoBulkEntry {H : Type} : Lit × DataW H → Nat
  | (.string bytes, d) => bytes.length + uptoBulk d + 1
  | (_, d) => uptoBulk d + 1
 end
def uptoSmall : (H : Type) → List (DataW H) → Bool := fun _ ds => decide (uptoBulkAll ds ≤ 1048576)
def OpenSpec.upto (s : _root_.Go.ChangeSpec) : _root_.Go.OpenSpec := { _root_.Go.OpenSpec.ofChange s with cond := some uptoSmall }

/-- 'hornbooklaw21.CompIs', WHERE WHAT IT READS IS OF BULK AT MOST 1048576: true; the input reads as it did. -/
def compIsUptoRow : OpenClaim := { program := "ytbinbndegfednaagreat", sum := "ae1002f21e3000c292b10736f0af4a45ba0a8eba81dbf7d7dbdd05b1a2228a1f", func := "hornbook/hornbooklaw21.CompIs", spec := "compIs", inPlace := ["internal/abi.NoEscape"], unfollowed := true, recurses := true, apart := false, narrowed := true }
def CompIsUptoSaid : Prop := compIsUptoRow.holds Tryz.pinned (OpenSpec.upto compIsSpec)

/-- 'hornbooklaw21.CompFirst', WHERE WHAT IT READS IS OF BULK AT MOST 1048576: true; the input reads as it did. -/
def compFirstUptoRow : OpenClaim := { program := "ytbinbndegfednaagreat", sum := "ae1002f21e3000c292b10736f0af4a45ba0a8eba81dbf7d7dbdd05b1a2228a1f", func := "hornbook/hornbooklaw21.CompFirst", spec := "compFirst", inPlace := ["internal/abi.NoEscape"], unfollowed := true, recurses := true, apart := false, narrowed := true }
def CompFirstUptoSaid : Prop := compFirstUptoRow.holds Tryz.pinned (OpenSpec.upto compFirstSpec)

/-- 'hornbooklaw21.CompIdentity', WHERE WHAT IT READS IS OF BULK AT MOST 1048576: true; the input reads as it did. -/
def compIdentityUptoRow : OpenClaim := { program := "ytbinbndegfednaagreat", sum := "ae1002f21e3000c292b10736f0af4a45ba0a8eba81dbf7d7dbdd05b1a2228a1f", func := "hornbook/hornbooklaw21.CompIdentity", spec := "compIdentity", inPlace := ["internal/abi.NoEscape"], unfollowed := true, recurses := true, apart := false, narrowed := true }
def CompIdentityUptoSaid : Prop := compIdentityUptoRow.holds Tryz.pinned (OpenSpec.upto compIdentitySpec)

/-- 'hornbooklaw21.CompRows', WHERE WHAT IT READS IS OF BULK AT MOST 1048576: true; the input reads as it did. -/
def compRowsUptoRow : OpenClaim := { program := "ytbinbndegfednaagreat", sum := "ae1002f21e3000c292b10736f0af4a45ba0a8eba81dbf7d7dbdd05b1a2228a1f", func := "hornbook/hornbooklaw21.CompRows", spec := "compRows", inPlace := ["internal/abi.NoEscape"], unfollowed := true, recurses := true, apart := false, narrowed := true }
def CompRowsUptoSaid : Prop := compRowsUptoRow.holds Tryz.pinned (OpenSpec.upto compRowsSpec)

/-- 'hornbooklaw21.CompBare', WHERE WHAT IT READS IS OF BULK AT MOST 1048576: true; the input reads as it did. -/
def compBareUptoRow : OpenClaim := { program := "ytbinbndegfednaagreat", sum := "ae1002f21e3000c292b10736f0af4a45ba0a8eba81dbf7d7dbdd05b1a2228a1f", func := "hornbook/hornbooklaw21.CompBare", spec := "compBare", inPlace := ["internal/abi.NoEscape"], unfollowed := true, recurses := true, apart := false, narrowed := true }
def CompBareUptoSaid : Prop := compBareUptoRow.holds Tryz.pinned (OpenSpec.upto compBareSpec)

end Rows
end Go.Proofs.YtbinbndegfednaaGreat
