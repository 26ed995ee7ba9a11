/- The engine's table of types (written by absty.sh, a program of this session). -/
import Derived.Test.YtmjbobbgidpigaaProg
import Derived.Test.YtmjbobbgidpigaaAbsSpec
set_option linter.all false
set_option maxRecDepth 100000
namespace Go.Abs.Ty
open Go.Proofs
def T : List (TypeId × TI) := [(3, ⟨1, 8, [AV.int IntKind.i64 0], TD.int IntKind.i64⟩),
  (4, ⟨1, 1, [AV.lit false], TD.bool⟩),
  (42, ⟨1, 8, [AV.int IntKind.u64 0], TD.int IntKind.u64⟩),
  (22, ⟨1, 24, [AV.nil], TD.slice 3⟩),
  (24, ⟨4, 48, [AV.int IntKind.i64 0, AV.int IntKind.i64 0, AV.int IntKind.i64 0, AV.nil], TD.struct [(0, 1, false), (1, 1, false), (2, 1, false), (3, 1, false)]⟩),
  (26, ⟨2, 16, [AV.int IntKind.i64 0, AV.int IntKind.i64 0], TD.struct [(0, 1, false), (1, 1, false)]⟩),
  (29, ⟨1, 24, [AV.nil], TD.slice 24⟩)]
theorem ty : Ty Try.prog T := ⟨by kernel_rfl, by kernel_rfl, by kernel_rfl⟩
end Go.Abs.Ty
