/- The engine's table of types (written by absty.sh, a program of this session). -/
import Derived.Test.YtmgjojgfocbjfaaDoorProg
import Derived.Test.YtmgjojgfocbjfaaDoorAbsSpec
set_option linter.all false
set_option maxRecDepth 100000
namespace Go.Abs.Ty
open Go.Proofs
def T : List (TypeId × TI) := [(3, ⟨1, 8, [AV.int IntKind.i64 0], TD.int IntKind.i64⟩),
  (4, ⟨1, 1, [AV.lit false], TD.bool⟩),
  (63, ⟨1, 8, [AV.int IntKind.u64 0], TD.int IntKind.u64⟩),
  (9, ⟨1, 16, [AV.str { data := { toList := [] } }], TD.str⟩),
  (5, ⟨1, 1, [AV.int IntKind.u8 0], TD.int IntKind.u8⟩),
  (29, ⟨1, 24, [AV.nil], TD.slice 3⟩),
  (46, ⟨4, 48, [AV.int IntKind.i64 0, AV.int IntKind.i64 0, AV.int IntKind.i64 0, AV.nil], TD.struct [(0, 1, false), (1, 1, false), (2, 1, false), (3, 1, false)]⟩),
  (44, ⟨2, 16, [AV.int IntKind.i64 0, AV.int IntKind.i64 0], TD.struct [(0, 1, false), (1, 1, false)]⟩),
  (24, ⟨1, 24, [AV.nil], TD.slice 46⟩),
  (73, ⟨4, 32, [AV.int IntKind.i64 0, AV.int IntKind.i64 0, AV.int IntKind.i64 0, AV.int IntKind.i64 0], TD.struct [(0, 1, false), (1, 1, false), (2, 1, false), (3, 1, false)]⟩),
  (23, ⟨1, 24, [AV.nil], TD.slice 73⟩),
  (71, ⟨3, 24, [AV.int IntKind.i64 0, AV.int IntKind.i64 0, AV.int IntKind.i64 0], TD.struct [(0, 1, false), (1, 1, false), (2, 1, false)]⟩),
  (22, ⟨1, 24, [AV.nil], TD.slice 71⟩),
  (32, ⟨6, 120, [AV.str { data := { toList := [] } }, AV.int IntKind.i64 0, AV.nil, AV.nil, AV.nil, AV.nil], TD.struct [(0, 1, false), (1, 1, false), (2, 1, false), (3, 1, false), (4, 1, false), (5, 1, false)]⟩),
  (26, ⟨6, 120, [AV.str { data := { toList := [] } }, AV.int IntKind.i64 0, AV.nil, AV.nil, AV.nil, AV.nil], TD.struct [(0, 1, false), (1, 1, false), (2, 1, false), (3, 1, false), (4, 1, false), (5, 1, false)]⟩),
  (68, ⟨2, 16, [AV.int IntKind.i64 0, AV.nilF], TD.struct [(0, 1, false), (1, 1, false)]⟩),
  (64, ⟨1, 24, [AV.nil], TD.slice 68⟩),
  (69, ⟨1, 24, [AV.nil], TD.slice 9⟩),
  (66, ⟨1, 8, [AV.nilF], TD.other⟩),
  (53, ⟨1, 24, [AV.nil], TD.slice 5⟩)]
set_option maxHeartbeats 4000000 in
theorem seq44 : SeqOK Tryd.prog 44 [.i .i64, .i .i64] := ⟨Tryd.eqGuardType44, fun xs ys hx hy w => by
  match xs, ys, hx, hy with
  | [_, _], [_, _], ⟨⟨a0, rfl⟩, ⟨a1, rfl⟩, _⟩, ⟨⟨b0, rfl⟩, ⟨b1, rfl⟩, _⟩ =>
    go_simp
    simp only [eqV]
    repeat' split
    all_goals simp_all⟩
set_option maxHeartbeats 4000000 in
theorem seq73 : SeqOK Tryd.prog 73 [.i .i64, .i .i64, .i .i64, .i .i64] := ⟨Tryd.eqGuardType73, fun xs ys hx hy w => by
  match xs, ys, hx, hy with
  | [_, _, _, _], [_, _, _, _], ⟨⟨a0, rfl⟩, ⟨a1, rfl⟩, ⟨a2, rfl⟩, ⟨a3, rfl⟩, _⟩, ⟨⟨b0, rfl⟩, ⟨b1, rfl⟩, ⟨b2, rfl⟩, ⟨b3, rfl⟩, _⟩ =>
    go_simp
    simp only [eqV]
    repeat' split
    all_goals simp_all⟩
set_option maxHeartbeats 4000000 in
theorem seq71 : SeqOK Tryd.prog 71 [.i .i64, .i .i64, .i .i64] := ⟨Tryd.eqGuardType71, fun xs ys hx hy w => by
  match xs, ys, hx, hy with
  | [_, _, _], [_, _, _], ⟨⟨a0, rfl⟩, ⟨a1, rfl⟩, ⟨a2, rfl⟩, _⟩, ⟨⟨b0, rfl⟩, ⟨b1, rfl⟩, ⟨b2, rfl⟩, _⟩ =>
    go_simp
    simp only [eqV]
    repeat' split
    all_goals simp_all⟩
def Q : List (TypeId × List EK) := [(44, [.i .i64, .i .i64]), (73, [.i .i64, .i .i64, .i .i64, .i .i64]), (71, [.i .i64, .i .i64, .i .i64])]
theorem ty : Ty Tryd.prog T Q := ⟨⟨seq44, seq73, seq71, trivial⟩, by kernel_rfl, by kernel_rfl, by kernel_rfl⟩
end Go.Abs.Ty
