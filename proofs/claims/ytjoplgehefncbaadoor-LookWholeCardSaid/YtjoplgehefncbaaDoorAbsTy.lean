/- The engine's table of types (written by absty.sh, a program of this session). -/
import Derived.Test.YtjoplgehefncbaaDoorProg
import Derived.Test.YtjoplgehefncbaaDoorAbsSpec
set_option linter.all false
set_option maxRecDepth 100000
namespace Go.Abs.Ty
open Go.Proofs
def T : List (TypeId × TI) := [(3, ⟨1, 8, [AV.int IntKind.i64 0], TD.int IntKind.i64⟩),
  (4, ⟨1, 1, [AV.lit false], TD.bool⟩),
  (85, ⟨1, 8, [AV.int IntKind.u64 0], TD.int IntKind.u64⟩),
  (9, ⟨1, 16, [AV.str { data := { toList := [] } }], TD.str⟩),
  (5, ⟨1, 1, [AV.int IntKind.u8 0], TD.int IntKind.u8⟩),
  (40, ⟨1, 24, [AV.nil], TD.slice 3⟩),
  (50, ⟨4, 48, [AV.int IntKind.i64 0, AV.int IntKind.i64 0, AV.int IntKind.i64 0, AV.nil], TD.struct [(0, 1, false), (1, 1, false), (2, 1, false), (3, 1, false)]⟩),
  (37, ⟨2, 16, [AV.int IntKind.i64 0, AV.int IntKind.i64 0], TD.struct [(0, 1, false), (1, 1, false)]⟩),
  (24, ⟨1, 24, [AV.nil], TD.slice 50⟩),
  (52, ⟨4, 32, [AV.int IntKind.i64 0, AV.int IntKind.i64 0, AV.int IntKind.i64 0, AV.int IntKind.i64 0], TD.struct [(0, 1, false), (1, 1, false), (2, 1, false), (3, 1, false)]⟩),
  (23, ⟨1, 24, [AV.nil], TD.slice 52⟩),
  (48, ⟨3, 24, [AV.int IntKind.i64 0, AV.int IntKind.i64 0, AV.int IntKind.i64 0], TD.struct [(0, 1, false), (1, 1, false), (2, 1, false)]⟩),
  (22, ⟨1, 24, [AV.nil], TD.slice 48⟩),
  (32, ⟨6, 120, [AV.str { data := { toList := [] } }, AV.int IntKind.i64 0, AV.nil, AV.nil, AV.nil, AV.nil], TD.struct [(0, 1, false), (1, 1, false), (2, 1, false), (3, 1, false), (4, 1, false), (5, 1, false)]⟩),
  (26, ⟨6, 120, [AV.str { data := { toList := [] } }, AV.int IntKind.i64 0, AV.nil, AV.nil, AV.nil, AV.nil], TD.struct [(0, 1, false), (1, 1, false), (2, 1, false), (3, 1, false), (4, 1, false), (5, 1, false)]⟩),
  (76, ⟨2, 16, [AV.int IntKind.i64 0, AV.nilF], TD.struct [(0, 1, false), (1, 1, false)]⟩),
  (72, ⟨1, 24, [AV.nil], TD.slice 76⟩),
  (74, ⟨1, 8, [AV.nilF], TD.other⟩),
  (27, ⟨1, 24, [AV.nil], TD.slice 5⟩),
  (39, ⟨5, 40, [AV.int IntKind.i64 0, AV.int IntKind.i64 0, AV.lit false, AV.int IntKind.i64 0, AV.int IntKind.i64 0], TD.struct [(0, 1, false), (1, 1, false), (2, 1, false), (3, 2, true)]⟩),
  (34, ⟨1, 24, [AV.nil], TD.slice 39⟩),
  (42, ⟨9, 88, [AV.int IntKind.i64 0, AV.int IntKind.i64 0, AV.lit false, AV.int IntKind.i64 0, AV.int IntKind.i64 0, AV.int IntKind.i64 0, AV.int IntKind.i64 0, AV.nil, AV.lit false], TD.struct [(0, 5, true), (5, 1, false), (6, 1, false), (7, 1, false), (8, 1, false)]⟩),
  (30, ⟨1, 24, [AV.nil], TD.slice 42⟩),
  (83, ⟨2, 16, [AV.int IntKind.i64 0, AV.int IntKind.i64 0], TD.struct [(0, 1, false), (1, 1, false)]⟩),
  (79, ⟨1, 24, [AV.nil], TD.slice 83⟩),
  (102, ⟨2, 48, [AV.nil, AV.nil], TD.struct [(0, 1, false), (1, 1, false)]⟩),
  (80, ⟨1, 8, [AV.nilF], TD.other⟩),
  (106, ⟨1, 8, [AV.nilF], TD.other⟩),
  (1, ⟨1, 8, [AV.nilF], TD.other⟩)]
set_option maxHeartbeats 4000000 in
theorem seq37 : SeqOK Tryd.prog 37 [.i .i64, .i .i64] := ⟨Tryd.eqGuardType37, fun xs ys hx hy w => by
  match xs, ys, hx, hy with
  | [_, _], [_, _], ⟨⟨a0, rfl⟩, ⟨a1, rfl⟩, _⟩, ⟨⟨b0, rfl⟩, ⟨b1, rfl⟩, _⟩ =>
    go_simp
    simp only [eqV]
    repeat' split
    all_goals simp_all⟩
set_option maxHeartbeats 4000000 in
theorem seq52 : SeqOK Tryd.prog 52 [.i .i64, .i .i64, .i .i64, .i .i64] := ⟨Tryd.eqGuardType52, fun xs ys hx hy w => by
  match xs, ys, hx, hy with
  | [_, _, _, _], [_, _, _, _], ⟨⟨a0, rfl⟩, ⟨a1, rfl⟩, ⟨a2, rfl⟩, ⟨a3, rfl⟩, _⟩, ⟨⟨b0, rfl⟩, ⟨b1, rfl⟩, ⟨b2, rfl⟩, ⟨b3, rfl⟩, _⟩ =>
    go_simp
    simp only [eqV]
    repeat' split
    all_goals simp_all⟩
set_option maxHeartbeats 4000000 in
theorem seq48 : SeqOK Tryd.prog 48 [.i .i64, .i .i64, .i .i64] := ⟨Tryd.eqGuardType48, fun xs ys hx hy w => by
  match xs, ys, hx, hy with
  | [_, _, _], [_, _, _], ⟨⟨a0, rfl⟩, ⟨a1, rfl⟩, ⟨a2, rfl⟩, _⟩, ⟨⟨b0, rfl⟩, ⟨b1, rfl⟩, ⟨b2, rfl⟩, _⟩ =>
    go_simp
    simp only [eqV]
    repeat' split
    all_goals simp_all⟩
set_option maxHeartbeats 4000000 in
theorem seq39 : SeqOK Tryd.prog 39 [.i .i64, .i .i64, .b, .i .i64, .i .i64] := ⟨Tryd.eqGuardType39, fun xs ys hx hy w => by
  match xs, ys, hx, hy with
  | [_, _, _, _, _], [_, _, _, _, _], ⟨⟨a0, rfl⟩, ⟨a1, rfl⟩, ⟨a2, rfl⟩, ⟨a3, rfl⟩, ⟨a4, rfl⟩, _⟩, ⟨⟨b0, rfl⟩, ⟨b1, rfl⟩, ⟨b2, rfl⟩, ⟨b3, rfl⟩, ⟨b4, rfl⟩, _⟩ =>
    go_simp
    simp only [eqV]
    repeat' split
    all_goals simp_all⟩
set_option maxHeartbeats 4000000 in
theorem seq83 : SeqOK Tryd.prog 83 [.i .i64, .i .i64] := ⟨Tryd.eqGuardType83, fun xs ys hx hy w => by
  match xs, ys, hx, hy with
  | [_, _], [_, _], ⟨⟨a0, rfl⟩, ⟨a1, rfl⟩, _⟩, ⟨⟨b0, rfl⟩, ⟨b1, rfl⟩, _⟩ =>
    go_simp
    simp only [eqV]
    repeat' split
    all_goals simp_all⟩
def Q : List (TypeId × List EK) := [(37, [.i .i64, .i .i64]), (52, [.i .i64, .i .i64, .i .i64, .i .i64]), (48, [.i .i64, .i .i64, .i .i64]), (39, [.i .i64, .i .i64, .b, .i .i64, .i .i64]), (83, [.i .i64, .i .i64])]
theorem ty : Ty Tryd.prog T Q := ⟨⟨seq37, seq52, seq48, seq39, seq83, trivial⟩, by kernel_rfl, by kernel_rfl, by kernel_rfl⟩
end Go.Abs.Ty
