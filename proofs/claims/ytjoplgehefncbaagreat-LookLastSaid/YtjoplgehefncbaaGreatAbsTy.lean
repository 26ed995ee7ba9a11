/- The engine's table of types (written by absty.sh, a program of this session). -/
import Derived.Test.YtjoplgehefncbaaGreatProg
import Derived.Test.YtjoplgehefncbaaGreatAbsSpec
set_option linter.all false
set_option maxRecDepth 100000
namespace Go.Abs.Ty
open Go.Proofs
def T : List (TypeId × TI) := [(3, ⟨1, 8, [AV.int IntKind.i64 0], TD.int IntKind.i64⟩),
  (4, ⟨1, 1, [AV.lit false], TD.bool⟩),
  (119, ⟨1, 8, [AV.int IntKind.u64 0], TD.int IntKind.u64⟩),
  (9, ⟨1, 16, [AV.str { data := { toList := [] } }], TD.str⟩),
  (5, ⟨1, 1, [AV.int IntKind.u8 0], TD.int IntKind.u8⟩),
  (35, ⟨1, 24, [AV.nil], TD.slice 3⟩),
  (70, ⟨4, 48, [AV.int IntKind.i64 0, AV.int IntKind.i64 0, AV.int IntKind.i64 0, AV.nil], TD.struct [(0, 1, false), (1, 1, false), (2, 1, false), (3, 1, false)]⟩),
  (28, ⟨2, 16, [AV.int IntKind.i64 0, AV.int IntKind.i64 0], TD.struct [(0, 1, false), (1, 1, false)]⟩),
  (24, ⟨1, 24, [AV.nil], TD.slice 70⟩),
  (72, ⟨4, 32, [AV.int IntKind.i64 0, AV.int IntKind.i64 0, AV.int IntKind.i64 0, AV.int IntKind.i64 0], TD.struct [(0, 1, false), (1, 1, false), (2, 1, false), (3, 1, false)]⟩),
  (23, ⟨1, 24, [AV.nil], TD.slice 72⟩),
  (68, ⟨3, 24, [AV.int IntKind.i64 0, AV.int IntKind.i64 0, AV.int IntKind.i64 0], TD.struct [(0, 1, false), (1, 1, false), (2, 1, false)]⟩),
  (22, ⟨1, 24, [AV.nil], TD.slice 68⟩),
  (40, ⟨6, 120, [AV.str { data := { toList := [] } }, AV.int IntKind.i64 0, AV.nil, AV.nil, AV.nil, AV.nil], TD.struct [(0, 1, false), (1, 1, false), (2, 1, false), (3, 1, false), (4, 1, false), (5, 1, false)]⟩),
  (26, ⟨6, 120, [AV.str { data := { toList := [] } }, AV.int IntKind.i64 0, AV.nil, AV.nil, AV.nil, AV.nil], TD.struct [(0, 1, false), (1, 1, false), (2, 1, false), (3, 1, false), (4, 1, false), (5, 1, false)]⟩),
  (78, ⟨2, 16, [AV.int IntKind.i64 0, AV.nilF], TD.struct [(0, 1, false), (1, 1, false)]⟩),
  (74, ⟨1, 24, [AV.nil], TD.slice 78⟩),
  (76, ⟨1, 8, [AV.nilF], TD.other⟩),
  (29, ⟨1, 24, [AV.nil], TD.slice 5⟩),
  (61, ⟨5, 40, [AV.int IntKind.i64 0, AV.int IntKind.i64 0, AV.lit false, AV.int IntKind.i64 0, AV.int IntKind.i64 0], TD.struct [(0, 1, false), (1, 1, false), (2, 1, false), (3, 2, true)]⟩),
  (80, ⟨1, 24, [AV.nil], TD.slice 61⟩),
  (63, ⟨9, 88, [AV.int IntKind.i64 0, AV.int IntKind.i64 0, AV.lit false, AV.int IntKind.i64 0, AV.int IntKind.i64 0, AV.int IntKind.i64 0, AV.int IntKind.i64 0, AV.nil, AV.lit false], TD.struct [(0, 5, true), (5, 1, false), (6, 1, false), (7, 1, false), (8, 1, false)]⟩),
  (49, ⟨1, 24, [AV.nil], TD.slice 63⟩),
  (148, ⟨2, 16, [AV.int IntKind.i64 0, AV.int IntKind.i64 0], TD.struct [(0, 1, false), (1, 1, false)]⟩),
  (144, ⟨1, 24, [AV.nil], TD.slice 148⟩),
  (163, ⟨2, 48, [AV.nil, AV.nil], TD.struct [(0, 1, false), (1, 1, false)]⟩),
  (145, ⟨1, 8, [AV.nilF], TD.other⟩),
  (167, ⟨1, 8, [AV.nilF], TD.other⟩),
  (34, ⟨5, 40, [AV.int IntKind.i64 0, AV.int IntKind.i64 0, AV.lit false, AV.int IntKind.i64 0, AV.int IntKind.i64 0], TD.struct [(0, 1, false), (1, 1, false), (2, 1, false), (3, 2, true)]⟩),
  (82, ⟨1, 24, [AV.nil], TD.slice 34⟩),
  (37, ⟨9, 88, [AV.int IntKind.i64 0, AV.int IntKind.i64 0, AV.lit false, AV.int IntKind.i64 0, AV.int IntKind.i64 0, AV.int IntKind.i64 0, AV.int IntKind.i64 0, AV.nil, AV.lit false], TD.struct [(0, 5, true), (5, 1, false), (6, 1, false), (7, 1, false), (8, 1, false)]⟩),
  (30, ⟨1, 24, [AV.nil], TD.slice 37⟩),
  (95, ⟨4, 40, [AV.int IntKind.i64 0, AV.int IntKind.i64 0, AV.int IntKind.i64 0, AV.str { data := { toList := [] } }], TD.struct [(0, 1, false), (1, 1, false), (2, 1, false), (3, 1, false)]⟩),
  (99, ⟨1, 24, [AV.nil], TD.slice 35⟩),
  (106, ⟨7, 88, [AV.int IntKind.i64 0, AV.int IntKind.i64 0, AV.int IntKind.i64 0, AV.int IntKind.i64 0, AV.int IntKind.i64 0, AV.nil, AV.nil], TD.struct [(0, 2, true), (2, 2, true), (4, 1, false), (5, 1, false), (6, 1, false)]⟩),
  (102, ⟨1, 24, [AV.nil], TD.slice 106⟩),
  (104, ⟨8, 96, [AV.int IntKind.i64 0, AV.int IntKind.i64 0, AV.str { data := { toList := [] } }, AV.int IntKind.i64 0, AV.int IntKind.i64 0, AV.int IntKind.i64 0, AV.str { data := { toList := [] } }, AV.nil], TD.struct [(0, 1, false), (1, 1, false), (2, 1, false), (3, 4, true), (7, 1, false)]⟩),
  (59, ⟨1, 24, [AV.nil], TD.slice 104⟩),
  (101, ⟨7, 88, [AV.int IntKind.i64 0, AV.int IntKind.i64 0, AV.int IntKind.i64 0, AV.int IntKind.i64 0, AV.int IntKind.i64 0, AV.nil, AV.nil], TD.struct [(0, 2, true), (2, 2, true), (4, 1, false), (5, 1, false), (6, 1, false)]⟩),
  (96, ⟨1, 24, [AV.nil], TD.slice 101⟩),
  (98, ⟨8, 96, [AV.int IntKind.i64 0, AV.int IntKind.i64 0, AV.str { data := { toList := [] } }, AV.int IntKind.i64 0, AV.int IntKind.i64 0, AV.int IntKind.i64 0, AV.str { data := { toList := [] } }, AV.nil], TD.struct [(0, 1, false), (1, 1, false), (2, 1, false), (3, 4, true), (7, 1, false)]⟩),
  (56, ⟨1, 24, [AV.nil], TD.slice 98⟩),
  (156, ⟨1, 8, [AV.nilF], TD.map 3 1⟩),
  (1, ⟨1, 8, [AV.nilF], TD.other⟩),
  (126, ⟨1, 8, [AV.nilF], TD.other⟩),
  (128, ⟨1, 8, [AV.nilF], TD.other⟩),
  (130, ⟨1, 8, [AV.nilF], TD.other⟩)]
set_option maxHeartbeats 4000000 in
theorem seq28 : SeqOK Tryz.prog 28 [.i .i64, .i .i64] := ⟨Tryz.eqGuardType28, fun xs ys hx hy w => by
  match xs, ys, hx, hy with
  | [_, _], [_, _], ⟨⟨a0, rfl⟩, ⟨a1, rfl⟩, _⟩, ⟨⟨b0, rfl⟩, ⟨b1, rfl⟩, _⟩ =>
    go_simp
    simp only [eqV]
    repeat' split
    all_goals simp_all⟩
set_option maxHeartbeats 4000000 in
theorem seq72 : SeqOK Tryz.prog 72 [.i .i64, .i .i64, .i .i64, .i .i64] := ⟨Tryz.eqGuardType72, fun xs ys hx hy w => by
  match xs, ys, hx, hy with
  | [_, _, _, _], [_, _, _, _], ⟨⟨a0, rfl⟩, ⟨a1, rfl⟩, ⟨a2, rfl⟩, ⟨a3, rfl⟩, _⟩, ⟨⟨b0, rfl⟩, ⟨b1, rfl⟩, ⟨b2, rfl⟩, ⟨b3, rfl⟩, _⟩ =>
    go_simp
    simp only [eqV]
    repeat' split
    all_goals simp_all⟩
set_option maxHeartbeats 4000000 in
theorem seq68 : SeqOK Tryz.prog 68 [.i .i64, .i .i64, .i .i64] := ⟨Tryz.eqGuardType68, fun xs ys hx hy w => by
  match xs, ys, hx, hy with
  | [_, _, _], [_, _, _], ⟨⟨a0, rfl⟩, ⟨a1, rfl⟩, ⟨a2, rfl⟩, _⟩, ⟨⟨b0, rfl⟩, ⟨b1, rfl⟩, ⟨b2, rfl⟩, _⟩ =>
    go_simp
    simp only [eqV]
    repeat' split
    all_goals simp_all⟩
set_option maxHeartbeats 4000000 in
theorem seq61 : SeqOK Tryz.prog 61 [.i .i64, .i .i64, .b, .i .i64, .i .i64] := ⟨Tryz.eqGuardType61, fun xs ys hx hy w => by
  match xs, ys, hx, hy with
  | [_, _, _, _, _], [_, _, _, _, _], ⟨⟨a0, rfl⟩, ⟨a1, rfl⟩, ⟨a2, rfl⟩, ⟨a3, rfl⟩, ⟨a4, rfl⟩, _⟩, ⟨⟨b0, rfl⟩, ⟨b1, rfl⟩, ⟨b2, rfl⟩, ⟨b3, rfl⟩, ⟨b4, rfl⟩, _⟩ =>
    go_simp
    simp only [eqV]
    repeat' split
    all_goals simp_all⟩
set_option maxHeartbeats 4000000 in
theorem seq148 : SeqOK Tryz.prog 148 [.i .i64, .i .i64] := ⟨Tryz.eqGuardType148, fun xs ys hx hy w => by
  match xs, ys, hx, hy with
  | [_, _], [_, _], ⟨⟨a0, rfl⟩, ⟨a1, rfl⟩, _⟩, ⟨⟨b0, rfl⟩, ⟨b1, rfl⟩, _⟩ =>
    go_simp
    simp only [eqV]
    repeat' split
    all_goals simp_all⟩
set_option maxHeartbeats 4000000 in
theorem seq34 : SeqOK Tryz.prog 34 [.i .i64, .i .i64, .b, .i .i64, .i .i64] := ⟨Tryz.eqGuardType34, fun xs ys hx hy w => by
  match xs, ys, hx, hy with
  | [_, _, _, _, _], [_, _, _, _, _], ⟨⟨a0, rfl⟩, ⟨a1, rfl⟩, ⟨a2, rfl⟩, ⟨a3, rfl⟩, ⟨a4, rfl⟩, _⟩, ⟨⟨b0, rfl⟩, ⟨b1, rfl⟩, ⟨b2, rfl⟩, ⟨b3, rfl⟩, ⟨b4, rfl⟩, _⟩ =>
    go_simp
    simp only [eqV]
    repeat' split
    all_goals simp_all⟩
set_option maxHeartbeats 4000000 in
theorem seq95 : SeqOK Tryz.prog 95 [.i .i64, .i .i64, .i .i64, .s] := ⟨Tryz.eqGuardType95, fun xs ys hx hy w => by
  match xs, ys, hx, hy with
  | [_, _, _, _], [_, _, _, _], ⟨⟨a0, rfl⟩, ⟨a1, rfl⟩, ⟨a2, rfl⟩, ⟨a3, rfl⟩, _⟩, ⟨⟨b0, rfl⟩, ⟨b1, rfl⟩, ⟨b2, rfl⟩, ⟨b3, rfl⟩, _⟩ =>
    go_simp
    simp only [eqV]
    repeat' split
    all_goals simp_all⟩
def Q : List (TypeId × List EK) := [(28, [.i .i64, .i .i64]), (72, [.i .i64, .i .i64, .i .i64, .i .i64]), (68, [.i .i64, .i .i64, .i .i64]), (61, [.i .i64, .i .i64, .b, .i .i64, .i .i64]), (148, [.i .i64, .i .i64]), (34, [.i .i64, .i .i64, .b, .i .i64, .i .i64]), (95, [.i .i64, .i .i64, .i .i64, .s])]
theorem ty : Ty Tryz.prog T Q := ⟨⟨seq28, seq72, seq68, seq61, seq148, seq34, seq95, trivial⟩, by kernel_rfl, by kernel_rfl, by kernel_rfl⟩
end Go.Abs.Ty
