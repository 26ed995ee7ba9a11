/- The engine's table of types (written by absty.sh, a program of this session). -/
import Derived.Test.YtbinbndegfednaaGreatDoorProg
import Derived.Test.YtbinbndegfednaaGreatDoorAbsSpec
set_option linter.all false
set_option maxRecDepth 100000
namespace Go.Abs.Ty
open Go.Proofs
def T : List (TypeId × TI) := [(3, ⟨1, 8, [AV.int IntKind.i64 0], TD.int IntKind.i64⟩),
  (4, ⟨1, 1, [AV.lit false], TD.bool⟩),
  (108, ⟨1, 8, [AV.int IntKind.u64 0], TD.int IntKind.u64⟩),
  (9, ⟨1, 16, [AV.str { data := { toList := [] } }], TD.str⟩),
  (5, ⟨1, 1, [AV.int IntKind.u8 0], TD.int IntKind.u8⟩),
  (41, ⟨1, 24, [AV.nil], TD.slice 3⟩),
  (55, ⟨4, 48, [AV.int IntKind.i64 0, AV.int IntKind.i64 0, AV.int IntKind.i64 0, AV.nil], TD.struct [(0, 1, false), (1, 1, false), (2, 1, false), (3, 1, false)]⟩),
  (44, ⟨2, 16, [AV.int IntKind.i64 0, AV.int IntKind.i64 0], TD.struct [(0, 1, false), (1, 1, false)]⟩),
  (24, ⟨1, 24, [AV.nil], TD.slice 55⟩),
  (82, ⟨4, 32, [AV.int IntKind.i64 0, AV.int IntKind.i64 0, AV.int IntKind.i64 0, AV.int IntKind.i64 0], TD.struct [(0, 1, false), (1, 1, false), (2, 1, false), (3, 1, false)]⟩),
  (23, ⟨1, 24, [AV.nil], TD.slice 82⟩),
  (80, ⟨3, 24, [AV.int IntKind.i64 0, AV.int IntKind.i64 0, AV.int IntKind.i64 0], TD.struct [(0, 1, false), (1, 1, false), (2, 1, false)]⟩),
  (22, ⟨1, 24, [AV.nil], TD.slice 80⟩),
  (33, ⟨6, 120, [AV.str { data := { toList := [] } }, AV.int IntKind.i64 0, AV.nil, AV.nil, AV.nil, AV.nil], TD.struct [(0, 1, false), (1, 1, false), (2, 1, false), (3, 1, false), (4, 1, false), (5, 1, false)]⟩),
  (26, ⟨6, 120, [AV.str { data := { toList := [] } }, AV.int IntKind.i64 0, AV.nil, AV.nil, AV.nil, AV.nil], TD.struct [(0, 1, false), (1, 1, false), (2, 1, false), (3, 1, false), (4, 1, false), (5, 1, false)]⟩),
  (130, ⟨2, 16, [AV.int IntKind.i64 0, AV.nilF], TD.struct [(0, 1, false), (1, 1, false)]⟩),
  (126, ⟨1, 24, [AV.nil], TD.slice 130⟩),
  (128, ⟨1, 8, [AV.nilF], TD.other⟩),
  (29, ⟨1, 24, [AV.nil], TD.slice 5⟩),
  (46, ⟨5, 40, [AV.int IntKind.i64 0, AV.int IntKind.i64 0, AV.lit false, AV.int IntKind.i64 0, AV.int IntKind.i64 0], TD.struct [(0, 1, false), (1, 1, false), (2, 1, false), (3, 2, true)]⟩),
  (39, ⟨1, 24, [AV.nil], TD.slice 46⟩),
  (64, ⟨9, 88, [AV.int IntKind.i64 0, AV.int IntKind.i64 0, AV.lit false, AV.int IntKind.i64 0, AV.int IntKind.i64 0, AV.int IntKind.i64 0, AV.int IntKind.i64 0, AV.nil, AV.lit false], TD.struct [(0, 5, true), (5, 1, false), (6, 1, false), (7, 1, false), (8, 1, false)]⟩),
  (61, ⟨1, 24, [AV.nil], TD.slice 64⟩),
  (106, ⟨2, 16, [AV.int IntKind.i64 0, AV.int IntKind.i64 0], TD.struct [(0, 1, false), (1, 1, false)]⟩),
  (102, ⟨1, 24, [AV.nil], TD.slice 106⟩),
  (134, ⟨2, 48, [AV.nil, AV.nil], TD.struct [(0, 1, false), (1, 1, false)]⟩),
  (103, ⟨1, 8, [AV.nilF], TD.other⟩),
  (138, ⟨1, 8, [AV.nilF], TD.other⟩),
  (1, ⟨1, 8, [AV.nilF], TD.other⟩),
  (35, ⟨20, 376, [AV.str { data := { toList := [] } }, AV.int IntKind.i64 0, AV.nil, AV.nil, AV.nil, AV.nil, AV.lit false, AV.str { data := { toList := [] } }, AV.int IntKind.i64 0, AV.nil, AV.nil, AV.nil, AV.nil, AV.lit false, AV.str { data := { toList := [] } }, AV.int IntKind.i64 0, AV.nil, AV.nil, AV.nil, AV.nil], TD.struct [(0, 6, true), (6, 1, false), (7, 6, true), (13, 1, false), (14, 6, true)]⟩),
  (48, ⟨8, 72, [AV.int IntKind.i64 0, AV.int IntKind.i64 0, AV.lit false, AV.int IntKind.i64 0, AV.int IntKind.i64 0, AV.int IntKind.i64 0, AV.int IntKind.i64 0, AV.str { data := { toList := [] } }], TD.struct [(0, 5, true), (5, 1, false), (6, 1, false), (7, 1, false)]⟩),
  (37, ⟨1, 24, [AV.nil], TD.slice 48⟩),
  (97, ⟨1, 16, [AV.nilI], TD.other⟩),
  (59, ⟨1, 24, [AV.nil], TD.slice 97⟩),
  (88, ⟨6, 120, [AV.str { data := { toList := [] } }, AV.int IntKind.i64 0, AV.nil, AV.nil, AV.nil, AV.nil], TD.struct [(0, 6, true)]⟩),
  (89, ⟨6, 120, [AV.str { data := { toList := [] } }, AV.int IntKind.i64 0, AV.nil, AV.nil, AV.nil, AV.nil], TD.struct [(0, 6, true)]⟩),
  (91, ⟨0, 0, [], TD.struct []⟩),
  (28, ⟨20, 376, [AV.str { data := { toList := [] } }, AV.int IntKind.i64 0, AV.nil, AV.nil, AV.nil, AV.nil, AV.lit false, AV.str { data := { toList := [] } }, AV.int IntKind.i64 0, AV.nil, AV.nil, AV.nil, AV.nil, AV.lit false, AV.str { data := { toList := [] } }, AV.int IntKind.i64 0, AV.nil, AV.nil, AV.nil, AV.nil], TD.struct [(0, 6, true), (6, 1, false), (7, 6, true), (13, 1, false), (14, 6, true)]⟩),
  (78, ⟨1, 24, [AV.nil], TD.slice 9⟩)]
set_option maxHeartbeats 4000000 in
theorem seq44 : SeqOK Tryz.prog 44 [.i .i64, .i .i64] := ⟨Tryz.eqGuardType44, fun xs ys hx hy w => by
  match xs, ys, hx, hy with
  | [_, _], [_, _], ⟨⟨a0, rfl⟩, ⟨a1, rfl⟩, _⟩, ⟨⟨b0, rfl⟩, ⟨b1, rfl⟩, _⟩ =>
    go_simp
    simp only [eqV]
    repeat' split
    all_goals simp_all⟩
set_option maxHeartbeats 4000000 in
theorem seq82 : SeqOK Tryz.prog 82 [.i .i64, .i .i64, .i .i64, .i .i64] := ⟨Tryz.eqGuardType82, fun xs ys hx hy w => by
  match xs, ys, hx, hy with
  | [_, _, _, _], [_, _, _, _], ⟨⟨a0, rfl⟩, ⟨a1, rfl⟩, ⟨a2, rfl⟩, ⟨a3, rfl⟩, _⟩, ⟨⟨b0, rfl⟩, ⟨b1, rfl⟩, ⟨b2, rfl⟩, ⟨b3, rfl⟩, _⟩ =>
    go_simp
    simp only [eqV]
    repeat' split
    all_goals simp_all⟩
set_option maxHeartbeats 4000000 in
theorem seq80 : SeqOK Tryz.prog 80 [.i .i64, .i .i64, .i .i64] := ⟨Tryz.eqGuardType80, fun xs ys hx hy w => by
  match xs, ys, hx, hy with
  | [_, _, _], [_, _, _], ⟨⟨a0, rfl⟩, ⟨a1, rfl⟩, ⟨a2, rfl⟩, _⟩, ⟨⟨b0, rfl⟩, ⟨b1, rfl⟩, ⟨b2, rfl⟩, _⟩ =>
    go_simp
    simp only [eqV]
    repeat' split
    all_goals simp_all⟩
set_option maxHeartbeats 4000000 in
theorem seq46 : SeqOK Tryz.prog 46 [.i .i64, .i .i64, .b, .i .i64, .i .i64] := ⟨Tryz.eqGuardType46, fun xs ys hx hy w => by
  match xs, ys, hx, hy with
  | [_, _, _, _, _], [_, _, _, _, _], ⟨⟨a0, rfl⟩, ⟨a1, rfl⟩, ⟨a2, rfl⟩, ⟨a3, rfl⟩, ⟨a4, rfl⟩, _⟩, ⟨⟨b0, rfl⟩, ⟨b1, rfl⟩, ⟨b2, rfl⟩, ⟨b3, rfl⟩, ⟨b4, rfl⟩, _⟩ =>
    go_simp
    simp only [eqV]
    repeat' split
    all_goals simp_all⟩
set_option maxHeartbeats 4000000 in
theorem seq106 : SeqOK Tryz.prog 106 [.i .i64, .i .i64] := ⟨Tryz.eqGuardType106, fun xs ys hx hy w => by
  match xs, ys, hx, hy with
  | [_, _], [_, _], ⟨⟨a0, rfl⟩, ⟨a1, rfl⟩, _⟩, ⟨⟨b0, rfl⟩, ⟨b1, rfl⟩, _⟩ =>
    go_simp
    simp only [eqV]
    repeat' split
    all_goals simp_all⟩
def Q : List (TypeId × List EK) := [(44, [.i .i64, .i .i64]), (82, [.i .i64, .i .i64, .i .i64, .i .i64]), (80, [.i .i64, .i .i64, .i .i64]), (46, [.i .i64, .i .i64, .b, .i .i64, .i .i64]), (106, [.i .i64, .i .i64])]
theorem ty : Ty Tryz.prog T Q := ⟨⟨seq44, seq82, seq80, seq46, seq106, trivial⟩, by kernel_rfl, by kernel_rfl, by kernel_rfl⟩
end Go.Abs.Ty
