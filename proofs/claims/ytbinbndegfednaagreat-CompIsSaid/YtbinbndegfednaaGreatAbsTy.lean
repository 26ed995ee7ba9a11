/- The engine's table of types (written by absty.sh, a program of this session). -/
import Derived.Test.YtbinbndegfednaaGreatProg
import Derived.Test.YtbinbndegfednaaGreatAbsSpec
set_option linter.all false
set_option maxRecDepth 100000
namespace Go.Abs.Ty
open Go.Proofs
def T : List (TypeId × TI) := [(3, ⟨1, 8, [AV.int IntKind.i64 0], TD.int IntKind.i64⟩),
  (4, ⟨1, 1, [AV.lit false], TD.bool⟩),
  (68, ⟨1, 8, [AV.int IntKind.u64 0], TD.int IntKind.u64⟩),
  (9, ⟨1, 16, [AV.str { data := { toList := [] } }], TD.str⟩),
  (5, ⟨1, 1, [AV.int IntKind.u8 0], TD.int IntKind.u8⟩),
  (46, ⟨1, 24, [AV.nil], TD.slice 3⟩),
  (74, ⟨4, 48, [AV.int IntKind.i64 0, AV.int IntKind.i64 0, AV.int IntKind.i64 0, AV.nil], TD.struct [(0, 1, false), (1, 1, false), (2, 1, false), (3, 1, false)]⟩),
  (51, ⟨2, 16, [AV.int IntKind.i64 0, AV.int IntKind.i64 0], TD.struct [(0, 1, false), (1, 1, false)]⟩),
  (24, ⟨1, 24, [AV.nil], TD.slice 74⟩),
  (118, ⟨4, 32, [AV.int IntKind.i64 0, AV.int IntKind.i64 0, AV.int IntKind.i64 0, AV.int IntKind.i64 0], TD.struct [(0, 1, false), (1, 1, false), (2, 1, false), (3, 1, false)]⟩),
  (23, ⟨1, 24, [AV.nil], TD.slice 118⟩),
  (113, ⟨3, 24, [AV.int IntKind.i64 0, AV.int IntKind.i64 0, AV.int IntKind.i64 0], TD.struct [(0, 1, false), (1, 1, false), (2, 1, false)]⟩),
  (22, ⟨1, 24, [AV.nil], TD.slice 113⟩),
  (33, ⟨6, 120, [AV.str { data := { toList := [] } }, AV.int IntKind.i64 0, AV.nil, AV.nil, AV.nil, AV.nil], TD.struct [(0, 1, false), (1, 1, false), (2, 1, false), (3, 1, false), (4, 1, false), (5, 1, false)]⟩),
  (26, ⟨6, 120, [AV.str { data := { toList := [] } }, AV.int IntKind.i64 0, AV.nil, AV.nil, AV.nil, AV.nil], TD.struct [(0, 1, false), (1, 1, false), (2, 1, false), (3, 1, false), (4, 1, false), (5, 1, false)]⟩),
  (104, ⟨2, 16, [AV.int IntKind.i64 0, AV.nilF], TD.struct [(0, 1, false), (1, 1, false)]⟩),
  (100, ⟨1, 24, [AV.nil], TD.slice 104⟩),
  (102, ⟨1, 8, [AV.nilF], TD.other⟩),
  (29, ⟨1, 24, [AV.nil], TD.slice 5⟩),
  (53, ⟨5, 40, [AV.int IntKind.i64 0, AV.int IntKind.i64 0, AV.lit false, AV.int IntKind.i64 0, AV.int IntKind.i64 0], TD.struct [(0, 1, false), (1, 1, false), (2, 1, false), (3, 2, true)]⟩),
  (70, ⟨1, 24, [AV.nil], TD.slice 53⟩),
  (83, ⟨9, 88, [AV.int IntKind.i64 0, AV.int IntKind.i64 0, AV.lit false, AV.int IntKind.i64 0, AV.int IntKind.i64 0, AV.int IntKind.i64 0, AV.int IntKind.i64 0, AV.nil, AV.lit false], TD.struct [(0, 5, true), (5, 1, false), (6, 1, false), (7, 1, false), (8, 1, false)]⟩),
  (80, ⟨1, 24, [AV.nil], TD.slice 83⟩),
  (158, ⟨2, 16, [AV.int IntKind.i64 0, AV.int IntKind.i64 0], TD.struct [(0, 1, false), (1, 1, false)]⟩),
  (155, ⟨1, 24, [AV.nil], TD.slice 158⟩),
  (173, ⟨2, 48, [AV.nil, AV.nil], TD.struct [(0, 1, false), (1, 1, false)]⟩),
  (143, ⟨1, 8, [AV.nilF], TD.other⟩),
  (187, ⟨1, 8, [AV.nilF], TD.other⟩),
  (35, ⟨20, 376, [AV.str { data := { toList := [] } }, AV.int IntKind.i64 0, AV.nil, AV.nil, AV.nil, AV.nil, AV.lit false, AV.str { data := { toList := [] } }, AV.int IntKind.i64 0, AV.nil, AV.nil, AV.nil, AV.nil, AV.lit false, AV.str { data := { toList := [] } }, AV.int IntKind.i64 0, AV.nil, AV.nil, AV.nil, AV.nil], TD.struct [(0, 6, true), (6, 1, false), (7, 6, true), (13, 1, false), (14, 6, true)]⟩),
  (55, ⟨8, 72, [AV.int IntKind.i64 0, AV.int IntKind.i64 0, AV.lit false, AV.int IntKind.i64 0, AV.int IntKind.i64 0, AV.int IntKind.i64 0, AV.int IntKind.i64 0, AV.str { data := { toList := [] } }], TD.struct [(0, 5, true), (5, 1, false), (6, 1, false), (7, 1, false)]⟩),
  (40, ⟨1, 24, [AV.nil], TD.slice 55⟩),
  (128, ⟨1, 16, [AV.nilI], TD.other⟩),
  (78, ⟨1, 24, [AV.nil], TD.slice 128⟩),
  (123, ⟨6, 120, [AV.str { data := { toList := [] } }, AV.int IntKind.i64 0, AV.nil, AV.nil, AV.nil, AV.nil], TD.struct [(0, 6, true)]⟩),
  (124, ⟨6, 120, [AV.str { data := { toList := [] } }, AV.int IntKind.i64 0, AV.nil, AV.nil, AV.nil, AV.nil], TD.struct [(0, 6, true)]⟩),
  (126, ⟨0, 0, [], TD.struct []⟩),
  (28, ⟨20, 376, [AV.str { data := { toList := [] } }, AV.int IntKind.i64 0, AV.nil, AV.nil, AV.nil, AV.nil, AV.lit false, AV.str { data := { toList := [] } }, AV.int IntKind.i64 0, AV.nil, AV.nil, AV.nil, AV.nil, AV.lit false, AV.str { data := { toList := [] } }, AV.int IntKind.i64 0, AV.nil, AV.nil, AV.nil, AV.nil], TD.struct [(0, 6, true), (6, 1, false), (7, 6, true), (13, 1, false), (14, 6, true)]⟩),
  (77, ⟨8, 72, [AV.int IntKind.i64 0, AV.int IntKind.i64 0, AV.lit false, AV.int IntKind.i64 0, AV.int IntKind.i64 0, AV.int IntKind.i64 0, AV.int IntKind.i64 0, AV.str { data := { toList := [] } }], TD.struct [(0, 5, true), (5, 1, false), (6, 1, false), (7, 1, false)]⟩),
  (38, ⟨1, 24, [AV.nil], TD.slice 77⟩),
  (75, ⟨5, 40, [AV.int IntKind.i64 0, AV.int IntKind.i64 0, AV.lit false, AV.int IntKind.i64 0, AV.int IntKind.i64 0], TD.struct [(0, 1, false), (1, 1, false), (2, 1, false), (3, 2, true)]⟩),
  (131, ⟨1, 24, [AV.nil], TD.slice 75⟩),
  (88, ⟨9, 88, [AV.int IntKind.i64 0, AV.int IntKind.i64 0, AV.lit false, AV.int IntKind.i64 0, AV.int IntKind.i64 0, AV.int IntKind.i64 0, AV.int IntKind.i64 0, AV.nil, AV.lit false], TD.struct [(0, 5, true), (5, 1, false), (6, 1, false), (7, 1, false), (8, 1, false)]⟩),
  (85, ⟨1, 24, [AV.nil], TD.slice 88⟩),
  (116, ⟨1, 24, [AV.nil], TD.slice 9⟩)]
set_option maxHeartbeats 4000000 in
theorem seq51 : SeqOK Tryz.prog 51 [.i .i64, .i .i64] := ⟨Tryz.eqGuardType51, fun xs ys hx hy w => by
  match xs, ys, hx, hy with
  | [_, _], [_, _], ⟨⟨a0, rfl⟩, ⟨a1, rfl⟩, _⟩, ⟨⟨b0, rfl⟩, ⟨b1, rfl⟩, _⟩ =>
    go_simp
    simp only [eqV]
    repeat' split
    all_goals simp_all⟩
set_option maxHeartbeats 4000000 in
theorem seq118 : SeqOK Tryz.prog 118 [.i .i64, .i .i64, .i .i64, .i .i64] := ⟨Tryz.eqGuardType118, fun xs ys hx hy w => by
  match xs, ys, hx, hy with
  | [_, _, _, _], [_, _, _, _], ⟨⟨a0, rfl⟩, ⟨a1, rfl⟩, ⟨a2, rfl⟩, ⟨a3, rfl⟩, _⟩, ⟨⟨b0, rfl⟩, ⟨b1, rfl⟩, ⟨b2, rfl⟩, ⟨b3, rfl⟩, _⟩ =>
    go_simp
    simp only [eqV]
    repeat' split
    all_goals simp_all⟩
set_option maxHeartbeats 4000000 in
theorem seq113 : SeqOK Tryz.prog 113 [.i .i64, .i .i64, .i .i64] := ⟨Tryz.eqGuardType113, fun xs ys hx hy w => by
  match xs, ys, hx, hy with
  | [_, _, _], [_, _, _], ⟨⟨a0, rfl⟩, ⟨a1, rfl⟩, ⟨a2, rfl⟩, _⟩, ⟨⟨b0, rfl⟩, ⟨b1, rfl⟩, ⟨b2, rfl⟩, _⟩ =>
    go_simp
    simp only [eqV]
    repeat' split
    all_goals simp_all⟩
set_option maxHeartbeats 4000000 in
theorem seq53 : SeqOK Tryz.prog 53 [.i .i64, .i .i64, .b, .i .i64, .i .i64] := ⟨Tryz.eqGuardType53, fun xs ys hx hy w => by
  match xs, ys, hx, hy with
  | [_, _, _, _, _], [_, _, _, _, _], ⟨⟨a0, rfl⟩, ⟨a1, rfl⟩, ⟨a2, rfl⟩, ⟨a3, rfl⟩, ⟨a4, rfl⟩, _⟩, ⟨⟨b0, rfl⟩, ⟨b1, rfl⟩, ⟨b2, rfl⟩, ⟨b3, rfl⟩, ⟨b4, rfl⟩, _⟩ =>
    go_simp
    simp only [eqV]
    repeat' split
    all_goals simp_all⟩
set_option maxHeartbeats 4000000 in
theorem seq158 : SeqOK Tryz.prog 158 [.i .i64, .i .i64] := ⟨Tryz.eqGuardType158, fun xs ys hx hy w => by
  match xs, ys, hx, hy with
  | [_, _], [_, _], ⟨⟨a0, rfl⟩, ⟨a1, rfl⟩, _⟩, ⟨⟨b0, rfl⟩, ⟨b1, rfl⟩, _⟩ =>
    go_simp
    simp only [eqV]
    repeat' split
    all_goals simp_all⟩
set_option maxHeartbeats 4000000 in
theorem seq75 : SeqOK Tryz.prog 75 [.i .i64, .i .i64, .b, .i .i64, .i .i64] := ⟨Tryz.eqGuardType75, fun xs ys hx hy w => by
  match xs, ys, hx, hy with
  | [_, _, _, _, _], [_, _, _, _, _], ⟨⟨a0, rfl⟩, ⟨a1, rfl⟩, ⟨a2, rfl⟩, ⟨a3, rfl⟩, ⟨a4, rfl⟩, _⟩, ⟨⟨b0, rfl⟩, ⟨b1, rfl⟩, ⟨b2, rfl⟩, ⟨b3, rfl⟩, ⟨b4, rfl⟩, _⟩ =>
    go_simp
    simp only [eqV]
    repeat' split
    all_goals simp_all⟩
def Q : List (TypeId × List EK) := [(51, [.i .i64, .i .i64]), (118, [.i .i64, .i .i64, .i .i64, .i .i64]), (113, [.i .i64, .i .i64, .i .i64]), (53, [.i .i64, .i .i64, .b, .i .i64, .i .i64]), (158, [.i .i64, .i .i64]), (75, [.i .i64, .i .i64, .b, .i .i64, .i .i64])]
theorem ty : Ty Tryz.prog T Q := ⟨⟨seq51, seq118, seq113, seq53, seq158, seq75, trivial⟩, by kernel_rfl, by kernel_rfl, by kernel_rfl⟩
end Go.Abs.Ty
