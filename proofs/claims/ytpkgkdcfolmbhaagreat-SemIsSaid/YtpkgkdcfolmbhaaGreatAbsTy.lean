/- The engine's table of types (written by absty.sh, a program of this session). -/
import Derived.Test.YtpkgkdcfolmbhaaGreatProg
import Derived.Test.YtpkgkdcfolmbhaaGreatAbsSpec
set_option linter.all false
set_option maxRecDepth 100000
namespace Go.Abs.Ty
open Go.Proofs
def T : List (TypeId × TI) := [(3, ⟨1, 8, [AV.int IntKind.i64 0], TD.int IntKind.i64⟩),
  (4, ⟨1, 1, [AV.lit false], TD.bool⟩),
  (131, ⟨1, 8, [AV.int IntKind.u64 0], TD.int IntKind.u64⟩),
  (9, ⟨1, 16, [AV.str { data := { toList := [] } }], TD.str⟩),
  (5, ⟨1, 1, [AV.int IntKind.u8 0], TD.int IntKind.u8⟩),
  (59, ⟨1, 24, [AV.nil], TD.slice 3⟩),
  (73, ⟨4, 48, [AV.int IntKind.i64 0, AV.int IntKind.i64 0, AV.int IntKind.i64 0, AV.nil], TD.struct [(0, 1, false), (1, 1, false), (2, 1, false), (3, 1, false)]⟩),
  (56, ⟨2, 16, [AV.int IntKind.i64 0, AV.int IntKind.i64 0], TD.struct [(0, 1, false), (1, 1, false)]⟩),
  (24, ⟨1, 24, [AV.nil], TD.slice 73⟩),
  (83, ⟨4, 32, [AV.int IntKind.i64 0, AV.int IntKind.i64 0, AV.int IntKind.i64 0, AV.int IntKind.i64 0], TD.struct [(0, 1, false), (1, 1, false), (2, 1, false), (3, 1, false)]⟩),
  (23, ⟨1, 24, [AV.nil], TD.slice 83⟩),
  (64, ⟨3, 24, [AV.int IntKind.i64 0, AV.int IntKind.i64 0, AV.int IntKind.i64 0], TD.struct [(0, 1, false), (1, 1, false), (2, 1, false)]⟩),
  (22, ⟨1, 24, [AV.nil], TD.slice 64⟩),
  (39, ⟨6, 120, [AV.str { data := { toList := [] } }, AV.int IntKind.i64 0, AV.nil, AV.nil, AV.nil, AV.nil], TD.struct [(0, 1, false), (1, 1, false), (2, 1, false), (3, 1, false), (4, 1, false), (5, 1, false)]⟩),
  (26, ⟨6, 120, [AV.str { data := { toList := [] } }, AV.int IntKind.i64 0, AV.nil, AV.nil, AV.nil, AV.nil], TD.struct [(0, 1, false), (1, 1, false), (2, 1, false), (3, 1, false), (4, 1, false), (5, 1, false)]⟩),
  (101, ⟨1, 24, [AV.nil], TD.slice 5⟩),
  (139, ⟨2, 48, [AV.nil, AV.nil], TD.struct [(0, 1, false), (1, 1, false)]⟩),
  (98, ⟨1, 8, [AV.nilF], TD.other⟩),
  (32, ⟨4, 40, [AV.int IntKind.i64 0, AV.int IntKind.i64 0, AV.int IntKind.i64 0, AV.str { data := { toList := [] } }], TD.struct [(0, 1, false), (1, 1, false), (2, 1, false), (3, 1, false)]⟩),
  (67, ⟨1, 24, [AV.nil], TD.slice 59⟩),
  (69, ⟨7, 88, [AV.int IntKind.i64 0, AV.int IntKind.i64 0, AV.int IntKind.i64 0, AV.int IntKind.i64 0, AV.int IntKind.i64 0, AV.nil, AV.nil], TD.struct [(0, 2, true), (2, 2, true), (4, 1, false), (5, 1, false), (6, 1, false)]⟩),
  (33, ⟨1, 24, [AV.nil], TD.slice 69⟩),
  (35, ⟨8, 96, [AV.int IntKind.i64 0, AV.int IntKind.i64 0, AV.str { data := { toList := [] } }, AV.int IntKind.i64 0, AV.int IntKind.i64 0, AV.int IntKind.i64 0, AV.str { data := { toList := [] } }, AV.nil], TD.struct [(0, 1, false), (1, 1, false), (2, 1, false), (3, 4, true), (7, 1, false)]⟩),
  (36, ⟨1, 24, [AV.nil], TD.slice 35⟩),
  (71, ⟨7, 88, [AV.int IntKind.i64 0, AV.int IntKind.i64 0, AV.int IntKind.i64 0, AV.int IntKind.i64 0, AV.int IntKind.i64 0, AV.nil, AV.nil], TD.struct [(0, 2, true), (2, 2, true), (4, 1, false), (5, 1, false), (6, 1, false)]⟩),
  (49, ⟨1, 24, [AV.nil], TD.slice 71⟩),
  (51, ⟨8, 96, [AV.int IntKind.i64 0, AV.int IntKind.i64 0, AV.str { data := { toList := [] } }, AV.int IntKind.i64 0, AV.int IntKind.i64 0, AV.int IntKind.i64 0, AV.str { data := { toList := [] } }, AV.nil], TD.struct [(0, 1, false), (1, 1, false), (2, 1, false), (3, 4, true), (7, 1, false)]⟩),
  (27, ⟨1, 24, [AV.nil], TD.slice 51⟩),
  (105, ⟨1, 8, [AV.nilF], TD.map 3 1⟩),
  (1, ⟨1, 8, [AV.nilF], TD.other⟩),
  (108, ⟨1, 8, [AV.nilF], TD.other⟩),
  (110, ⟨1, 8, [AV.nilF], TD.other⟩),
  (112, ⟨1, 8, [AV.nilF], TD.other⟩)]
set_option maxHeartbeats 4000000 in
theorem seq56 : SeqOK Tryz.prog 56 [.i .i64, .i .i64] := ⟨Tryz.eqGuardType56, fun xs ys hx hy w => by
  match xs, ys, hx, hy with
  | [_, _], [_, _], ⟨⟨a0, rfl⟩, ⟨a1, rfl⟩, _⟩, ⟨⟨b0, rfl⟩, ⟨b1, rfl⟩, _⟩ =>
    go_simp
    simp only [eqV]
    repeat' split
    all_goals simp_all⟩
set_option maxHeartbeats 4000000 in
theorem seq83 : SeqOK Tryz.prog 83 [.i .i64, .i .i64, .i .i64, .i .i64] := ⟨Tryz.eqGuardType83, fun xs ys hx hy w => by
  match xs, ys, hx, hy with
  | [_, _, _, _], [_, _, _, _], ⟨⟨a0, rfl⟩, ⟨a1, rfl⟩, ⟨a2, rfl⟩, ⟨a3, rfl⟩, _⟩, ⟨⟨b0, rfl⟩, ⟨b1, rfl⟩, ⟨b2, rfl⟩, ⟨b3, rfl⟩, _⟩ =>
    go_simp
    simp only [eqV]
    repeat' split
    all_goals simp_all⟩
set_option maxHeartbeats 4000000 in
theorem seq64 : SeqOK Tryz.prog 64 [.i .i64, .i .i64, .i .i64] := ⟨Tryz.eqGuardType64, fun xs ys hx hy w => by
  match xs, ys, hx, hy with
  | [_, _, _], [_, _, _], ⟨⟨a0, rfl⟩, ⟨a1, rfl⟩, ⟨a2, rfl⟩, _⟩, ⟨⟨b0, rfl⟩, ⟨b1, rfl⟩, ⟨b2, rfl⟩, _⟩ =>
    go_simp
    simp only [eqV]
    repeat' split
    all_goals simp_all⟩
set_option maxHeartbeats 4000000 in
theorem seq32 : SeqOK Tryz.prog 32 [.i .i64, .i .i64, .i .i64, .s] := ⟨Tryz.eqGuardType32, fun xs ys hx hy w => by
  match xs, ys, hx, hy with
  | [_, _, _, _], [_, _, _, _], ⟨⟨a0, rfl⟩, ⟨a1, rfl⟩, ⟨a2, rfl⟩, ⟨a3, rfl⟩, _⟩, ⟨⟨b0, rfl⟩, ⟨b1, rfl⟩, ⟨b2, rfl⟩, ⟨b3, rfl⟩, _⟩ =>
    go_simp
    simp only [eqV]
    repeat' split
    all_goals simp_all⟩
def Q : List (TypeId × List EK) := [(56, [.i .i64, .i .i64]), (83, [.i .i64, .i .i64, .i .i64, .i .i64]), (64, [.i .i64, .i .i64, .i .i64]), (32, [.i .i64, .i .i64, .i .i64, .s])]
theorem ty : Ty Tryz.prog T Q := ⟨⟨seq56, seq83, seq64, seq32, trivial⟩, by kernel_rfl, by kernel_rfl, by kernel_rfl⟩
end Go.Abs.Ty
