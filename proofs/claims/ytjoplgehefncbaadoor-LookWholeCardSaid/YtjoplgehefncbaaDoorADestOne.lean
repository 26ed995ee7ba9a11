/- DestOne by the engine. -/
import Derived.Test.YtjoplgehefncbaaDoorADestAwake
import Derived.Test.YtjoplgehefncbaaDoorADestSing
set_option linter.all false
set_option maxRecDepth 100000
namespace Go.Abs.Dest
open Go.RowKit Go.Proofs Go.Abs.Tab
theorem and_low (p : Nat) (hp : p ≤ 16) (n : Int) : IntKind.i64.wrap ((BitVec.ofInt IntKind.i64.bits n &&& BitVec.ofInt IntKind.i64.bits ((2 : Int) ^ p - 1)).toNat : Nat) = n % (2 : Int) ^ p := by
  have hc : p = 0 ∨ p = 1 ∨ p = 2 ∨ p = 3 ∨ p = 4 ∨ p = 5 ∨ p = 6 ∨ p = 7 ∨ p = 8 ∨ p = 9 ∨ p = 10 ∨ p = 11 ∨ p = 12 ∨ p = 13 ∨ p = 14 ∨ p = 15 ∨ p = 16 := by omega
  have h127 : (BitVec.ofInt 64 ((2 : Int) ^ p - 1)).toNat = 2 ^ p - 1 := by
    rcases hc with rfl | rfl | rfl | rfl | rfl | rfl | rfl | rfl | rfl | rfl | rfl | rfl | rfl | rfl | rfl | rfl | rfl <;> decide +kernel
  have key : (BitVec.ofInt 64 n &&& BitVec.ofInt 64 ((2 : Int) ^ p - 1)).toNat = (n % ((2 ^ 64 : Nat) : Int)).toNat % 2 ^ p := by
    rw [BitVec.toNat_and, BitVec.toNat_ofInt, h127, Nat.and_two_pow_sub_one_eq_mod]
  show IntKind.i64.wrap ((BitVec.ofInt 64 n &&& BitVec.ofInt 64 ((2 : Int) ^ p - 1)).toNat : Nat) = n % (2 : Int) ^ p
  rw [key, IntKind.wrap_i64]
  rcases hc with rfl | rfl | rfl | rfl | rfl | rfl | rfl | rfl | rfl | rfl | rfl | rfl | rfl | rfl | rfl | rfl | rfl <;> simp <;> omega
def SDestOne : Sp := ⟨Bf × Int × Int × Int, fun _ => True, fun (b, n, cn, cv) => [.agg (cBf b), .int .i64 n, aCode cn cv], fun _ => .st (.lit true)⟩
end Go.Abs.Dest
