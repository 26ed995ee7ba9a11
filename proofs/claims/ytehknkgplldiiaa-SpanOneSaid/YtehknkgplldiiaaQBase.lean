/- Plain lemmas on whole numbers, bits and lists that the pure laws share. -/
import Derived.Test.YtehknkgplldiiaaWMore
import Derived.Test.YtehknkgplldiiaaWNEv
import Derived.Test.YtehknkgplldiiaaWWords
import Derived.Test.YtehknkgplldiiaaWLast
import Derived.Laws.BitsLemmas
namespace Go.Proofs.YtehknkgplldiiaaQ
open Go.RowKit Go.Proofs.YtehknkgplldiiaaW.PrintWords Go.Proofs.YtehknkgplldiiaaW.PrintLast Go.Proofs.YtehknkgplldiiaaW.PrintMore
theorem w64 {n : Int} (h0 : -9223372036854775808 ≤ n) (h1 : n ≤ 9223372036854775807) : wrap64 n = n := by unfold wrap64; omega
theorem w64n {i : Nat} (h1 : i < 9223372036854775807) : wrap64 ((i : Int) + 1) = ((i + 1 : Nat) : Int) := by unfold wrap64; omega
theorem rd_nat {l : List Int} {i : Nat} (h : i < l.length) : rd l (i : Int) = l[i] := by unfold rd; simp [List.getD, h]
theorem byte_wf {y : Int} (h : (Lit.int .u8 y).wf = true) : 0 ≤ y ∧ y < 256 := by
  have h' := (Bool.and_eq_true _ _ ▸ h : _ ∧ _)
  have h0 := of_decide_eq_true h'.1
  have h1 := of_decide_eq_true h'.2
  rw [show IntKind.u8.min = 0 from rfl] at h0
  rw [show IntKind.u8.max = 255 from rfl] at h1
  omega
theorem i64_wf {y : Int} (h : (Lit.int .i64 y).wf = true) : -9223372036854775808 ≤ y ∧ y ≤ 9223372036854775807 := by
  have h' := (Bool.and_eq_true _ _ ▸ h : _ ∧ _)
  have h0 := of_decide_eq_true h'.1
  have h1 := of_decide_eq_true h'.2
  rw [show IntKind.i64.min = -9223372036854775808 from rfl] at h0
  rw [show IntKind.i64.max = 9223372036854775807 from rfl] at h1
  omega
theorem wraps_i64 (n : Int) (h₀ : 0 ≤ n) (h₁ : n < 2 ^ 63) : IntKind.i64.wrap n = n := by rw [IntKind.wrap_i64]; omega
theorem or_byte {v x : Int} (h0 : 0 ≤ v) (h1 : v < 2 ^ 48) (hx0 : 0 ≤ x) (hx1 : x < 256) : Go.bits .or .i64 (wrap64 (v * 256)) (wrap64 x) = v * 256 + x := by
  rw [w64 (n := v * 256) (by omega) (by omega), w64 (n := x) (by omega) (by omega)]
  exact bits_join .i64 63 (by decide) wraps_i64 8 _ _ (by omega) (by omega) (by omega) (by omega) (by omega) (by omega)
/-- The number of bytes, the highest first. -/
def valN (l : List Int) : Int := l.foldl (fun v x => v * 256 + x) 0
theorem valN_snoc (l : List Int) (x : Int) : valN (l ++ [x]) = valN l * 256 + x := by simp [valN]
def Bytes (l : List Int) : Prop := ∀ x ∈ l, 0 ≤ x ∧ x < 256
theorem Bytes.take {l : List Int} (h : Bytes l) (n : Nat) : Bytes (l.take n) := fun x hx => h x (List.mem_of_mem_take hx)
theorem Bytes.drop {l : List Int} (h : Bytes l) (n : Nat) : Bytes (l.drop n) := fun x hx => h x (List.mem_of_mem_drop hx)
theorem Bytes.get {l : List Int} (h : Bytes l) {i : Nat} (hi : i < l.length) : 0 ≤ l[i] ∧ l[i] < 256 := h _ (List.getElem_mem hi)
theorem Bytes.append {l m : List Int} (h : Bytes l) (k : Bytes m) : Bytes (l ++ m) := fun x hx => (List.mem_append.mp hx).elim (h x) (k x)
theorem take_snoc {α : Type} {l : List α} {i : Nat} (h : i < l.length) : l.take (i + 1) = l.take i ++ [l[i]] := by
  rw [List.take_succ_eq_append_getElem h]
theorem valN_take {l : List Int} {i : Nat} (h : i < l.length) : valN (l.take (i + 1)) = valN (l.take i) * 256 + l[i] := by
  rw [take_snoc h, valN_snoc]
theorem valN_bound : ∀ (n : Nat) (l : List Int), l.length = n → Bytes l → 0 ≤ valN l ∧ valN l < 256 ^ n
  | 0, l, hl, _ => by
    obtain rfl := List.eq_nil_of_length_eq_zero hl
    simp [valN]
  | n + 1, l, hl, hb => by
    have hne : l ≠ [] := by intro h; subst h; simp at hl
    obtain ⟨m, x, rfl⟩ : ∃ m x, l = m ++ [x] := ⟨l.dropLast, l.getLast hne, (List.dropLast_concat_getLast hne).symm⟩
    have hm : m.length = n := by simpa using hl
    obtain ⟨h0, h1⟩ := valN_bound n m hm (fun y hy => hb y (by simp [hy]))
    have hx := hb x (by simp)
    rw [valN_snoc, Int.pow_succ]
    omega
end Go.Proofs.YtehknkgplldiiaaQ
