/- dest: the table of a list. -/
import Derived.Test.YtjoplgehefncbaaDoorADestC
set_option linter.all false
set_option maxRecDepth 100000
namespace Go.Abs.Dest
open Go.RowKit Go.Proofs Go.Abs.Tab
/-- The entries of the first k, in order. -/
def F (l : List Bf) (k : Nat) : List Bf := EB.fold (l.take k)
theorem F_next {l : List Bf} {k : Nat} (hk : k < l.length) : F l (k + 1) = if sane (l.getD k default) = true then EB.over (F l k) (l.getD k default) else F l k := by
  unfold F
  rw [List.take_succ_eq_append_getElem hk, EB.fold_snoc, getB hk]
  rfl
theorem F_len (l : List Bf) (k : Nat) : (F l k).length ≤ 2 * l.length := by
  have := (EB.fold_ok (l.take k)).2.2.1
  rw [List.length_take] at this
  unfold F
  omega
abbrev J (t : List Bf) (j : Nat) : List Bf := EB.joined EB.jb (t.take j)
theorem J_sane {t : List Bf} (ho : EB.OD t) (hg : ∀ x ∈ t, sane x = true) (j : Nat) : ∀ x ∈ J t j, sane x = true := by
  have ho2 : EB.OD (t.take j) := by
    have := ho
    rw [← List.take_append_drop j t] at this
    exact (Tb.OD_append EB.toTb).1 this |>.1
  exact (Tb.joined_ok EB.toTb EB.jb (fun x => EB.sane x = true) EB.ext (fun p s hp hs => EB.jb_iff p s hp hs) ho2 (fun x hx => hg x (List.mem_of_mem_take hx))).2.2.2.1
theorem J_len (t : List Bf) (j : Nat) : (J t j).length ≤ t.length := by
  have := Tb.joined_len EB.toTb EB.jb (t.take j)
  rw [List.length_take] at this
  unfold J
  omega
theorem J_next {t : List Bf} {j : Nat} (hj : j < t.length) : (J t j = [] ∧ J t (j + 1) = [t.getD j default]) ∨ ∃ init q, J t j = init ++ [q] ∧ J t (j + 1) = if joins q (t.getD j default) = true then init ++ [⟨q.n, q.lo, (t.getD j default).hi, q.to⟩] else init ++ [q] ++ [t.getD j default] := by
  unfold J
  rw [List.take_succ_eq_append_getElem hj, getB hj]
  exact Tb.joined_snoc EB.toTb EB.jb t[j] (t.take j)
theorem getD_last {init : List Bf} {q : Bf} : (init ++ [q]).getD init.length default = q := by simp [List.getD]
theorem set_last {init : List Bf} {q r : Bf} : (init ++ [q]).set init.length r = init ++ [r] := by simp
def SBuild : Sp := ⟨List Bf, fun l => l.length ≤ 100000000, fun l => [aB l], fun l => .row 50 4 (EB.build l).length (els cBf (EB.build l))⟩
end Go.Abs.Dest
