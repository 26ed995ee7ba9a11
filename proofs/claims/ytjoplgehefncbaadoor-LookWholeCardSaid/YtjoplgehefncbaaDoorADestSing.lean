/- Entries cut to single codes are that entry: plain law. -/
import Derived.Test.YtjoplgehefncbaaDoorADest
set_option linter.all false
namespace Go.Abs.Dest
open Go.Abs.Tab
def single (x : Bf) (v : Int) : Bf := ⟨x.n, v, v, fur x.to (v - x.lo)⟩
/-- From the last code downwards. -/
def downs (x : Bf) (k : Nat) : List Bf := (List.range k).map fun (i : Nat) => single x (x.hi - (i : Int))
theorem downs_next (x : Bf) (k : Nat) : downs x (k + 1) = downs x k ++ [single x (x.hi - (k : Int))] := by
  unfold downs
  rw [List.range_succ, List.map_append]
  rfl
theorem get_some {t : List Bf} {n c : Int} (h : ∃ y ∈ t, EB.has y n c) : EB.get t n c ≠ none := by
  induction t with
  | nil => obtain ⟨y, hy, _⟩ := h; cases hy
  | cons z t ih =>
    obtain ⟨y, hy, hh⟩ := h
    unfold Tb.get
    by_cases hz : EB.has z n c
    · rw [if_pos hz]; intro e; cases e
    · rw [if_neg hz]
      rcases List.mem_cons.1 hy with rfl | hy
      · exact absurd hh hz
      · exact ih ⟨y, hy, hh⟩
theorem one_tab {x : Bf} (hx : sane x = true) : EB.Tab [x] := ⟨fun y hy => by obtain rfl := List.mem_singleton.1 hy; exact hx, ⟨(EB.rng (x := x) hx).2.2.1, fun y hy => (by cases hy), trivial⟩, trivial⟩
theorem build_downs {x : Bf} (hx : sane x = true) {k : Nat} (hk : (k : Int) = x.hi - x.lo + 1) : EB.build (downs x k) = [x] := by
  have hmem : ∀ y, y ∈ EB.lastL (downs x k) ↔ ∃ v, x.lo ≤ v ∧ v ≤ x.hi ∧ y = single x v := fun y => by
    rw [EB.mem_lastL]
    unfold downs
    rw [List.mem_map]
    constructor
    · rintro ⟨⟨i, hi, rfl⟩, _⟩
      have hi := List.mem_range.1 hi
      exact ⟨x.hi - i, by omega, by omega, rfl⟩
    · rintro ⟨v, h1, h2, rfl⟩
      refine ⟨⟨(x.hi - v).toNat, List.mem_range.2 (by omega), ?_⟩, part_sane hx h1 (Int.le_refl _) h2⟩
      congr 1
      omega
  obtain ⟨b1, _, b3⟩ := EB.build_ok (downs x k)
  refine EB.same_table b1 (one_tab hx) fun n c => ?_
  rw [b3]
  have hr : EB.get [x] n c = if EB.has x n c then some (EB.val x c) else none := rfl
  rw [hr]
  by_cases hh : EB.has x n c
  · rw [if_pos hh]
    have h1 : x.n = n := hh.1
    have h2 : x.lo ≤ c := hh.2.1
    have h3 : c ≤ x.hi := hh.2.2
    cases e : EB.get (EB.lastL (downs x k)) n c with
    | none => exact absurd e (get_some ⟨single x c, (hmem _).2 ⟨c, h2, h3, rfl⟩, h1, Int.le_refl _, Int.le_refl _⟩)
    | some w =>
      obtain ⟨y, hy, hyh, hv⟩ := Tb.get_mem _ e
      obtain ⟨v, _, _, rfl⟩ := (hmem y).1 hy
      have q1 : v ≤ c := hyh.2.1
      have q2 : c ≤ v := hyh.2.2
      obtain rfl : v = c := by omega
      rw [← hv]
      show some (fur (fur x.to (v - x.lo)) (v - v)) = some (fur x.to (v - x.lo))
      rw [Int.sub_self, fur_zero]
  · rw [if_neg hh]
    refine Tb.get_none _ fun y hy hyh => hh ?_
    obtain ⟨v, h1, h2, rfl⟩ := (hmem y).1 hy
    have q0 : x.n = n := hyh.1
    have q1 : v ≤ c := hyh.2.1
    have q2 : c ≤ v := hyh.2.2
    exact ⟨q0, by show x.lo ≤ c; omega, by show c ≤ x.hi; omega⟩
end Go.Abs.Dest
