/- dest: a table's rows. -/
import Derived.Test.YtjoplgehefncbaaDoorADestE
set_option linter.all false
set_option maxRecDepth 100000
namespace Go.Abs.Dest
open Go.RowKit Go.Proofs Go.Abs.Tab
/-- How far a row goes from a code on. -/
def stepR (b : Bf) (lo : Int) : Int := min (255 - lo % 256) (255 - (lastI b.to + (lo - b.lo)) % 256)
def endR (b : Bf) (lo : Int) : Int := min b.hi (lo + stepR b lo)
def piece (b : Bf) (lo : Int) : Bf := ⟨b.n, lo, endR b lo, fur b.to (lo - b.lo)⟩
def rowsF (b : Bf) : Nat → Int → List Bf
  | 0, _ => []
  | k + 1, lo => piece b lo :: (if endR b lo < b.hi then rowsF b k (endR b lo + 1) else [])
def rows1 (b : Bf) : List Bf := rowsF b (b.hi - b.lo + 1).toNat b.lo
def rowsB (t : List Bf) : List Bf := t.flatMap rows1
theorem step_nonneg (b : Bf) (lo : Int) : 0 ≤ stepR b lo := by
  unfold stepR
  have h1 := Int.emod_lt_of_pos lo (show (0 : Int) < 256 by decide)
  have h2 := Int.emod_lt_of_pos (lastI b.to + (lo - b.lo)) (show (0 : Int) < 256 by decide)
  omega
theorem rowsF_more (b : Bf) : ∀ (k : Nat) (lo : Int), (b.hi - lo + 1).toNat ≤ k → lo ≤ b.hi → rowsF b (k + 1) lo = rowsF b k lo
  | 0, lo, h, hl => by omega
  | k + 1, lo, h, hl => by
    have hs := step_nonneg b lo
    unfold rowsF
    congr 1
    split
    · rename_i hlt
      exact rowsF_more b k _ (by unfold endR at *; omega) (by omega)
    · rfl
theorem rowsF_fuel (b : Bf) (lo : Int) (hl : lo ≤ b.hi) : ∀ k, (b.hi - lo + 1).toNat ≤ k → rowsF b k lo = rowsF b (b.hi - lo + 1).toNat lo := by
  intro k hk
  induction k with
  | zero => rw [Nat.le_zero.1 hk]
  | succ k ih =>
    by_cases h : (b.hi - lo + 1).toNat ≤ k
    · rw [rowsF_more b k lo h hl, ih h]
    · rw [show k + 1 = (b.hi - lo + 1).toNat by omega]
/-- The rows from a code on. -/
def fromR (b : Bf) (lo : Int) : List Bf := rowsF b (b.hi - lo + 1).toNat lo
theorem fromR_eq {b : Bf} {lo : Int} (hl : lo ≤ b.hi) : fromR b lo = piece b lo :: (if endR b lo < b.hi then fromR b (endR b lo + 1) else []) := by
  have hs := step_nonneg b lo
  unfold fromR
  rw [show (b.hi - lo + 1).toNat = (b.hi - lo).toNat + 1 by omega]
  show piece b lo :: (if endR b lo < b.hi then rowsF b (b.hi - lo).toNat (endR b lo + 1) else []) = _
  congr 1
  split
  · rename_i h
    exact rowsF_fuel b _ (by omega) _ (by unfold endR; omega)
  · rfl
theorem rowsF_len (b : Bf) : ∀ (k : Nat) (lo : Int), (rowsF b k lo).length ≤ k
  | 0, lo => Nat.le_refl _
  | k + 1, lo => by
    unfold rowsF
    split
    · have := rowsF_len b k (endR b lo + 1)
      simp only [List.length_cons]
      omega
    · simp
theorem piece_sane {b : Bf} (h : sane b = true) {lo : Int} (h1 : b.lo ≤ lo) (h2 : lo ≤ b.hi) : sane (piece b lo) = true := by
  have := step_nonneg b lo
  exact part_sane h h1 (by unfold endR; omega) (by unfold endR; omega)
def outR (t : List Bf) (k : Nat) : List Bf := (t.take k).flatMap rows1
theorem outR_next {t : List Bf} {k : Nat} (hk : k < t.length) : outR t (k + 1) = outR t k ++ rows1 (t.getD k default) := by
  unfold outR
  rw [List.take_succ_eq_append_getElem hk, List.flatMap_append, getB hk]
  simp
theorem outR_len {t : List Bf} (hg : ∀ x ∈ t, sane x = true) (k : Nat) : (outR t k).length ≤ 65536 * t.length := by
  have : ∀ (l : List Bf), (∀ x ∈ l, sane x = true) → (l.flatMap rows1).length ≤ 65536 * l.length := by
    intro l
    induction l with
    | nil => intro _; exact Nat.le_refl _
    | cons x l ih =>
      intro h
      have i1 := ih (fun y hy => h y (List.mem_cons_of_mem _ hy))
      have r := rngB (h x List.mem_cons_self)
      have i2 := rowsF_len x (x.hi - x.lo + 1).toNat x.lo
      rw [List.flatMap_cons, List.length_append, List.length_cons]
      have i3 : (rows1 x).length ≤ (x.hi - x.lo + 1).toNat := i2
      omega
  have h := this (t.take k) (fun x hx => hg x (List.mem_of_mem_take hx))
  rw [List.length_take] at h
  unfold outR
  omega
/-- As it is reckoned. -/
def rawE (x : Bf) (lo : Int) : Int := if IntKind.i64.wrap (lo + (if 255 - lastI (fur x.to (lo - x.lo)) % 256 < 255 - lo % 256 then 255 - lastI (fur x.to (lo - x.lo)) % 256 else 255 - lo % 256)) < x.hi then IntKind.i64.wrap (lo + (if 255 - lastI (fur x.to (lo - x.lo)) % 256 < 255 - lo % 256 then 255 - lastI (fur x.to (lo - x.lo)) % 256 else 255 - lo % 256)) else x.hi
theorem rawE_eq {x : Bf} (hx : sane x = true) {lo : Int} (h1 : x.lo ≤ lo) (h2 : lo ≤ x.hi) : rawE x lo = endR x lo := by
  have r := rngB hx
  have e : (if 255 - lastI (fur x.to (lo - x.lo)) % 256 < 255 - lo % 256 then 255 - lastI (fur x.to (lo - x.lo)) % 256 else 255 - lo % 256) = stepR x lo := by
    rw [lastI_fur r.2.2.1.1]
    unfold stepR
    split <;> omega
  have hs := step_nonneg x lo
  have hs2 : stepR x lo ≤ 255 := by unfold stepR; have := Int.emod_nonneg lo (show (256 : Int) ≠ 0 by decide); omega
  unfold rawE endR
  rw [e, iw (by omega) (by omega)]
  split <;> omega
theorem endR_rng {x : Bf} {lo : Int} (h2 : lo ≤ x.hi) : lo ≤ endR x lo ∧ endR x lo ≤ x.hi := by
  have hs := step_nonneg x lo
  unfold endR
  omega
def resR (t : List Bf) : List Bf := if EB.canon t = true then rowsB t else []
def SRows : Sp := ⟨List Bf, fun t => t.length ≤ 1000000, fun t => [aB t], fun t => .row 50 4 (resR t).length (els cBf (resR t))⟩
end Go.Abs.Dest
