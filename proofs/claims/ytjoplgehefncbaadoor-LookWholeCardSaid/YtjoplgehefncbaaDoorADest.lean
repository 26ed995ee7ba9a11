/- Entries that lead to rows of units: plain law. -/
import Derived.Test.YtjoplgehefncbaaDoorAEn
set_option linter.all false
namespace Go.Abs.Dest
open Go.Abs.Tab
structure Bf where
  n : Int
  lo : Int
  hi : Int
  to : List Int
instance : Inhabited Bf := ⟨⟨0, 0, 0, []⟩⟩
theorem Bf.ext' {x y : Bf} (h1 : x.n = y.n) (h2 : x.lo = y.lo) (h3 : x.hi = y.hi) (h4 : x.to = y.to) : x = y := by
  cases x; cases y; simp_all
def lastI (l : List Int) : Int := l.getD (l.length - 1) default
/-- The last one d further. -/
def fur (l : List Int) (d : Int) : List Int := l.set (l.length - 1) (lastI l + d)
theorem fur_len (l : List Int) (d : Int) : (fur l d).length = l.length := List.length_set
theorem lastI_fur {l : List Int} (h : 1 ≤ l.length) (d : Int) : lastI (fur l d) = lastI l + d := by
  unfold lastI fur
  rw [List.length_set]
  simp [lastI, List.getD, show l.length - 1 < l.length by omega]
theorem fur_nil (d : Int) : fur [] d = [] := rfl
theorem fur_zero (l : List Int) : fur l 0 = l := by
  unfold fur
  rw [Int.add_zero]
  rcases Nat.eq_zero_or_pos l.length with h | h
  · rw [List.eq_nil_of_length_eq_zero h]; rfl
  · refine List.ext_getElem? fun i => ?_
    rw [List.getElem?_set]
    split
    · rename_i e
      subst e
      rw [if_pos (by omega)]
      simp [lastI, List.getD, show l.length - 1 < l.length by omega]
    · rfl
theorem fur_add (l : List Int) (a b : Int) : fur (fur l a) b = fur l (a + b) := by
  rcases Nat.eq_zero_or_pos l.length with h | h
  · rw [List.eq_nil_of_length_eq_zero h]; rfl
  · have h1 := lastI_fur (l := l) (by omega) a
    unfold fur at h1 ⊢
    rw [h1, List.length_set, List.set_set, Int.add_assoc]
theorem mem_fur {l : List Int} {d x : Int} (h : x ∈ fur l d) : x ∈ l ∨ x = lastI l + d := List.mem_or_eq_of_mem_set h
theorem lastI_mem {l : List Int} (h : 1 ≤ l.length) : lastI l ∈ l := by
  unfold lastI
  rw [List.getD_eq_getElem?_getD, List.getElem?_eq_getElem (by omega)]
  exact List.getElem_mem _
def sane (b : Bf) : Bool := saneC b.n b.lo && saneC b.n b.hi && decide (b.lo ≤ b.hi ∧ 1 ≤ b.to.length ∧ b.to.length ≤ 64 ∧ (∀ x ∈ b.to, 0 ≤ x ∧ x ≤ 65535) ∧ lastI b.to ≤ 65535 - (b.hi - b.lo))
theorem sane_iff (b : Bf) : sane b = true ↔ (saneC b.n b.lo = true ∧ saneC b.n b.hi = true ∧ b.lo ≤ b.hi ∧ 1 ≤ b.to.length ∧ b.to.length ≤ 64 ∧ (∀ x ∈ b.to, 0 ≤ x ∧ x ≤ 65535) ∧ lastI b.to ≤ 65535 - (b.hi - b.lo)) := by
  unfold sane
  rw [Bool.and_eq_true, Bool.and_eq_true, decide_eq_true_eq, and_assoc]
def joins (a b : Bf) : Bool := decide (a.n = b.n ∧ a.hi + 1 = b.lo) && (fur a.to (b.lo - a.lo) == b.to)
theorem part_sane {b : Bf} (h : sane b = true) {x y : Int} (h1 : b.lo ≤ x) (h2 : x ≤ y) (h3 : y ≤ b.hi) : sane ⟨b.n, x, y, fur b.to (x - b.lo)⟩ = true := by
  obtain ⟨k1, k2, k3, k4, k5, k6, k7⟩ := (sane_iff b).1 h
  rw [saneC_iff] at k1 k2
  refine (sane_iff _).2 ⟨?_, ?_, h2, ?_, ?_, fun z hz => ?_, ?_⟩
  · rw [saneC_iff]; dsimp only; omega
  · rw [saneC_iff]; dsimp only; omega
  · dsimp only; rw [fur_len]; exact k4
  · dsimp only; rw [fur_len]; exact k5
  · rcases mem_fur hz with q | q
    · exact k6 z q
    · have := k6 _ (lastI_mem k4)
      omega
  · dsimp only
    rw [lastI_fur k4]
    omega
def EB : En Bf (List Int) where
  n := Bf.n
  lo := Bf.lo
  hi := Bf.hi
  v := Bf.to
  make := Bf.mk
  sh := fur
  n_mk := fun _ _ _ _ => rfl
  lo_mk := fun _ _ _ _ => rfl
  hi_mk := fun _ _ _ _ => rfl
  v_mk := fun _ _ _ _ => rfl
  eta := fun _ => rfl
  sh_zero := fur_zero
  sh_add := fun w a b _ _ => fur_add w a b
  sane := sane
  jb := joins
  num := fun x h => by
    obtain ⟨k1, k2, k3, _⟩ := (sane_iff x).1 h
    exact ⟨k1, k2, k3⟩
  part := fun x a b h h1 h2 h3 => part_sane h h1 h2 h3
  jb_iff := fun p s _ _ => by
    unfold joins Tb.jn
    rw [Bool.and_eq_true, decide_eq_true_eq, beq_iff_eq]
    exact ⟨fun ⟨⟨a, b⟩, c⟩ => ⟨a, b.symm, c.symm⟩, fun ⟨a, b, c⟩ => ⟨⟨a, b.symm⟩, c.symm⟩⟩
  ext := fun p s hp hs h => by
    obtain ⟨h1, h2, h3⟩ := h
    have e1 : p.n = s.n := h1
    have e2 : s.lo = p.hi + 1 := h2
    have e3 : s.to = fur p.to (s.lo - p.lo) := h3
    obtain ⟨k1, k2, k3, k4, k5, k6, k7⟩ := (sane_iff p).1 hp
    obtain ⟨m1, m2, m3, m4, m5, m6, m7⟩ := (sane_iff s).1 hs
    refine (sane_iff _).2 ⟨k1, ?_, ?_, k4, k5, k6, ?_⟩
    · show saneC p.n s.hi = true
      rw [e1]
      exact m2
    · show p.lo ≤ s.hi
      omega
    · show lastI p.to ≤ 65535 - (s.hi - p.lo)
      rw [e3, lastI_fur k4] at m7
      omega
theorem rngB {b : Bf} (h : sane b = true) : (1 ≤ b.n ∧ b.n ≤ 4) ∧ (0 ≤ b.lo ∧ b.lo ≤ b.hi ∧ b.hi < 4294967296) ∧ (1 ≤ b.to.length ∧ b.to.length ≤ 64) ∧ (∀ x ∈ b.to, 0 ≤ x ∧ x ≤ 65535) ∧ (0 ≤ lastI b.to ∧ lastI b.to ≤ 65535 - (b.hi - b.lo)) := by
  obtain ⟨k1, k2, k3, k4, k5, k6, k7⟩ := (sane_iff b).1 h
  have := EB.rng (x := b) h
  have h1 : 1 ≤ b.n ∧ b.n ≤ 4 := this.1
  have h2 : 0 ≤ b.lo ∧ b.lo ≤ b.hi ∧ b.hi < 4294967296 := this.2
  exact ⟨h1, h2, ⟨k4, k5⟩, k6, (k6 _ (lastI_mem k4)).1, k7⟩
/-- How one stands to another. -/
def ordB (a b : Bf) : Int := if a.n < b.n then -1 else if a.n > b.n then 1 else if a.lo < b.lo then -1 else if a.lo > b.lo then 1 else 0
theorem ord_neg (y t : Bf) : ordB y t < 0 ↔ EB.ahead y t.n t.lo := by
  unfold ordB Tb.ahead
  show _ ↔ (y.n < t.n ∨ (y.n = t.n ∧ y.lo < t.lo))
  repeat' split
  all_goals omega
theorem ord_zero (y t : Bf) : ordB y t = 0 ↔ (y.n = t.n ∧ y.lo = t.lo) := by
  unfold ordB
  repeat' split
  all_goals omega
end Go.Abs.Dest
