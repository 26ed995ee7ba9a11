/- DestOrder by the engine. -/
import Derived.Test.YtjoplgehefncbaaDoorADestEnds
set_option linter.all false
set_option maxRecDepth 100000
namespace Go.Abs.Dest
open Go.RowKit Go.Proofs Go.Abs.Tab
theorem get_app (a b : List Bf) (n c : Int) : EB.get (a ++ b) n c = (EB.get a n c).or (EB.get b n c) := by
  induction a with
  | nil => rfl
  | cons x a ih =>
    rw [List.cons_append]
    show (if EB.has x n c then some (EB.val x c) else EB.get (a ++ b) n c) = (if EB.has x n c then some (EB.val x c) else EB.get a n c).or (EB.get b n c)
    split
    · rfl
    · exact ih
theorem get_build (l : List Bf) (n c : Int) : EB.get (EB.build l) n c = EB.last l n c := (EB.build_ok l).2.2 n c
theorem last_app (a b : List Bf) (n c : Int) : EB.last (a ++ b) n c = (EB.last b n c).or (EB.last a n c) := by
  unfold En.last
  rw [show EB.lastL (a ++ b) = EB.lastL b ++ EB.lastL a by unfold En.lastL; rw [List.filter_append, List.reverse_append]]
  exact get_app _ _ n c
theorem last_one (s : Bf) (n c : Int) : EB.last [s] n c = EB.to s n c := by
  have := EB.last_snoc [] s n c
  rw [List.nil_append] at this
  rw [this]
  cases EB.to s n c <;> rfl
/-- Two that share no code. -/
def apart (a b : Bf) : Prop := ¬ (a.n = b.n ∧ a.lo ≤ b.hi ∧ b.lo ≤ a.hi)
theorem build_swap (l : List Bf) {a b : Bf} (h : apart a b) : EB.build (l ++ [a, b]) = EB.build (l ++ [b, a]) := by
  refine EB.same_table (EB.build_ok _).1 (EB.build_ok _).1 fun n c => ?_
  rw [get_build, get_build, last_app, last_app, show [a, b] = [a] ++ [b] from rfl, show [b, a] = [b] ++ [a] from rfl, last_app, last_app, last_one, last_one]
  congr 1
  cases ha : EB.to a n c with
  | none => cases EB.to b n c <;> rfl
  | some x =>
    cases hb : EB.to b n c with
    | none => rfl
    | some y =>
      exfalso
      unfold En.to at ha hb
      split at ha
      · rename_i q1
        split at hb
        · rename_i q2
          obtain ⟨k1, k2, k3⟩ := q1.2
          obtain ⟨m1, m2, m3⟩ := q2.2
          have k1 : a.n = n := k1
          have k2 : a.lo ≤ c := k2
          have k3 : c ≤ a.hi := k3
          have m1 : b.n = n := m1
          have m2 : b.lo ≤ c := m2
          have m3 : c ≤ b.hi := m3
          exact h ⟨by omega, by omega, by omega⟩
        · cases hb
      · cases ha
theorem has_sub {b : Bf} {lo hi : Int} {w : List Int} (n c : Int) (h1 : b.lo ≤ lo) (h2 : hi ≤ b.hi) (hh : EB.has ⟨b.n, lo, hi, fur b.to (lo - b.lo)⟩ n c) : EB.has b n c ∧ EB.val ⟨b.n, lo, hi, fur b.to (lo - b.lo)⟩ c = EB.val b c := by
  obtain ⟨k1, k2, k3⟩ := hh
  have k1 : b.n = n := k1
  have k2 : lo ≤ c := k2
  have k3 : c ≤ hi := k3
  refine ⟨⟨k1, (by show b.lo ≤ c; omega), (by show c ≤ b.hi; omega)⟩, ?_⟩
  show fur (fur b.to (lo - b.lo)) (c - lo) = fur b.to (c - b.lo)
  rw [fur_add]
  congr 1
  omega
/-- Each row says what its entry says; each code is in one. -/
theorem rowsF_ok {b : Bf} (hb : sane b = true) : ∀ (k : Nat) (lo : Int), b.lo ≤ lo → lo ≤ b.hi → (∀ x ∈ rowsF b k lo, sane x = true ∧ ∀ n c, EB.has x n c → EB.has b n c ∧ EB.val x c = EB.val b c) ∧ ((b.hi - lo + 1).toNat ≤ k → ∀ c, lo ≤ c → c ≤ b.hi → ∃ x ∈ rowsF b k lo, EB.has x b.n c)
  | 0, lo, h1, h2 => ⟨fun x hx => (by cases hx), fun h => by omega⟩
  | k + 1, lo, h1, h2 => by
    have hR := endR_rng h2
    have hp := piece_sane hb h1 h2
    have hs := fun n c => has_sub (b := b) (lo := lo) (hi := endR b lo) (w := []) n c h1 hR.2
    unfold rowsF
    by_cases hlt : endR b lo < b.hi
    · rw [if_pos hlt]
      obtain ⟨i1, i2⟩ := rowsF_ok hb k (endR b lo + 1) (by omega) (by omega)
      refine ⟨fun x hx => ?_, fun h c h3 h4 => ?_⟩
      · rcases List.mem_cons.1 hx with rfl | hx
        · exact ⟨hp, hs⟩
        · exact i1 x hx
      · rcases Int.lt_or_le (endR b lo) c with q | q
        · obtain ⟨x, hx, hh⟩ := i2 (by omega) c (by omega) h4
          exact ⟨x, List.mem_cons_of_mem _ hx, hh⟩
        · exact ⟨_, List.mem_cons_self, rfl, h3, q⟩
    · rw [if_neg hlt]
      refine ⟨fun x hx => ?_, fun h c h3 h4 => ?_⟩
      · rcases List.mem_cons.1 hx with rfl | hx
        · exact ⟨hp, hs⟩
        · cases hx
      · exact ⟨_, List.mem_cons_self, rfl, h3, (by show c ≤ endR b lo; omega)⟩
theorem rows_ok {t : List Bf} (h : EB.Tab t) : (∀ x ∈ rowsB t, sane x = true ∧ ∀ n c, EB.has x n c → EB.get t n c = some (EB.val x c)) ∧ ∀ n c w, EB.get t n c = some w → ∃ x ∈ rowsB t, EB.has x n c := by
  refine ⟨fun x hx => ?_, fun n c w hw => ?_⟩
  · obtain ⟨b, hb, hx⟩ := List.mem_flatMap.1 hx
    have r := rngB (h.1 b hb)
    obtain ⟨h1, h2⟩ := (rowsF_ok (h.1 b hb) _ b.lo (Int.le_refl _) r.2.1.2.1).1 x hx
    refine ⟨h1, fun n c hh => ?_⟩
    obtain ⟨q1, q2⟩ := h2 n c hh
    rw [q2]
    exact Tb.get_of_mem _ h.2.1 hb q1
  · obtain ⟨b, hb, ⟨k1, k2, k3⟩, _⟩ := Tb.get_mem _ hw
    have r := rngB (h.1 b hb)
    obtain ⟨x, hx, hh⟩ := (rowsF_ok (h.1 b hb) _ b.lo (Int.le_refl _) r.2.1.2.1).2 (Nat.le_refl _) c k2 k3
    have k1 : b.n = n := k1
    subst k1
    exact ⟨x, List.mem_flatMap.2 ⟨b, hb, hx⟩, hh⟩
theorem last_some_mem {l : List Bf} {n c : Int} {w : List Int} (h : EB.last l n c = some w) : ∃ x ∈ l, sane x = true ∧ EB.has x n c ∧ EB.val x c = w := by
  obtain ⟨x, hx, h1, h2⟩ := Tb.get_mem _ h
  obtain ⟨h3, h4⟩ := (EB.mem_lastL l x).1 hx
  exact ⟨x, h3, h4, h1, h2⟩
theorem last_none_not {l : List Bf} {n c : Int} (h : EB.last l n c = none) {x : Bf} (hx : x ∈ l) (hs : sane x = true) : ¬ EB.has x n c := fun hh => by
  have : EB.get (EB.lastL l) n c ≠ none := get_some ⟨x, (EB.mem_lastL l x).2 ⟨hx, hs⟩, hh⟩
  exact this h
theorem last_rows {t : List Bf} (h : EB.Tab t) (n c : Int) : EB.last (rowsB t) n c = EB.get t n c := by
  obtain ⟨h1, h2⟩ := rows_ok h
  cases hl : EB.last (rowsB t) n c with
  | some w =>
    obtain ⟨x, hx, _, hh, rfl⟩ := last_some_mem hl
    exact ((h1 x hx).2 n c hh).symm
  | none =>
    cases hg : EB.get t n c with
    | none => rfl
    | some w =>
      obtain ⟨x, hx, hh⟩ := h2 n c w hg
      exact absurd hh (last_none_not hl hx (h1 x hx).1)
theorem last_tab {t : List Bf} (h : EB.Tab t) (n c : Int) : EB.last t n c = EB.get t n c := EB.get_lastL h.2.1 h.1 n c
theorem build_rows {t : List Bf} (h : EB.Tab t) : EB.build (rowsB t) = t :=
  EB.same_table (EB.build_ok _).1 h fun n c => by rw [get_build, last_rows h]
theorem build_with_rows {t : List Bf} (h : EB.Tab t) : EB.build (t ++ rowsB t) = t :=
  EB.same_table (EB.build_ok _).1 h fun n c => by
    rw [get_build, last_app, last_rows h, last_tab h]
    cases EB.get t n c <;> rfl
theorem resR_tab {t : List Bf} (h : EB.Tab t) : resR t = rowsB t := if_pos ((EB.canon_iff t).2 h)
theorem rowsB_len {t : List Bf} (h : EB.Tab t) : (rowsB t).length ≤ 65536 * t.length := by
  have := outR_len h.1 t.length
  rwa [outR, List.take_length] at this
theorem cat_app' {α : Type} [Inhabited α] {f : α → List AV} {l m : List α} {n : Nat} {el el2 : Nat → List AV} (hn : n = l.length) (h : ∀ i, i < l.length → el i = f (l.getD i default)) (h2 : ∀ i, i < m.length → el2 i = f (m.getD i default)) : ∀ i, i < (l ++ m).length → catEl n el el2 i = f ((l ++ m).getD i default) := fun i hi => by
  subst hn
  unfold catEl
  rw [List.length_append] at hi
  by_cases q : i < l.length
  · rw [show Nat.blt i l.length = true from Nat.ble_eq_true_of_le q, cond_true, h i q]
    simp [List.getD, List.getElem?_append_left q]
  · rw [show Nat.blt i l.length = false from by
      cases hb : Nat.blt i l.length with
      | false => rfl
      | true => exact absurd (Nat.le_of_ble_eq_true hb) q, cond_false, h2 _ (by omega)]
    simp [List.getD, List.getElem?_append_right (Nat.le_of_not_lt q)]
theorem app_nil {α : Type} [Inhabited α] {f : α → List AV} {l : List α} : ∀ i, i < l.length → catEl 0 (elt []) (els f l) i = f (l.getD i default) := fun _ _ => rfl
theorem app_two (l : List Bf) (a b : Bf) : ∀ i, i < (l ++ [a, b]).length → catEl (0 + l.length) (catEl 0 (elt []) (els cBf l)) (elt [cBf a, cBf b]) i = cBf ((l ++ [a, b]).getD i default) :=
  cat_app' (Nat.zero_add _) app_nil (elt_list [a, b])
def SDestOrder : Sp := ⟨List Bf × Bf × Bf, fun _ => True, fun (l, a, b) => [aB l, .agg (cBf a), .agg (cBf b)], fun _ => .st (.lit true)⟩
end Go.Abs.Dest
