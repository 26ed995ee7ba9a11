/- Layer 7 in plain words, with the reference. -/
import Derived.Test.YtehknkgplldiiaaWMore
import Derived.Test.YtehknkgplldiiaaWNEv
import Derived.Test.YtehknkgplldiiaaWWords
import Derived.Test.YtehknkgplldiiaaWLast
import Derived.Laws.BitsLemmas
import Derived.Test.YtehknkgplldiiaaPIsx0
import Derived.Test.YtehknkgplldiiaaPIsx2
import Derived.Test.YtehknkgplldiiaaPIsx8
import Derived.Test.YtehknkgplldiiaaPIsx12
import Derived.Test.YtehknkgplldiiaaPIsx13
import Derived.Test.YtehknkgplldiiaaPIsx11
import Derived.Test.YtehknkgplldiiaaPIsx14
import Derived.Test.YtehknkgplldiiaaPIsx17
import Derived.Test.YtehknkgplldiiaaPIsx16
import Derived.Test.YtehknkgplldiiaaPIsx16
import Derived.Test.YtehknkgplldiiaaPIsx18
import Derived.Test.YtehknkgplldiiaaPIsx20
import Derived.Test.YtehknkgplldiiaaPIsx21
import Derived.Test.YtehknkgplldiiaaPIsx24
set_option linter.unusedVariables false
set_option linter.unusedSimpArgs false
namespace Go.Proofs.YtehknkgplldiiaaQ
open Go.RowKit Go.Proofs.YtehknkgplldiiaaW.PrintWords Go.Proofs.YtehknkgplldiiaaW.PrintLast Go.Proofs.YtehknkgplldiiaaW.PrintMore
theorem w64 {n : Int} (h0 : -9223372036854775808 ≤ n) (h1 : n ≤ 9223372036854775807) : wrap64 n = n := by unfold wrap64; omega
theorem w64n {i : Nat} (h1 : i < 9223372036854775807) : wrap64 ((i : Int) + 1) = ((i + 1 : Nat) : Int) := by unfold wrap64; omega
theorem rd_nat {l : List Int} {i : Nat} (h : i < l.length) : rd l (i : Int) = l[i] := by unfold rd; simp [List.getD, h]
def Bytes (l : List Int) : Prop := ∀ x ∈ l, 0 ≤ x ∧ x < 256
theorem Bytes.take {l : List Int} (h : Bytes l) (n : Nat) : Bytes (l.take n) := fun x hx => h x (List.mem_of_mem_take hx)
theorem Bytes.drop {l : List Int} (h : Bytes l) (n : Nat) : Bytes (l.drop n) := fun x hx => h x (List.mem_of_mem_drop hx)
theorem Bytes.get {l : List Int} (h : Bytes l) {i : Nat} (hi : i < l.length) : 0 ≤ l[i] ∧ l[i] < 256 := h _ (List.getElem_mem hi)
theorem take_snoc {α : Type} {l : List α} {i : Nat} (h : i < l.length) : l.take (i + 1) = l.take i ++ [l[i]] := by
  rw [List.take_succ_eq_append_getElem h]
end Go.Proofs.YtehknkgplldiiaaQ
/-! Tables of codes, by entries (how many bytes, from, to, the first one's value): plain law, of any value that can be shifted. -/
namespace Go.Proofs.Ytehknkgplldiiaa.Tab
structure Tb (α V : Type) where
  n : α → Int
  lo : α → Int
  hi : α → Int
  v : α → V
  make : Int → Int → Int → V → α
  sh : V → Int → V
  n_mk : ∀ a b c d, n (make a b c d) = a
  lo_mk : ∀ a b c d, lo (make a b c d) = b
  hi_mk : ∀ a b c d, hi (make a b c d) = c
  v_mk : ∀ a b c d, v (make a b c d) = d
  eta : ∀ x, make (n x) (lo x) (hi x) (v x) = x
  sh_zero : ∀ w, sh w 0 = w
  sh_add : ∀ w a b, 0 ≤ a → 0 ≤ b → sh (sh w a) b = sh w (a + b)
namespace Tb
section
variable {α V : Type} (T : Tb α V)
/-- Has an entry a code? -/
def has (x : α) (n c : Int) : Prop := T.n x = n ∧ T.lo x ≤ c ∧ c ≤ T.hi x
instance (x : α) (n c : Int) : Decidable (T.has x n c) := inferInstanceAs (Decidable (_ ∧ _ ∧ _))
/-- What a code goes to, by an entry. -/
def val (x : α) (c : Int) : V := T.sh (T.v x) (c - T.lo x)
/-- By the first one of some. -/
def get : List α → Int → Int → Option V
  | [], _, _ => none
  | x :: t, n, c => if T.has x n c then some (T.val x c) else get t n c
/-- One stands ahead of another. -/
def bef (x y : α) : Prop := T.n x < T.n y ∨ (T.n x = T.n y ∧ T.hi x < T.lo y)
/-- In order, none meets another. -/
def OD : List α → Prop
  | [] => True
  | x :: t => T.lo x ≤ T.hi x ∧ (∀ y ∈ t, T.bef x y) ∧ OD t
/-- Could two be one? -/
def jn (x y : α) : Prop := T.n x = T.n y ∧ T.lo y = T.hi x + 1 ∧ T.v y = T.sh (T.v x) (T.lo y - T.lo x)
/-- No two that stand side by side could be one. -/
def NJ : List α → Prop
  | x :: y :: t => ¬ T.jn x y ∧ NJ (y :: t)
  | _ => True
theorem get_none {t : List α} {n c : Int} (h : ∀ x ∈ t, ¬ T.has x n c) : T.get t n c = none := by
  induction t with
  | nil => rfl
  | cons x t ih =>
    unfold get
    rw [if_neg (h x List.mem_cons_self), ih (fun y hy => h y (List.mem_cons_of_mem _ hy))]
theorem get_mem {t : List α} {n c : Int} {w : V} (h : T.get t n c = some w) : ∃ x ∈ t, T.has x n c ∧ T.val x c = w := by
  induction t with
  | nil => cases h
  | cons x t ih =>
    unfold get at h
    by_cases hx : T.has x n c
    · rw [if_pos hx] at h
      exact ⟨x, List.mem_cons_self, hx, Option.some.inj h⟩
    · rw [if_neg hx] at h
      obtain ⟨y, hy, h1, h2⟩ := ih h
      exact ⟨y, List.mem_cons_of_mem _ hy, h1, h2⟩
theorem bef_has {x y : α} {n c : Int} (h : T.bef x y) (hx : T.has x n c) : ¬ T.has y n c := by
  intro hy
  obtain ⟨h1, h2, h3⟩ := hx
  obtain ⟨k1, k2, k3⟩ := hy
  rcases h with h | ⟨h, h'⟩ <;> omega
theorem get_of_mem {t : List α} (ho : T.OD t) {x : α} {n c : Int} (hx : x ∈ t) (h : T.has x n c) : T.get t n c = some (T.val x c) := by
  induction t with
  | nil => cases hx
  | cons y t ih =>
    unfold get
    rcases List.mem_cons.1 hx with rfl | hx
    · rw [if_pos h]
    · rw [if_neg (fun hy => T.bef_has (ho.2.1 x hx) hy h)]
      exact ih ho.2.2 hx
theorem get_iff {t : List α} (ho : T.OD t) {n c : Int} {w : V} : T.get t n c = some w ↔ ∃ x ∈ t, T.has x n c ∧ T.val x c = w :=
  ⟨T.get_mem, fun ⟨x, hx, h, e⟩ => e ▸ T.get_of_mem ho hx h⟩
theorem has_lo {x : α} (h : T.lo x ≤ T.hi x) : T.has x (T.n x) (T.lo x) := ⟨rfl, Int.le_refl _, h⟩
theorem val_lo (x : α) : T.val x (T.lo x) = T.v x := by
  unfold val
  rw [Int.sub_self, T.sh_zero]
theorem ext {x y : α} (h1 : T.n x = T.n y) (h2 : T.lo x = T.lo y) (h3 : T.hi x = T.hi y) (h4 : T.v x = T.v y) : x = y := by
  rw [← T.eta x, ← T.eta y, h1, h2, h3, h4]
/-- The first one's first code is the least. -/
theorem least {x : α} {t : List α} (ho : T.OD (x :: t)) {y : α} (hy : y ∈ x :: t) : T.n x < T.n y ∨ (T.n x = T.n y ∧ T.lo x ≤ T.lo y) := by
  rcases List.mem_cons.1 hy with rfl | hy
  · exact .inr ⟨rfl, Int.le_refl _⟩
  · have := ho.1
    rcases ho.2.1 y hy with h | ⟨h, h'⟩
    · exact .inl h
    · exact .inr ⟨h, by omega⟩
theorem OD_lo {t : List α} (ho : T.OD t) : ∀ x ∈ t, T.lo x ≤ T.hi x := by
  induction t with
  | nil => intro x h; cases h
  | cons y t ih =>
    intro x hx
    rcases List.mem_cons.1 hx with rfl | hx
    · exact ho.1
    · exact ih ho.2.2 x hx
theorem tail_none {x : α} {t : List α} (ho : T.OD (x :: t)) {n c : Int} (h : T.has x n c) : T.get t n c = none :=
  T.get_none fun y hy hh => T.bef_has (ho.2.1 y hy) h hh
/-- If the first one of a table ends ahead of the other table's first one, that begins alike, they do not tell the same. -/
theorem no_less {x y : α} {t u : List α} (ht : T.OD (x :: t)) (hj : T.NJ (x :: t)) (hu : T.OD (y :: u)) (hn : T.n x = T.n y) (hl : T.lo x = T.lo y) (hv : T.v x = T.v y) (h : ∀ n c, T.get (x :: t) n c = T.get (y :: u) n c) : ¬ T.hi x < T.hi y := by
  intro hlt
  have hxl := ht.1
  have hy : T.has y (T.n y) (T.hi x + 1) := ⟨rfl, by omega, by omega⟩
  have h1 := T.get_of_mem hu List.mem_cons_self hy
  rw [← h] at h1
  obtain ⟨z, hz, hhas, hval⟩ := T.get_mem h1
  obtain ⟨z1, z2, z3⟩ := hhas
  rcases List.mem_cons.1 hz with rfl | hz
  · omega
  · have hb := ht.2.1 z hz
    have hzl : T.lo z = T.hi x + 1 := by rcases hb with hb | ⟨_, hb⟩ <;> omega
    cases t with
    | nil => cases hz
    | cons p t =>
      have hpz : p = z := by
        rcases List.mem_cons.1 hz with e | hz'
        · exact e.symm
        · exfalso
          have h2 := ht.2.2.2.1 z hz'
          have h3 := ht.2.2.1
          have h4 := ht.2.1 p List.mem_cons_self
          rcases h4 with h4 | ⟨_, h4⟩ <;> rcases h2 with h2 | ⟨_, h2⟩ <;> omega
      subst hpz
      refine hj.1 ⟨by omega, hzl, ?_⟩
      rw [← hzl, T.val_lo] at hval
      rw [hval]
      unfold val
      rw [hv, hl]
theorem uniq : ∀ {t u : List α}, T.OD t → T.NJ t → T.OD u → T.NJ u → (∀ n c, T.get t n c = T.get u n c) → t = u
  | [], [], _, _, _, _, _ => rfl
  | [], y :: u, _, _, hu, _, h => by
    have := T.get_of_mem hu List.mem_cons_self (T.has_lo hu.1)
    rw [← h] at this
    cases this
  | x :: t, [], ht, _, _, _, h => by
    have := T.get_of_mem ht List.mem_cons_self (T.has_lo ht.1)
    rw [h] at this
    cases this
  | x :: t, y :: u, ht, hjt, hu, hju, h => by
    have h1 := T.get_of_mem ht List.mem_cons_self (T.has_lo ht.1)
    have h2 := T.get_of_mem hu List.mem_cons_self (T.has_lo hu.1)
    obtain ⟨p, hp, hph, hpv⟩ := T.get_mem ((h _ _).symm.trans h1)
    obtain ⟨q, hq, hqh, hqv⟩ := T.get_mem ((h _ _).trans h2)
    have l1 := T.least hu hp
    have l2 := T.least ht hq
    obtain ⟨a1, a2, a3⟩ := hph
    obtain ⟨b1, b2, b3⟩ := hqh
    have hn : T.n x = T.n y := by rcases l1 with l1 | ⟨l1, _⟩ <;> rcases l2 with l2 | ⟨l2, _⟩ <;> omega
    have hl : T.lo x = T.lo y := by rcases l1 with l1 | ⟨l1, _⟩ <;> rcases l2 with l2 | ⟨l2, _⟩ <;> omega
    have hv : T.v x = T.v y := by
      rw [← hn, ← hl, ← h, h1] at h2
      have := Option.some.inj h2
      rw [T.val_lo, hl, T.val_lo] at this
      exact this
    have hh : T.hi x = T.hi y := by
      have c1 := T.no_less ht hjt hu hn hl hv h
      have c2 := T.no_less hu hju ht hn.symm hl.symm hv.symm (fun n c => (h n c).symm)
      omega
    obtain rfl := T.ext hn hl hh hv
    have hjt' : T.NJ t := by
      cases t with
      | nil => trivial
      | cons _ _ => exact hjt.2
    have hju' : T.NJ u := by
      cases u with
      | nil => trivial
      | cons _ _ => exact hju.2
    rw [uniq ht.2.2 hjt' hu.2.2 hju' (fun n c => by
      by_cases hx : T.has x n c
      · rw [T.tail_none ht hx, T.tail_none hu hx]
      · have := h n c
        unfold get at this
        rw [if_neg hx, if_neg hx] at this
        exact this)]
theorem OD_append {a b : List α} : T.OD (a ++ b) ↔ T.OD a ∧ T.OD b ∧ ∀ x ∈ a, ∀ y ∈ b, T.bef x y := by
  induction a with
  | nil => exact ⟨fun h => ⟨trivial, h, fun x hx => by cases hx⟩, fun h => h.2.1⟩
  | cons x a ih =>
    constructor
    · rintro ⟨h1, h2, h3⟩
      obtain ⟨k1, k2, k3⟩ := ih.1 h3
      refine ⟨⟨h1, fun y hy => h2 y (List.mem_append_left _ hy), k1⟩, k2, fun z hz y hy => ?_⟩
      rcases List.mem_cons.1 hz with rfl | hz
      · exact h2 y (List.mem_append_right _ hy)
      · exact k3 z hz y hy
    · rintro ⟨⟨h1, h2, h3⟩, k2, k3⟩
      refine ⟨h1, fun y hy => ?_, ih.2 ⟨h3, k2, fun z hz => k3 z (List.mem_cons_of_mem _ hz)⟩⟩
      rcases List.mem_append.1 hy with hy | hy
      · exact h2 y hy
      · exact k3 x List.mem_cons_self y hy
/-- Pieces of what is in order are in order. -/
theorem OD_flatMap (f : α → List α) {t : List α} (ho : T.OD t) (hf : ∀ x ∈ t, T.OD (f x) ∧ ∀ p ∈ f x, T.n p = T.n x ∧ T.lo x ≤ T.lo p ∧ T.hi p ≤ T.hi x) : T.OD (t.flatMap f) := by
  induction t with
  | nil => trivial
  | cons x t ih =>
    rw [List.flatMap_cons]
    refine T.OD_append.2 ⟨(hf x List.mem_cons_self).1, ih ho.2.2 (fun y hy => hf y (List.mem_cons_of_mem _ hy)), fun p hp q hq => ?_⟩
    obtain ⟨y, hy, hqy⟩ := List.mem_flatMap.1 hq
    have h1 := (hf x List.mem_cons_self).2 p hp
    have h2 := (hf y (List.mem_cons_of_mem _ hy)).2 q hqy
    rcases ho.2.1 y hy with h | ⟨h, h'⟩
    · exact .inl (by omega)
    · exact .inr ⟨by omega, by omega⟩
/-- What another one leaves of one. -/
def left (s x : α) : List α :=
  if T.n x ≠ T.n s ∨ T.hi x < T.lo s ∨ T.lo x > T.hi s then [x]
  else (if T.lo x < T.lo s then [T.make (T.n x) (T.lo x) (T.lo s - 1) (T.sh (T.v x) 0)] else []) ++ (if T.hi x > T.hi s then [T.make (T.n x) (T.hi s + 1) (T.hi x) (T.sh (T.v x) (T.hi s + 1 - T.lo x))] else [])
theorem left_in (s x : α) (hs : T.lo s ≤ T.hi s) (hx : T.lo x ≤ T.hi x) : T.OD (T.left s x) ∧ ∀ p ∈ T.left s x, T.n p = T.n x ∧ T.lo x ≤ T.lo p ∧ T.hi p ≤ T.hi x := by
  unfold left
  by_cases h : T.n x ≠ T.n s ∨ T.hi x < T.lo s ∨ T.lo x > T.hi s
  · rw [if_pos h]
    exact ⟨⟨hx, (fun y hy => by cases hy), trivial⟩, fun p hp => by obtain rfl := List.mem_singleton.1 hp; exact ⟨rfl, Int.le_refl _, Int.le_refl _⟩⟩
  · rw [if_neg h]
    have h2 : T.n x = T.n s ∧ T.lo s ≤ T.hi x ∧ T.lo x ≤ T.hi s := by
      refine ⟨?_, ?_, ?_⟩
      · exact Decidable.byContradiction fun e => h (.inl e)
      · exact Int.not_lt.1 fun e => h (.inr (.inl e))
      · exact Int.not_lt.1 fun e => h (.inr (.inr e))
    by_cases h3 : T.lo x < T.lo s <;> by_cases h4 : T.hi x > T.hi s
    all_goals simp only [h3, h4, if_true, if_false, List.nil_append, List.append_nil, List.cons_append, List.mem_cons, List.not_mem_nil, or_false, OD, T.n_mk, T.lo_mk, T.hi_mk, bef, forall_eq, and_true, true_and, forall_eq_or_imp]
    all_goals first | omega | (refine ⟨?_, fun x h => h.elim⟩ <;> first | trivial | (intro x h; exact h.elim)) | simp
    all_goals first | omega | skip
theorem left_apart (s x p : α) (hp : p ∈ T.left s x) : T.n p ≠ T.n s ∨ T.hi p < T.lo s ∨ T.lo p > T.hi s := by
  unfold left at hp
  by_cases h : T.n x ≠ T.n s ∨ T.hi x < T.lo s ∨ T.lo x > T.hi s
  · rw [if_pos h] at hp
    obtain rfl := List.mem_singleton.1 hp
    exact h
  · rw [if_neg h] at hp
    rcases List.mem_append.1 hp with hp | hp
    · split at hp
      · obtain rfl := List.mem_singleton.1 hp
        rw [T.hi_mk]
        exact .inr (.inl (by omega))
      · cases hp
    · split at hp
      · obtain rfl := List.mem_singleton.1 hp
        rw [T.lo_mk]
        exact .inr (.inr (by omega))
      · cases hp
theorem left_has (s x : α) {n c : Int} {w : V} : (∃ p ∈ T.left s x, T.has p n c ∧ T.val p c = w) ↔ (T.has x n c ∧ ¬ T.has s n c ∧ T.val x c = w) := by
  have v1 : ∀ h, T.val (T.make (T.n x) (T.lo x) h (T.sh (T.v x) 0)) c = T.val x c := fun h => by
    unfold val
    rw [T.lo_mk, T.v_mk, T.sh_zero]
  have v2 : ∀ h, T.lo x ≤ T.hi s + 1 → T.hi s + 1 ≤ c → T.val (T.make (T.n x) (T.hi s + 1) h (T.sh (T.v x) (T.hi s + 1 - T.lo x))) c = T.val x c := fun h h1 h2 => by
    unfold val
    rw [T.lo_mk, T.v_mk, T.sh_add _ _ _ (by omega) (by omega)]
    congr 1
    omega
  unfold left
  by_cases h : T.n x ≠ T.n s ∨ T.hi x < T.lo s ∨ T.lo x > T.hi s
  · rw [if_pos h]
    constructor
    · rintro ⟨p, hp, h1, h2⟩
      obtain rfl := List.mem_singleton.1 hp
      refine ⟨h1, fun hs => ?_, h2⟩
      obtain ⟨a1, a2, a3⟩ := h1
      obtain ⟨b1, b2, b3⟩ := hs
      rcases h with h | h | h
      · exact h (by omega)
      · omega
      · omega
    · rintro ⟨h1, _, h2⟩
      exact ⟨x, List.mem_singleton.2 rfl, h1, h2⟩
  · rw [if_neg h]
    have h2 : T.n x = T.n s ∧ T.lo s ≤ T.hi x ∧ T.lo x ≤ T.hi s := by
      refine ⟨?_, ?_, ?_⟩
      · exact Decidable.byContradiction fun e => h (.inl e)
      · exact Int.not_lt.1 fun e => h (.inr (.inl e))
      · exact Int.not_lt.1 fun e => h (.inr (.inr e))
    obtain ⟨e1, e2, e3⟩ := h2
    constructor
    · rintro ⟨p, hp, ⟨a1, a2, a3⟩, hv⟩
      rcases List.mem_append.1 hp with hp | hp
      · split at hp
        · obtain rfl := List.mem_singleton.1 hp
          rw [T.n_mk] at a1
          rw [T.lo_mk] at a2
          rw [T.hi_mk] at a3
          rw [v1] at hv
          exact ⟨⟨a1, a2, by omega⟩, fun hs => by have := hs.2.1; omega, hv⟩
        · cases hp
      · split at hp
        · obtain rfl := List.mem_singleton.1 hp
          rw [T.n_mk] at a1
          rw [T.lo_mk] at a2
          rw [T.hi_mk] at a3
          rw [v2 _ (by omega) a2] at hv
          exact ⟨⟨a1, by omega, a3⟩, fun hs => by have := hs.2.2; omega, hv⟩
        · cases hp
    · rintro ⟨⟨a1, a2, a3⟩, hns, hv⟩
      by_cases hc : c < T.lo s
      · refine ⟨T.make (T.n x) (T.lo x) (T.lo s - 1) (T.sh (T.v x) 0), List.mem_append_left _ ?_, ⟨?_, ?_, ?_⟩, ?_⟩
        · rw [if_pos (by omega)]
          exact List.mem_singleton.2 rfl
        · rw [T.n_mk]; exact a1
        · rw [T.lo_mk]; exact a2
        · rw [T.hi_mk]; omega
        · rw [v1]; exact hv
      · have hc2 : T.hi s < c := Int.not_le.1 fun h3 => hns ⟨by omega, by omega, h3⟩
        refine ⟨T.make (T.n x) (T.hi s + 1) (T.hi x) (T.sh (T.v x) (T.hi s + 1 - T.lo x)), List.mem_append_right _ ?_, ⟨?_, ?_, ?_⟩, ?_⟩
        · rw [if_pos (by omega)]
          exact List.mem_singleton.2 rfl
        · rw [T.n_mk]; exact a1
        · rw [T.lo_mk]; omega
        · rw [T.hi_mk]; exact a3
        · rw [v2 _ (by omega) (by omega)]; exact hv
/-- Stands one ahead of a place? -/
def ahead (y : α) (n c : Int) : Prop := T.n y < n ∨ (T.n y = n ∧ T.lo y < c)
/-- A table with one more. -/
theorem over_ok {t : List α} (ho : T.OD t) {s : α} (hs : T.lo s ≤ T.hi s) {k : Nat} (h1 : ∀ y ∈ (t.flatMap (T.left s)).take k, T.ahead y (T.n s) (T.lo s)) (h2 : ∀ y ∈ (t.flatMap (T.left s)).drop k, ¬ T.ahead y (T.n s) (T.lo s)) :
    T.OD ((t.flatMap (T.left s)).take k ++ s :: (t.flatMap (T.left s)).drop k) ∧ ∀ n c, T.get ((t.flatMap (T.left s)).take k ++ s :: (t.flatMap (T.left s)).drop k) n c = if T.has s n c then some (T.val s c) else T.get t n c := by
  have hg : T.OD (t.flatMap (T.left s)) := T.OD_flatMap _ ho (fun x hx => T.left_in s x hs (T.OD_lo ho x hx))
  have hap : ∀ y ∈ t.flatMap (T.left s), T.n y ≠ T.n s ∨ T.hi y < T.lo s ∨ T.lo y > T.hi s := fun y hy => by
    obtain ⟨x, _, hx⟩ := List.mem_flatMap.1 hy
    exact T.left_apart s x y hx
  have hmem : ∀ x, x ∈ t.flatMap (T.left s) ↔ x ∈ (t.flatMap (T.left s)).take k ∨ x ∈ (t.flatMap (T.left s)).drop k := fun x => by
    rw [← List.mem_append, List.take_append_drop]
  have hod := hg
  rw [← List.take_append_drop k (t.flatMap (T.left s))] at hod
  obtain ⟨g1, g2, g3⟩ := T.OD_append.1 hod
  have hO : T.OD ((t.flatMap (T.left s)).take k ++ s :: (t.flatMap (T.left s)).drop k) := by
    refine T.OD_append.2 ⟨g1, ⟨hs, fun y hy => ?_, g2⟩, fun x hx y hy => ?_⟩
    · have a := hap y ((hmem y).2 (.inr hy))
      have b := h2 y hy
      have c := T.OD_lo g2 y hy
      unfold ahead at b
      by_cases e1 : T.n s < T.n y
      · exact .inl e1
      · have e2 : ¬ T.n y < T.n s := fun e => b (.inl e)
        have e3 : T.n s = T.n y := by omega
        have e4 : ¬ T.lo y < T.lo s := fun e => b (.inr ⟨e3.symm, e⟩)
        rcases a with a | a | a
        · exact absurd e3.symm a
        · omega
        · exact .inr ⟨e3, by omega⟩
    · rcases List.mem_cons.1 hy with rfl | hy
      · have a := hap x ((hmem x).2 (.inl hx))
        rcases h1 x hx with b | ⟨b, b'⟩
        · exact .inl b
        · rcases a with a | a | a
          · exact absurd b a
          · exact .inr ⟨b, a⟩
          · omega
      · exact g3 x hx y hy
  refine ⟨hO, fun n c => ?_⟩
  by_cases hsc : T.has s n c
  · rw [if_pos hsc]
    exact T.get_of_mem hO (List.mem_append_right _ List.mem_cons_self) hsc
  · rw [if_neg hsc]
    refine Option.ext fun w => ?_
    show T.get _ n c = some w ↔ T.get t n c = some w
    rw [T.get_iff hO, T.get_iff ho]
    constructor
    · rintro ⟨x, hx, hh, hv⟩
      have hx2 : x ∈ t.flatMap (T.left s) := by
        rcases List.mem_append.1 hx with hx | hx
        · exact (hmem x).2 (.inl hx)
        · rcases List.mem_cons.1 hx with rfl | hx
          · exact absurd hh hsc
          · exact (hmem x).2 (.inr hx)
      obtain ⟨y, hy, hxy⟩ := List.mem_flatMap.1 hx2
      obtain ⟨k1, _, k2⟩ := (T.left_has s y).1 ⟨x, hxy, hh, hv⟩
      exact ⟨y, hy, k1, k2⟩
    · rintro ⟨y, hy, hh, hv⟩
      obtain ⟨x, hxy, k1, k2⟩ := (T.left_has s y).2 ⟨hh, hsc, hv⟩
      refine ⟨x, ?_, k1, k2⟩
      rcases (hmem x).1 (List.mem_flatMap.2 ⟨y, hy, hxy⟩) with h | h
      · exact List.mem_append_left _ h
      · exact List.mem_append_right _ (List.mem_cons_of_mem _ h)
theorem left_one (s x : α) (h : T.n x ≠ T.n s ∨ T.hi x ≤ T.hi s ∨ T.lo x ≥ T.lo s) : (T.left s x).length ≤ 1 := by
  unfold left
  split
  · simp
  · rename_i h2
    split <;> split <;> simp
    rename_i h3 h4
    rcases h with h | h | h
    · exact h2 (.inl h)
    · omega
    · omega
theorem left_two (s x : α) : (T.left s x).length ≤ 2 := by
  unfold left
  split
  · simp
  · split <;> split <;> simp
/-- One more makes a table at most one longer, but for itself. -/
theorem left_len (s : α) (hs : T.lo s ≤ T.hi s) : ∀ {t : List α}, T.OD t → (t.flatMap (T.left s)).length ≤ t.length + 1
  | [], _ => by simp
  | x :: t, ho => by
    rw [List.flatMap_cons, List.length_append, List.length_cons]
    by_cases h : T.n x ≠ T.n s ∨ T.hi x ≤ T.hi s ∨ T.lo x ≥ T.lo s
    · have h1 := T.left_one s x h
      have h2 := left_len s hs ho.2.2
      omega
    · have e1 : T.n x = T.n s := Decidable.byContradiction fun e => h (.inl e)
      have e2 : T.hi s < T.hi x := Int.not_le.1 fun e => h (.inr (.inl e))
      have h1 := T.left_two s x
      have h3 : ∀ (u : List α), (∀ y ∈ u, T.bef x y) → (u.flatMap (T.left s)).length ≤ u.length := by
        intro u
        induction u with
        | nil => intro _; simp
        | cons y u ih =>
          intro hu
          have h4 := T.left_one s y (by
            rcases hu y List.mem_cons_self with b | ⟨b, b'⟩
            · exact .inl (by omega)
            · exact .inr (.inr (by omega)))
          have h5 := ih (fun z hz => hu z (List.mem_cons_of_mem _ hz))
          rw [List.flatMap_cons, List.length_append, List.length_cons]
          omega
      have := h3 t ho.2.1
      omega
/-! ### Put together -/
def ext1 (p s : α) : α := T.make (T.n p) (T.lo p) (T.hi s) (T.v p)
def jr (jb : α → α → Bool) (p : α) : List α → List α
  | [] => [p]
  | s :: t => if jb p s = true then jr jb (T.ext1 p s) t else p :: jr jb s t
def joined (jb : α → α → Bool) : List α → List α
  | [] => []
  | s :: t => T.jr jb s t
theorem jn_head {p s s' : α} (h1 : T.n s' = T.n s) (h2 : T.lo s' = T.lo s) (h3 : T.v s' = T.v s) : T.jn p s' ↔ T.jn p s := by
  unfold jn
  rw [h1, h2, h3]
theorem jr_ok (jb : α → α → Bool) (Good : α → Prop) (hG : ∀ p s, Good p → Good s → T.jn p s → Good (T.ext1 p s)) (hjb : ∀ p s, Good p → Good s → (jb p s = true ↔ T.jn p s)) : ∀ (t : List α) (p : α), T.OD (p :: t) → (∀ x ∈ p :: t, Good x) →
    T.OD (T.jr jb p t) ∧ T.NJ (T.jr jb p t) ∧ (∀ n c, T.get (T.jr jb p t) n c = T.get (p :: t) n c) ∧ (∀ x ∈ T.jr jb p t, Good x) ∧ (T.jr jb p t).length ≤ t.length + 1 ∧ ∃ h r, T.jr jb p t = T.make (T.n p) (T.lo p) h (T.v p) :: r
  | [], p, ho, hg => ⟨ho, trivial, fun _ _ => rfl, hg, Nat.le_refl _, T.hi p, [], by rw [T.eta]; rfl⟩
  | s :: t, p, ho, hg => by
    have gp := hg p List.mem_cons_self
    have gs := hg s (List.mem_cons_of_mem _ List.mem_cons_self)
    unfold jr
    by_cases hj : jb p s = true
    · rw [if_pos hj]
      have hjn := (hjb p s gp gs).1 hj
      obtain ⟨j1, j2, j3⟩ := hjn
      have hpl := ho.1
      have hsl := ho.2.2.1
      have e1 : T.n (T.ext1 p s) = T.n p := T.n_mk _ _ _ _
      have e2 : T.lo (T.ext1 p s) = T.lo p := T.lo_mk _ _ _ _
      have e3 : T.hi (T.ext1 p s) = T.hi s := T.hi_mk _ _ _ _
      have e4 : T.v (T.ext1 p s) = T.v p := T.v_mk _ _ _ _
      have hO : T.OD (T.ext1 p s :: t) := by
        refine ⟨by rw [e2, e3]; omega, fun y hy => ?_, ho.2.2.2.2⟩
        unfold bef
        rw [e1, e3]
        rcases ho.2.2.2.1 y hy with b | ⟨b, b'⟩
        · exact .inl (by omega)
        · exact .inr ⟨by omega, b'⟩
      obtain ⟨i1, i2, i3, i4, i5, h, r, i6⟩ := jr_ok jb Good hG hjb t (T.ext1 p s) hO (fun x hx => by
        rcases List.mem_cons.1 hx with rfl | hx
        · exact hG p s gp gs ⟨j1, j2, j3⟩
        · exact hg x (List.mem_cons_of_mem _ (List.mem_cons_of_mem _ hx)))
      refine ⟨i1, i2, fun n c => ?_, i4, by rw [List.length_cons]; omega, h, r, by rw [i6, e1, e2, e4]⟩
      rw [i3]
      show (if T.has (T.ext1 p s) n c then _ else _) = if T.has p n c then _ else if T.has s n c then _ else _
      have hval : T.val (T.ext1 p s) c = T.val p c := by
        unfold val
        rw [e2, e4]
      by_cases hp : T.has p n c
      · obtain ⟨a1, a2, a3⟩ := hp
        rw [if_pos ⟨e1.trans a1, by rw [e2]; exact a2, by rw [e3]; omega⟩, if_pos ⟨a1, a2, a3⟩, hval]
      · rw [if_neg hp]
        by_cases hs : T.has s n c
        · obtain ⟨a1, a2, a3⟩ := hs
          rw [if_pos ⟨e1.trans (j1.trans a1), by rw [e2]; omega, by rw [e3]; exact a3⟩, if_pos ⟨a1, a2, a3⟩, hval]
          congr 1
          unfold val
          rw [j3, T.sh_add _ _ _ (by omega) (by omega)]
          congr 1
          omega
        · rw [if_neg hs, if_neg]
          rintro ⟨a1, a2, a3⟩
          rw [e1] at a1
          rw [e2] at a2
          rw [e3] at a3
          by_cases hc : c ≤ T.hi p
          · exact hp ⟨a1, a2, hc⟩
          · exact hs ⟨j1.symm.trans a1, by omega, a3⟩
    · rw [if_neg hj]
      obtain ⟨i1, i2, i3, i4, i5, h, r, i6⟩ := jr_ok jb Good hG hjb t s ho.2.2 (fun x hx => hg x (List.mem_cons_of_mem _ hx))
      have hnj : ¬ T.jn p s := fun h => hj ((hjb p s gp gs).2 h)
      have hb := ho.2.1 s List.mem_cons_self
      refine ⟨⟨ho.1, fun y hy => ?_, i1⟩, ?_, fun n c => ?_, fun x hx => ?_, by rw [List.length_cons, List.length_cons]; omega, T.hi p, _, by rw [T.eta]⟩
      · rw [i6] at i1 hy
        have l := T.least i1 hy
        rw [T.n_mk, T.lo_mk] at l
        rcases hb with b | ⟨b, b'⟩
        · exact .inl (by rcases l with l | ⟨l, _⟩ <;> omega)
        · rcases l with l | ⟨l, l'⟩
          · exact .inl (by omega)
          · exact .inr ⟨by omega, by omega⟩
      · rw [i6] at i2 ⊢
        exact ⟨fun hh => hnj ((T.jn_head (T.n_mk _ _ _ _) (T.lo_mk _ _ _ _) (T.v_mk _ _ _ _)).1 hh), i2⟩
      · show (if T.has p n c then _ else T.get (T.jr jb s t) n c) = if T.has p n c then _ else T.get (s :: t) n c
        rw [i3]
      · rcases List.mem_cons.1 hx with rfl | hx
        · exact gp
        · exact i4 x hx
theorem joined_ok (jb : α → α → Bool) (Good : α → Prop) (hG : ∀ p s, Good p → Good s → T.jn p s → Good (T.ext1 p s)) (hjb : ∀ p s, Good p → Good s → (jb p s = true ↔ T.jn p s)) {t : List α} (ho : T.OD t) (hg : ∀ x ∈ t, Good x) :
    T.OD (T.joined jb t) ∧ T.NJ (T.joined jb t) ∧ (∀ n c, T.get (T.joined jb t) n c = T.get t n c) ∧ (∀ x ∈ T.joined jb t, Good x) ∧ (T.joined jb t).length ≤ t.length := by
  cases t with
  | nil => exact ⟨trivial, trivial, fun _ _ => rfl, hg, Nat.le_refl _⟩
  | cons s t =>
    obtain ⟨i1, i2, i3, i4, i5, _⟩ := T.jr_ok jb Good hG hjb t s ho hg
    exact ⟨i1, i2, i3, i4, i5⟩
theorem find_none {b : List α} (ho : T.OD b) {n c : Int} (h2 : ∀ y ∈ b, ¬ T.ahead y n c) (hb : ∀ y b', b = y :: b' → ¬ (T.n y = n ∧ T.lo y = c)) : ∀ y ∈ b, ¬ T.has y n c := by
  rintro y hy ⟨a1, a2, a3⟩
  cases b with
  | nil => cases hy
  | cons h b =>
    have l := T.least ho hy
    have k := h2 h List.mem_cons_self
    have k2 := h2 y hy
    unfold ahead at k k2
    have k3 : ¬ T.n h < n := fun e => k (.inl e)
    have k4 : T.n h = n := by rcases l with l | ⟨l, _⟩ <;> omega
    have k5 : ¬ T.lo h < c := fun e => k (.inr ⟨k4, e⟩)
    refine hb h b rfl ⟨k4, ?_⟩
    rcases l with l | ⟨_, l⟩ <;> omega
theorem find_first {b : List α} (ho : T.OD b) {n c : Int} (h2 : ∀ y ∈ b, ¬ T.ahead y n c) (hb : ∀ y b', b = y :: b' → ¬ (T.n y = n ∧ T.lo y = c)) : T.get b n c = none := T.get_none (T.find_none ho h2 hb)
theorem find_miss {a b : List α} {z : α} (ho : T.OD (a ++ z :: b)) {n c : Int} (h1 : T.ahead z n c) (h2 : ∀ y ∈ b, ¬ T.ahead y n c) (hb : ∀ y b', b = y :: b' → ¬ (T.n y = n ∧ T.lo y = c)) : T.get (a ++ z :: b) n c = if T.has z n c then some (T.val z c) else none := by
  obtain ⟨o1, o2, o3⟩ := T.OD_append.1 ho
  by_cases hz : T.has z n c
  · rw [if_pos hz]
    exact T.get_of_mem ho (List.mem_append_right _ List.mem_cons_self) hz
  · rw [if_neg hz]
    refine T.get_none fun y hy => ?_
    rcases List.mem_append.1 hy with hy | hy
    · rintro ⟨a1, a2, a3⟩
      rcases h1 with h1 | ⟨h1, h1'⟩ <;> rcases o3 y hy z List.mem_cons_self with b | ⟨b, b'⟩ <;> omega
    · rcases List.mem_cons.1 hy with rfl | hy
      · exact hz
      · exact T.find_none o2.2.2 h2 hb y hy
end
end Tb
end Go.Proofs.Ytehknkgplldiiaa.Tab
namespace Go.Proofs.YtehknkgplldiiaaQ
open Go.RowKit Go.Proofs.YtehknkgplldiiaaW.PrintWords Go.Proofs.YtehknkgplldiiaaW.PrintLast Go.Proofs.YtehknkgplldiiaaW.PrintMore Go.Proofs.Ytehknkgplldiiaa.PIs Go.Proofs.Ytehknkgplldiiaa.Tab
/-- May a code of n bytes be v? -/
def saneB (n v : Int) : Bool := decide (1 ≤ n ∧ n ≤ 4 ∧ 0 ≤ v ∧ v < 256 ^ n.toNat)
theorem sane_range {n v : Int} (h : saneB n v = true) : (n = 1 ∧ 0 ≤ v ∧ v < 256) ∨ (n = 2 ∧ 0 ≤ v ∧ v < 65536) ∨ (n = 3 ∧ 0 ≤ v ∧ v < 16777216) ∨ (n = 4 ∧ 0 ≤ v ∧ v < 4294967296) := by
  obtain ⟨h1, h2, h3, h4⟩ := of_decide_eq_true h
  have : n = 1 ∨ n = 2 ∨ n = 3 ∨ n = 4 := by omega
  rcases this with rfl | rfl | rfl | rfl <;> simp at h4 <;> omega
theorem sane_iff (n v : Int) : saneB n v = true ↔ ((n = 1 ∧ 0 ≤ v ∧ v < 256) ∨ (n = 2 ∧ 0 ≤ v ∧ v < 65536) ∨ (n = 3 ∧ 0 ≤ v ∧ v < 16777216) ∨ (n = 4 ∧ 0 ≤ v ∧ v < 4294967296)) := by
  refine ⟨sane_range, fun h => ?_⟩
  rcases h with ⟨rfl, h1, h2⟩ | ⟨rfl, h1, h2⟩ | ⟨rfl, h1, h2⟩ | ⟨rfl, h1, h2⟩ <;> (unfold saneB; refine decide_eq_true ⟨by decide, by decide, h1, ?_⟩; simpa using h2)
theorem hex_Sane_is (n v : Int) : hex_Sane.f n v = some (saneB n v) := by
  unfold hex_Sane.f
  by_cases h1 : n ≥ 1
  · rw [if_pos h1]
    by_cases h2 : n ≤ 4
    · rw [if_pos h2]
      by_cases h3 : v ≥ 0
      · rw [if_pos h3]
        have : n = 1 ∨ n = 2 ∨ n = 3 ∨ n = 4 := by omega
        rcases this with rfl | rfl | rfl | rfl
        · rw [show IntKind.u64.wrap (wrap64 (8 * 1)) = 8 from by decide +kernel, if_pos (by decide), show shr .i64 v 8 = v / 256 from rfl]
          congr 1
          rw [Bool.eq_iff_iff, sane_iff, beq_iff_eq]
          omega
        · rw [show IntKind.u64.wrap (wrap64 (8 * 2)) = 16 from by decide +kernel, if_pos (by decide), show shr .i64 v 16 = v / 65536 from rfl]
          congr 1
          rw [Bool.eq_iff_iff, sane_iff, beq_iff_eq]
          omega
        · rw [show IntKind.u64.wrap (wrap64 (8 * 3)) = 24 from by decide +kernel, if_pos (by decide), show shr .i64 v 24 = v / 16777216 from rfl]
          congr 1
          rw [Bool.eq_iff_iff, sane_iff, beq_iff_eq]
          omega
        · rw [show IntKind.u64.wrap (wrap64 (8 * 4)) = 32 from by decide +kernel, if_pos (by decide), show shr .i64 v 32 = v / 4294967296 from rfl]
          congr 1
          rw [Bool.eq_iff_iff, sane_iff, beq_iff_eq]
          omega
      · rw [if_neg h3]
        congr 1
        symm
        rw [Bool.eq_false_iff, Ne, sane_iff]
        omega
    · rw [if_neg h2]
      congr 1
      symm
      rw [Bool.eq_false_iff, Ne, sane_iff]
      omega
  · rw [if_neg h1]
    congr 1
    symm
    rw [Bool.eq_false_iff, Ne, sane_iff]
    omega
theorem rise_zero (step : Bool) : riseI 0 step = 0 := by unfold riseI; split <;> rfl
theorem rise_add (a b : Int) (step : Bool) : riseI a step + riseI b step = riseI (a + b) step := by unfold riseI; split <;> omega
/-- Spans as a table. -/
def TS (step : Bool) : Tb S23 Int where
  n := fun x => x.f0
  lo := fun x => x.f1
  hi := fun x => x.f2
  v := fun x => x.f3
  make := fun a b c d => ⟨a, b, c, d⟩
  sh := fun w d => w + riseI d step
  n_mk := fun _ _ _ _ => rfl
  lo_mk := fun _ _ _ _ => rfl
  hi_mk := fun _ _ _ _ => rfl
  v_mk := fun _ _ _ _ => rfl
  eta := fun _ => rfl
  sh_zero := fun w => by rw [rise_zero]; omega
  sh_add := fun w a b _ _ => by rw [Int.add_assoc, rise_add]
theorem saneS_iff (x : S23) (step : Bool) : saneS x step = true ↔ saneB x.f0 x.f1 = true ∧ saneB x.f0 x.f2 = true ∧ x.f1 ≤ x.f2 ∧ 0 ≤ x.f3 ∧ x.f3 ≤ 65535 - riseI (x.f2 - x.f1) step := by
  unfold saneS span_Sane.f
  rw [hex_Sane_is, hex_Sane_is]
  simp only [Option.bind_some]
  by_cases h1 : saneB x.f0 x.f1 = true
  · rw [if_pos h1]
    by_cases h2 : saneB x.f0 x.f2 = true
    · rw [if_pos h2]
      have r1 := sane_range h1
      have r2 := sane_range h2
      by_cases h3 : x.f1 ≤ x.f2
      · rw [if_pos h3]
        by_cases h4 : x.f3 ≥ 0
        · rw [if_pos h4, w64 (by omega) (by omega)]
          unfold span_rise.f riseI
          cases step with
          | true =>
            simp only [if_true, Option.bind_some, Option.getD_some]
            rw [w64 (by omega) (by omega), decide_eq_true_iff]
            exact ⟨fun h => ⟨h1, h2, h3, h4, h⟩, fun h => h.2.2.2.2⟩
          | false =>
            simp only [if_neg (show ¬ (false = true) by decide), Option.bind_some, Option.getD_some]
            rw [w64 (by omega) (by omega), decide_eq_true_iff]
            exact ⟨fun h => ⟨h1, h2, h3, h4, h⟩, fun h => h.2.2.2.2⟩
        · rw [if_neg h4]
          exact ⟨(fun h => by cases h), fun h => absurd h.2.2.2.1 h4⟩
      · rw [if_neg h3]
        exact ⟨(fun h => by cases h), fun h => absurd h.2.2.1 h3⟩
    · rw [if_neg h2]
      exact ⟨(fun h => by cases h), fun h => absurd h.2.1 h2⟩
  · rw [if_neg h1]
    exact ⟨(fun h => by cases h), fun h => absurd h.1 h1⟩
abbrev Good (step : Bool) (x : S23) : Prop := saneS x step = true
/-- A span's numbers. -/
theorem Good.num {step : Bool} {x : S23} (h : Good step x) : (1 ≤ x.f0 ∧ x.f0 ≤ 4) ∧ (0 ≤ x.f1 ∧ x.f1 ≤ x.f2 ∧ x.f2 < 4294967296) ∧ (0 ≤ x.f3 ∧ x.f3 ≤ 65535) := by
  obtain ⟨h1, h2, h3, h4, h5⟩ := (saneS_iff x step).1 h
  have r1 := sane_range h1
  have r2 := sane_range h2
  have : 0 ≤ riseI (x.f2 - x.f1) step := by unfold riseI; split <;> omega
  omega
theorem Good.small {step : Bool} {x : S23} (h : Good step x) : smallS x := by
  have := h.num
  unfold smallS
  omega
theorem Good.part {step : Bool} {x : S23} (h : Good step x) {a b : Int} (h1 : x.f1 ≤ a) (h2 : a ≤ b) (h3 : b ≤ x.f2) : Good step ⟨x.f0, a, b, x.f3 + riseI (a - x.f1) step⟩ := by
  obtain ⟨k1, k2, k3, k4, k5⟩ := (saneS_iff x step).1 h
  refine (saneS_iff _ step).2 ⟨?_, ?_, h2, ?_, ?_⟩
  · have r1 := sane_range k1
    have r2 := sane_range k2
    rw [sane_iff]
    dsimp only
    omega
  · have r1 := sane_range k1
    have r2 := sane_range k2
    rw [sane_iff]
    dsimp only
    omega
  · dsimp only
    have : 0 ≤ riseI (a - x.f1) step := by unfold riseI; split <;> omega
    omega
  · dsimp only
    unfold riseI at k5 ⊢
    split at k5 <;> (rename_i hs; simp only [hs, if_true, if_neg (show ¬ (false = true) by decide)]; omega)
theorem left_is (x s : S23) (step : Bool) : leftS x s step = (TS step).left s x := by
  unfold leftS Tb.left
  have e : apartS x s = true ↔ ((TS step).n x ≠ (TS step).n s ∨ (TS step).hi x < (TS step).lo s ∨ (TS step).lo x > (TS step).hi s) := by
    unfold apartS
    rw [Bool.or_eq_true, Bool.or_eq_true, bne_iff_ne, decide_eq_true_iff, decide_eq_true_iff]
    exact Iff.rfl
  by_cases h : apartS x s = true
  · rw [if_pos h, if_pos (e.1 h)]
  · rw [if_neg h, if_neg (fun k => h (e.2 k))]
    unfold partS
    rw [Int.sub_self]
    rfl
theorem ord_neg (y t : S23) (step : Bool) : ordS y t < 0 ↔ (TS step).ahead y t.f0 t.f1 := by
  unfold ordS Tb.ahead
  show _ ↔ (y.f0 < t.f0 ∨ (y.f0 = t.f0 ∧ y.f1 < t.f1))
  repeat' split
  all_goals omega
theorem ord_zero (y t : S23) : ordS y t = 0 ↔ (y.f0 = t.f0 ∧ y.f1 = t.f1) := by
  unfold ordS
  repeat' split
  all_goals omega
theorem el_get {l : List S23} {i : Nat} (h : i < l.length) : elS l i = l[i] := by
  unfold elS rd_T23
  rw [Int.toNat_natCast, List.getD_eq_getElem?_getD, List.getElem?_eq_getElem h]
  rfl
theorem rd_get {l : List S23} {i : Nat} (h : i < l.length) : rd_T23 l (i : Int) = l[i] := el_get h
theorem OD_get {step : Bool} : ∀ {l : List S23}, (TS step).OD l → ∀ (a b : Nat) (ha : a < l.length) (hb : b < l.length), a < b → (TS step).bef l[a] l[b]
  | x :: l, ho, 0, b + 1, _, hb, _ => ho.2.1 _ (List.getElem_mem _)
  | x :: l, ho, a + 1, b + 1, ha, hb, h => OD_get ho.2.2 a b (Nat.lt_of_succ_lt_succ ha) (Nat.lt_of_succ_lt_succ hb) (by omega)
theorem bs_part (l : List S23) (t : S23) (mono : ∀ a b, a < b → b < l.length → ordS (elS l b) t < 0 → ordS (elS l a) t < 0) : ∀ n i j, j - i ≤ n → i ≤ j → j ≤ l.length → (∀ m, m < i → ordS (elS l m) t < 0) → (∀ m, j ≤ m → m < l.length → ¬ ordS (elS l m) t < 0) →
    (∀ m, m < bsS l t n i j → ordS (elS l m) t < 0) ∧ (∀ m, bsS l t n i j ≤ m → m < l.length → ¬ ordS (elS l m) t < 0) ∧ bsS l t n i j ≤ l.length
  | 0, i, j, h, hij, hj, h1, h2 => by
    obtain rfl : i = j := by omega
    exact ⟨h1, h2, hj⟩
  | n + 1, i, j, h, hij, hj, h1, h2 => by
    unfold bsS
    by_cases hlt : i < j
    · rw [if_pos hlt]
      by_cases ho : ordS (elS l ((i + j) / 2)) t < 0
      · rw [if_pos ho]
        refine bs_part l t mono n _ _ (by omega) (by omega) hj (fun m hm => ?_) h2
        rcases Nat.lt_or_ge m ((i + j) / 2) with hm2 | hm2
        · exact mono m _ hm2 (by omega) ho
        · obtain rfl : m = (i + j) / 2 := by omega
          exact ho
      · rw [if_neg ho]
        refine bs_part l t mono n _ _ (by omega) (by omega) (by omega) h1 (fun m hm hml hneg => ?_)
        rcases Nat.lt_or_ge ((i + j) / 2) m with hm2 | hm2
        · exact ho (mono _ m hm2 hml hneg)
        · obtain rfl : m = (i + j) / 2 := by omega
          exact ho hneg
    · rw [if_neg hlt]
      obtain rfl : i = j := by omega
      exact ⟨h1, h2, hj⟩
theorem find_part {step : Bool} {l : List S23} (ho : (TS step).OD l) (t : S23) : (∀ y ∈ l.take (findS l t), (TS step).ahead y t.f0 t.f1) ∧ (∀ y ∈ l.drop (findS l t), ¬ (TS step).ahead y t.f0 t.f1) ∧ findS l t ≤ l.length := by
  have mono : ∀ a b, a < b → b < l.length → ordS (elS l b) t < 0 → ordS (elS l a) t < 0 := fun a b hab hb h => by
    rw [el_get hb, ord_neg _ _ step] at h
    rw [el_get (by omega), ord_neg _ _ step]
    have hb1 := OD_get ho a b (by omega) hb hab
    have hl := Tb.OD_lo _ ho l[a] (List.getElem_mem _)
    unfold Tb.ahead at h ⊢
    rcases hb1 with k | ⟨k, k'⟩
    · rcases h with h | ⟨h, h'⟩
      · exact .inl (by omega)
      · exact .inl (by omega)
    · rcases h with h | ⟨h, h'⟩
      · exact .inl (by omega)
      · exact .inr ⟨by omega, by omega⟩
  have hbs := bs_part l t mono l.length 0 l.length (by omega) (Nat.zero_le _) (Nat.le_refl _) (fun m hm => by omega) (fun m hm hml => by omega)
  rw [show bsS l t l.length 0 l.length = findS l t from rfl] at hbs
  obtain ⟨h1, h2, h3⟩ := hbs
  refine ⟨fun y hy => ?_, fun y hy => ?_, h3⟩
  · obtain ⟨m, hm, e⟩ := List.mem_iff_getElem.1 hy
    rw [List.length_take] at hm
    rw [List.getElem_take] at e
    subst e
    have := h1 m (by omega)
    rwa [el_get (by omega), ord_neg _ _ step] at this
  · obtain ⟨m, hm, e⟩ := List.mem_iff_getElem.1 hy
    rw [List.length_drop] at hm
    rw [List.getElem_drop] at e
    subst e
    have := h2 (findS l t + m) (Nat.le_add_right _ _) (by omega)
    rwa [el_get (by omega), ord_neg _ _ step] at this
/-- One more, in order. -/
theorem overS_ok {step : Bool} {t : List S23} (ho : (TS step).OD t) (hg : ∀ x ∈ t, Good step x) {s : S23} (hs : Good step s) :
    (TS step).OD (overS t s step) ∧ (∀ x ∈ overS t s step, Good step x) ∧ (overS t s step).length ≤ t.length + 2 ∧ ∀ n c, (TS step).get (overS t s step) n c = if (TS step).has s n c then some ((TS step).val s c) else (TS step).get t n c := by
  have hfun : (fun x => leftS x s step) = (TS step).left s := funext fun x => left_is x s step
  have hsl : (TS step).lo s ≤ (TS step).hi s := hs.num.2.1.2.1
  unfold overS
  rw [hfun]
  have hgO : (TS step).OD (t.flatMap ((TS step).left s)) := Tb.OD_flatMap _ _ ho (fun x hx => Tb.left_in _ s x hsl (Tb.OD_lo _ ho x hx))
  obtain ⟨p1, p2, p3⟩ := find_part hgO s
  obtain ⟨o1, o2⟩ := Tb.over_ok _ ho hsl p1 p2
  refine ⟨o1, fun x hx => ?_, ?_, o2⟩
  · have hx2 : x = s ∨ x ∈ t.flatMap ((TS step).left s) := by
      rcases List.mem_append.1 hx with h | h
      · exact .inr (List.mem_of_mem_take h)
      · rcases List.mem_cons.1 h with h | h
        · exact .inl h
        · exact .inr (List.mem_of_mem_drop h)
    rcases hx2 with rfl | hx2
    · exact hs
    · obtain ⟨y, hy, hxy⟩ := List.mem_flatMap.1 hx2
      have gy := hg y hy
      have hn := gy.num
      have hn2 := hs.num
      unfold Tb.left at hxy
      split at hxy
      · obtain rfl := List.mem_singleton.1 hxy
        exact gy
      · rename_i hap
        have q1 : ¬ y.f2 < s.f1 := fun e => hap (.inr (.inl e))
        have q2 : ¬ y.f1 > s.f2 := fun e => hap (.inr (.inr e))
        rcases List.mem_append.1 hxy with h | h
        · split at h
          · rename_i hlt
            obtain rfl := List.mem_singleton.1 h
            have hlt2 : y.f1 < s.f1 := hlt
            have := gy.part (a := y.f1) (b := s.f1 - 1) (Int.le_refl _) (by omega) (by omega)
            rw [Int.sub_self] at this
            exact this
          · cases h
        · split at h
          · rename_i hlt
            obtain rfl := List.mem_singleton.1 h
            have hlt2 : y.f2 > s.f2 := hlt
            exact gy.part (a := s.f2 + 1) (b := y.f2) (by omega) (by omega) (Int.le_refl _)
          · cases h
  · have := Tb.left_len _ s hsl ho
    rw [List.length_append, List.length_cons, List.length_take, List.length_drop]
    omega
theorem joins_iff {step : Bool} {p s : S23} (hp : Good step p) (hs : Good step s) : joinsS p s step = true ↔ (TS step).jn p s := by
  have n1 := hp.num
  have n2 := hs.num
  unfold joinsS span_joins.f Tb.jn
  show _ ↔ (p.f0 = s.f0 ∧ s.f1 = p.f2 + 1 ∧ s.f3 = p.f3 + riseI (s.f1 - p.f1) step)
  rw [w64 (by omega) (by omega)]
  by_cases h1 : p.f0 = s.f0
  · rw [if_pos h1]
    by_cases h2 : p.f2 + 1 = s.f1
    · rw [if_pos h2, w64 (by omega) (by omega)]
      unfold span_rise.f riseI
      cases step with
      | true =>
        simp only [if_true, Option.bind_some, Option.getD_some]
        rw [w64 (by omega) (by omega), beq_iff_eq]
        exact ⟨fun h => ⟨h1, h2.symm, h.symm⟩, fun h => h.2.2.symm⟩
      | false =>
        simp only [if_neg (show ¬ (false = true) by decide), Option.bind_some, Option.getD_some]
        rw [w64 (by omega) (by omega), beq_iff_eq]
        exact ⟨fun h => ⟨h1, h2.symm, h.symm⟩, fun h => h.2.2.symm⟩
    · rw [if_neg h2]
      exact ⟨(fun h => by cases h), fun h => absurd h.2.1.symm h2⟩
  · rw [if_neg h1]
    exact ⟨(fun h => by cases h), fun h => absurd h.1 h1⟩
theorem good_ext {step : Bool} (p s : S23) (hp : Good step p) (hs : Good step s) (h : (TS step).jn p s) : Good step ((TS step).ext1 p s) := by
  obtain ⟨h1, h2, h3⟩ := h
  have e1 : p.f0 = s.f0 := h1
  have e2 : s.f1 = p.f2 + 1 := h2
  have e3 : s.f3 = p.f3 + riseI (s.f1 - p.f1) step := h3
  obtain ⟨k1, k2, k3, k4, k5⟩ := (saneS_iff p step).1 hp
  obtain ⟨m1, m2, m3, m4, m5⟩ := (saneS_iff s step).1 hs
  refine (saneS_iff _ step).2 ⟨k1, ?_, ?_, k4, ?_⟩
  · show saneB p.f0 s.f2 = true
    rw [e1]
    exact m2
  · show p.f1 ≤ s.f2
    omega
  · show p.f3 ≤ 65535 - riseI (s.f2 - p.f1) step
    unfold riseI at *
    split at e3 <;> (rename_i hh; simp only [hh, if_true, if_neg (show ¬ (false = true) by decide)] at m5 ⊢; omega)
/-- The table of some, not yet put together. -/
def foldS (step : Bool) (t : List S23) (l : List S23) : List S23 := l.foldl (fun t s => if saneS s step = true then overS t s step else t) t
def joinedS (step : Bool) (t : List S23) : List S23 := (TS step).joined (fun a b => joinsS a b step) t
def buildS (step : Bool) (l : List S23) : List S23 := joinedS step (foldS step [] l)
/-- Only those that may be, the last one first. -/
def lastL (step : Bool) (l : List S23) : List S23 := (l.filter fun x => saneS x step).reverse
theorem lastL_snoc (step : Bool) (l : List S23) (s : S23) : lastL step (l ++ [s]) = if saneS s step = true then s :: lastL step l else lastL step l := by
  unfold lastL
  rw [List.filter_append, List.reverse_append]
  by_cases h : saneS s step = true
  · rw [if_pos h]
    simp [List.filter_cons, h]
  · rw [if_neg h]
    simp [List.filter_cons, h]
theorem fold_ok (step : Bool) : ∀ (l : List S23), (TS step).OD (foldS step [] l) ∧ (∀ x ∈ foldS step [] l, Good step x) ∧ (foldS step [] l).length ≤ 2 * l.length ∧ ∀ n c, (TS step).get (foldS step [] l) n c = (TS step).get (lastL step l) n c := by
  intro l
  induction h : l.length generalizing l with
  | zero =>
    obtain rfl := List.length_eq_zero_iff.1 h
    exact ⟨trivial, (fun x hx => by cases hx), Nat.le_refl _, fun _ _ => rfl⟩
  | succ m ih =>
    obtain ⟨l', s, rfl⟩ : ∃ l' s, l = l' ++ [s] := ⟨l.dropLast, l.getLast (by intro e; rw [e] at h; cases h), (List.dropLast_concat_getLast _).symm⟩
    have hl' : l'.length = m := by simpa using h
    obtain ⟨i1, i2, i3, i4⟩ := ih l' hl'
    have hf : foldS step [] (l' ++ [s]) = if saneS s step = true then overS (foldS step [] l') s step else foldS step [] l' := by
      unfold foldS
      rw [List.foldl_append]
      rfl
    rw [hf]
    simp only [lastL_snoc]
    by_cases hs : saneS s step = true
    · simp only [if_pos hs]
      obtain ⟨o1, o2, o3, o4⟩ := overS_ok i1 i2 hs
      refine ⟨o1, o2, by omega, fun n c => ?_⟩
      rw [o4, i4]
      rfl
    · simp only [if_neg hs]
      exact ⟨i1, i2, by omega, i4⟩
theorem build_ok (step : Bool) (l : List S23) : (TS step).OD (buildS step l) ∧ (TS step).NJ (buildS step l) ∧ (∀ x ∈ buildS step l, Good step x) ∧ (buildS step l).length ≤ 2 * l.length ∧ ∀ n c, (TS step).get (buildS step l) n c = (TS step).get (lastL step l) n c := by
  obtain ⟨f1, f2, f3, f4⟩ := fold_ok step l
  obtain ⟨j1, j2, j3, j4, j5⟩ := Tb.joined_ok (TS step) (fun a b => joinsS a b step) (Good step) good_ext (fun p s hp hs => joins_iff hp hs) f1 f2
  exact ⟨j1, j2, j4, Nat.le_trans j5 f3, fun n c => (j3 n c).trans (f4 n c)⟩
/-- A table is the table of itself. -/
theorem get_lastL {step : Bool} {t : List S23} (ho : (TS step).OD t) (hg : ∀ x ∈ t, Good step x) (n c : Int) : (TS step).get (lastL step t) n c = (TS step).get t n c := by
  have hm : ∀ x, x ∈ lastL step t ↔ x ∈ t := fun x => by
    unfold lastL
    rw [List.mem_reverse, List.mem_filter]
    exact ⟨fun h => h.1, fun h => ⟨h, hg x h⟩⟩
  cases e : (TS step).get t n c with
  | some w =>
    obtain ⟨x, hx, hh, hv⟩ := Tb.get_mem _ e
    have : ∀ (u : List S23), (∀ y ∈ u, y ∈ t) → x ∈ u → (TS step).get u n c = some w := by
      intro u
      induction u with
      | nil => intro _ h; cases h
      | cons y u ih =>
        intro hu hxu
        unfold Tb.get
        by_cases hy : (TS step).has y n c
        · rw [if_pos hy, ← e, Tb.get_of_mem _ ho (hu y List.mem_cons_self) hy]
        · rw [if_neg hy]
          rcases List.mem_cons.1 hxu with rfl | hxu
          · exact absurd hh hy
          · exact ih (fun z hz => hu z (List.mem_cons_of_mem _ hz)) hxu
    exact this _ (fun y hy => (hm y).1 hy) ((hm x).2 hx)
  | none =>
    refine Tb.get_none _ fun x hx hh => ?_
    rw [Tb.get_of_mem _ ho ((hm x).1 hx) hh] at e
    cases e
/-- Two canonical tables that tell the same are the same. -/
theorem same_table {step : Bool} {a b : List S23} (h1 : (TS step).OD a) (h2 : (TS step).NJ a) (h3 : (TS step).OD b) (h4 : (TS step).NJ b) (h : ∀ n c, (TS step).get a n c = (TS step).get b n c) : a = b := Tb.uniq _ h1 h2 h3 h4 h
/-! ### What one tells, what the last one tells, what a table tells -/
def tell (o : Option Int) : Int × Bool := match o with
  | some w => (w, true)
  | none => (0, false)
theorem to_good {step : Bool} {x : S23} (h : Good step x) (n v : Int) : toS x n v step = tell (if (TS step).has x n v then some ((TS step).val x v) else none) := by
  have hn := h.num
  obtain ⟨k1, k2, k3, k4, k5⟩ := (saneS_iff x step).1 h
  unfold toS span_To.f
  rw [saneS_is, hex_Sane_is]
  simp only [Option.bind_some]
  rw [if_pos h]
  by_cases hs : saneB n v = true
  · rw [if_pos hs]
    have r := sane_range hs
    by_cases h1 : n = x.f0
    · rw [if_pos h1]
      by_cases h2 : v < x.f1
      · rw [if_pos h2, if_neg (fun q : (TS step).has x n v => by have : x.f1 ≤ v := q.2.1; omega)]
        rfl
      · rw [if_neg h2]
        by_cases h3 : v > x.f2
        · rw [if_pos h3, if_neg (fun q : (TS step).has x n v => by have : v ≤ x.f2 := q.2.2; omega)]
          rfl
        · rw [if_neg h3, if_pos (show (TS step).has x n v from ⟨h1.symm, (by omega : x.f1 ≤ v), (by omega : v ≤ x.f2)⟩), w64 (by omega) (by omega)]
          show _ = (x.f3 + riseI (v - x.f1) step, true)
          unfold span_rise.f riseI
          unfold riseI at k5
          cases step with
          | true =>
            simp only [if_true, Option.bind_some, Option.getD_some] at k5 ⊢
            rw [w64 (by omega) (by omega)]
          | false =>
            simp only [if_neg (show ¬ (false = true) by decide), Option.bind_some, Option.getD_some]
            rw [w64 (by omega) (by omega)]
    · rw [if_neg h1, if_neg (fun q : (TS step).has x n v => h1 q.1.symm)]
      rfl
  · rw [if_neg hs, if_neg (fun q : (TS step).has x n v => hs ?_)]
    · rfl
    · have e : x.f0 = n := q.1
      have a1 : x.f1 ≤ v := q.2.1
      have a2 : v ≤ x.f2 := q.2.2
      have r1 := sane_range k1
      have r2 := sane_range k2
      rw [sane_iff]
      omega
theorem to_bad {step : Bool} {x : S23} (h : ¬ Good step x) (n v : Int) : toS x n v step = (0, false) := by
  unfold toS span_To.f
  rw [saneS_is]
  simp only [Option.bind_some]
  rw [if_neg h]
  rfl
/-- A canonical table. -/
theorem chk_iff (step : Bool) : ∀ (t : List S23), (∀ j, j < t.length → okAtS t step j = true) ↔ ((∀ x ∈ t, Good step x) ∧ (TS step).OD t ∧ (TS step).NJ t)
  | [] => ⟨fun _ => ⟨(fun x hx => by cases hx), trivial, trivial⟩, fun _ j hj => by cases hj⟩
  | [x] => by
    constructor
    · intro h
      have h0 : saneS x step = true := h 0 (Nat.zero_lt_one)
      have gx : Good step x := h0
      exact ⟨fun y hy => by obtain rfl := List.mem_singleton.1 hy; exact h0, ⟨gx.num.2.1.2.1, (fun y hy => by cases hy), trivial⟩, trivial⟩
    · rintro ⟨h, _, _⟩ j hj
      obtain rfl : j = 0 := by simpa using hj
      exact h x List.mem_cons_self
  | x :: y :: t => by
    have ih := chk_iff step (y :: t)
    have sh : ∀ j, 1 ≤ j → okAtS (x :: y :: t) step (j + 1) = okAtS (y :: t) step j := fun j hj => by
      obtain ⟨m, rfl⟩ : ∃ m, j = m + 1 := ⟨j - 1, by omega⟩
      rfl
    have s1 : okAtS (x :: y :: t) step 1 = (saneS y step && !badS x y step) := rfl
    have bad_iff : Good step x → Good step y → ((!badS x y step) = true ↔ ((TS step).bef x y ∧ ¬ (TS step).jn x y)) := fun gx gy => by
      have n1 := gx.num
      have n2 := gy.num
      unfold badS
      rw [Bool.not_eq_true', Bool.or_eq_false_iff, Bool.or_eq_false_iff, decide_eq_false_iff_not, Bool.and_eq_false_iff, beq_eq_false_iff_ne, decide_eq_false_iff_not, Bool.eq_false_iff, show ¬ (ordS x y ≥ 0) ↔ ordS x y < 0 from Int.not_le, ord_neg _ _ step]
      have hj := joins_iff gx gy
      show ((TS step).ahead x y.f0 y.f1 ∧ ((x.f0 ≠ y.f0 ∨ ¬ x.f2 ≥ y.f1) ∧ ¬ joinsS x y step = true)) ↔ _
      rw [hj]
      show (((x.f0 < y.f0 ∨ (x.f0 = y.f0 ∧ x.f1 < y.f1)) ∧ ((x.f0 ≠ y.f0 ∨ ¬ x.f2 ≥ y.f1) ∧ ¬ (TS step).jn x y)) ↔ ((x.f0 < y.f0 ∨ (x.f0 = y.f0 ∧ x.f2 < y.f1)) ∧ ¬ (TS step).jn x y))
      constructor
      · rintro ⟨a, b, c⟩
        exact ⟨by omega, c⟩
      · rintro ⟨a, c⟩
        exact ⟨by omega, by omega, c⟩
    constructor
    · intro h
      have g0 : Good step x := h 0 (by simp)
      have h1 := h 1 (by simp)
      rw [s1, Bool.and_eq_true] at h1
      have gy : Good step y := h1.1
      obtain ⟨i1, i2, i3⟩ := ih.1 (fun j hj => by
        cases j with
        | zero => exact gy
        | succ m =>
          rw [← sh (m + 1) (by omega)]
          exact h (m + 1 + 1) (by simp at hj ⊢; omega))
      obtain ⟨b1, b2⟩ := (bad_iff g0 gy).1 h1.2
      refine ⟨fun z hz => ?_, ⟨g0.num.2.1.2.1, fun z hz => ?_, i2⟩, b2, i3⟩
      · rcases List.mem_cons.1 hz with rfl | hz
        · exact g0
        · exact i1 z hz
      · rcases List.mem_cons.1 hz with rfl | hz
        · exact b1
        · have hl := i2.1
          rcases i2.2.1 z hz with k | ⟨k, k'⟩ <;> rcases b1 with b | ⟨b, b'⟩
          · exact .inl (by omega)
          · exact .inl (by omega)
          · exact .inl (by omega)
          · exact .inr ⟨by omega, by omega⟩
    · rintro ⟨h1, ⟨h2, h3, h4⟩, h5, h6⟩ j hj
      have gx := h1 x List.mem_cons_self
      have gy := h1 y (List.mem_cons_of_mem _ List.mem_cons_self)
      match j, hj with
      | 0, _ => exact gx
      | 1, _ =>
        rw [s1, Bool.and_eq_true]
        exact ⟨gy, (bad_iff gx gy).2 ⟨h3 y List.mem_cons_self, h5⟩⟩
      | m + 2, hj =>
        rw [sh (m + 1) (by omega)]
        exact ih.2 ⟨fun z hz => h1 z (List.mem_cons_of_mem _ hz), h4, h6⟩ (m + 1) (by simp at hj ⊢; omega)
theorem canon_iff (step : Bool) (t : List S23) : canonS t step = true ↔ ((∀ x ∈ t, Good step x) ∧ (TS step).OD t ∧ (TS step).NJ t) := by
  rw [← chk_iff]
  unfold canonS
  rw [List.all_eq_true]
  exact ⟨fun h j hj => h j (List.mem_range.2 hj), fun h j hj => h j (List.mem_range.1 hj)⟩
theorem find_canon {step : Bool} {t : List S23} (hc : canonS t step = true) (n v : Int) : findV t n v step = tell ((TS step).get t n v) := by
  obtain ⟨hg, ho, hj⟩ := (canon_iff step t).1 hc
  obtain ⟨p1, p2, p3⟩ := find_part ho (⟨n, v, 0, 0⟩ : S23)
  unfold findV
  rw [if_pos hc]
  generalize findS t ⟨n, v, 0, 0⟩ = k at p1 p2 p3 ⊢
  have hsp := List.take_append_drop k t
  by_cases hk : k < t.length ∧ ordS (elS t k) ⟨n, v, 0, 0⟩ = 0
  · rw [if_pos hk]
    obtain ⟨k1, k2⟩ := hk
    rw [el_get k1] at k2 ⊢
    obtain ⟨e1, e2⟩ := (ord_zero _ _).1 k2
    rw [to_good (hg _ (List.getElem_mem _))]
    have hh : (TS step).has t[k] n v := ⟨e1, Int.le_of_eq e2, by have h0 : t[k].f1 ≤ t[k].f2 := Tb.OD_lo _ ho _ (List.getElem_mem _); show v ≤ t[k].f2; have : t[k].f1 = v := e2; omega⟩
    rw [if_pos hh, Tb.get_of_mem _ ho (List.getElem_mem _) hh]
  · rw [if_neg hk]
    have hb : ∀ y b', t.drop k = y :: b' → ¬ ((TS step).n y = n ∧ (TS step).lo y = v) := by
      rintro y b' e ⟨e1, e2⟩
      have hl : k < t.length := by
        rcases Nat.lt_or_ge k t.length with h | h
        · exact h
        · rw [List.drop_eq_nil_of_le h] at e
          cases e
      rw [List.drop_eq_getElem_cons hl] at e
      obtain ⟨e3, _⟩ := List.cons.inj e
      refine hk ⟨hl, ?_⟩
      rw [el_get hl, e3, ord_zero]
      exact ⟨e1, e2⟩
    have ho2 := ho
    rw [← hsp] at ho2
    by_cases h0 : k = 0
    · rw [if_pos h0]
      subst h0
      rw [List.drop_zero] at p2 hb
      rw [Tb.find_first _ ho p2 hb]
      rfl
    · rw [if_neg h0]
      have hk1 : k - 1 < t.length := by omega
      rw [el_get hk1, to_good (hg _ (List.getElem_mem _))]
      have htk : t.take k = t.take (k - 1) ++ [t[k - 1]] := by
        have := take_snoc (l := t) hk1
        rwa [show k - 1 + 1 = k by omega] at this
      have hz : (TS step).ahead t[k - 1] n v := p1 _ (by rw [htk]; exact List.mem_append_right _ (List.mem_singleton.2 rfl))
      have hsp2 : t = t.take (k - 1) ++ t[k - 1] :: t.drop k := by
        conv => lhs; rw [← hsp, htk]
        rw [List.append_assoc]
        rfl
      have ho3 := ho
      rw [hsp2] at ho3
      have := Tb.find_miss _ ho3 hz p2 hb
      rw [← hsp2] at this
      rw [this]
theorem find_not {step : Bool} {t : List S23} (hc : ¬ canonS t step = true) (n v : Int) : findV t n v step = (0, false) := by
  unfold findV
  rw [if_neg hc]
/-! ### The loops -/
theorem joined_l0 (step : Bool) (t : List S23) (ht : t.length ≤ 1000000) : ∀ m i : Nat, i + m = t.length → ∀ (init : List S23) (p : S23), init.length ≤ i →
    Ev (fun k => span_joined.l0 k step (init ++ [p]) t (t.length : Int) (i : Int)) (init ++ (TS step).jr (fun a b => joinsS a b step) p (t.drop i))
  | 0, i, hi, init, p, hin => by
    refine Ev.step (fun k => rfl) ?_
    simp only [span_joined.l0]
    simp only [if_neg (show ¬ ((i : Int) < (t.length : Int)) by omega)]
    rw [List.drop_eq_nil_of_le (by omega)]
    exact Ev.now _
  | m + 1, i, hi, init, p, hin => by
    have hil : i < t.length := by omega
    have hlen : ((init ++ [p]).length : Int) = (init.length : Int) + 1 := by simp
    have hw : wrap64 ((init.length : Int) + 1 - 1) = (init.length : Int) := by rw [w64 (by omega) (by omega)]; omega
    have hrd : rd_T23 (init ++ [p]) (init.length : Int) = p := by
      rw [rd_get (by simp)]
      simp
    have hset : (init ++ [p]).set init.length ((TS step).ext1 p t[i]) = init ++ [(TS step).ext1 p t[i]] := by simp
    refine Ev.step (fun k => rfl) ?_
    simp only [span_joined.l0]
    simp only [hw, hrd, rd_get hil, hlen, Int.toNat_natCast, if_pos (show (i : Int) < (t.length : Int) by omega), if_pos (show (0 : Int) ≤ (i : Int) by omega), if_pos (show (init.length : Int) + 1 > 0 by omega), if_pos (show (0 : Int) ≤ (init.length : Int) by omega), if_pos (show (init.length : Int) < (init.length : Int) + 1 by omega), w64n (show i < 9223372036854775807 by omega)]
    rw [List.drop_eq_getElem_cons hil]
    unfold Tb.jr
    refine Ev.bind (a := joinsS p t[i] step) (Ev.congr (fun k => joinsS_is p t[i] step) (Ev.now _)) ?_
    by_cases hj : joinsS p t[i] step = true
    · simp only [if_pos hj]
      have := joined_l0 step t ht m (i + 1) (by omega) init ((TS step).ext1 p t[i]) (by omega)
      rw [← hset] at this
      exact this
    · simp only [if_neg hj]
      simp only [if_pos (show (init ++ [p]).length < 4398046511104 by rw [List.length_append, List.length_singleton]; omega)]
      have := joined_l0 step t ht m (i + 1) (by omega) (init ++ [p]) t[i] (by rw [List.length_append, List.length_singleton]; omega)
      rw [List.append_assoc init [p] ((TS step).jr (fun a b => joinsS a b step) t[i] (t.drop (i + 1)))] at this
      exact this
theorem joined_is (step : Bool) (t : List S23) (ht : t.length ≤ 1000000) : Ev (fun k => span_joined.f k t step) (joinedS step t) := by
  unfold span_joined.f joinedS
  cases t with
  | nil =>
    refine Ev.step (fun k => rfl) ?_
    simp only [span_joined.l0]
    simp only [List.length_nil, if_neg (show ¬ ((0 : Int) < ((0 : Nat) : Int)) by decide)]
    exact Ev.now _
  | cons s t =>
    refine Ev.step (fun k => rfl) ?_
    simp only [span_joined.l0]
    have h := joined_l0 step (s :: t) ht t.length 1 (by simp; omega) [] s (by simp)
    have r0 : rd_T23 (s :: t) 0 = s := rfl
    have w1 : wrap64 (0 + 1) = 1 := w64 (by omega) (by omega)
    simp only [r0, w1, List.length_nil, if_pos (show (0 : Int) < ((s :: t).length : Int) by rw [List.length_cons]; omega), if_pos (show (0 : Int) ≤ 0 by decide), if_neg (show ¬ (((0 : Nat) : Int) > 0) by decide), if_pos (show (0 : Nat) < 4398046511104 by decide)]
    exact h
theorem build_l0 (step : Bool) (l : List S23) (hl : l.length ≤ 10000) : ∀ m i : Nat, i + m = l.length → Ev (fun k => span_Build.l0 k step (foldS step [] (l.take i)) l (l.length : Int) (i : Int)) (buildS step l)
  | 0, i, hi => by
    obtain rfl : i = l.length := by omega
    obtain ⟨_, _, f3, _⟩ := fold_ok step l
    refine Ev.step (fun k => rfl) ?_
    simp only [span_Build.l0]
    simp only [if_neg (show ¬ ((l.length : Int) < (l.length : Int)) by omega)]
    rw [List.take_length]
    refine Ev.bind (joined_is step _ (by omega)) ?_
    exact Ev.now _
  | m + 1, i, hi => by
    have hil : i < l.length := by omega
    obtain ⟨f1, f2, f3, _⟩ := fold_ok step (l.take i)
    rw [List.length_take] at f3
    have ih := build_l0 step l hl m (i + 1) (by omega)
    rw [take_snoc hil] at ih
    have hf : foldS step [] (l.take i ++ [l[i]]) = if saneS l[i] step = true then overS (foldS step [] (l.take i)) l[i] step else foldS step [] (l.take i) := by
      unfold foldS
      rw [List.foldl_append]
      rfl
    rw [hf] at ih
    refine Ev.step (fun k => rfl) ?_
    simp only [span_Build.l0]
    simp only [rd_get hil, if_pos (show (i : Int) < (l.length : Int) by omega), if_pos (show (0 : Int) ≤ (i : Int) by omega), w64n (show i < 9223372036854775807 by omega)]
    refine Ev.bind (a := saneS l[i] step) (Ev.congr (fun k => saneS_is l[i] step) (Ev.now _)) ?_
    by_cases hs : saneS l[i] step = true
    · simp only [if_pos hs] at ih ⊢
      refine Ev.bind (a := overS (foldS step [] (l.take i)) l[i] step) (Ev.congr (fun k => ?_) (Ev.now _)) ih
      have gs : Good step l[i] := hs
      unfold span_over.f
      exact if_pos ⟨by omega, gs.small, List.all_eq_true.2 fun x hx => decide_eq_true (f2 x hx).small⟩
    · simp only [if_neg hs] at ih ⊢
      exact ih
theorem span_Build_is (step : Bool) (l : List S23) (hl : l.length ≤ 10000) : Ev (fun k => span_Build.f k l step) (buildS step l) := build_l0 step l hl l.length 0 (by omega)
theorem span_Find_is {l : List S23} (hl : l.length ≤ 10000) (n v : Int) (step : Bool) : Ev (fun _ => span_Find.f l n v step) (findV l n v step) := by
  unfold span_Find.f
  rw [if_pos (by omega)]
  exact Ev.now _
theorem span_Canon_is {l : List S23} (hl : l.length ≤ 10000) (step : Bool) : Ev (fun _ => span_Canon.f l step) (canonS l step) := by
  unfold span_Canon.f
  rw [if_pos (by omega)]
  exact Ev.now _
theorem build_canon (step : Bool) (l : List S23) : canonS (buildS step l) step = true := by
  obtain ⟨h1, h2, h3, _, _⟩ := build_ok step l
  exact (canon_iff step _).2 ⟨h3, h1, h2⟩
end Go.Proofs.YtehknkgplldiiaaQ
namespace Go.Proofs.YtehknkgplldiiaaQ
open Go.RowKit Go.Proofs.YtehknkgplldiiaaW.PrintWords Go.Proofs.YtehknkgplldiiaaW.PrintLast Go.Proofs.YtehknkgplldiiaaW.PrintMore Go.Proofs.Ytehknkgplldiiaa.PIs Go.Proofs.Ytehknkgplldiiaa.Tab
theorem awake : Ev (fun k => hornbooklaw07_awake.f k) true := by
  have e : buildS true [(⟨1, 10, 20, 5⟩ : S23), ⟨1, 15, 15, 99⟩] = [⟨1, 10, 14, 5⟩, ⟨1, 15, 15, 99⟩, ⟨1, 16, 20, 11⟩] := by kernel_rfl
  have hb := span_Build_is true [(⟨1, 10, 20, 5⟩ : S23), ⟨1, 15, 15, 99⟩] (by decide)
  have hc := build_canon true [(⟨1, 10, 20, 5⟩ : S23), ⟨1, 15, 15, 99⟩]
  rw [e] at hb hc
  unfold hornbooklaw07_awake.f
  refine Ev.bind hb ?_
  have hf : span_Find.f [(⟨1, 10, 14, 5⟩ : S23), ⟨1, 15, 15, 99⟩, ⟨1, 16, 20, 11⟩] 1 16 true = some (11, true) := by kernel_rfl
  have hcc : span_Canon.f [(⟨1, 10, 14, 5⟩ : S23), ⟨1, 15, 15, 99⟩, ⟨1, 16, 20, 11⟩] true = some true := by
    unfold span_Canon.f
    rw [if_pos (by decide), hc]
  refine Ev.bind (a := (11, true)) (Ev.congr (fun _ => hf) (Ev.now _)) ?_
  simp only [List.length_cons, List.length_nil, if_true, if_pos (show ((0 + 1 + 1 + 1 : Nat) : Int) = 3 by decide)]
  exact Ev.bind (a := true) (Ev.congr (fun _ => hcc) (Ev.now _)) (Ev.now _)
end Go.Proofs.YtehknkgplldiiaaQ
namespace Go.Proofs.YtehknkgplldiiaaQ
open Go.RowKit Go.Proofs.YtehknkgplldiiaaW.PrintWords Go.Proofs.YtehknkgplldiiaaW.PrintLast Go.Proofs.YtehknkgplldiiaaW.PrintMore Go.Proofs.Ytehknkgplldiiaa.PIs Go.Proofs.Ytehknkgplldiiaa.Tab
theorem lastTo_is (l : List S23) (n v : Int) (step : Bool) : ∀ i, i ≤ l.length → lastTo l n v step i = tell ((TS step).get (lastL step (l.take i)) n v)
  | 0, _ => by simp [lastTo, lastL, Tb.get, tell]
  | i + 1, hi => by
    have ih := lastTo_is l n v step i (by omega)
    rw [take_snoc (by omega), lastL_snoc]
    unfold lastTo
    rw [el_get (by omega), ih]
    by_cases hs : saneS l[i] step = true
    · rw [if_pos hs, to_good hs]
      rw [show (TS step).get (l[i] :: lastL step (l.take i)) n v = if (TS step).has l[i] n v then some ((TS step).val l[i] v) else (TS step).get (lastL step (l.take i)) n v from rfl]
      by_cases hh : (TS step).has l[i] n v
      · rw [if_pos hh, if_pos hh]
        rfl
      · rw [if_neg hh, if_neg hh]
        rfl
    · rw [if_neg hs, to_bad hs]
      rfl
theorem span_Last_is {l : List S23} (hl : l.length ≤ 10000) (n v : Int) (step : Bool) : Ev (fun _ => span_Last.f l n v step) (tell ((TS step).get (lastL step l) n v)) := by
  unfold span_Last.f
  rw [if_pos (by omega), lastTo_is l n v step l.length (Nat.le_refl _), List.take_length]
  exact Ev.now _
end Go.Proofs.YtehknkgplldiiaaQ
namespace Go.Proofs.YtehknkgplldiiaaQ
open Go.RowKit Go.Proofs.YtehknkgplldiiaaW.PrintWords Go.Proofs.YtehknkgplldiiaaW.PrintLast Go.Proofs.YtehknkgplldiiaaW.PrintMore Go.Proofs.Ytehknkgplldiiaa.PIs Go.Proofs.Ytehknkgplldiiaa.Tab
theorem span_Put_is (step : Bool) (l : List S23) (hl : l.length ≤ 9999) (s0 s1 s2 s3 : Int) : Ev (fun k => span_Put.f k l s0 s1 s2 s3 step) (buildS step (l ++ [⟨s0, s1, s2, s3⟩])) := by
  unfold span_Put.f
  refine Ev.bind (a := l) (Ev.congr (fun _ => if_pos (by omega)) (Ev.now _)) ?_
  simp only [Option.bind_some, List.length_singleton]
  simp only [if_pos (show l.length + 1 < 4398046511104 by omega)]
  exact Ev.bind (span_Build_is step _ (by rw [List.length_append, List.length_singleton]; omega)) (Ev.now _)
end Go.Proofs.YtehknkgplldiiaaQ
namespace Go.Proofs.YtehknkgplldiiaaQ
open Go.RowKit Go.Proofs.YtehknkgplldiiaaW.PrintWords Go.Proofs.YtehknkgplldiiaaW.PrintLast Go.Proofs.YtehknkgplldiiaaW.PrintMore Go.Proofs.Ytehknkgplldiiaa.PIs Go.Proofs.Ytehknkgplldiiaa.Tab
theorem same_l0 (t : List S23) (ht : t.length ≤ 1000000) : ∀ m i : Nat, i + m = t.length → Ev (fun k => hornbookref07_Same.l0 k t t (i : Int)) true
  | 0, i, hi => by
    refine Ev.step (fun k => rfl) ?_
    simp only [hornbookref07_Same.l0]
    simp only [if_neg (show ¬ ((i : Int) < (t.length : Int)) by omega)]
    exact Ev.now _
  | m + 1, i, hi => by
    refine Ev.step (fun k => rfl) ?_
    simp only [hornbookref07_Same.l0]
    simp only [if_pos (show (i : Int) < (t.length : Int) by omega), if_pos (show (0 : Int) ≤ (i : Int) by omega), beq_self_eq_true, Bool.not_true, Bool.or_self, if_neg (show ¬ (false = true) by decide), w64n (show i < 9223372036854775807 by omega)]
    exact same_l0 t ht m (i + 1) (by omega)
theorem ref_Same_refl (t : List S23) (ht : t.length ≤ 1000000) : Ev (fun k => hornbookref07_Same.f k t t) true := by
  unfold hornbookref07_Same.f
  simp only [if_true]
  exact same_l0 t ht t.length 0 (by omega)
end Go.Proofs.YtehknkgplldiiaaQ
/-! Tables by borders: plain law. -/
namespace Go.Proofs.Ytehknkgplldiiaa.Tab
/-- A number in a list that rises; once. -/
def insU : List Int → Int → List Int
  | [], v => [v]
  | x :: l, v => if x = v then x :: l else if x > v then v :: x :: l else x :: insU l v
theorem insU_len (v : Int) : ∀ l : List Int, (insU l v).length ≤ l.length + 1
  | [] => Nat.le_refl _
  | x :: l => by
    have := insU_len v l
    unfold insU
    split
    · exact Nat.le_succ _
    · split
      · exact Nat.le_refl _
      · rw [List.length_cons, List.length_cons]
        omega
theorem insU_mem (v z : Int) : ∀ l : List Int, z ∈ insU l v ↔ z = v ∨ z ∈ l
  | [] => by simp [insU]
  | x :: l => by
    have := insU_mem v z l
    unfold insU
    split
    · rename_i h
      subst h
      simp
    · split
      · simp
      · simp only [List.mem_cons, this]
        constructor
        · rintro (h | h | h)
          · exact .inr (.inl h)
          · exact .inl h
          · exact .inr (.inr h)
        · rintro (h | h | h)
          · exact .inr (.inl h)
          · exact .inl h
          · exact .inr (.inr h)
def SA : List Int → Prop
  | [] => True
  | x :: l => (∀ y ∈ l, x < y) ∧ SA l
theorem insU_SA (v : Int) : ∀ l : List Int, SA l → SA (insU l v)
  | [], _ => ⟨(fun y hy => by cases hy), trivial⟩
  | x :: l, h => by
    have ih := insU_SA v l h.2
    unfold insU
    split
    · exact h
    · split
      · rename_i h1 h2
        refine ⟨fun y hy => ?_, h⟩
        rcases List.mem_cons.1 hy with rfl | hy
        · omega
        · have := h.1 y hy
          omega
      · rename_i h1 h2
        refine ⟨fun y hy => ?_, ih⟩
        rcases (insU_mem v y l).1 hy with rfl | hy
        · omega
        · exact h.1 y hy
namespace Tb
section
variable {α V : Type} (T : Tb α V)
theorem jr_len (jb : α → α → Bool) : ∀ (t : List α) (p : α), (T.jr jb p t).length ≤ t.length + 1
  | [], p => Nat.le_refl _
  | s :: t, p => by
    unfold jr
    split
    · have := jr_len jb t (T.ext1 p s)
      rw [List.length_cons]
      omega
    · have := jr_len jb t s
      rw [List.length_cons, List.length_cons]
      omega
theorem jr_snoc (jb : α → α → Bool) (x : α) : ∀ (t : List α) (p : α), ∃ init q, T.jr jb p t = init ++ [q] ∧ T.jr jb p (t ++ [x]) = if jb q x = true then init ++ [T.ext1 q x] else init ++ [q] ++ [x]
  | [], p => ⟨[], p, rfl, by
      show (if jb p x = true then _ else _) = _
      split <;> rfl⟩
  | s :: t, p => by
    show ∃ init q, (if jb p s = true then _ else _) = _ ∧ (if jb p s = true then _ else _) = _
    by_cases h : jb p s = true
    · obtain ⟨init, q, h1, h2⟩ := jr_snoc jb x t (T.ext1 p s)
      exact ⟨init, q, by rw [if_pos h]; exact h1, by rw [if_pos h]; exact h2⟩
    · obtain ⟨init, q, h1, h2⟩ := jr_snoc jb x t s
      refine ⟨p :: init, q, by rw [if_neg h, h1]; rfl, ?_⟩
      rw [if_neg h]
      show p :: T.jr jb s (t ++ [x]) = _
      rw [h2]
      split <;> rfl
theorem joined_len (jb : α → α → Bool) (t : List α) : (T.joined jb t).length ≤ t.length := by
  cases t with
  | nil => exact Nat.le_refl _
  | cons s t => exact T.jr_len jb t s
theorem joined_snoc (jb : α → α → Bool) (x : α) (t : List α) : (T.joined jb t = [] ∧ T.joined jb (t ++ [x]) = [x]) ∨ ∃ init q, T.joined jb t = init ++ [q] ∧ T.joined jb (t ++ [x]) = if jb q x = true then init ++ [T.ext1 q x] else init ++ [q] ++ [x] := by
  cases t with
  | nil => exact .inl ⟨rfl, rfl⟩
  | cons s t => exact .inr (T.jr_snoc jb x t s)
/-- From each border to the next one. -/
def seg1 (o : Option V) (n x y : Int) : List α := match o with
  | some v => [T.make n x (y - 1) v]
  | none => []
def segs (f : Int → Option V) (n : Int) : List Int → List α
  | x :: y :: r => T.seg1 (f x) n x y ++ segs f n (y :: r)
  | _ => []
theorem segs_two (f : Int → Option V) (n x y : Int) (r : List Int) : T.segs f n (x :: y :: r) = T.seg1 (f x) n x y ++ T.segs f n (y :: r) := by
  conv => lhs; unfold segs
theorem segs_len (f : Int → Option V) (n : Int) : ∀ b : List Int, (T.segs f n b).length ≤ b.length
  | [] => Nat.le_refl _
  | [x] => Nat.zero_le _
  | x :: y :: r => by
    have := segs_len f n (y :: r)
    unfold segs
    rw [List.length_append, List.length_cons]
    have h2 : (T.seg1 (f x) n x y).length ≤ 1 := by unfold seg1; split <;> simp
    omega
theorem get_cong {u : List α} {n c c' : Int} (hl : ∀ q ∈ u, T.has q n c ↔ T.has q n c') (hc : c' ≤ c) : T.get u n c = (T.get u n c').map (fun w => T.sh w (c - c')) := by
  induction u with
  | nil => rfl
  | cons q u ih =>
    have hq := hl q List.mem_cons_self
    have ih := ih (fun z hz => hl z (List.mem_cons_of_mem _ hz))
    unfold get
    by_cases h : T.has q n c
    · rw [if_pos h, if_pos (hq.1 h)]
      have h2 := (hq.1 h).2.1
      show some (T.val q c) = some (T.sh (T.val q c') (c - c'))
      unfold val
      rw [T.sh_add _ _ _ (by omega) (by omega)]
      congr 2
      omega
    · rw [if_neg h, if_neg (fun k => h (hq.2 k))]
      exact ih
/-- A part of one of some. -/
def partOf (u : List α) (n : Int) (x : α) : Prop := ∃ q ∈ u, T.n q = n ∧ T.n x = n ∧ T.lo q ≤ T.lo x ∧ T.lo x ≤ T.hi x ∧ T.hi x ≤ T.hi q ∧ T.v x = T.val q (T.lo x)
theorem segs_ok {u : List α} {n : Int} : ∀ (x : Int) (r : List Int), SA (x :: r) → (∀ q ∈ u, T.n q = n → (T.lo q ∈ x :: r ∨ T.lo q < x) ∧ (T.hi q + 1 ∈ x :: r ∨ T.hi q + 1 < x)) →
    T.OD (T.segs (fun c => T.get u n c) n (x :: r)) ∧ (∀ s ∈ T.segs (fun c => T.get u n c) n (x :: r), T.partOf u n s ∧ x ≤ T.lo s) ∧
    ∀ c, x ≤ c → ∀ w, (∃ s ∈ T.segs (fun c => T.get u n c) n (x :: r), T.has s n c ∧ T.val s c = w) ↔ T.get u n c = some w
  | x, [], hs, hu => by
    refine ⟨trivial, (fun s hs => by cases hs), fun c hc w => ⟨fun ⟨s, h, _⟩ => (by cases h), fun h => ?_⟩⟩
    obtain ⟨q, hq, ⟨q1, q2, q3⟩, _⟩ := T.get_mem h
    rcases (hu q hq q1).2 with k | k
    · have := List.mem_singleton.1 k
      omega
    · omega
  | x, y :: r, hs, hu => by
    have hxy : x < y := hs.1 y List.mem_cons_self
    have hge : ∀ z ∈ y :: r, y ≤ z := fun z hz => by
      rcases List.mem_cons.1 hz with rfl | hz
      · exact Int.le_refl _
      · exact Int.le_of_lt (hs.2.1 z hz)
    have hu' : ∀ q ∈ u, T.n q = n → (T.lo q ∈ y :: r ∨ T.lo q < y) ∧ (T.hi q + 1 ∈ y :: r ∨ T.hi q + 1 < y) := fun q hq hn => by
      obtain ⟨a, b⟩ := hu q hq hn
      constructor
      · rcases a with a | a
        · rcases List.mem_cons.1 a with a | a
          · exact .inr (by omega)
          · exact .inl a
        · exact .inr (by omega)
      · rcases b with b | b
        · rcases List.mem_cons.1 b with b | b
          · exact .inr (by omega)
          · exact .inl b
        · exact .inr (by omega)
    obtain ⟨i1, i2, i3⟩ := segs_ok y r hs.2 hu'
    have hcong : ∀ c, x ≤ c → c < y → ∀ q ∈ u, T.has q n c ↔ T.has q n x := fun c h1 h2 q hq => by
      constructor
      · rintro ⟨a1, a2, a3⟩
        refine ⟨a1, ?_, by omega⟩
        rcases (hu q hq a1).1 with k | k
        · rcases List.mem_cons.1 k with k | k
          · omega
          · have := hge _ k
            omega
        · omega
      · rintro ⟨a1, a2, a3⟩
        refine ⟨a1, by omega, ?_⟩
        rcases (hu q hq a1).2 with k | k
        · rcases List.mem_cons.1 k with k | k
          · omega
          · have := hge _ k
            omega
        · omega
    have hget : ∀ c, x ≤ c → c < y → T.get u n c = (T.get u n x).map (fun w => T.sh w (c - x)) := fun c h1 h2 => T.get_cong (hcong c h1 h2) h1
    rw [T.segs_two]
    show T.OD (T.seg1 (T.get u n x) n x y ++ _) ∧ (∀ s ∈ T.seg1 (T.get u n x) n x y ++ _, _) ∧ ∀ c, x ≤ c → ∀ w, (∃ s ∈ T.seg1 (T.get u n x) n x y ++ _, _) ↔ _
    cases e : T.get u n x with
    | none =>
      rw [show T.seg1 none n x y = [] from rfl, List.nil_append]
      refine ⟨i1, fun s hs => ⟨(i2 s hs).1, by have := (i2 s hs).2; omega⟩, fun c hc w => ?_⟩
      rcases Int.lt_or_le c y with hcy | hcy
      · rw [hget c hc hcy, e]
        refine ⟨fun ⟨s, h1, h2, _⟩ => ?_, fun h => by cases h⟩
        have := (i2 s h1).2
        have := h2.2.1
        omega
      · exact i3 c hcy w
    | some v =>
      rw [show T.seg1 (some v) n x y = [T.make n x (y - 1) v] from rfl, List.singleton_append]
      obtain ⟨q, hq, ⟨q1, q2, q3⟩, qv⟩ := T.get_mem e
      have hqh : y ≤ T.hi q + 1 := by
        rcases (hu q hq q1).2 with k | k
        · rcases List.mem_cons.1 k with k | k
          · omega
          · exact hge _ k
        · omega
      refine ⟨⟨?_, fun s hs => ?_, i1⟩, fun s hs => ?_, fun c hc w => ?_⟩
      · rw [T.lo_mk, T.hi_mk]
        omega
      · have h1 := (i2 s hs).2
        obtain ⟨q', _, _, k, _⟩ := (i2 s hs).1
        refine .inr ⟨by rw [T.n_mk]; exact k.symm, by rw [T.hi_mk]; omega⟩
      · rcases List.mem_cons.1 hs with rfl | hs
        · refine ⟨⟨q, hq, q1, T.n_mk _ _ _ _, ?_, ?_, ?_, ?_⟩, ?_⟩
          · rw [T.lo_mk]; exact q2
          · rw [T.lo_mk, T.hi_mk]; omega
          · rw [T.hi_mk]; omega
          · rw [T.v_mk, T.lo_mk]; exact qv.symm
          · rw [T.lo_mk]; exact Int.le_refl _
        · exact ⟨(i2 s hs).1, by have := (i2 s hs).2; omega⟩
      · rcases Int.lt_or_le c y with hcy | hcy
        · rw [hget c hc hcy, e]
          constructor
          · rintro ⟨s, h1, h2, h3⟩
            rcases List.mem_cons.1 h1 with rfl | h1
            · show some (T.sh v (c - x)) = some w
              rw [← h3]
              unfold val
              rw [T.v_mk, T.lo_mk]
            · have := (i2 s h1).2
              have := h2.2.1
              omega
          · intro h
            refine ⟨_, List.mem_cons_self, ⟨T.n_mk _ _ _ _, by rw [T.lo_mk]; exact hc, by rw [T.hi_mk]; omega⟩, ?_⟩
            have h2 := Option.some.inj h
            rw [← h2]
            unfold val
            rw [T.v_mk, T.lo_mk]
        · rw [← i3 c hcy w]
          constructor
          · rintro ⟨s, h1, h2, h3⟩
            rcases List.mem_cons.1 h1 with rfl | h1
            · have := h2.2.2
              rw [T.hi_mk] at this
              omega
            · exact ⟨s, h1, h2, h3⟩
          · rintro ⟨s, h1, h2, h3⟩
            exact ⟨s, List.mem_cons_of_mem _ h1, h2, h3⟩
/-- What begins or has ended, among codes of n bytes. -/
def bord (sane : α → Bool) (l : List α) (n : Int) (b : List Int) : List Int := l.foldl (fun b q => if T.n q = n ∧ sane q = true then insU (insU b (T.lo q)) (T.hi q + 1) else b) b
theorem bord_ok (sane : α → Bool) (n : Int) : ∀ (l : List α) (b : List Int), SA b → SA (T.bord sane l n b) ∧ (∀ z, z ∈ T.bord sane l n b ↔ z ∈ b ∨ ∃ q ∈ l, sane q = true ∧ T.n q = n ∧ (z = T.lo q ∨ z = T.hi q + 1)) ∧ (T.bord sane l n b).length ≤ b.length + 2 * l.length
  | [], b, hb => ⟨hb, fun z => ⟨fun h => .inl h, fun h => h.elim id fun ⟨q, hq, _⟩ => (by cases hq)⟩, Nat.le_refl _⟩
  | q :: l, b, hb => by
    show SA (T.bord sane l n (if T.n q = n ∧ sane q = true then _ else _)) ∧ (∀ z, z ∈ T.bord sane l n (if T.n q = n ∧ sane q = true then _ else _) ↔ _) ∧ (T.bord sane l n (if T.n q = n ∧ sane q = true then _ else _)).length ≤ _
    by_cases h : T.n q = n ∧ sane q = true
    · rw [if_pos h]
      obtain ⟨i1, i2, i3⟩ := bord_ok sane n l _ (insU_SA (T.hi q + 1) _ (insU_SA (T.lo q) b hb))
      refine ⟨i1, fun z => ?_, ?_⟩
      · rw [i2, insU_mem, insU_mem]
        constructor
        · rintro ((k | k | k) | ⟨p, hp, k⟩)
          · exact .inr ⟨q, List.mem_cons_self, h.2, h.1, .inr k⟩
          · exact .inr ⟨q, List.mem_cons_self, h.2, h.1, .inl k⟩
          · exact .inl k
          · exact .inr ⟨p, List.mem_cons_of_mem _ hp, k⟩
        · rintro (k | ⟨p, hp, k1, k2, k3⟩)
          · exact .inl (.inr (.inr k))
          · rcases List.mem_cons.1 hp with rfl | hp
            · rcases k3 with k3 | k3
              · exact .inl (.inr (.inl k3))
              · exact .inl (.inl k3)
            · exact .inr ⟨p, hp, k1, k2, k3⟩
      · have a := insU_len (T.lo q) b
        have c := insU_len (T.hi q + 1) (insU b (T.lo q))
        rw [List.length_cons]
        omega
    · rw [if_neg h]
      obtain ⟨i1, i2, i3⟩ := bord_ok sane n l b hb
      refine ⟨i1, fun z => ?_, by rw [List.length_cons]; omega⟩
      rw [i2]
      constructor
      · rintro (k | ⟨p, hp, k⟩)
        · exact .inl k
        · exact .inr ⟨p, List.mem_cons_of_mem _ hp, k⟩
      · rintro (k | ⟨p, hp, k1, k2, k3⟩)
        · exact .inl k
        · rcases List.mem_cons.1 hp with rfl | hp
          · exact absurd ⟨k2, k1⟩ h
          · exact .inr ⟨p, hp, k1, k2, k3⟩
/-- The segments of codes of n bytes. -/
theorem segs_all {u : List α} {n : Int} {b : List Int} (hb : SA b) (hmem : ∀ q ∈ u, T.n q = n → T.lo q ∈ b ∧ T.hi q + 1 ∈ b) :
    T.OD (T.segs (fun c => T.get u n c) n b) ∧ (∀ s ∈ T.segs (fun c => T.get u n c) n b, T.partOf u n s) ∧ ∀ c w, (∃ s ∈ T.segs (fun c => T.get u n c) n b, T.has s n c ∧ T.val s c = w) ↔ T.get u n c = some w := by
  cases b with
  | nil =>
    refine ⟨trivial, (fun s hs => by cases hs), fun c w => ⟨fun ⟨s, h, _⟩ => (by cases h), fun h => ?_⟩⟩
    obtain ⟨q, hq, ⟨q1, _⟩, _⟩ := T.get_mem h
    have := (hmem q hq q1).1
    cases this
  | cons x r =>
    obtain ⟨i1, i2, i3⟩ := T.segs_ok (u := u) (n := n) x r hb (fun q hq hn => ⟨.inl (hmem q hq hn).1, .inl (hmem q hq hn).2⟩)
    refine ⟨i1, fun s hs => (i2 s hs).1, fun c w => ?_⟩
    rcases Int.lt_or_le c x with hc | hc
    · constructor
      · rintro ⟨s, h1, h2, _⟩
        have := (i2 s h1).2
        have := h2.2.1
        omega
      · intro h
        obtain ⟨q, hq, ⟨q1, q2, q3⟩, _⟩ := T.get_mem h
        have k := (hmem q hq q1).1
        rcases List.mem_cons.1 k with k | k
        · omega
        · have := hb.1 _ k
          omega
    · exact i3 c hc w
/-- The segments of all codes. -/
def strm (u : List α) (bs : Int → List Int) : List α := T.segs (fun c => T.get u 1 c) 1 (bs 1) ++ (T.segs (fun c => T.get u 2 c) 2 (bs 2) ++ (T.segs (fun c => T.get u 3 c) 3 (bs 3) ++ T.segs (fun c => T.get u 4 c) 4 (bs 4)))
theorem strm_ok {u : List α} {bs : Int → List Int} (hn : ∀ q ∈ u, 1 ≤ T.n q ∧ T.n q ≤ 4) (hb : ∀ n, SA (bs n)) (hmem : ∀ n, ∀ q ∈ u, T.n q = n → T.lo q ∈ bs n ∧ T.hi q + 1 ∈ bs n) :
    T.OD (T.strm u bs) ∧ (∀ s ∈ T.strm u bs, ∃ n, T.partOf u n s) ∧ ∀ n c, T.get (T.strm u bs) n c = T.get u n c := by
  obtain ⟨a1, a2, a3⟩ := T.segs_all (hb 1) (hmem 1)
  obtain ⟨b1, b2, b3⟩ := T.segs_all (hb 2) (hmem 2)
  obtain ⟨c1, c2, c3⟩ := T.segs_all (hb 3) (hmem 3)
  obtain ⟨d1, d2, d3⟩ := T.segs_all (hb 4) (hmem 4)
  have na : ∀ n s, T.partOf u n s → T.n s = n := fun n s ⟨_, _, _, h, _⟩ => h
  have ho : T.OD (T.strm u bs) := by
    refine T.OD_append.2 ⟨a1, T.OD_append.2 ⟨b1, T.OD_append.2 ⟨c1, d1, fun x hx y hy => ?_⟩, fun x hx y hy => ?_⟩, fun x hx y hy => ?_⟩
    · exact .inl (by rw [na _ _ (c2 x hx), na _ _ (d2 y hy)]; decide)
    · rcases List.mem_append.1 hy with hy | hy
      · exact .inl (by rw [na _ _ (b2 x hx), na _ _ (c2 y hy)]; decide)
      · exact .inl (by rw [na _ _ (b2 x hx), na _ _ (d2 y hy)]; decide)
    · rcases List.mem_append.1 hy with hy | hy
      · exact .inl (by rw [na _ _ (a2 x hx), na _ _ (b2 y hy)]; decide)
      · rcases List.mem_append.1 hy with hy | hy
        · exact .inl (by rw [na _ _ (a2 x hx), na _ _ (c2 y hy)]; decide)
        · exact .inl (by rw [na _ _ (a2 x hx), na _ _ (d2 y hy)]; decide)
  have hm : ∀ s, s ∈ T.strm u bs ↔ (s ∈ T.segs (fun c => T.get u 1 c) 1 (bs 1) ∨ s ∈ T.segs (fun c => T.get u 2 c) 2 (bs 2) ∨ s ∈ T.segs (fun c => T.get u 3 c) 3 (bs 3) ∨ s ∈ T.segs (fun c => T.get u 4 c) 4 (bs 4)) := fun s => by
    unfold strm
    rw [List.mem_append, List.mem_append, List.mem_append]
  refine ⟨ho, fun s hs => ?_, fun n c => ?_⟩
  · rcases (hm s).1 hs with h | h | h | h
    · exact ⟨1, a2 s h⟩
    · exact ⟨2, b2 s h⟩
    · exact ⟨3, c2 s h⟩
    · exact ⟨4, d2 s h⟩
  · refine Option.ext fun w => ?_
    show T.get _ n c = some w ↔ T.get u n c = some w
    rw [T.get_iff ho]
    constructor
    · rintro ⟨s, hs, hh, hv⟩
      have hns := hh.1
      rcases (hm s).1 hs with h | h | h | h
      · obtain rfl : n = 1 := hns.symm.trans (na _ _ (a2 s h))
        exact (a3 c w).1 ⟨s, h, hh, hv⟩
      · obtain rfl : n = 2 := hns.symm.trans (na _ _ (b2 s h))
        exact (b3 c w).1 ⟨s, h, hh, hv⟩
      · obtain rfl : n = 3 := hns.symm.trans (na _ _ (c2 s h))
        exact (c3 c w).1 ⟨s, h, hh, hv⟩
      · obtain rfl : n = 4 := hns.symm.trans (na _ _ (d2 s h))
        exact (d3 c w).1 ⟨s, h, hh, hv⟩
    · intro h
      obtain ⟨q, hq, ⟨q1, _⟩, _⟩ := T.get_mem h
      have hr := hn q hq
      have hc : n = 1 ∨ n = 2 ∨ n = 3 ∨ n = 4 := by omega
      rcases hc with rfl | rfl | rfl | rfl
      · obtain ⟨s, h1, h2⟩ := (a3 c w).2 h
        exact ⟨s, (hm s).2 (.inl h1), h2⟩
      · obtain ⟨s, h1, h2⟩ := (b3 c w).2 h
        exact ⟨s, (hm s).2 (.inr (.inl h1)), h2⟩
      · obtain ⟨s, h1, h2⟩ := (c3 c w).2 h
        exact ⟨s, (hm s).2 (.inr (.inr (.inl h1))), h2⟩
      · obtain ⟨s, h1, h2⟩ := (d3 c w).2 h
        exact ⟨s, (hm s).2 (.inr (.inr (.inr h1))), h2⟩
end
end Tb
end Go.Proofs.Ytehknkgplldiiaa.Tab
namespace Go.Proofs.YtehknkgplldiiaaQ
open Go.RowKit Go.Proofs.YtehknkgplldiiaaW.PrintWords Go.Proofs.YtehknkgplldiiaaW.PrintLast Go.Proofs.YtehknkgplldiiaaW.PrintMore Go.Proofs.Ytehknkgplldiiaa.PIs Go.Proofs.Ytehknkgplldiiaa.Tab
theorem ref_full (n : Int) (h1 : 1 ≤ n) (h4 : n ≤ 4) : Ev (fun k => hornbookref01_Full.f k n) (256 ^ n.toNat) := by
  refine ⟨8, fun k hk => ?_⟩
  obtain ⟨k, rfl⟩ : ∃ m, k = m + 8 := ⟨k - 8, by omega⟩
  unfold hornbookref01_Full.f
  have w : ∀ z ∈ ([1, 2, 3, 4, 256, 65536, 16777216, 4294967296] : List Int), wrap64 z = z := by
    intro z hz
    simp at hz
    rcases hz with rfl | rfl | rfl | rfl | rfl | rfl | rfl | rfl <;> exact w64 (by omega) (by omega)
  have w1 := w 1 (by simp)
  have w2 := w 2 (by simp)
  have w3 := w 3 (by simp)
  have w4 := w 4 (by simp)
  have w5 := w 256 (by simp)
  have w6 := w 65536 (by simp)
  have w7 := w 16777216 (by simp)
  have w8 := w 4294967296 (by simp)
  have : n = 1 ∨ n = 2 ∨ n = 3 ∨ n = 4 := by omega
  rcases this with rfl | rfl | rfl | rfl <;> simp [hornbookref01_Full.l0, w1, w2, w3, w4, w5, w6, w7, w8]
theorem ref_Sane1_is (n v : Int) : Ev (fun k => hornbookref01_Sane.f k n v) (saneB n v) := by
  unfold hornbookref01_Sane.f saneB
  by_cases h1 : n ≥ 1
  · simp only [if_pos h1]
    by_cases h2 : n ≤ 4
    · simp only [if_pos h2]
      by_cases h3 : v ≥ 0
      · simp only [if_pos h3]
        refine Ev.bind (ref_full n h1 h2) ?_
        rw [show decide (1 ≤ n ∧ n ≤ 4 ∧ 0 ≤ v ∧ v < 256 ^ n.toNat) = decide (v < 256 ^ n.toNat) by
          rw [decide_eq_decide]
          exact ⟨fun h => h.2.2.2, fun h => ⟨h1, h2, h3, h⟩⟩]
        exact Ev.now _
      · simp only [if_neg h3]
        rw [decide_eq_false (fun h => h3 h.2.2.1)]
        exact Ev.now _
    · simp only [if_neg h2]
      rw [decide_eq_false (fun h => h2 h.2.1)]
      exact Ev.now _
  · simp only [if_neg h1]
    rw [decide_eq_false (fun h => h1 h.1)]
    exact Ev.now _
theorem more_is (d : Int) (step : Bool) : hornbookref07_more.f d step = some (riseI d step) := by
  unfold hornbookref07_more.f riseI
  split <;> rfl
theorem rise_is (d : Int) (step : Bool) : span_rise.f d step = some (riseI d step) := by
  unfold span_rise.f riseI
  split <;> rfl
theorem saneS_unfold (x : S23) (step : Bool) : saneS x step = if saneB x.f0 x.f1 = true then (if saneB x.f0 x.f2 = true then (if x.f1 ≤ x.f2 then (if x.f3 ≥ 0 then decide (x.f3 ≤ wrap64 (65535 - riseI (wrap64 (x.f2 - x.f1)) step)) else false) else false) else false) else false := by
  unfold saneS span_Sane.f
  rw [hex_Sane_is, hex_Sane_is, rise_is]
  simp only [Option.bind_some]
  repeat' split
  all_goals rfl
theorem ref_Sane_is (x : S23) (step : Bool) : Ev (fun k => hornbookref07_Sane.f k x.f0 x.f1 x.f2 x.f3 step) (saneS x step) := by
  rw [saneS_unfold]
  unfold hornbookref07_Sane.f
  refine Ev.bind (ref_Sane1_is x.f0 x.f1) ?_
  by_cases h1 : saneB x.f0 x.f1 = true
  · simp only [if_pos h1]
    refine Ev.bind (ref_Sane1_is x.f0 x.f2) ?_
    by_cases h2 : saneB x.f0 x.f2 = true
    · simp only [if_pos h2]
      by_cases h3 : x.f1 ≤ x.f2
      · simp only [if_pos h3, if_neg (show ¬ (x.f1 > x.f2) by omega)]
        by_cases h4 : x.f3 ≥ 0
        · simp only [if_pos h4, more_is, Option.bind_some]
          exact Ev.now _
        · simp only [if_neg h4]
          exact Ev.now _
      · simp only [if_neg h3, if_pos (show x.f1 > x.f2 by omega)]
        exact Ev.now _
    · simp only [if_neg h2]
      exact Ev.now _
  · simp only [if_neg h1]
    exact Ev.now _
theorem toS_unfold (x : S23) (n v : Int) (step : Bool) : toS x n v step = if saneS x step = true then (if saneB n v = true then (if n = x.f0 then (if v < x.f1 then (0, false) else if v > x.f2 then (0, false) else (wrap64 (x.f3 + riseI (wrap64 (v - x.f1)) step), true)) else (0, false)) else (0, false)) else (0, false) := by
  unfold toS span_To.f
  rw [saneS_is, hex_Sane_is, rise_is]
  simp only [Option.bind_some]
  repeat' split
  all_goals rfl
theorem ref_To_is (x : S23) (n v : Int) (step : Bool) : Ev (fun k => hornbookref07_To.f k x.f0 x.f1 x.f2 x.f3 n v step) (toS x n v step) := by
  rw [toS_unfold]
  unfold hornbookref07_To.f
  refine Ev.bind (ref_Sane_is x step) ?_
  by_cases h1 : saneS x step = true
  · simp only [if_pos h1]
    refine Ev.bind (ref_Sane1_is n v) ?_
    by_cases h2 : saneB n v = true
    · simp only [if_pos h2]
      by_cases h3 : n = x.f0
      · simp only [if_pos h3]
        by_cases h4 : v < x.f1
        · simp only [if_pos h4]
          exact Ev.now _
        · simp only [if_neg h4]
          by_cases h5 : v > x.f2
          · simp only [if_pos h5]
            exact Ev.now _
          · simp only [if_neg h5, more_is, Option.bind_some]
            exact Ev.now _
      · simp only [if_neg h3]
        exact Ev.now _
    · simp only [if_neg h2]
      exact Ev.now _
  · simp only [if_neg h1]
    exact Ev.now _
theorem ref_last_l0 (l : List S23) (hl : l.length ≤ 1000000) (n v : Int) (step : Bool) : ∀ i : Nat, i ≤ l.length → Ev (fun k => hornbookref07_Last.l0 k l step ((i : Int) - 1) n v) (lastTo l n v step i)
  | 0, _ => by
    refine Ev.step (fun k => rfl) ?_
    simp only [hornbookref07_Last.l0]
    simp only [if_neg (show ¬ (((0 : Nat) : Int) - 1 ≥ 0) by omega)]
    exact Ev.now _
  | i + 1, hi => by
    have hil : i < l.length := by omega
    have ih := ref_last_l0 l hl n v step i (by omega)
    refine Ev.step (fun k => rfl) ?_
    simp only [hornbookref07_Last.l0]
    rw [show ((i + 1 : Nat) : Int) - 1 = (i : Int) by omega]
    simp only [rd_get hil, if_pos (show (i : Int) ≥ 0 by omega), if_pos (show (i : Int) < (l.length : Int) by omega)]
    refine Ev.bind (ref_To_is l[i] n v step) ?_
    unfold lastTo
    rw [el_get hil]
    by_cases h : (toS l[i] n v step).2 = true
    · simp only [if_pos h]
      exact Ev.now _
    · simp only [if_neg h]
      rw [w64 (n := (i : Int) - 1) (by omega) (by omega)]
      exact ih
theorem ref_Last_is (l : List S23) (hl : l.length ≤ 1000000) (n v : Int) (step : Bool) : Ev (fun k => hornbookref07_Last.f k l n v step) (tell ((TS step).get (lastL step l) n v)) := by
  unfold hornbookref07_Last.f
  rw [w64 (n := (l.length : Int) - 1) (by omega) (by omega)]
  have := ref_last_l0 l hl n v step l.length (Nat.le_refl _)
  rwa [lastTo_is l n v step l.length (Nat.le_refl _), List.take_length] at this
theorem saneR_same (x : S23) (step : Bool) : saneR x step = saneS x step := by
  obtain ⟨K, hK⟩ := ref_Sane_is x step
  have hM : ∀ d, hornbookref07_Sane.f (100 + d) x.f0 x.f1 x.f2 x.f3 step = some (saneR x step) := fun d => by
    induction d with
    | zero => exact saneR_is x step
    | succ d ih => exact hornbookref07_Sane.mono _ _ _ _ _ (100 + d) _ ih
  have h1 := hM K
  have h2 := hK (100 + K) (Nat.le_add_left _ _)
  exact Option.some.inj (h1.symm.trans h2)
theorem joinsR_same (x y : S23) (step : Bool) : joinsR x y step = joinsS x y step := by
  unfold joinsR joinsS hornbookref07_joins.f span_joins.f
  rw [more_is, rise_is]
  simp only [Option.bind_some]
  by_cases h1 : x.f0 = y.f0
  · rw [if_pos h1, if_pos h1]
    by_cases h2 : y.f1 = wrap64 (x.f2 + 1)
    · rw [if_pos h2, if_pos h2.symm]
      show (y.f3 == _) = (_ == y.f3)
      rw [Bool.eq_iff_iff, beq_iff_eq, beq_iff_eq]
      exact eq_comm
    · rw [if_neg h2, if_neg (fun h => h2 h.symm)]
  · rw [if_neg h1, if_neg h1]
/-- The reference's canon is the program's. -/
theorem chkR_iff (step : Bool) : ∀ (t : List S23), (∀ j, j < t.length → okAtR t step j = true) ↔ ((∀ x ∈ t, Good step x) ∧ (TS step).OD t ∧ (TS step).NJ t)
  | [] => ⟨fun _ => ⟨fun x hx => (by cases hx), trivial, trivial⟩, fun _ j hj => by cases hj⟩
  | [x] => by
    constructor
    · intro h
      have h0 : saneR x step = true := h 0 (Nat.zero_lt_one)
      rw [saneR_same] at h0
      have gx : Good step x := h0
      exact ⟨fun y hy => (by obtain rfl := List.mem_singleton.1 hy; exact h0), ⟨gx.num.2.1.2.1, (fun y hy => by cases hy), trivial⟩, trivial⟩
    · rintro ⟨h, _, _⟩ j hj
      obtain rfl : j = 0 := by simpa using hj
      have := h x List.mem_cons_self
      show saneR x step = true
      rw [saneR_same]
      exact this
  | x :: y :: t => by
    have ih := chkR_iff step (y :: t)
    have sh : ∀ j, 1 ≤ j → okAtR (x :: y :: t) step (j + 1) = okAtR (y :: t) step j := fun j hj => by
      obtain ⟨m, rfl⟩ : ∃ m, j = m + 1 := ⟨j - 1, by omega⟩
      rfl
    have s0 : ∀ (z : S23) (u : List S23), okAtR (z :: u) step 0 = saneS z step := fun z u => saneR_same z step
    have s1 : okAtR (x :: y :: t) step 1 = (saneS y step && !badR x y step) := by
      rw [← saneR_same]
      rfl
    have bad_iff : Good step x → Good step y → ((!badR x y step) = true ↔ ((TS step).bef x y ∧ ¬ (TS step).jn x y)) := fun gx gy => by
      have n1 := gx.num
      have n2 := gy.num
      unfold badR
      rw [joinsR_same, Bool.not_eq_true', Bool.or_eq_false_iff, Bool.or_eq_false_iff, decide_eq_false_iff_not, Bool.and_eq_false_iff, beq_eq_false_iff_ne, decide_eq_false_iff_not, Bool.eq_false_iff]
      have hj := joins_iff gx gy
      show (¬ (y.f0 < x.f0) ∧ ((y.f0 ≠ x.f0 ∨ ¬ y.f1 ≤ x.f2) ∧ ¬ joinsS x y step = true)) ↔ _
      rw [hj]
      show (¬ (y.f0 < x.f0) ∧ ((y.f0 ≠ x.f0 ∨ ¬ y.f1 ≤ x.f2) ∧ ¬ (TS step).jn x y)) ↔ ((x.f0 < y.f0 ∨ (x.f0 = y.f0 ∧ x.f2 < y.f1)) ∧ ¬ (TS step).jn x y)
      constructor
      · rintro ⟨a, b, c⟩
        exact ⟨by omega, c⟩
      · rintro ⟨a, c⟩
        exact ⟨by omega, by omega, c⟩
    constructor
    · intro h
      have g0 : Good step x := by
        have := h 0 (by simp)
        rwa [s0] at this
      have h1 := h 1 (by simp)
      rw [s1, Bool.and_eq_true] at h1
      have gy : Good step y := h1.1
      obtain ⟨i1, i2, i3⟩ := ih.1 (fun j hj => by
        cases j with
        | zero =>
          rw [s0]
          exact gy
        | succ m =>
          rw [← sh (m + 1) (by omega)]
          exact h (m + 1 + 1) (by simp at hj ⊢; omega))
      obtain ⟨b1, b2⟩ := (bad_iff g0 gy).1 h1.2
      refine ⟨fun z hz => ?_, ⟨g0.num.2.1.2.1, fun z hz => ?_, i2⟩, b2, i3⟩
      · rcases List.mem_cons.1 hz with rfl | hz
        · exact g0
        · exact i1 z hz
      · rcases List.mem_cons.1 hz with rfl | hz
        · exact b1
        · have hl := i2.1
          rcases i2.2.1 z hz with k | ⟨k, k'⟩ <;> rcases b1 with b | ⟨b, b'⟩
          · exact .inl (by omega)
          · exact .inl (by omega)
          · exact .inl (by omega)
          · exact .inr ⟨by omega, by omega⟩
    · rintro ⟨h1, ⟨h2, h3, h4⟩, h5, h6⟩ j hj
      have gx := h1 x List.mem_cons_self
      have gy := h1 y (List.mem_cons_of_mem _ List.mem_cons_self)
      match j, hj with
      | 0, _ =>
        rw [s0]
        exact gx
      | 1, _ =>
        rw [s1, Bool.and_eq_true]
        exact ⟨gy, (bad_iff gx gy).2 ⟨h3 y List.mem_cons_self, h5⟩⟩
      | m + 2, hj =>
        rw [sh (m + 1) (by omega)]
        exact ih.2 ⟨fun z hz => h1 z (List.mem_cons_of_mem _ hz), h4, h6⟩ (m + 1) (by simp at hj ⊢; omega)
theorem canonR_same (step : Bool) (t : List S23) : canonR t step = canonS t step := by
  rw [Bool.eq_iff_iff, canon_iff, ← chkR_iff]
  unfold canonR
  rw [List.all_eq_true]
  exact ⟨fun h j hj => h j (List.mem_range.2 hj), fun h j hj => h j (List.mem_range.1 hj)⟩
theorem ref_Canon_is {l : List S23} (hl : l.length ≤ 10000) (step : Bool) : Ev (fun _ => hornbookref07_Canon.f l step) (canonS l step) := by
  unfold hornbookref07_Canon.f
  rw [if_pos (by omega), canonR_same]
  exact Ev.now _
theorem ref_Find_is {l : List S23} (hl : l.length ≤ 10000) (n v : Int) (step : Bool) : Ev (fun k => hornbookref07_Find.f k l n v step) (findV l n v step) := by
  unfold hornbookref07_Find.f
  refine Ev.bind (ref_Canon_is hl step) ?_
  by_cases hc : canonS l step = true
  · simp only [if_pos hc]
    obtain ⟨h1, h2, h3⟩ := (canon_iff step l).1 hc
    rw [find_canon hc, ← get_lastL h2 h1]
    exact Ev.bind (ref_Last_is l (by omega) n v step) (Ev.now _)
  · simp only [if_neg hc]
    rw [find_not hc]
    exact Ev.now _
/-! ### The reference's table -/
theorem rdi {b : List Int} {i : Nat} (h : i < b.length) : rd b (i : Int) = b[i] := rd_nat h
theorem put_l0 (l : List Int) (hl : l.length ≤ 100000) (v : Int) : ∀ m i : Nat, i + m = l.length → ∀ out : List Int, out.length ≤ 2 * i →
    Ev (fun k => hornbookref07_put.l0 k l v out false (i : Int)) (out ++ insU (l.drop i) v) ∧ ∀ out : List Int, out.length ≤ 2 * i + 1 → Ev (fun k => hornbookref07_put.l0 k l v out true (i : Int)) (out ++ l.drop i)
  | 0, i, hi, out, ho => by
    have hd : l.drop i = [] := List.drop_eq_nil_of_le (by omega)
    constructor
    · refine Ev.step (fun k => rfl) ?_
      simp only [hornbookref07_put.l0]
      simp only [if_neg (show ¬ ((i : Int) < (l.length : Int)) by omega), if_neg (show ¬ (false = true) by decide), if_pos (show out.length < 17592186044416 by omega)]
      rw [hd]
      exact Ev.now _
    · intro out ho
      refine Ev.step (fun k => rfl) ?_
      simp only [hornbookref07_put.l0]
      simp only [if_neg (show ¬ ((i : Int) < (l.length : Int)) by omega), if_true]
      rw [hd, List.append_nil]
      exact Ev.now _
  | m + 1, i, hi, out, ho => by
    have hil : i < l.length := by omega
    have hd : l.drop i = l[i] :: l.drop (i + 1) := List.drop_eq_getElem_cons hil
    constructor
    · obtain ⟨ih1, _⟩ := put_l0 l hl v m (i + 1) (by omega) (out ++ [l[i]]) (by rw [List.length_append, List.length_singleton]; omega)
      obtain ⟨_, ih2⟩ := put_l0 l hl v m (i + 1) (by omega) [] (Nat.zero_le _)
      refine Ev.step (fun k => rfl) ?_
      simp only [hornbookref07_put.l0]
      simp only [rdi hil, if_pos (show (i : Int) < (l.length : Int) by omega), if_pos (show (0 : Int) ≤ (i : Int) by omega), if_neg (show ¬ (false = true) by decide), if_pos (show out.length < 17592186044416 by omega), w64n (show i < 9223372036854775807 by omega)]
      rw [hd]
      unfold insU
      by_cases h1 : l[i] = v
      · simp only [if_pos h1]
        have := ih2 (out ++ [l[i]]) (by rw [List.length_append, List.length_singleton]; omega)
        rw [List.append_assoc] at this
        exact this
      · simp only [if_neg h1]
        by_cases h2 : l[i] > v
        · simp only [if_pos h2, Option.bind_some]
          simp only [if_pos (show (out ++ [v]).length < 17592186044416 by rw [List.length_append, List.length_singleton]; omega)]
          have := ih2 (out ++ [v] ++ [l[i]]) (by rw [List.length_append, List.length_append, List.length_singleton, List.length_singleton]; omega)
          rw [List.append_assoc, List.append_assoc] at this
          rw [List.append_assoc]
          exact this
        · simp only [if_neg h2]
          rw [List.append_assoc] at ih1
          exact ih1
    · intro out ho
      obtain ⟨_, ih2⟩ := put_l0 l hl v m (i + 1) (by omega) [] (Nat.zero_le _)
      have := ih2 (out ++ [l[i]]) (by rw [List.length_append, List.length_singleton]; omega)
      rw [List.append_assoc] at this
      refine Ev.step (fun k => rfl) ?_
      simp only [hornbookref07_put.l0]
      simp only [rdi hil, if_pos (show (i : Int) < (l.length : Int) by omega), if_pos (show (0 : Int) ≤ (i : Int) by omega), if_true, if_pos (show out.length < 17592186044416 by omega), w64n (show i < 9223372036854775807 by omega), ite_self]
      rw [hd]
      exact this
theorem put_is (l : List Int) (hl : l.length ≤ 100000) (v : Int) : Ev (fun k => hornbookref07_put.f k l v) (insU l v) := (put_l0 l hl v l.length 0 (by omega) [] (Nat.zero_le _)).1
def bsR (step : Bool) (l : List S23) (n : Int) : List Int := (TS step).bord (fun x => saneS x step) l n []
theorem bord_snoc (step : Bool) (l : List S23) (q : S23) (n : Int) : bsR step (l ++ [q]) n = if q.f0 = n ∧ saneS q step = true then insU (insU (bsR step l n) q.f1) (q.f2 + 1) else bsR step l n := by
  unfold bsR Tb.bord
  rw [List.foldl_append]
  rfl
theorem borders_l0 (step : Bool) (l : List S23) (hl : l.length ≤ 10000) (n : Int) : ∀ m i : Nat, i + m = l.length → Ev (fun k => hornbookref07_borders.l0 k l n step (bsR step (l.take i) n) (i : Int)) (bsR step l n)
  | 0, i, hi => by
    obtain rfl : i = l.length := by omega
    refine Ev.step (fun k => rfl) ?_
    simp only [hornbookref07_borders.l0]
    simp only [if_neg (show ¬ ((l.length : Int) < (l.length : Int)) by omega)]
    rw [List.take_length]
    exact Ev.now _
  | m + 1, i, hi => by
    have hil : i < l.length := by omega
    have ih := borders_l0 step l hl n m (i + 1) (by omega)
    rw [take_snoc hil, bord_snoc] at ih
    have hbl := (Tb.bord_ok (TS step) (fun x => saneS x step) n (l.take i) [] trivial).2.2
    rw [List.length_take] at hbl
    have hbl2 : (bsR step (l.take i) n).length ≤ 2 * l.length := by
      unfold bsR
      have : ([] : List Int).length = 0 := rfl
      omega
    have hno : ¬ (l[i].f0 = n ∧ saneS l[i] step = true) → Ev (fun k => hornbookref07_borders.j1 k l n step (bsR step (l.take i) n) (i : Int) false) (bsR step l n) := fun h => by
      rw [if_neg h] at ih
      refine Ev.step (fun k => rfl) ?_
      simp only [hornbookref07_borders.j1]
      simp only [if_neg (show ¬ (false = true) by decide), w64n (show i < 9223372036854775807 by omega)]
      exact ih
    refine Ev.step (fun k => rfl) ?_
    simp only [hornbookref07_borders.l0]
    simp only [rd_get hil, if_pos (show (i : Int) < (l.length : Int) by omega), if_pos (show (0 : Int) ≤ (i : Int) by omega)]
    by_cases h1 : l[i].f0 = n
    · simp only [if_pos h1]
      refine Ev.bind (ref_Sane_is l[i] step) ?_
      by_cases h2 : saneS l[i] step = true
      · have gx : Good step l[i] := h2
        have gn := gx.num
        rw [if_pos ⟨h1, h2⟩] at ih
        rw [h2]
        refine Ev.step (fun k => rfl) ?_
        simp only [hornbookref07_borders.j1]
        simp only [if_true, rd_get hil, if_pos (show (i : Int) < (l.length : Int) by omega), if_pos (show (0 : Int) ≤ (i : Int) by omega), w64n (show i < 9223372036854775807 by omega)]
        refine Ev.bind (put_is _ (by omega) _) ?_
        rw [w64 (n := l[i].f2 + 1) (by omega) (by omega)]
        refine Ev.bind (put_is _ (by have := insU_len l[i].f1 (bsR step (l.take i) n); omega) _) ?_
        exact ih
      · rw [Bool.eq_false_iff.2 h2]
        exact hno (fun h => h2 h.2)
    · simp only [if_neg h1]
      exact hno (fun h => h1 h.1)
theorem borders_is (step : Bool) (l : List S23) (hl : l.length ≤ 10000) (n : Int) : Ev (fun k => hornbookref07_borders.f k l n step) (bsR step l n) := borders_l0 step l hl n l.length 0 (by omega)
abbrev gl (step : Bool) (l : List S23) (n : Int) : Int → Option Int := fun c => (TS step).get (lastL step l) n c
abbrev jR (step : Bool) (S : List S23) : List S23 := (TS step).joined (fun a b => joinsR a b step) S
theorem ref_l1 (step : Bool) (l : List S23) (hl : l.length ≤ 10000) (n : Int) (b : List Int) (hbb : ∀ z ∈ b, 0 ≤ z ∧ z ≤ 4294967296) (hbl : b.length ≤ 100000) : ∀ m i : Nat, i + m = b.length → ∀ (S R : List S23), S.length + m ≤ 1000000 →
    Ev (fun k => hornbookref07_Build.l0 k l step (jR step (S ++ (TS step).segs (gl step l n) n (b.drop i))) (wrap64 (n + 1))) R → Ev (fun k => hornbookref07_Build.l1 k l step (jR step S) n b (i : Int)) R
  | 0, i, hi, S, R, hS, h => by
    rw [List.drop_eq_nil_of_le (by omega)] at h
    unfold Tb.segs at h
    rw [List.append_nil] at h
    refine Ev.step (fun k => rfl) ?_
    simp only [hornbookref07_Build.l1]
    simp only [w64n (show i < 9223372036854775807 by omega), if_neg (show ¬ (((i + 1 : Nat) : Int) < (b.length : Int)) by omega)]
    exact h
  | 1, i, hi, S, R, hS, h => by
    rw [List.drop_eq_getElem_cons (by omega), List.drop_eq_nil_of_le (by omega)] at h
    unfold Tb.segs at h
    rw [List.append_nil] at h
    refine Ev.step (fun k => rfl) ?_
    simp only [hornbookref07_Build.l1]
    simp only [w64n (show i < 9223372036854775807 by omega), if_neg (show ¬ (((i + 1 : Nat) : Int) < (b.length : Int)) by omega)]
    exact h
  | m + 2, i, hi, S, R, hS, h => by
    have hil : i < b.length := by omega
    have hil1 : i + 1 < b.length := by omega
    have hd : b.drop i = b[i] :: b[i + 1] :: b.drop (i + 2) := by rw [List.drop_eq_getElem_cons hil, List.drop_eq_getElem_cons hil1]
    have hd1 : b.drop (i + 1) = b[i + 1] :: b.drop (i + 2) := List.drop_eq_getElem_cons hil1
    have hz := hbb b[i + 1] (List.getElem_mem _)
    have hseg : (TS step).segs (gl step l n) n (b.drop i) = (TS step).seg1 (gl step l n b[i]) n b[i] b[i + 1] ++ (TS step).segs (gl step l n) n (b.drop (i + 1)) := by rw [hd, hd1, Tb.segs_two]
    rw [hseg] at h
    refine Ev.step (fun k => rfl) ?_
    simp only [hornbookref07_Build.l1]
    simp only [w64n (show i < 9223372036854775807 by omega), if_pos (show ((i + 1 : Nat) : Int) < (b.length : Int) by omega), if_pos (show (0 : Int) ≤ (i : Int) by omega), if_pos (show (i : Int) < (b.length : Int) by omega), if_pos (show (0 : Int) ≤ ((i + 1 : Nat) : Int) by omega), rdi hil, rdi hil1]
    rw [w64 (n := b[i + 1] - 1) (by omega) (by omega)]
    refine Ev.bind (ref_Last_is l (by omega) n b[i] step) ?_
    have hgl : gl step l n b[i] = (TS step).get (lastL step l) n b[i] := rfl
    cases e : (TS step).get (lastL step l) n b[i] with
    | none =>
      rw [hgl, e, show (TS step).seg1 none n b[i] b[i + 1] = [] from rfl, List.nil_append] at h
      simp only [tell, if_neg (show ¬ (false = true) by decide)]
      exact ref_l1 step l hl n b hbb hbl (m + 1) (i + 1) (by omega) S R (by omega) h
    | some v =>
      rw [hgl, e, show (TS step).seg1 (some v) n b[i] b[i + 1] = [(TS step).make n b[i] (b[i + 1] - 1) v] from rfl] at h
      have h2 : Ev (fun k => hornbookref07_Build.l0 k l step (jR step ((S ++ [(TS step).make n b[i] (b[i + 1] - 1) v]) ++ (TS step).segs (gl step l n) n (b.drop (i + 1)))) (wrap64 (n + 1))) R := by
        rw [List.append_assoc]
        exact h
      have ih := ref_l1 step l hl n b hbb hbl (m + 1) (i + 1) (by omega) (S ++ [(TS step).make n b[i] (b[i + 1] - 1) v]) R (by rw [List.length_append, List.length_singleton]; omega) h2
      have hjl := Tb.joined_len (TS step) (fun a b => joinsR a b step) S
      simp only [tell, if_true]
      rcases Tb.joined_snoc (TS step) (fun a b => joinsR a b step) ((TS step).make n b[i] (b[i + 1] - 1) v) S with ⟨e1, e2⟩ | ⟨init, q, e1, e2⟩
      · have e1' : jR step S = [] := e1
        have e2' : jR step (S ++ [(TS step).make n b[i] (b[i + 1] - 1) v]) = [(TS step).make n b[i] (b[i + 1] - 1) v] := e2
        rw [e2'] at ih
        rw [e1']
        have w0 : wrap64 (((0 : Nat) : Int) - 1) = -1 := w64 (by decide) (by decide)
        simp only [List.length_nil, w0, if_neg (show ¬ ((-1 : Int) ≥ 0) by decide), if_pos (show (0 : Nat) < 4398046511104 by decide)]
        exact ih
      · have e1' : jR step S = init ++ [q] := e1
        have e2' : jR step (S ++ [(TS step).make n b[i] (b[i + 1] - 1) v]) = if joinsR q ((TS step).make n b[i] (b[i + 1] - 1) v) step = true then init ++ [(TS step).ext1 q ((TS step).make n b[i] (b[i + 1] - 1) v)] else init ++ [q] ++ [(TS step).make n b[i] (b[i + 1] - 1) v] := e2
        rw [e2'] at ih
        have hil2 : init.length + 1 ≤ 1000000 := by
          have : (init ++ [q]).length ≤ S.length := by rw [← e1']; exact hjl
          rw [List.length_append, List.length_singleton] at this
          omega
        rw [e1']
        have hlen : ((init ++ [q]).length : Int) = (init.length : Int) + 1 := by simp
        have hw : wrap64 ((init.length : Int) + 1 - 1) = (init.length : Int) := by rw [w64 (by omega) (by omega)]; omega
        have hrd : rd_T23 (init ++ [q]) (init.length : Int) = q := by
          rw [rd_get (by simp)]
          simp
        simp only [hlen, hw, hrd, if_pos (show (init.length : Int) ≥ 0 by omega), if_pos (show (init.length : Int) < (init.length : Int) + 1 by omega), if_pos (show (init.length : Int) ≤ (init.length : Int) + 1 by omega)]
        refine Ev.bind (a := joinsR q ((TS step).make n b[i] (b[i + 1] - 1) v) step) (Ev.congr (fun k => joinsR_is q ((TS step).make n b[i] (b[i + 1] - 1) v) step) (Ev.now _)) ?_
        by_cases hj : joinsR q ((TS step).make n b[i] (b[i + 1] - 1) v) step = true
        · rw [if_pos hj] at ih
          have htk : (init ++ [q]).take init.length = init := by simp
          simp only [if_pos hj, Option.bind_some, Int.toNat_natCast, htk, List.nil_append, List.length_nil]
          simp only [if_pos (show 0 + init.length < 4398046511104 by omega), if_pos (show init.length < 4398046511104 by omega)]
          exact ih
        · rw [if_neg hj] at ih
          simp only [if_neg hj]
          simp only [if_pos (show (init ++ [q]).length < 4398046511104 by rw [List.length_append, List.length_singleton]; omega)]
          exact ih
theorem ref_l0 (step : Bool) (l : List S23) (hl : l.length ≤ 10000) (n : Int) (h1 : 1 ≤ n) (h4 : n ≤ 4) (S R : List S23) (hS : S.length ≤ 100000) (h : Ev (fun k => hornbookref07_Build.l0 k l step (jR step (S ++ (TS step).segs (gl step l n) n (bsR step l n))) (n + 1)) R) : Ev (fun k => hornbookref07_Build.l0 k l step (jR step S) n) R := by
  obtain ⟨b1, b2, b3⟩ := Tb.bord_ok (TS step) (fun x => saneS x step) n l [] trivial
  have b3' : (bsR step l n).length ≤ 2 * l.length := by
    unfold bsR
    have : ([] : List Int).length = 0 := rfl
    omega
  refine Ev.step (fun k => rfl) ?_
  simp only [hornbookref07_Build.l0]
  simp only [if_pos h4]
  refine Ev.bind (borders_is step l hl n) ?_
  refine ref_l1 step l hl n (bsR step l n) (fun z hz => ?_) (by omega) (bsR step l n).length 0 (by omega) S R (by omega) ?_
  · rcases (b2 z).1 hz with k | ⟨q, hq, hs, _, k⟩
    · cases k
    · have gn := (show Good step q from hs).num
      rcases k with k | k
      · have k' : z = q.f1 := k
        omega
      · have k' : z = q.f2 + 1 := k
        omega
  · rw [w64 (n := n + 1) (by omega) (by omega)]
    exact h
theorem ref_Build_is (step : Bool) (l : List S23) (hl : l.length ≤ 1000) : Ev (fun k => hornbookref07_Build.f k l step) (buildS step l) := by
  have hmemb : ∀ n, SA (bsR step l n) := fun n => (Tb.bord_ok (TS step) (fun x => saneS x step) n l [] trivial).1
  have hlenb : ∀ n, (bsR step l n).length ≤ 2 * l.length := fun n => by
    have := (Tb.bord_ok (TS step) (fun x => saneS x step) n l [] trivial).2.2
    unfold bsR
    have h0 : ([] : List Int).length = 0 := rfl
    omega
  have hin : ∀ q, q ∈ lastL step l ↔ q ∈ l ∧ Good step q := fun q => by
    unfold lastL
    rw [List.mem_reverse, List.mem_filter]
  have hst := Tb.strm_ok (TS step) (u := lastL step l) (bs := bsR step l) (fun q hq => ((hin q).1 hq).2.num.1) hmemb (fun n q hq hn => by
    obtain ⟨q1, q2⟩ := (hin q).1 hq
    have hb := (Tb.bord_ok (TS step) (fun x => saneS x step) n l [] trivial).2.1
    exact ⟨(hb _).2 (.inr ⟨q, q1, q2, hn, .inl rfl⟩), (hb _).2 (.inr ⟨q, q1, q2, hn, .inr rfl⟩)⟩)
  obtain ⟨s1, s2, s3⟩ := hst
  have good : ∀ s ∈ (TS step).strm (lastL step l) (bsR step l), Good step s := fun s hs => by
    obtain ⟨n, q, hq, p1, p2, p3, p4, p5, p6⟩ := s2 s hs
    have gq := ((hin q).1 hq).2
    have gp := gq.part (a := s.f1) (b := s.f2) p3 p4 p5
    have e0 : q.f0 = s.f0 := p1.trans p2.symm
    have e1 : s.f3 = q.f3 + riseI (s.f1 - q.f1) step := p6
    rw [e0, ← e1] at gp
    exact gp
  obtain ⟨j1, j2, j3, j4, j5⟩ := Tb.joined_ok (TS step) (fun a b => joinsR a b step) (Good step) good_ext (fun p s hp hs => by rw [joinsR_same]; exact joins_iff hp hs) s1 good
  obtain ⟨b1, b2, _, _, b5⟩ := build_ok step l
  have he : jR step ((TS step).strm (lastL step l) (bsR step l)) = buildS step l := same_table j1 j2 b1 b2 (fun n c => by rw [j3, s3, b5])
  rw [← he]
  have sl : ∀ n, ((TS step).segs (gl step l n) n (bsR step l n)).length ≤ 2 * l.length := fun n => Nat.le_trans (Tb.segs_len _ _ _ _) (hlenb n)
  have l1 := sl 1
  have l2 := sl 2
  have l3 := sl 3
  unfold hornbookref07_Build.f
  refine ref_l0 step l (by omega) 1 (by decide) (by decide) [] _ (Nat.zero_le _) ?_
  refine ref_l0 step l (by omega) 2 (by decide) (by decide) _ _ (by rw [List.nil_append]; omega) ?_
  refine ref_l0 step l (by omega) 3 (by decide) (by decide) _ _ (by rw [List.nil_append, List.length_append]; omega) ?_
  refine ref_l0 step l (by omega) 4 (by decide) (by decide) _ _ (by rw [List.nil_append, List.length_append, List.length_append]; omega) ?_
  refine Ev.step (fun k => rfl) ?_
  simp only [hornbookref07_Build.l0]
  simp only [if_neg (show ¬ ((4 : Int) + 1 ≤ 4) by decide)]
  rw [List.nil_append, List.append_assoc, List.append_assoc]
  exact Ev.now _
theorem ref_Put_is (step : Bool) (l : List S23) (hl : l.length ≤ 999) (s0 s1 s2 s3 : Int) : Ev (fun k => hornbookref07_Put.f k l s0 s1 s2 s3 step) (buildS step (l ++ [⟨s0, s1, s2, s3⟩])) := by
  unfold hornbookref07_Put.f
  simp only [Option.bind_some, List.length_nil, List.nil_append]
  simp only [if_pos (show 0 + l.length < 4398046511104 by omega), if_pos (show l.length < 4398046511104 by omega)]
  exact Ev.bind (ref_Build_is step _ (by rw [List.length_append, List.length_singleton]; omega)) (Ev.now _)
end Go.Proofs.YtehknkgplldiiaaQ
