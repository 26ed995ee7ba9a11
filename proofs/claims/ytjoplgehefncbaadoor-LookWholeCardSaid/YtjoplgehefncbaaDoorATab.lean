import Derived.Test.YtjoplgehefncbaaDoorAbsSpec
set_option linter.all false
/-! Tables of codes, by entries (how many bytes, from, to, the first one's value): plain law, of any value that can be shifted. -/
namespace Go.Abs.Tab
structure Tb (α V : Type) where
  n : α → Int
  lo : α → Int
  hi : α → Int
  v : α → V
  make : Int → Int → Int → V → α
  sh : V → Int → V
  n_mk : ∀ a b c d, n (make a b c d) = a
  lo_mk : ∀ a b c d, lo (make a b c d) = b
  hi_mk : ∀ a b c d, hi (make a b c d) = c
  v_mk : ∀ a b c d, v (make a b c d) = d
  eta : ∀ x, make (n x) (lo x) (hi x) (v x) = x
  sh_zero : ∀ w, sh w 0 = w
  sh_add : ∀ w a b, 0 ≤ a → 0 ≤ b → sh (sh w a) b = sh w (a + b)
namespace Tb
section
variable {α V : Type} (T : Tb α V)
/-- Has an entry a code? -/
def has (x : α) (n c : Int) : Prop := T.n x = n ∧ T.lo x ≤ c ∧ c ≤ T.hi x
instance (x : α) (n c : Int) : Decidable (T.has x n c) := inferInstanceAs (Decidable (_ ∧ _ ∧ _))
/-- What a code goes to, by an entry. -/
def val (x : α) (c : Int) : V := T.sh (T.v x) (c - T.lo x)
/-- By the first one of some. -/
def get : List α → Int → Int → Option V
  | [], _, _ => none
  | x :: t, n, c => if T.has x n c then some (T.val x c) else get t n c
/-- One stands ahead of another. -/
def bef (x y : α) : Prop := T.n x < T.n y ∨ (T.n x = T.n y ∧ T.hi x < T.lo y)
/-- In order, none meets another. -/
def OD : List α → Prop
  | [] => True
  | x :: t => T.lo x ≤ T.hi x ∧ (∀ y ∈ t, T.bef x y) ∧ OD t
/-- Could two be one? -/
def jn (x y : α) : Prop := T.n x = T.n y ∧ T.lo y = T.hi x + 1 ∧ T.v y = T.sh (T.v x) (T.lo y - T.lo x)
/-- No two that stand side by side could be one. -/
def NJ : List α → Prop
  | x :: y :: t => ¬ T.jn x y ∧ NJ (y :: t)
  | _ => True
theorem get_none {t : List α} {n c : Int} (h : ∀ x ∈ t, ¬ T.has x n c) : T.get t n c = none := by
  induction t with
  | nil => rfl
  | cons x t ih =>
    unfold get
    rw [if_neg (h x List.mem_cons_self), ih (fun y hy => h y (List.mem_cons_of_mem _ hy))]
theorem get_mem {t : List α} {n c : Int} {w : V} (h : T.get t n c = some w) : ∃ x ∈ t, T.has x n c ∧ T.val x c = w := by
  induction t with
  | nil => cases h
  | cons x t ih =>
    unfold get at h
    by_cases hx : T.has x n c
    · rw [if_pos hx] at h
      exact ⟨x, List.mem_cons_self, hx, Option.some.inj h⟩
    · rw [if_neg hx] at h
      obtain ⟨y, hy, h1, h2⟩ := ih h
      exact ⟨y, List.mem_cons_of_mem _ hy, h1, h2⟩
theorem bef_has {x y : α} {n c : Int} (h : T.bef x y) (hx : T.has x n c) : ¬ T.has y n c := by
  intro hy
  obtain ⟨h1, h2, h3⟩ := hx
  obtain ⟨k1, k2, k3⟩ := hy
  rcases h with h | ⟨h, h'⟩ <;> omega
theorem get_of_mem {t : List α} (ho : T.OD t) {x : α} {n c : Int} (hx : x ∈ t) (h : T.has x n c) : T.get t n c = some (T.val x c) := by
  induction t with
  | nil => cases hx
  | cons y t ih =>
    unfold get
    rcases List.mem_cons.1 hx with rfl | hx
    · rw [if_pos h]
    · rw [if_neg (fun hy => T.bef_has (ho.2.1 x hx) hy h)]
      exact ih ho.2.2 hx
theorem get_iff {t : List α} (ho : T.OD t) {n c : Int} {w : V} : T.get t n c = some w ↔ ∃ x ∈ t, T.has x n c ∧ T.val x c = w :=
  ⟨T.get_mem, fun ⟨x, hx, h, e⟩ => e ▸ T.get_of_mem ho hx h⟩
theorem has_lo {x : α} (h : T.lo x ≤ T.hi x) : T.has x (T.n x) (T.lo x) := ⟨rfl, Int.le_refl _, h⟩
theorem val_lo (x : α) : T.val x (T.lo x) = T.v x := by
  unfold val
  rw [Int.sub_self, T.sh_zero]
theorem ext {x y : α} (h1 : T.n x = T.n y) (h2 : T.lo x = T.lo y) (h3 : T.hi x = T.hi y) (h4 : T.v x = T.v y) : x = y := by
  rw [← T.eta x, ← T.eta y, h1, h2, h3, h4]
/-- The first one's first code is the least. -/
theorem least {x : α} {t : List α} (ho : T.OD (x :: t)) {y : α} (hy : y ∈ x :: t) : T.n x < T.n y ∨ (T.n x = T.n y ∧ T.lo x ≤ T.lo y) := by
  rcases List.mem_cons.1 hy with rfl | hy
  · exact .inr ⟨rfl, Int.le_refl _⟩
  · have := ho.1
    rcases ho.2.1 y hy with h | ⟨h, h'⟩
    · exact .inl h
    · exact .inr ⟨h, by omega⟩
theorem OD_lo {t : List α} (ho : T.OD t) : ∀ x ∈ t, T.lo x ≤ T.hi x := by
  induction t with
  | nil => intro x h; cases h
  | cons y t ih =>
    intro x hx
    rcases List.mem_cons.1 hx with rfl | hx
    · exact ho.1
    · exact ih ho.2.2 x hx
theorem tail_none {x : α} {t : List α} (ho : T.OD (x :: t)) {n c : Int} (h : T.has x n c) : T.get t n c = none :=
  T.get_none fun y hy hh => T.bef_has (ho.2.1 y hy) h hh
/-- If the first one of a table ends ahead of the other table's first one, that begins alike, they do not tell the same. -/
theorem no_less {x y : α} {t u : List α} (ht : T.OD (x :: t)) (hj : T.NJ (x :: t)) (hu : T.OD (y :: u)) (hn : T.n x = T.n y) (hl : T.lo x = T.lo y) (hv : T.v x = T.v y) (h : ∀ n c, T.get (x :: t) n c = T.get (y :: u) n c) : ¬ T.hi x < T.hi y := by
  intro hlt
  have hxl := ht.1
  have hy : T.has y (T.n y) (T.hi x + 1) := ⟨rfl, by omega, by omega⟩
  have h1 := T.get_of_mem hu List.mem_cons_self hy
  rw [← h] at h1
  obtain ⟨z, hz, hhas, hval⟩ := T.get_mem h1
  obtain ⟨z1, z2, z3⟩ := hhas
  rcases List.mem_cons.1 hz with rfl | hz
  · omega
  · have hb := ht.2.1 z hz
    have hzl : T.lo z = T.hi x + 1 := by rcases hb with hb | ⟨_, hb⟩ <;> omega
    cases t with
    | nil => cases hz
    | cons p t =>
      have hpz : p = z := by
        rcases List.mem_cons.1 hz with e | hz'
        · exact e.symm
        · exfalso
          have h2 := ht.2.2.2.1 z hz'
          have h3 := ht.2.2.1
          have h4 := ht.2.1 p List.mem_cons_self
          rcases h4 with h4 | ⟨_, h4⟩ <;> rcases h2 with h2 | ⟨_, h2⟩ <;> omega
      subst hpz
      refine hj.1 ⟨by omega, hzl, ?_⟩
      rw [← hzl, T.val_lo] at hval
      rw [hval]
      unfold val
      rw [hv, hl]
theorem uniq : ∀ {t u : List α}, T.OD t → T.NJ t → T.OD u → T.NJ u → (∀ n c, T.get t n c = T.get u n c) → t = u
  | [], [], _, _, _, _, _ => rfl
  | [], y :: u, _, _, hu, _, h => by
    have := T.get_of_mem hu List.mem_cons_self (T.has_lo hu.1)
    rw [← h] at this
    cases this
  | x :: t, [], ht, _, _, _, h => by
    have := T.get_of_mem ht List.mem_cons_self (T.has_lo ht.1)
    rw [h] at this
    cases this
  | x :: t, y :: u, ht, hjt, hu, hju, h => by
    have h1 := T.get_of_mem ht List.mem_cons_self (T.has_lo ht.1)
    have h2 := T.get_of_mem hu List.mem_cons_self (T.has_lo hu.1)
    obtain ⟨p, hp, hph, hpv⟩ := T.get_mem ((h _ _).symm.trans h1)
    obtain ⟨q, hq, hqh, hqv⟩ := T.get_mem ((h _ _).trans h2)
    have l1 := T.least hu hp
    have l2 := T.least ht hq
    obtain ⟨a1, a2, a3⟩ := hph
    obtain ⟨b1, b2, b3⟩ := hqh
    have hn : T.n x = T.n y := by rcases l1 with l1 | ⟨l1, _⟩ <;> rcases l2 with l2 | ⟨l2, _⟩ <;> omega
    have hl : T.lo x = T.lo y := by rcases l1 with l1 | ⟨l1, _⟩ <;> rcases l2 with l2 | ⟨l2, _⟩ <;> omega
    have hv : T.v x = T.v y := by
      rw [← hn, ← hl, ← h, h1] at h2
      have := Option.some.inj h2
      rw [T.val_lo, hl, T.val_lo] at this
      exact this
    have hh : T.hi x = T.hi y := by
      have c1 := T.no_less ht hjt hu hn hl hv h
      have c2 := T.no_less hu hju ht hn.symm hl.symm hv.symm (fun n c => (h n c).symm)
      omega
    obtain rfl := T.ext hn hl hh hv
    have hjt' : T.NJ t := by
      cases t with
      | nil => trivial
      | cons _ _ => exact hjt.2
    have hju' : T.NJ u := by
      cases u with
      | nil => trivial
      | cons _ _ => exact hju.2
    rw [uniq ht.2.2 hjt' hu.2.2 hju' (fun n c => by
      by_cases hx : T.has x n c
      · rw [T.tail_none ht hx, T.tail_none hu hx]
      · have := h n c
        unfold get at this
        rw [if_neg hx, if_neg hx] at this
        exact this)]
theorem OD_append {a b : List α} : T.OD (a ++ b) ↔ T.OD a ∧ T.OD b ∧ ∀ x ∈ a, ∀ y ∈ b, T.bef x y := by
  induction a with
  | nil => exact ⟨fun h => ⟨trivial, h, fun x hx => by cases hx⟩, fun h => h.2.1⟩
  | cons x a ih =>
    constructor
    · rintro ⟨h1, h2, h3⟩
      obtain ⟨k1, k2, k3⟩ := ih.1 h3
      refine ⟨⟨h1, fun y hy => h2 y (List.mem_append_left _ hy), k1⟩, k2, fun z hz y hy => ?_⟩
      rcases List.mem_cons.1 hz with rfl | hz
      · exact h2 y (List.mem_append_right _ hy)
      · exact k3 z hz y hy
    · rintro ⟨⟨h1, h2, h3⟩, k2, k3⟩
      refine ⟨h1, fun y hy => ?_, ih.2 ⟨h3, k2, fun z hz => k3 z (List.mem_cons_of_mem _ hz)⟩⟩
      rcases List.mem_append.1 hy with hy | hy
      · exact h2 y hy
      · exact k3 x List.mem_cons_self y hy
/-- Pieces of what is in order are in order. -/
theorem OD_flatMap (f : α → List α) {t : List α} (ho : T.OD t) (hf : ∀ x ∈ t, T.OD (f x) ∧ ∀ p ∈ f x, T.n p = T.n x ∧ T.lo x ≤ T.lo p ∧ T.hi p ≤ T.hi x) : T.OD (t.flatMap f) := by
  induction t with
  | nil => trivial
  | cons x t ih =>
    rw [List.flatMap_cons]
    refine T.OD_append.2 ⟨(hf x List.mem_cons_self).1, ih ho.2.2 (fun y hy => hf y (List.mem_cons_of_mem _ hy)), fun p hp q hq => ?_⟩
    obtain ⟨y, hy, hqy⟩ := List.mem_flatMap.1 hq
    have h1 := (hf x List.mem_cons_self).2 p hp
    have h2 := (hf y (List.mem_cons_of_mem _ hy)).2 q hqy
    rcases ho.2.1 y hy with h | ⟨h, h'⟩
    · exact .inl (by omega)
    · exact .inr ⟨by omega, by omega⟩
/-- What another one leaves of one. -/
def left (s x : α) : List α :=
  if T.n x ≠ T.n s ∨ T.hi x < T.lo s ∨ T.lo x > T.hi s then [x]
  else (if T.lo x < T.lo s then [T.make (T.n x) (T.lo x) (T.lo s - 1) (T.sh (T.v x) 0)] else []) ++ (if T.hi x > T.hi s then [T.make (T.n x) (T.hi s + 1) (T.hi x) (T.sh (T.v x) (T.hi s + 1 - T.lo x))] else [])
theorem left_in (s x : α) (hs : T.lo s ≤ T.hi s) (hx : T.lo x ≤ T.hi x) : T.OD (T.left s x) ∧ ∀ p ∈ T.left s x, T.n p = T.n x ∧ T.lo x ≤ T.lo p ∧ T.hi p ≤ T.hi x := by
  unfold left
  by_cases h : T.n x ≠ T.n s ∨ T.hi x < T.lo s ∨ T.lo x > T.hi s
  · rw [if_pos h]
    exact ⟨⟨hx, (fun y hy => by cases hy), trivial⟩, fun p hp => by obtain rfl := List.mem_singleton.1 hp; exact ⟨rfl, Int.le_refl _, Int.le_refl _⟩⟩
  · rw [if_neg h]
    have h2 : T.n x = T.n s ∧ T.lo s ≤ T.hi x ∧ T.lo x ≤ T.hi s := by
      refine ⟨?_, ?_, ?_⟩
      · exact Decidable.byContradiction fun e => h (.inl e)
      · exact Int.not_lt.1 fun e => h (.inr (.inl e))
      · exact Int.not_lt.1 fun e => h (.inr (.inr e))
    by_cases h3 : T.lo x < T.lo s <;> by_cases h4 : T.hi x > T.hi s
    all_goals simp only [h3, h4, if_true, if_false, List.nil_append, List.append_nil, List.cons_append, List.mem_cons, List.not_mem_nil, or_false, OD, T.n_mk, T.lo_mk, T.hi_mk, bef, forall_eq, and_true, true_and, forall_eq_or_imp]
    all_goals first | omega | (refine ⟨?_, fun x h => h.elim⟩ <;> first | trivial | (intro x h; exact h.elim)) | simp
    all_goals first | omega | skip
theorem left_apart (s x p : α) (hp : p ∈ T.left s x) : T.n p ≠ T.n s ∨ T.hi p < T.lo s ∨ T.lo p > T.hi s := by
  unfold left at hp
  by_cases h : T.n x ≠ T.n s ∨ T.hi x < T.lo s ∨ T.lo x > T.hi s
  · rw [if_pos h] at hp
    obtain rfl := List.mem_singleton.1 hp
    exact h
  · rw [if_neg h] at hp
    rcases List.mem_append.1 hp with hp | hp
    · split at hp
      · obtain rfl := List.mem_singleton.1 hp
        rw [T.hi_mk]
        exact .inr (.inl (by omega))
      · cases hp
    · split at hp
      · obtain rfl := List.mem_singleton.1 hp
        rw [T.lo_mk]
        exact .inr (.inr (by omega))
      · cases hp
theorem left_has (s x : α) {n c : Int} {w : V} : (∃ p ∈ T.left s x, T.has p n c ∧ T.val p c = w) ↔ (T.has x n c ∧ ¬ T.has s n c ∧ T.val x c = w) := by
  have v1 : ∀ h, T.val (T.make (T.n x) (T.lo x) h (T.sh (T.v x) 0)) c = T.val x c := fun h => by
    unfold val
    rw [T.lo_mk, T.v_mk, T.sh_zero]
  have v2 : ∀ h, T.lo x ≤ T.hi s + 1 → T.hi s + 1 ≤ c → T.val (T.make (T.n x) (T.hi s + 1) h (T.sh (T.v x) (T.hi s + 1 - T.lo x))) c = T.val x c := fun h h1 h2 => by
    unfold val
    rw [T.lo_mk, T.v_mk, T.sh_add _ _ _ (by omega) (by omega)]
    congr 1
    omega
  unfold left
  by_cases h : T.n x ≠ T.n s ∨ T.hi x < T.lo s ∨ T.lo x > T.hi s
  · rw [if_pos h]
    constructor
    · rintro ⟨p, hp, h1, h2⟩
      obtain rfl := List.mem_singleton.1 hp
      refine ⟨h1, fun hs => ?_, h2⟩
      obtain ⟨a1, a2, a3⟩ := h1
      obtain ⟨b1, b2, b3⟩ := hs
      rcases h with h | h | h
      · exact h (by omega)
      · omega
      · omega
    · rintro ⟨h1, _, h2⟩
      exact ⟨x, List.mem_singleton.2 rfl, h1, h2⟩
  · rw [if_neg h]
    have h2 : T.n x = T.n s ∧ T.lo s ≤ T.hi x ∧ T.lo x ≤ T.hi s := by
      refine ⟨?_, ?_, ?_⟩
      · exact Decidable.byContradiction fun e => h (.inl e)
      · exact Int.not_lt.1 fun e => h (.inr (.inl e))
      · exact Int.not_lt.1 fun e => h (.inr (.inr e))
    obtain ⟨e1, e2, e3⟩ := h2
    constructor
    · rintro ⟨p, hp, ⟨a1, a2, a3⟩, hv⟩
      rcases List.mem_append.1 hp with hp | hp
      · split at hp
        · obtain rfl := List.mem_singleton.1 hp
          rw [T.n_mk] at a1
          rw [T.lo_mk] at a2
          rw [T.hi_mk] at a3
          rw [v1] at hv
          exact ⟨⟨a1, a2, by omega⟩, fun hs => by have := hs.2.1; omega, hv⟩
        · cases hp
      · split at hp
        · obtain rfl := List.mem_singleton.1 hp
          rw [T.n_mk] at a1
          rw [T.lo_mk] at a2
          rw [T.hi_mk] at a3
          rw [v2 _ (by omega) a2] at hv
          exact ⟨⟨a1, by omega, a3⟩, fun hs => by have := hs.2.2; omega, hv⟩
        · cases hp
    · rintro ⟨⟨a1, a2, a3⟩, hns, hv⟩
      by_cases hc : c < T.lo s
      · refine ⟨T.make (T.n x) (T.lo x) (T.lo s - 1) (T.sh (T.v x) 0), List.mem_append_left _ ?_, ⟨?_, ?_, ?_⟩, ?_⟩
        · rw [if_pos (by omega)]
          exact List.mem_singleton.2 rfl
        · rw [T.n_mk]; exact a1
        · rw [T.lo_mk]; exact a2
        · rw [T.hi_mk]; omega
        · rw [v1]; exact hv
      · have hc2 : T.hi s < c := Int.not_le.1 fun h3 => hns ⟨by omega, by omega, h3⟩
        refine ⟨T.make (T.n x) (T.hi s + 1) (T.hi x) (T.sh (T.v x) (T.hi s + 1 - T.lo x)), List.mem_append_right _ ?_, ⟨?_, ?_, ?_⟩, ?_⟩
        · rw [if_pos (by omega)]
          exact List.mem_singleton.2 rfl
        · rw [T.n_mk]; exact a1
        · rw [T.lo_mk]; omega
        · rw [T.hi_mk]; exact a3
        · rw [v2 _ (by omega) (by omega)]; exact hv
/-- Stands one ahead of a place? -/
def ahead (y : α) (n c : Int) : Prop := T.n y < n ∨ (T.n y = n ∧ T.lo y < c)
/-- A table with one more. -/
theorem over_ok {t : List α} (ho : T.OD t) {s : α} (hs : T.lo s ≤ T.hi s) {k : Nat} (h1 : ∀ y ∈ (t.flatMap (T.left s)).take k, T.ahead y (T.n s) (T.lo s)) (h2 : ∀ y ∈ (t.flatMap (T.left s)).drop k, ¬ T.ahead y (T.n s) (T.lo s)) :
    T.OD ((t.flatMap (T.left s)).take k ++ s :: (t.flatMap (T.left s)).drop k) ∧ ∀ n c, T.get ((t.flatMap (T.left s)).take k ++ s :: (t.flatMap (T.left s)).drop k) n c = if T.has s n c then some (T.val s c) else T.get t n c := by
  have hg : T.OD (t.flatMap (T.left s)) := T.OD_flatMap _ ho (fun x hx => T.left_in s x hs (T.OD_lo ho x hx))
  have hap : ∀ y ∈ t.flatMap (T.left s), T.n y ≠ T.n s ∨ T.hi y < T.lo s ∨ T.lo y > T.hi s := fun y hy => by
    obtain ⟨x, _, hx⟩ := List.mem_flatMap.1 hy
    exact T.left_apart s x y hx
  have hmem : ∀ x, x ∈ t.flatMap (T.left s) ↔ x ∈ (t.flatMap (T.left s)).take k ∨ x ∈ (t.flatMap (T.left s)).drop k := fun x => by
    rw [← List.mem_append, List.take_append_drop]
  have hod := hg
  rw [← List.take_append_drop k (t.flatMap (T.left s))] at hod
  obtain ⟨g1, g2, g3⟩ := T.OD_append.1 hod
  have hO : T.OD ((t.flatMap (T.left s)).take k ++ s :: (t.flatMap (T.left s)).drop k) := by
    refine T.OD_append.2 ⟨g1, ⟨hs, fun y hy => ?_, g2⟩, fun x hx y hy => ?_⟩
    · have a := hap y ((hmem y).2 (.inr hy))
      have b := h2 y hy
      have c := T.OD_lo g2 y hy
      unfold ahead at b
      by_cases e1 : T.n s < T.n y
      · exact .inl e1
      · have e2 : ¬ T.n y < T.n s := fun e => b (.inl e)
        have e3 : T.n s = T.n y := by omega
        have e4 : ¬ T.lo y < T.lo s := fun e => b (.inr ⟨e3.symm, e⟩)
        rcases a with a | a | a
        · exact absurd e3.symm a
        · omega
        · exact .inr ⟨e3, by omega⟩
    · rcases List.mem_cons.1 hy with rfl | hy
      · have a := hap x ((hmem x).2 (.inl hx))
        rcases h1 x hx with b | ⟨b, b'⟩
        · exact .inl b
        · rcases a with a | a | a
          · exact absurd b a
          · exact .inr ⟨b, a⟩
          · omega
      · exact g3 x hx y hy
  refine ⟨hO, fun n c => ?_⟩
  by_cases hsc : T.has s n c
  · rw [if_pos hsc]
    exact T.get_of_mem hO (List.mem_append_right _ List.mem_cons_self) hsc
  · rw [if_neg hsc]
    refine Option.ext fun w => ?_
    show T.get _ n c = some w ↔ T.get t n c = some w
    rw [T.get_iff hO, T.get_iff ho]
    constructor
    · rintro ⟨x, hx, hh, hv⟩
      have hx2 : x ∈ t.flatMap (T.left s) := by
        rcases List.mem_append.1 hx with hx | hx
        · exact (hmem x).2 (.inl hx)
        · rcases List.mem_cons.1 hx with rfl | hx
          · exact absurd hh hsc
          · exact (hmem x).2 (.inr hx)
      obtain ⟨y, hy, hxy⟩ := List.mem_flatMap.1 hx2
      obtain ⟨k1, _, k2⟩ := (T.left_has s y).1 ⟨x, hxy, hh, hv⟩
      exact ⟨y, hy, k1, k2⟩
    · rintro ⟨y, hy, hh, hv⟩
      obtain ⟨x, hxy, k1, k2⟩ := (T.left_has s y).2 ⟨hh, hsc, hv⟩
      refine ⟨x, ?_, k1, k2⟩
      rcases (hmem x).1 (List.mem_flatMap.2 ⟨y, hy, hxy⟩) with h | h
      · exact List.mem_append_left _ h
      · exact List.mem_append_right _ (List.mem_cons_of_mem _ h)
theorem left_one (s x : α) (h : T.n x ≠ T.n s ∨ T.hi x ≤ T.hi s ∨ T.lo x ≥ T.lo s) : (T.left s x).length ≤ 1 := by
  unfold left
  split
  · simp
  · rename_i h2
    split <;> split <;> simp
    rename_i h3 h4
    rcases h with h | h | h
    · exact h2 (.inl h)
    · omega
    · omega
theorem left_two (s x : α) : (T.left s x).length ≤ 2 := by
  unfold left
  split
  · simp
  · split <;> split <;> simp
/-- One more makes a table at most one longer, but for itself. -/
theorem left_len (s : α) (hs : T.lo s ≤ T.hi s) : ∀ {t : List α}, T.OD t → (t.flatMap (T.left s)).length ≤ t.length + 1
  | [], _ => by simp
  | x :: t, ho => by
    rw [List.flatMap_cons, List.length_append, List.length_cons]
    by_cases h : T.n x ≠ T.n s ∨ T.hi x ≤ T.hi s ∨ T.lo x ≥ T.lo s
    · have h1 := T.left_one s x h
      have h2 := left_len s hs ho.2.2
      omega
    · have e1 : T.n x = T.n s := Decidable.byContradiction fun e => h (.inl e)
      have e2 : T.hi s < T.hi x := Int.not_le.1 fun e => h (.inr (.inl e))
      have h1 := T.left_two s x
      have h3 : ∀ (u : List α), (∀ y ∈ u, T.bef x y) → (u.flatMap (T.left s)).length ≤ u.length := by
        intro u
        induction u with
        | nil => intro _; simp
        | cons y u ih =>
          intro hu
          have h4 := T.left_one s y (by
            rcases hu y List.mem_cons_self with b | ⟨b, b'⟩
            · exact .inl (by omega)
            · exact .inr (.inr (by omega)))
          have h5 := ih (fun z hz => hu z (List.mem_cons_of_mem _ hz))
          rw [List.flatMap_cons, List.length_append, List.length_cons]
          omega
      have := h3 t ho.2.1
      omega
theorem NJ_tail {x : α} {t : List α} (h : T.NJ (x :: t)) : T.NJ t := by
  cases t with
  | nil => trivial
  | cons _ _ => exact h.2
/-- Behind one's last code nothing goes on as it did. -/
theorem next_not : ∀ {t : List α}, T.OD t → T.NJ t → ∀ x ∈ t, ∀ w, T.get t (T.n x) (T.hi x + 1) = some w → w ≠ T.sh (T.v x) (T.hi x + 1 - T.lo x)
  | [], _, _, x, hx, _, _ => by cases hx
  | y :: t, ho, hj, x, hx, w, hw => by
    rcases List.mem_cons.1 hx with rfl | hx
    · intro hww
      have hnx : ¬ T.has x (T.n x) (T.hi x + 1) := fun h => by have := h.2.2; omega
      unfold get at hw
      rw [if_neg hnx] at hw
      obtain ⟨z, hz, ⟨z1, z2, z3⟩, hval⟩ := T.get_mem hw
      have hb := ho.2.1 z hz
      have hzl : T.lo z = T.hi x + 1 := by rcases hb with hb | ⟨_, hb⟩ <;> omega
      cases t with
      | nil => cases hz
      | cons p t =>
        have hpz : p = z := by
          rcases List.mem_cons.1 hz with e | hz'
          · exact e.symm
          · exfalso
            have h2 := ho.2.2.2.1 z hz'
            have h3 := ho.2.2.1
            have h4 := ho.2.1 p List.mem_cons_self
            rcases h4 with h4 | ⟨_, h4⟩ <;> rcases h2 with h2 | ⟨_, h2⟩ <;> omega
        subst hpz
        refine hj.1 ⟨z1.symm, hzl, ?_⟩
        rw [← hzl, T.val_lo] at hval
        rw [hval, hww, hzl]
    · have hn : ¬ T.has y (T.n x) (T.hi x + 1) := fun h => by
        obtain ⟨a1, a2, a3⟩ := h
        have hl := T.OD_lo ho.2.2 x hx
        rcases ho.2.1 x hx with b | ⟨b, b'⟩ <;> omega
      unfold get at hw
      rw [if_neg hn] at hw
      exact next_not ho.2.2 (T.NJ_tail hj) x hx w hw
/-! ### Put together -/
def ext1 (p s : α) : α := T.make (T.n p) (T.lo p) (T.hi s) (T.v p)
def jr (jb : α → α → Bool) (p : α) : List α → List α
  | [] => [p]
  | s :: t => if jb p s = true then jr jb (T.ext1 p s) t else p :: jr jb s t
def joined (jb : α → α → Bool) : List α → List α
  | [] => []
  | s :: t => T.jr jb s t
theorem jn_head {p s s' : α} (h1 : T.n s' = T.n s) (h2 : T.lo s' = T.lo s) (h3 : T.v s' = T.v s) : T.jn p s' ↔ T.jn p s := by
  unfold jn
  rw [h1, h2, h3]
theorem jr_ok (jb : α → α → Bool) (Good : α → Prop) (hG : ∀ p s, Good p → Good s → T.jn p s → Good (T.ext1 p s)) (hjb : ∀ p s, Good p → Good s → (jb p s = true ↔ T.jn p s)) : ∀ (t : List α) (p : α), T.OD (p :: t) → (∀ x ∈ p :: t, Good x) →
    T.OD (T.jr jb p t) ∧ T.NJ (T.jr jb p t) ∧ (∀ n c, T.get (T.jr jb p t) n c = T.get (p :: t) n c) ∧ (∀ x ∈ T.jr jb p t, Good x) ∧ (T.jr jb p t).length ≤ t.length + 1 ∧ ∃ h r, T.jr jb p t = T.make (T.n p) (T.lo p) h (T.v p) :: r
  | [], p, ho, hg => ⟨ho, trivial, fun _ _ => rfl, hg, Nat.le_refl _, T.hi p, [], by rw [T.eta]; rfl⟩
  | s :: t, p, ho, hg => by
    have gp := hg p List.mem_cons_self
    have gs := hg s (List.mem_cons_of_mem _ List.mem_cons_self)
    unfold jr
    by_cases hj : jb p s = true
    · rw [if_pos hj]
      have hjn := (hjb p s gp gs).1 hj
      obtain ⟨j1, j2, j3⟩ := hjn
      have hpl := ho.1
      have hsl := ho.2.2.1
      have e1 : T.n (T.ext1 p s) = T.n p := T.n_mk _ _ _ _
      have e2 : T.lo (T.ext1 p s) = T.lo p := T.lo_mk _ _ _ _
      have e3 : T.hi (T.ext1 p s) = T.hi s := T.hi_mk _ _ _ _
      have e4 : T.v (T.ext1 p s) = T.v p := T.v_mk _ _ _ _
      have hO : T.OD (T.ext1 p s :: t) := by
        refine ⟨by rw [e2, e3]; omega, fun y hy => ?_, ho.2.2.2.2⟩
        unfold bef
        rw [e1, e3]
        rcases ho.2.2.2.1 y hy with b | ⟨b, b'⟩
        · exact .inl (by omega)
        · exact .inr ⟨by omega, b'⟩
      obtain ⟨i1, i2, i3, i4, i5, h, r, i6⟩ := jr_ok jb Good hG hjb t (T.ext1 p s) hO (fun x hx => by
        rcases List.mem_cons.1 hx with rfl | hx
        · exact hG p s gp gs ⟨j1, j2, j3⟩
        · exact hg x (List.mem_cons_of_mem _ (List.mem_cons_of_mem _ hx)))
      refine ⟨i1, i2, fun n c => ?_, i4, by rw [List.length_cons]; omega, h, r, by rw [i6, e1, e2, e4]⟩
      rw [i3]
      show (if T.has (T.ext1 p s) n c then _ else _) = if T.has p n c then _ else if T.has s n c then _ else _
      have hval : T.val (T.ext1 p s) c = T.val p c := by
        unfold val
        rw [e2, e4]
      by_cases hp : T.has p n c
      · obtain ⟨a1, a2, a3⟩ := hp
        rw [if_pos ⟨e1.trans a1, by rw [e2]; exact a2, by rw [e3]; omega⟩, if_pos ⟨a1, a2, a3⟩, hval]
      · rw [if_neg hp]
        by_cases hs : T.has s n c
        · obtain ⟨a1, a2, a3⟩ := hs
          rw [if_pos ⟨e1.trans (j1.trans a1), by rw [e2]; omega, by rw [e3]; exact a3⟩, if_pos ⟨a1, a2, a3⟩, hval]
          congr 1
          unfold val
          rw [j3, T.sh_add _ _ _ (by omega) (by omega)]
          congr 1
          omega
        · rw [if_neg hs, if_neg]
          rintro ⟨a1, a2, a3⟩
          rw [e1] at a1
          rw [e2] at a2
          rw [e3] at a3
          by_cases hc : c ≤ T.hi p
          · exact hp ⟨a1, a2, hc⟩
          · exact hs ⟨j1.symm.trans a1, by omega, a3⟩
    · rw [if_neg hj]
      obtain ⟨i1, i2, i3, i4, i5, h, r, i6⟩ := jr_ok jb Good hG hjb t s ho.2.2 (fun x hx => hg x (List.mem_cons_of_mem _ hx))
      have hnj : ¬ T.jn p s := fun h => hj ((hjb p s gp gs).2 h)
      have hb := ho.2.1 s List.mem_cons_self
      refine ⟨⟨ho.1, fun y hy => ?_, i1⟩, ?_, fun n c => ?_, fun x hx => ?_, by rw [List.length_cons, List.length_cons]; omega, T.hi p, _, by rw [T.eta]⟩
      · rw [i6] at i1 hy
        have l := T.least i1 hy
        rw [T.n_mk, T.lo_mk] at l
        rcases hb with b | ⟨b, b'⟩
        · exact .inl (by rcases l with l | ⟨l, _⟩ <;> omega)
        · rcases l with l | ⟨l, l'⟩
          · exact .inl (by omega)
          · exact .inr ⟨by omega, by omega⟩
      · rw [i6] at i2 ⊢
        exact ⟨fun hh => hnj ((T.jn_head (T.n_mk _ _ _ _) (T.lo_mk _ _ _ _) (T.v_mk _ _ _ _)).1 hh), i2⟩
      · show (if T.has p n c then _ else T.get (T.jr jb s t) n c) = if T.has p n c then _ else T.get (s :: t) n c
        rw [i3]
      · rcases List.mem_cons.1 hx with rfl | hx
        · exact gp
        · exact i4 x hx
theorem joined_ok (jb : α → α → Bool) (Good : α → Prop) (hG : ∀ p s, Good p → Good s → T.jn p s → Good (T.ext1 p s)) (hjb : ∀ p s, Good p → Good s → (jb p s = true ↔ T.jn p s)) {t : List α} (ho : T.OD t) (hg : ∀ x ∈ t, Good x) :
    T.OD (T.joined jb t) ∧ T.NJ (T.joined jb t) ∧ (∀ n c, T.get (T.joined jb t) n c = T.get t n c) ∧ (∀ x ∈ T.joined jb t, Good x) ∧ (T.joined jb t).length ≤ t.length := by
  cases t with
  | nil => exact ⟨trivial, trivial, fun _ _ => rfl, hg, Nat.le_refl _⟩
  | cons s t =>
    obtain ⟨i1, i2, i3, i4, i5, _⟩ := T.jr_ok jb Good hG hjb t s ho hg
    exact ⟨i1, i2, i3, i4, i5⟩
/-! ### Found by halves -/
theorem find_hit {a b : List α} {y : α} (ho : T.OD (a ++ y :: b)) {n c : Int} (h1 : T.n y = n) (h2 : T.lo y = c) : T.get (a ++ y :: b) n c = some (T.val y c) := by
  subst h1
  subst h2
  exact T.get_of_mem ho (List.mem_append_right _ List.mem_cons_self) (T.has_lo (T.OD_lo ho y (List.mem_append_right _ List.mem_cons_self)))
theorem find_none {b : List α} (ho : T.OD b) {n c : Int} (h2 : ∀ y ∈ b, ¬ T.ahead y n c) (hb : ∀ y b', b = y :: b' → ¬ (T.n y = n ∧ T.lo y = c)) : ∀ y ∈ b, ¬ T.has y n c := by
  rintro y hy ⟨a1, a2, a3⟩
  cases b with
  | nil => cases hy
  | cons h b =>
    have l := T.least ho hy
    have k := h2 h List.mem_cons_self
    have k2 := h2 y hy
    unfold ahead at k k2
    have k3 : ¬ T.n h < n := fun e => k (.inl e)
    have k4 : T.n h = n := by rcases l with l | ⟨l, _⟩ <;> omega
    have k5 : ¬ T.lo h < c := fun e => k (.inr ⟨k4, e⟩)
    refine hb h b rfl ⟨k4, ?_⟩
    rcases l with l | ⟨_, l⟩ <;> omega
theorem find_first {b : List α} (ho : T.OD b) {n c : Int} (h2 : ∀ y ∈ b, ¬ T.ahead y n c) (hb : ∀ y b', b = y :: b' → ¬ (T.n y = n ∧ T.lo y = c)) : T.get b n c = none := T.get_none (T.find_none ho h2 hb)
theorem find_miss {a b : List α} {z : α} (ho : T.OD (a ++ z :: b)) {n c : Int} (h1 : T.ahead z n c) (h2 : ∀ y ∈ b, ¬ T.ahead y n c) (hb : ∀ y b', b = y :: b' → ¬ (T.n y = n ∧ T.lo y = c)) : T.get (a ++ z :: b) n c = if T.has z n c then some (T.val z c) else none := by
  obtain ⟨o1, o2, o3⟩ := T.OD_append.1 ho
  by_cases hz : T.has z n c
  · rw [if_pos hz]
    exact T.get_of_mem ho (List.mem_append_right _ List.mem_cons_self) hz
  · rw [if_neg hz]
    refine T.get_none fun y hy => ?_
    rcases List.mem_append.1 hy with hy | hy
    · rintro ⟨a1, a2, a3⟩
      rcases h1 with h1 | ⟨h1, h1'⟩ <;> rcases o3 y hy z List.mem_cons_self with b | ⟨b, b'⟩ <;> omega
    · rcases List.mem_cons.1 hy with rfl | hy
      · exact hz
      · exact T.find_none o2.2.2 h2 hb y hy
end
end Tb
end Go.Abs.Tab
