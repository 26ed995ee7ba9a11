/- Tables of entries of which some may not be: what is built of a list, what a table tells. Plain law, of any such entries. -/
import Derived.Test.YtjoplgehefncbaaDoorABord
set_option linter.all false
namespace Go.Abs.Tab
/-- May a code be? -/
def saneC (n v : Int) : Bool := decide (1 ≤ n ∧ n ≤ 4 ∧ 0 ≤ v ∧ v < 256 ^ n.toNat)
theorem saneC_iff (n v : Int) : saneC n v = true ↔ ((n = 1 ∧ 0 ≤ v ∧ v < 256) ∨ (n = 2 ∧ 0 ≤ v ∧ v < 65536) ∨ (n = 3 ∧ 0 ≤ v ∧ v < 16777216) ∨ (n = 4 ∧ 0 ≤ v ∧ v < 4294967296)) := by
  unfold saneC
  rw [decide_eq_true_eq]
  constructor
  · rintro ⟨h1, h2, h3, h4⟩
    have hn : n = 1 ∨ n = 2 ∨ n = 3 ∨ n = 4 := by omega
    rcases hn with rfl | rfl | rfl | rfl
    · exact .inl ⟨rfl, h3, h4⟩
    · exact .inr (.inl ⟨rfl, h3, h4⟩)
    · exact .inr (.inr (.inl ⟨rfl, h3, h4⟩))
    · exact .inr (.inr (.inr ⟨rfl, h3, h4⟩))
  · rintro (⟨rfl, h3, h4⟩ | ⟨rfl, h3, h4⟩ | ⟨rfl, h3, h4⟩ | ⟨rfl, h3, h4⟩) <;> exact ⟨by decide, by decide, h3, h4⟩
/-- Entries: which may be, which two are one. -/
structure En (α V : Type) extends Tb α V where
  sane : α → Bool
  jb : α → α → Bool
  num : ∀ x, sane x = true → saneC (n x) (lo x) = true ∧ saneC (n x) (hi x) = true ∧ lo x ≤ hi x
  part : ∀ x a b, sane x = true → lo x ≤ a → a ≤ b → b ≤ hi x → sane (make (n x) a b (sh (v x) (a - lo x))) = true
  jb_iff : ∀ p s, sane p = true → sane s = true → (jb p s = true ↔ toTb.jn p s)
  ext : ∀ p s, sane p = true → sane s = true → toTb.jn p s → sane (toTb.ext1 p s) = true
namespace En
section
variable {α V : Type} (E : En α V)
theorem rng {x : α} (h : E.sane x = true) : (1 ≤ E.n x ∧ E.n x ≤ 4) ∧ 0 ≤ E.lo x ∧ E.lo x ≤ E.hi x ∧ E.hi x < 4294967296 := by
  obtain ⟨h1, h2, h3⟩ := E.num x h
  rw [saneC_iff] at h1 h2
  omega
theorem has_sane {x : α} (h : E.sane x = true) {n c : Int} (hh : E.has x n c) : saneC n c = true := by
  obtain ⟨h1, h2, h3⟩ := E.num x h
  obtain ⟨rfl, q1, q2⟩ := hh
  rw [saneC_iff] at h1 h2 ⊢
  omega
instance (y : α) (n c : Int) : Decidable (E.ahead y n c) := inferInstanceAs (Decidable (_ ∨ _))
instance (x y : α) : Decidable (E.bef x y) := inferInstanceAs (Decidable (_ ∨ _))
/-- Where one goes. -/
def place (u : List α) (n c : Int) : Nat := (u.takeWhile fun y => decide (E.ahead y n c)).length
theorem place_le (u : List α) (n c : Int) : E.place u n c ≤ u.length := (List.takeWhile_sublist _).length_le
theorem OD_get : ∀ {l : List α}, E.OD l → ∀ (a b : Nat) (ha : a < l.length) (hb : b < l.length), a < b → E.bef l[a] l[b]
  | x :: l, ho, 0, b + 1, _, hb, _ => ho.2.1 _ (List.getElem_mem _)
  | x :: l, ho, a + 1, b + 1, ha, hb, h => OD_get ho.2.2 a b (Nat.lt_of_succ_lt_succ ha) (Nat.lt_of_succ_lt_succ hb) (by omega)
theorem place_ok : ∀ {u : List α}, E.OD u → ∀ (n c : Int), (∀ y ∈ u.take (E.place u n c), E.ahead y n c) ∧ (∀ y ∈ u.drop (E.place u n c), ¬ E.ahead y n c)
  | [], _, n, c => ⟨fun y hy => by simp at hy, fun y hy => by simp at hy⟩
  | x :: u, ho, n, c => by
    obtain ⟨i1, i2⟩ := place_ok ho.2.2 n c
    unfold place at i1 i2 ⊢
    by_cases h : E.ahead x n c
    · rw [List.takeWhile_cons_of_pos (by simpa using h)]
      refine ⟨fun y hy => ?_, fun y hy => i2 y (by simpa using hy)⟩
      rw [List.length_cons, List.take_succ_cons] at hy
      rcases List.mem_cons.1 hy with rfl | hy
      · exact h
      · exact i1 y hy
    · rw [List.takeWhile_cons_of_neg (by simpa using h)]
      refine ⟨fun y hy => by simp at hy, fun y hy hya => h ?_⟩
      have hy : y ∈ x :: u := hy
      rcases List.mem_cons.1 hy with rfl | hy
      · exact hya
      · have hl := ho.1
        rcases ho.2.1 y hy with q | ⟨q, q'⟩ <;> rcases hya with k | ⟨k, k'⟩
        · exact .inl (by omega)
        · exact .inl (by omega)
        · exact .inl (by omega)
        · exact .inr ⟨by omega, by omega⟩
/-- Where the order turns. -/
theorem place_at {u : List α} (ho : E.OD u) (n c : Int) (k : Nat) (hk : k < u.length) : E.ahead u[k] n c ↔ k < E.place u n c := by
  obtain ⟨h1, h2⟩ := E.place_ok ho n c
  have hle := E.place_le u n c
  constructor
  · intro h
    rcases Nat.lt_or_ge k (E.place u n c) with q | q
    · exact q
    · refine absurd h (h2 _ ?_)
      exact List.mem_iff_getElem.2 ⟨k - E.place u n c, by rw [List.length_drop]; omega, by rw [List.getElem_drop]; congr 1; omega⟩
  · intro h
    refine h1 _ (List.mem_iff_getElem.2 ⟨k, by rw [List.length_take]; omega, by rw [List.getElem_take]⟩)
/-- One more, in order. -/
def over (t : List α) (s : α) : List α := (t.flatMap (E.left s)).take (E.place (t.flatMap (E.left s)) (E.n s) (E.lo s)) ++ s :: (t.flatMap (E.left s)).drop (E.place (t.flatMap (E.left s)) (E.n s) (E.lo s))
theorem left_OD {t : List α} (ho : E.OD t) {s : α} (hs : E.lo s ≤ E.hi s) : E.OD (t.flatMap (E.left s)) := Tb.OD_flatMap _ _ ho (fun x hx => Tb.left_in _ s x hs (Tb.OD_lo _ ho x hx))
theorem left_sane {x s y : α} (hx : E.sane x = true) (hs : E.sane s = true) (hy : y ∈ E.left s x) : E.sane y = true := by
  have n1 := E.rng hx
  have n2 := E.rng hs
  unfold Tb.left at hy
  split at hy
  · obtain rfl := List.mem_singleton.1 hy
    exact hx
  · rename_i hap
    have q1 : ¬ E.hi x < E.lo s := fun e => hap (.inr (.inl e))
    have q2 : ¬ E.lo x > E.hi s := fun e => hap (.inr (.inr e))
    rcases List.mem_append.1 hy with h | h
    · split at h
      · obtain rfl := List.mem_singleton.1 h
        have := E.part x (E.lo x) (E.lo s - 1) hx (Int.le_refl _) (by omega) (by omega)
        rw [Int.sub_self] at this
        exact this
      · cases h
    · split at h
      · obtain rfl := List.mem_singleton.1 h
        exact E.part x (E.hi s + 1) (E.hi x) hx (by omega) (by omega) (Int.le_refl _)
      · cases h
theorem over_ok {t : List α} (ho : E.OD t) (hg : ∀ x ∈ t, E.sane x = true) {s : α} (hs : E.sane s = true) :
    E.OD (E.over t s) ∧ (∀ x ∈ E.over t s, E.sane x = true) ∧ (E.over t s).length ≤ t.length + 2 ∧ ∀ n c, E.get (E.over t s) n c = if E.has s n c then some (E.val s c) else E.get t n c := by
  have hsl : E.lo s ≤ E.hi s := (E.rng hs).2.2.1
  have hgO := E.left_OD ho hsl
  obtain ⟨p1, p2⟩ := E.place_ok hgO (E.n s) (E.lo s)
  obtain ⟨o1, o2⟩ := Tb.over_ok _ ho hsl p1 p2
  refine ⟨o1, fun x hx => ?_, ?_, o2⟩
  · have hx2 : x = s ∨ x ∈ t.flatMap (E.left s) := by
      rcases List.mem_append.1 hx with h | h
      · exact .inr (List.mem_of_mem_take h)
      · rcases List.mem_cons.1 h with h | h
        · exact .inl h
        · exact .inr (List.mem_of_mem_drop h)
    rcases hx2 with rfl | hx2
    · exact hs
    · obtain ⟨y, hy, hxy⟩ := List.mem_flatMap.1 hx2
      exact E.left_sane (hg y hy) hs hxy
  · have := Tb.left_len _ s hsl ho
    unfold over
    rw [List.length_append, List.length_cons, List.length_take, List.length_drop]
    omega
/-- The table of some, not yet put together. -/
def fold (l : List α) : List α := l.foldl (fun t s => if E.sane s = true then E.over t s else t) []
def build (l : List α) : List α := E.joined E.jb (E.fold l)
/-- Only those that may be, the last one first. -/
def lastL (l : List α) : List α := (l.filter E.sane).reverse
theorem fold_snoc (l : List α) (s : α) : E.fold (l ++ [s]) = if E.sane s = true then E.over (E.fold l) s else E.fold l := by
  unfold fold
  rw [List.foldl_append]
  rfl
theorem lastL_snoc (l : List α) (s : α) : E.lastL (l ++ [s]) = if E.sane s = true then s :: E.lastL l else E.lastL l := by
  unfold lastL
  rw [List.filter_append, List.reverse_append]
  by_cases h : E.sane s = true
  · rw [if_pos h]
    simp [List.filter_cons, h]
  · rw [if_neg h]
    simp [List.filter_cons, h]
theorem mem_lastL (l : List α) (q : α) : q ∈ E.lastL l ↔ q ∈ l ∧ E.sane q = true := by
  unfold lastL
  rw [List.mem_reverse, List.mem_filter]
theorem fold_ok : ∀ (l : List α), E.OD (E.fold l) ∧ (∀ x ∈ E.fold l, E.sane x = true) ∧ (E.fold l).length ≤ 2 * l.length ∧ ∀ n c, E.get (E.fold l) n c = E.get (E.lastL l) n c := by
  intro l
  induction h : l.length generalizing l with
  | zero =>
    obtain rfl := List.length_eq_zero_iff.1 h
    exact ⟨trivial, (fun x hx => by cases hx), Nat.le_refl _, fun _ _ => rfl⟩
  | succ m ih =>
    obtain ⟨l', s, rfl⟩ : ∃ l' s, l = l' ++ [s] := ⟨l.dropLast, l.getLast (by intro e; rw [e] at h; cases h), (List.dropLast_concat_getLast _).symm⟩
    have hl' : l'.length = m := by simpa using h
    obtain ⟨i1, i2, i3, i4⟩ := ih l' hl'
    rw [fold_snoc]
    simp only [lastL_snoc]
    by_cases hs : E.sane s = true
    · simp only [if_pos hs]
      obtain ⟨o1, o2, o3, o4⟩ := E.over_ok i1 i2 hs
      refine ⟨o1, o2, by omega, fun n c => ?_⟩
      rw [o4, i4]
      rfl
    · simp only [if_neg hs]
      exact ⟨i1, i2, by omega, i4⟩
/-- A table as it is built. -/
def Tab (t : List α) : Prop := (∀ x ∈ t, E.sane x = true) ∧ E.OD t ∧ E.NJ t
theorem build_ok (l : List α) : E.Tab (E.build l) ∧ (E.build l).length ≤ 2 * l.length ∧ ∀ n c, E.get (E.build l) n c = E.get (E.lastL l) n c := by
  obtain ⟨f1, f2, f3, f4⟩ := E.fold_ok l
  obtain ⟨j1, j2, j3, j4, j5⟩ := Tb.joined_ok E.toTb E.jb (fun x => E.sane x = true) E.ext (fun p s hp hs => E.jb_iff p s hp hs) f1 f2
  exact ⟨⟨j4, j1, j2⟩, Nat.le_trans j5 f3, fun n c => (j3 n c).trans (f4 n c)⟩
/-- A table is the table of itself. -/
theorem get_lastL {t : List α} (ho : E.OD t) (hg : ∀ x ∈ t, E.sane x = true) (n c : Int) : E.get (E.lastL t) n c = E.get t n c := by
  have hm : ∀ x, x ∈ E.lastL t ↔ x ∈ t := fun x => (E.mem_lastL t x).trans ⟨fun h => h.1, fun h => ⟨h, hg x h⟩⟩
  cases e : E.get t n c with
  | some w =>
    obtain ⟨x, hx, hh, hv⟩ := Tb.get_mem _ e
    have : ∀ (u : List α), (∀ y ∈ u, y ∈ t) → x ∈ u → E.get u n c = some w := by
      intro u
      induction u with
      | nil => intro _ h; cases h
      | cons y u ih =>
        intro hu hxu
        unfold Tb.get
        by_cases hy : E.has y n c
        · rw [if_pos hy, ← e, Tb.get_of_mem _ ho (hu y List.mem_cons_self) hy]
        · rw [if_neg hy]
          rcases List.mem_cons.1 hxu with rfl | hxu
          · exact absurd hh hy
          · exact ih (fun z hz => hu z (List.mem_cons_of_mem _ hz)) hxu
    exact this _ (fun y hy => (hm y).1 hy) ((hm x).2 hx)
  | none =>
    refine Tb.get_none _ fun x hx hh => ?_
    rw [Tb.get_of_mem _ ho ((hm x).1 hx) hh] at e
    cases e
/-- Two tables that tell the same are the same. -/
theorem same_table {a b : List α} (h1 : E.Tab a) (h2 : E.Tab b) (h : ∀ n c, E.get a n c = E.get b n c) : a = b := Tb.uniq _ h1.2.1 h1.2.2 h2.2.1 h2.2.2 h
/-- The table of a table is that table. -/
theorem build_again {t : List α} (h : E.Tab t) : E.build t = t := by
  obtain ⟨b1, _, b3⟩ := E.build_ok t
  exact E.same_table b1 h (fun n c => (b3 n c).trans (E.get_lastL h.2.1 h.1 n c))
/-- One more, put on a table. -/
theorem get_put {t : List α} (h : E.Tab t) (s : α) (n c : Int) : E.get (E.build (t ++ [s])) n c = if E.sane s = true ∧ E.has s n c then some (E.val s c) else E.get t n c := by
  rw [(E.build_ok (t ++ [s])).2.2, lastL_snoc]
  by_cases hs : E.sane s = true
  · rw [if_pos hs]
    by_cases hh : E.has s n c
    · rw [if_pos ⟨hs, hh⟩]
      exact if_pos hh
    · rw [if_neg (fun h => hh h.2), ← E.get_lastL h.2.1 h.1]
      exact if_neg hh
  · rw [if_neg hs, if_neg (fun h => hs h.1), E.get_lastL h.2.1 h.1]
/-! ### The check -/
end
section
variable {α V : Type} (E : En α V) [Inhabited α]
def okAt (t : List α) (j : Nat) : Bool := E.sane (t.getD j default) && (j == 0 || (decide (E.bef (t.getD (j - 1) default) (t.getD j default)) && !E.jb (t.getD (j - 1) default) (t.getD j default)))
def canon (t : List α) : Bool := (List.range t.length).all (E.okAt t)
theorem chk_iff : ∀ (t : List α), (∀ j, j < t.length → E.okAt t j = true) ↔ E.Tab t
  | [] => ⟨fun _ => ⟨(fun x hx => by cases hx), trivial, trivial⟩, fun _ j hj => by cases hj⟩
  | [x] => by
    constructor
    · intro h
      have h0 := h 0 (Nat.zero_lt_one)
      have gx : E.sane x = true := by simpa [okAt] using h0
      exact ⟨fun y hy => by obtain rfl := List.mem_singleton.1 hy; exact gx, ⟨(E.rng gx).2.2.1, (fun y hy => by cases hy), trivial⟩, trivial⟩
    · rintro ⟨h, _, _⟩ j hj
      obtain rfl : j = 0 := by simpa using hj
      have := h x List.mem_cons_self
      simpa [okAt] using this
  | x :: y :: t => by
    have ih := chk_iff (y :: t)
    have sh : ∀ j, 1 ≤ j → E.okAt (x :: y :: t) (j + 1) = E.okAt (y :: t) j := fun j hj => by
      obtain ⟨m, rfl⟩ : ∃ m, j = m + 1 := ⟨j - 1, by omega⟩
      rfl
    have s1 : E.okAt (x :: y :: t) 1 = (E.sane y && (decide (E.bef x y) && !E.jb x y)) := rfl
    have bad_iff : E.sane x = true → E.sane y = true → ((decide (E.bef x y) && !E.jb x y) = true ↔ (E.bef x y ∧ ¬ E.jn x y)) := fun gx gy => by
      rw [Bool.and_eq_true, decide_eq_true_eq, Bool.not_eq_true', ← E.jb_iff x y gx gy, Bool.not_eq_true]
    constructor
    · intro h
      have g0 : E.sane x = true := by simpa [okAt] using h 0 (by simp)
      have h1 := h 1 (by simp)
      rw [s1, Bool.and_eq_true] at h1
      have gy := h1.1
      obtain ⟨i1, i2, i3⟩ := ih.1 (fun j hj => by
        cases j with
        | zero => simpa [okAt] using gy
        | succ m =>
          rw [← sh (m + 1) (by omega)]
          exact h (m + 1 + 1) (by simp at hj ⊢; omega))
      obtain ⟨b1, b2⟩ := (bad_iff g0 gy).1 h1.2
      refine ⟨fun z hz => ?_, ⟨(E.rng g0).2.2.1, fun z hz => ?_, i2⟩, b2, i3⟩
      · rcases List.mem_cons.1 hz with rfl | hz
        · exact g0
        · exact i1 z hz
      · rcases List.mem_cons.1 hz with rfl | hz
        · exact b1
        · have hl := i2.1
          rcases i2.2.1 z hz with k | ⟨k, k'⟩ <;> rcases b1 with b | ⟨b, b'⟩
          · exact .inl (by omega)
          · exact .inl (by omega)
          · exact .inl (by omega)
          · exact .inr ⟨by omega, by omega⟩
    · rintro ⟨h1, ⟨h2, h3, h4⟩, h5, h6⟩ j hj
      have gx := h1 x List.mem_cons_self
      have gy := h1 y (List.mem_cons_of_mem _ List.mem_cons_self)
      match j, hj with
      | 0, _ => simpa [okAt] using gx
      | 1, _ =>
        rw [s1, Bool.and_eq_true]
        exact ⟨gy, (bad_iff gx gy).2 ⟨h3 y List.mem_cons_self, h5⟩⟩
      | m + 2, hj =>
        rw [sh (m + 1) (by omega)]
        exact ih.2 ⟨fun z hz => h1 z (List.mem_cons_of_mem _ hz), h4, h6⟩ (m + 1) (by simp at hj ⊢; omega)
theorem canon_iff (t : List α) : E.canon t = true ↔ E.Tab t := by
  rw [← chk_iff]
  unfold canon
  rw [List.all_eq_true]
  exact ⟨fun h j hj => h j (List.mem_range.2 hj), fun h j hj => h j (List.mem_range.1 hj)⟩
theorem build_canon (l : List α) : E.canon (E.build l) = true := (E.canon_iff _).2 (E.build_ok l).1
/-! ### What one tells, what a table tells -/
def to (x : α) (n c : Int) : Option V := if E.sane x = true ∧ E.has x n c then some (E.val x c) else none
def last (l : List α) (n c : Int) : Option V := E.get (E.lastL l) n c
def find (t : List α) (n c : Int) : Option V := if E.canon t = true then E.get t n c else none
theorem last_snoc (l : List α) (s : α) (n c : Int) : E.last (l ++ [s]) n c = (E.to s n c).or (E.last l n c) := by
  unfold last to
  rw [lastL_snoc]
  by_cases hs : E.sane s = true
  · rw [if_pos hs]
    show (if E.has s n c then some (E.val s c) else E.get (E.lastL l) n c) = _
    by_cases hh : E.has s n c
    · rw [if_pos hh, if_pos ⟨hs, hh⟩]; rfl
    · rw [if_neg hh, if_neg (fun q => hh q.2)]; rfl
  · rw [if_neg hs, if_neg (fun q => hs q.1)]; rfl
/-- Where one is found: by place. -/
theorem get_place {t : List α} (h : E.Tab t) (n v : Int) : E.get t n v = if h : E.place t n v < t.length ∧ (E.n (t.getD (E.place t n v) default) = n ∧ E.lo (t.getD (E.place t n v) default) = v) then E.to (t.getD (E.place t n v) default) n v else if E.place t n v = 0 then none else E.to (t.getD (E.place t n v - 1) default) n v := by
  obtain ⟨hg, ho, hj⟩ := h
  obtain ⟨p1, p2⟩ := E.place_ok ho n v
  have p3 := E.place_le t n v
  generalize E.place t n v = k at p1 p2 p3 ⊢
  have hsp := List.take_append_drop k t
  have gd : ∀ {i : Nat} (h : i < t.length), t.getD i default = t[i] := fun {i} h => by simp [List.getD, h]
  have tog : ∀ {x : α}, x ∈ t → E.to x n v = if E.has x n v then some (E.val x v) else none := fun {x} hx => by
    unfold to
    by_cases hh : E.has x n v
    · rw [if_pos ⟨hg x hx, hh⟩, if_pos hh]
    · rw [if_neg (fun q => hh q.2), if_neg hh]
  by_cases hk : k < t.length ∧ (E.n (t.getD k default) = n ∧ E.lo (t.getD k default) = v)
  · rw [dif_pos hk]
    obtain ⟨k1, e1, e2⟩ := hk
    rw [gd k1] at e1 e2 ⊢
    have hh : E.has t[k] n v := ⟨e1, Int.le_of_eq e2, by have h0 := Tb.OD_lo _ ho t[k] (List.getElem_mem _); omega⟩
    rw [tog (List.getElem_mem _), if_pos hh, Tb.get_of_mem _ ho (List.getElem_mem _) hh]
  · rw [dif_neg hk]
    have hb : ∀ y b', t.drop k = y :: b' → ¬ (E.n y = n ∧ E.lo y = v) := by
      rintro y b' e ⟨e1, e2⟩
      have hl : k < t.length := by
        rcases Nat.lt_or_ge k t.length with h | h
        · exact h
        · rw [List.drop_eq_nil_of_le h] at e
          cases e
      rw [List.drop_eq_getElem_cons hl] at e
      obtain ⟨e3, _⟩ := List.cons.inj e
      refine hk ⟨hl, ?_⟩
      rw [gd hl, e3]
      exact ⟨e1, e2⟩
    by_cases h0 : k = 0
    · rw [if_pos h0]
      subst h0
      rw [List.drop_zero] at p2 hb
      exact Tb.find_first _ ho p2 hb
    · rw [if_neg h0]
      have hk1 : k - 1 < t.length := by omega
      rw [gd hk1, tog (List.getElem_mem _)]
      have htk : t.take k = t.take (k - 1) ++ [t[k - 1]] := by
        have := List.take_succ_eq_append_getElem hk1
        rwa [show k - 1 + 1 = k by omega] at this
      have hz : E.ahead t[k - 1] n v := p1 _ (by rw [htk]; exact List.mem_append_right _ (List.mem_singleton.2 rfl))
      have hsp2 : t = t.take (k - 1) ++ t[k - 1] :: t.drop k := by
        conv => lhs; rw [← hsp, htk]
        rw [List.append_assoc]
        rfl
      have ho3 := ho
      rw [hsp2] at ho3
      have := Tb.find_miss _ ho3 hz p2 hb
      rw [← hsp2] at this
      rw [this]
theorem find_build (l : List α) (n v : Int) : E.find (E.build l) n v = E.last l n v := by
  unfold find last
  rw [if_pos (E.build_canon l), (E.build_ok l).2.2]
theorem find_tab {t : List α} (h : E.Tab t) (n v : Int) : E.find t n v = E.get t n v := if_pos ((E.canon_iff t).2 h)
end
section
variable {α V : Type} (E : En α V)
/-! ### By borders -/
def bs (l : List α) (n : Int) : List Int := E.bord E.sane l n []
theorem bs_snoc (l : List α) (q : α) (n : Int) : E.bs (l ++ [q]) n = if E.n q = n ∧ E.sane q = true then insU (insU (E.bs l n) (E.lo q)) (E.hi q + 1) else E.bs l n := by
  unfold bs Tb.bord
  rw [List.foldl_append]
  rfl
theorem bs_rng (l : List α) (n : Int) : (∀ z ∈ E.bs l n, 0 ≤ z ∧ z ≤ 4294967296) ∧ (E.bs l n).length ≤ 2 * l.length := by
  obtain ⟨b1, b2, b3⟩ := Tb.bord_ok E.toTb E.sane n l [] trivial
  refine ⟨fun z hz => ?_, by unfold bs; have : ([] : List Int).length = 0 := rfl; omega⟩
  rcases (b2 z).1 hz with k | ⟨q, hq, hs, _, k⟩
  · cases k
  · have := E.rng hs
    rcases k with k | k <;> omega
def gl (l : List α) (n : Int) : Int → Option V := fun c => E.get (E.lastL l) n c
def sg (l : List α) (n : Int) : List α := E.segs (E.gl l n) n (E.bs l n)
theorem build_segs (l : List α) : E.joined E.jb (E.sg l 1 ++ (E.sg l 2 ++ (E.sg l 3 ++ E.sg l 4))) = E.build l := by
  have hmemb : ∀ n, SA (E.bs l n) := fun n => (Tb.bord_ok E.toTb E.sane n l [] trivial).1
  have hst := Tb.strm_ok E.toTb (u := E.lastL l) (bs := E.bs l) (fun q hq => (E.rng ((E.mem_lastL l q).1 hq).2).1) hmemb (fun n q hq hn => by
    obtain ⟨q1, q2⟩ := (E.mem_lastL l q).1 hq
    have hb := (Tb.bord_ok E.toTb E.sane n l [] trivial).2.1
    exact ⟨(hb _).2 (.inr ⟨q, q1, q2, hn, .inl rfl⟩), (hb _).2 (.inr ⟨q, q1, q2, hn, .inr rfl⟩)⟩)
  obtain ⟨s1, s2, s3⟩ := hst
  have good : ∀ s ∈ E.strm (E.lastL l) (E.bs l), E.sane s = true := fun s hs => by
    obtain ⟨n, q, hq, p1, p2, p3, p4, p5, p6⟩ := s2 s hs
    have gq := ((E.mem_lastL l q).1 hq).2
    have gp := E.part q (E.lo s) (E.hi s) gq p3 p4 p5
    have e1 : E.v s = E.sh (E.v q) (E.lo s - E.lo q) := p6
    rw [p1.trans p2.symm, ← e1, E.eta] at gp
    exact gp
  obtain ⟨j1, j2, j3, j4, j5⟩ := Tb.joined_ok E.toTb E.jb (fun x => E.sane x = true) E.ext (fun p s hp hs => E.jb_iff p s hp hs) s1 good
  obtain ⟨b1, _, b5⟩ := E.build_ok l
  exact E.same_table ⟨j4, j1, j2⟩ b1 (fun n c => by rw [b5]; exact (j3 n c).trans (s3 n c))
end
end En
end Go.Abs.Tab
