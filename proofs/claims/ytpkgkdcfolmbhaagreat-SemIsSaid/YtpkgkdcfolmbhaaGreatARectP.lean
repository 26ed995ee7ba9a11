/- Codespaces that stay: plain laws. -/
import Derived.Test.YtpkgkdcfolmbhaaGreatASane
set_option linter.all false
set_option maxRecDepth 100000
namespace Go.Abs.Rc
open Go.RowKit Go.Proofs Go.Abs.Tab Go.Abs.Dest Go.Abs.Span Go.Abs.Coll Go.Abs.Hx Go.Abs.Mt
theorem byte_inj {n v v' : Int} (h1 : saneC n v = true) (h2 : saneC n v' = true) (h : ∀ k, k < n.toNat → (bytesC n v).getD k default = (bytesC n v').getD k default) : v = v' := by
  have g : ∀ (x : Int), saneC n x = true → ∀ k, k < n.toNat → (bytesC n x).getD k default = byteAt x (n.toNat - 1 - k) := fun x hx k hk => by
    unfold bytesC
    rw [if_pos hx]
    simp [List.getD, hk]
  have e : ∀ k, k < n.toNat → byteAt v (n.toNat - 1 - k) = byteAt v' (n.toNat - 1 - k) := fun k hk => by rw [← g v h1 k hk, ← g v' h2 k hk, h k hk]
  rw [saneC_iff] at h1 h2
  unfold byteAt at e
  rcases h1 with ⟨rfl, a⟩ | ⟨rfl, a⟩ | ⟨rfl, a⟩ | ⟨rfl, a⟩
  · have e0 := e 0 (by decide)
    simp at e0
    omega
  · have e0 := e 0 (by decide)
    have e1 := e 1 (by decide)
    simp at e0 e1
    omega
  · have e0 := e 0 (by decide)
    have e1 := e 1 (by decide)
    have e2 := e 2 (by decide)
    simp at e0 e1 e2
    omega
  · have e0 := e 0 (by decide)
    have e1 := e 1 (by decide)
    have e2 := e 2 (by decide)
    have e3 := e 3 (by decide)
    simp at e0 e1 e2 e3
    omega
theorem ok_sane {r : Rct} (h : okR r = true) : saneC r.n r.lo = true ∧ saneC r.n r.hi = true := by
  have h2 := of_decide_eq_true h
  have a1 := h2.1
  have a2 := h2.2.1
  unfold lo at a1
  unfold hi at a2
  rw [bytesC_len] at a1 a2
  constructor
  · split at a1
    · assumption
    · omega
  · split at a2
    · assumption
    · omega
theorem fit_all {r : Rct} {b : List Int} {m : Nat} (h : fitTo r b m 0 = m) : ∀ j, j < m → inK r b j = true := by
  have key : ∀ k, k ≤ m → ∀ j, j < k → inK r b j = true := by
    intro k
    induction k with
    | zero => intro _ j hj; omega
    | succ k ih =>
      intro hk j hj
      by_cases e : j = k
      · subst e
        cases hn : inK r b j with
        | true => rfl
        | false =>
          have := fitTo_stop (r := r) (b := b) (k := j) (m := m) (by omega) (ih (by omega)) hn
          omega
      · exact ih (by omega) j (by omega)
  exact key m (Nat.le_refl _)
theorem inR_iff (r : Rct) (n v : Int) : inR r n v = true ↔ okR r = true ∧ saneC n v = true ∧ n = r.n ∧ ∀ k, k < r.n.toNat → inK r (bytesC n v) k = true := by
  unfold inR
  simp only [Bool.and_eq_true, beq_iff_eq]
  constructor
  · rintro ⟨⟨⟨h1, h2⟩, h3⟩, h4⟩
    refine ⟨h1, h2, h3, ?_⟩
    subst h3
    have hl := ok_len h1
    unfold Hx.fits at h4
    rw [if_pos h1, bytesC_len, if_pos h2, Nat.min_self] at h4
    exact fit_all (by omega)
  · rintro ⟨h1, h2, h3, h4⟩
    refine ⟨⟨⟨h1, h2⟩, h3⟩, ?_⟩
    subst h3
    have hl := ok_len h1
    unfold Hx.fits
    rw [if_pos h1, bytesC_len, if_pos h2, Nat.min_self, fitTo_all h4]
    omega
/-- One covers another. -/
def cov (o x : Rct) : Prop := okR o = true ∧ okR x = true ∧ o.n = x.n ∧ ∀ k, k < x.n.toNat → (lo o).getD k default ≤ (lo x).getD k default ∧ (hi x).getD k default ≤ (hi o).getD k default
theorem ok_le {r : Rct} (h : okR r = true) : ∀ k, k < r.n.toNat → (lo r).getD k default ≤ (hi r).getD k default := fun k hk => (of_decide_eq_true h).2.2 k (by have := ok_len h; omega)
theorem holds_iff (o x : Rct) : holds o x = true ↔ cov o x := by
  unfold holds
  simp only [Bool.and_eq_true, inR_iff]
  constructor
  · rintro ⟨⟨h1, h2, h3, h4, h5⟩, _, h6, _, h7⟩
    refine ⟨h2, h1, h4.symm, fun k hk => ?_⟩
    have a := of_decide_eq_true (h5 k (by omega))
    have b := of_decide_eq_true (h7 k (by omega))
    exact ⟨a.1, b.2⟩
  · rintro ⟨h1, h2, h3, h4⟩
    have hs := ok_sane h2
    have hle := ok_le h2
    refine ⟨⟨h2, h1, hs.1, h3.symm, fun k hk => ?_⟩, h1, hs.2, h3.symm, fun k hk => ?_⟩
    · have a := h4 k (by omega)
      have b := hle k (by omega)
      exact decide_eq_true ⟨a.1, by show (lo x).getD k default ≤ _; omega⟩
    · have a := h4 k (by omega)
      have b := hle k (by omega)
      exact decide_eq_true ⟨by show _ ≤ (hi x).getD k default; omega, a.2⟩
theorem cov_refl {x : Rct} (h : okR x = true) : cov x x := ⟨h, h, rfl, fun _ _ => ⟨Int.le_refl _, Int.le_refl _⟩⟩
theorem cov_trans {x y z : Rct} (h1 : cov x y) (h2 : cov y z) : cov x z := by
  obtain ⟨a1, a2, a3, a4⟩ := h1
  obtain ⟨b1, b2, b3, b4⟩ := h2
  refine ⟨a1, b2, a3.trans b3, fun k hk => ?_⟩
  have p := a4 k (by omega)
  have q := b4 k hk
  omega
theorem cov_anti {x y : Rct} (h1 : cov x y) (h2 : cov y x) : x = y := by
  obtain ⟨a1, a2, a3, a4⟩ := h1
  obtain ⟨b1, b2, b3, b4⟩ := h2
  have s1 := ok_sane a1
  have s2 := ok_sane a2
  obtain ⟨n, l, h⟩ := x
  obtain ⟨n', l', h'⟩ := y
  have a3 : n = n' := a3
  subst a3
  have e1 : l = l' := byte_inj s1.1 s2.1 fun k hk => Int.le_antisymm (a4 k hk).1 (b4 k hk).1
  have e2 : h = h' := byte_inj s1.2 s2.2 fun k hk => Int.le_antisymm (b4 k hk).2 (a4 k hk).2
  rw [e1, e2]
theorem in_cov {o x : Rct} (h : cov o x) {n v : Int} (hi : inR x n v = true) : inR o n v = true := by
  rw [inR_iff] at hi ⊢
  obtain ⟨a1, a2, a3, a4⟩ := h
  obtain ⟨b1, b2, b3, b4⟩ := hi
  refine ⟨a1, b2, b3.trans a3.symm, fun k hk => ?_⟩
  have p := a4 k (by omega)
  have q := of_decide_eq_true (b4 k (by omega))
  exact decide_eq_true (by omega)
theorem oth_iff (o x : Rct) : oth o x = true ↔ o ≠ x ∧ cov o x := by
  unfold oth
  rw [Bool.and_eq_true, holds_iff, Bool.not_eq_true', ← Bool.not_eq_true, eqR_iff]
theorem count_lt {α : Type} {p q : α → Bool} {o : α} : ∀ {l : List α}, (∀ y ∈ l, p y = true → q y = true) → o ∈ l → p o = false → q o = true → l.countP p < l.countP q
  | [], _, h, _, _ => by cases h
  | x :: l, h, ho, h1, h2 => by
    have hle : l.countP p ≤ l.countP q := List.countP_mono_left fun y hy => h y (List.mem_cons_of_mem _ hy)
    rw [List.countP_cons, List.countP_cons]
    rcases List.mem_cons.1 ho with rfl | q'
    · rw [if_neg (by rw [h1]; decide), if_pos h2]
      omega
    · have ih := count_lt (fun y hy => h y (List.mem_cons_of_mem _ hy)) q' h1 h2
      have hx := h x List.mem_cons_self
      cases hp : p x
      · rw [if_neg (by decide)]
        split <;> omega
      · rw [hx hp]
        omega
theorem top_of {l : List Rct} : ∀ (f : Nat) (x : Rct), x ∈ l → okR x = true → l.countP (fun o => oth o x) ≤ f → ∃ m ∈ l, cov m x ∧ ∀ o ∈ l, oth o m = false
  | 0, x, hx, ho, hc => by
    refine ⟨x, hx, cov_refl ho, fun o h => ?_⟩
    have := (List.countP_eq_zero.1 (Nat.le_zero.1 hc)) o h
    simpa using this
  | f + 1, x, hx, ho, hc => by
    by_cases h : ∃ o ∈ l, oth o x = true
    · obtain ⟨o, hol, h⟩ := h
      have hoc := (oth_iff o x).1 h
      obtain ⟨m, hm, h1, h2⟩ := top_of f o hol hoc.2.1 (by
        have : l.countP (fun y => oth y o) < l.countP (fun y => oth y x) := by
          refine count_lt (o := o) (fun y _ hy => ?_) hol ?_ h
          · have hy := (oth_iff y o).1 hy
            refine (oth_iff y x).2 ⟨fun e => ?_, cov_trans hy.2 hoc.2⟩
            subst e
            exact hy.1 (cov_anti hy.2 hoc.2)
          · rw [← Bool.not_eq_true, oth_iff]
            exact fun q => q.1 rfl
        omega)
      exact ⟨m, hm, cov_trans h1 hoc.2, h2⟩
    · refine ⟨x, hx, cov_refl ho, fun o hol => ?_⟩
      rw [← Bool.not_eq_true]
      exact fun q => h ⟨o, hol, q⟩
theorem top {l : List Rct} {x : Rct} (hx : x ∈ l) (ho : okR x = true) : ∃ m ∈ l, cov m x ∧ ∀ o ∈ l, oth o m = false := top_of _ x hx ho (Nat.le_refl _)
theorem mem_cuR {l : List Rct} : ∀ (j : Nat), j ≤ l.length → ∀ x, x ∈ cuR l j ↔ ∃ i, i < j ∧ l.getD i default = x
  | 0, _, x => by
    constructor
    · intro h; cases h
    · rintro ⟨i, hi, _⟩; omega
  | j + 1, hj, x => by
    have ih := mem_cuR (l := l) j (by omega) x
    rw [cuR, List.mem_append, ih]
    constructor
    · rintro (⟨i, hi, e⟩ | h)
      · exact ⟨i, by omega, e⟩
      · split at h
        · exact ⟨j, by omega, (List.mem_singleton.1 h).symm⟩
        · cases h
    · rintro ⟨i, hi, e⟩
      by_cases q : i = j
      · subst q
        cases hk : keepR l i with
        | true => exact Or.inr (by rw [if_pos rfl, List.mem_singleton]; exact e.symm)
        | false =>
          cases i with
          | zero => cases hk
          | succ i =>
            have : eqR (l.getD (i + 1) default) (l.getD i default) = true := by simpa [keepR] using hk
            rw [eqR_iff] at this
            exact Or.inl ⟨i, by omega, by rw [← this]; exact e⟩
      · exact Or.inl ⟨i, by omega, e⟩
theorem mem_cptR {l : List Rct} {x : Rct} : x ∈ cptR l ↔ x ∈ l := by
  unfold cptR
  rw [mem_cuR _ (Nat.le_refl _)]
  constructor
  · rintro ⟨i, hi, rfl⟩
    rw [getR hi]
    exact List.getElem_mem hi
  · intro h
    obtain ⟨i, hi, rfl⟩ := List.getElem_of_mem h
    exact ⟨i, hi, getR hi⟩
theorem cuR_srt {l : List Rct} (hs : ∀ i j, i < j → j < l.length → ltR (l.getD j default) (l.getD i default) = false) : ∀ j, j ≤ l.length → (cuR l j).Pairwise fun x y => ltR x y = true
  | 0, _ => List.Pairwise.nil
  | j + 1, hj => by
    rw [cuR]
    split
    · rename_i hk
      rw [List.pairwise_append]
      refine ⟨cuR_srt hs j (by omega), List.pairwise_singleton _ _, fun x hx y hy => ?_⟩
      obtain rfl := List.mem_singleton.1 hy
      obtain ⟨i, hi, rfl⟩ := (mem_cuR (l := l) j (Nat.le_of_succ_le hj) x).1 hx
      cases j with
      | zero => omega
      | succ j =>
        have h1 : ¬ eqR (l.getD (j + 1) default) (l.getD j default) = true := by simpa [keepR] using hk
        rw [eqR_iff] at h1
        have h2 := hs j (j + 1) (by omega) (by omega)
        have h3 : i = j ∨ ltR (l.getD j default) (l.getD i default) = false := by
          rcases Nat.lt_or_ge i j with q | q
          · exact Or.inr (hs i j q (by omega))
          · exact Or.inl (by omega)
        rw [← Bool.not_eq_true, ltR_iff] at h2
        rw [ltR_iff]
        rcases h3 with rfl | h3
        · have h1 : ¬ ((l.getD (i + 1) default).n = (l.getD i default).n ∧ (l.getD (i + 1) default).lo = (l.getD i default).lo ∧ (l.getD (i + 1) default).hi = (l.getD i default).hi) := by
            intro q
            apply h1
            rcases h : l.getD (i + 1) default with ⟨a, b, c⟩
            rcases h' : l.getD i default with ⟨a', b', c'⟩
            rw [h, h'] at q
            obtain ⟨q1, q2, q3⟩ := q
            dsimp only at q1 q2 q3
            rw [q1, q2, q3]
          omega
        · rw [← Bool.not_eq_true, ltR_iff] at h3
          have h1 : ¬ ((l.getD (j + 1) default).n = (l.getD j default).n ∧ (l.getD (j + 1) default).lo = (l.getD j default).lo ∧ (l.getD (j + 1) default).hi = (l.getD j default).hi) := by
            intro q
            apply h1
            rcases h : l.getD (j + 1) default with ⟨a, b, c⟩
            rcases h' : l.getD j default with ⟨a', b', c'⟩
            rw [h, h'] at q
            obtain ⟨q1, q2, q3⟩ := q
            dsimp only at q1 q2 q3
            rw [q1, q2, q3]
          omega
    · rw [List.append_nil]
      exact cuR_srt hs j (by omega)
theorem sortR_srt (l : List Rct) : ∀ i j, i < j → j < (sortR l).length → ltR ((sortR l).getD j default) ((sortR l).getD i default) = false := by
  have hp : (sortR l).Pairwise fun x y => (!ltR y x) = true := by
    refine List.pairwise_mergeSort (fun a b c h1 h2 => ?_) (fun a b => ?_) l
    · rw [Bool.not_eq_true', ← Bool.not_eq_true, ltR_iff] at *
      omega
    · rw [Bool.or_eq_true, Bool.not_eq_true', Bool.not_eq_true', ← Bool.not_eq_true, ← Bool.not_eq_true, ltR_iff, ltR_iff]
      omega
  intro i j hij hj
  have := List.pairwise_iff_getElem.1 hp i j (by omega) hj hij
  rw [getR hj, getR (by omega)]
  simpa using this
theorem mem_canR {l : List Rct} {x : Rct} : x ∈ canR l ↔ x ∈ l ∧ okR x = true ∧ ∀ o ∈ l, okR o = true → oth o x = false := by
  have hm : ∀ y, y ∈ cptR (sortR (l.filter okR)) ↔ y ∈ l ∧ okR y = true := fun y => by
    rw [mem_cptR]
    unfold sortR
    rw [List.mem_mergeSort, List.mem_filter]
  unfold canR
  rw [List.mem_filter, hm]
  have hh : (!held (cptR (sortR (l.filter okR))) x) = true ↔ ∀ o ∈ l, okR o = true → oth o x = false := by
    unfold held
    rw [Bool.not_eq_true', List.any_eq_false]
    constructor
    · intro h o h1 h2
      simpa using h o ((hm o).2 ⟨h1, h2⟩)
    · intro h o ho
      have := (hm o).1 ho
      rw [h o this.1 this.2]
      decide
  rw [hh]
  exact ⟨fun ⟨⟨a, b⟩, c⟩ => ⟨a, b, c⟩, fun ⟨a, b, c⟩ => ⟨⟨a, b⟩, c⟩⟩
theorem canR_srt (l : List Rct) : (canR l).Pairwise fun x y => ltR x y = true := by
  unfold canR
  exact List.Pairwise.filter _ (cuR_srt (sortR_srt _) _ (Nat.le_refl _))
theorem srt_uniq : ∀ {a b : List Rct}, a.Pairwise (fun x y => ltR x y = true) → b.Pairwise (fun x y => ltR x y = true) → (∀ x, x ∈ a ↔ x ∈ b) → a = b
  | [], [], _, _, _ => rfl
  | [], y :: b, _, _, h => absurd ((h y).2 List.mem_cons_self) (by simp)
  | x :: a, [], _, _, h => absurd ((h x).1 List.mem_cons_self) (by simp)
  | x :: a, y :: b, ha, hb, h => by
    rw [List.pairwise_cons] at ha hb
    have irr : ∀ z : Rct, ¬ ltR z z = true := fun z => by rw [ltR_iff]; omega
    have e : x = y := by
      rcases List.mem_cons.1 ((h x).1 List.mem_cons_self) with q | q
      · exact q
      rcases List.mem_cons.1 ((h y).2 List.mem_cons_self) with r | r
      · exact r.symm
      have h1 := hb.1 x q
      have h2 := ha.1 y r
      rw [ltR_iff] at h1 h2
      omega
    subst e
    rw [srt_uniq ha.2 hb.2 fun z => ?_]
    constructor
    · intro hz
      rcases List.mem_cons.1 ((h z).1 (List.mem_cons_of_mem _ hz)) with rfl | q
      · exact absurd (ha.1 _ hz) (irr _)
      · exact q
    · intro hz
      rcases List.mem_cons.1 ((h z).2 (List.mem_cons_of_mem _ hz)) with rfl | q
      · exact absurd (hb.1 _ hz) (irr _)
      · exact q
/-- What is of one list is covered by one of another. -/
def Dom (a b : List Rct) : Prop := ∀ x ∈ a, okR x = true → ∃ y ∈ b, cov y x
theorem Dom.sub {a b : List Rct} (h : ∀ x ∈ a, x ∈ b) : Dom a b := fun x hx ho => ⟨x, h x hx, cov_refl ho⟩
theorem Dom.can (a : List Rct) : Dom a (canR a) := fun x hx ho => by
  obtain ⟨m, hm, h1, h2⟩ := top hx ho
  exact ⟨m, mem_canR.2 ⟨hm, h1.1, fun o h _ => h2 o h⟩, h1⟩
theorem Dom.can' (a : List Rct) : Dom (canR a) a := Dom.sub fun _ h => (mem_canR.1 h).1
theorem Dom.trans {a b c : List Rct} (h1 : Dom a b) (h2 : Dom b c) : Dom a c := fun x hx ho => by
  obtain ⟨y, hy, p⟩ := h1 x hx ho
  obtain ⟨z, hz, q⟩ := h2 y hy p.1
  exact ⟨z, hz, cov_trans q p⟩
theorem Dom.app {a b c d : List Rct} (h1 : Dom a c) (h2 : Dom b d) : Dom (a ++ b) (c ++ d) := fun x hx ho => by
  rcases List.mem_append.1 hx with q | q
  · obtain ⟨y, hy, p⟩ := h1 x q ho
    exact ⟨y, List.mem_append_left _ hy, p⟩
  · obtain ⟨y, hy, p⟩ := h2 x q ho
    exact ⟨y, List.mem_append_right _ hy, p⟩
theorem canR_sub {a b : List Rct} (h1 : Dom a b) (h2 : Dom b a) : ∀ x, x ∈ canR a → x ∈ canR b := fun x hx => by
  obtain ⟨a1, a2, a3⟩ := mem_canR.1 hx
  have no : ∀ y ∈ b, cov y x → y = x := fun y hy c => by
    obtain ⟨z, hz, d⟩ := h2 y hy c.1
    by_cases e : z = x
    · rw [e] at d
      exact cov_anti c d
    · have := a3 z hz d.1
      rw [← Bool.not_eq_true, oth_iff] at this
      exact absurd ⟨e, cov_trans d c⟩ this
  obtain ⟨y, hy, c⟩ := h1 x a1 a2
  have := no y hy c
  subst this
  refine mem_canR.2 ⟨hy, a2, fun o ho _ => ?_⟩
  rw [← Bool.not_eq_true, oth_iff]
  exact fun q => q.1 (no o ho q.2)
theorem canR_congr {a b : List Rct} (h1 : Dom a b) (h2 : Dom b a) : canR a = canR b := srt_uniq (canR_srt a) (canR_srt b) fun x => ⟨canR_sub h1 h2 x, canR_sub h2 h1 x⟩
theorem canR_idem (a : List Rct) : canR (canR a) = canR a := canR_congr (Dom.can' a) (Dom.can a)
theorem canR_left (a b : List Rct) : canR (canR a ++ b) = canR (a ++ b) := canR_congr (Dom.app (Dom.can' a) (Dom.sub fun _ h => h)) (Dom.app (Dom.can a) (Dom.sub fun _ h => h))
theorem canR_right (a b : List Rct) : canR (a ++ canR b) = canR (a ++ b) := canR_congr (Dom.app (Dom.sub fun _ h => h) (Dom.can' b)) (Dom.app (Dom.sub fun _ h => h) (Dom.can b))
theorem canR_same {a b : List Rct} (h : ∀ x, x ∈ a ↔ x ∈ b) : canR a = canR b := canR_congr (Dom.sub fun x => (h x).1) (Dom.sub fun x => (h x).2)
theorem any_canR (l : List Rct) (n v : Int) : anyR (canR l) n v = anyR l n v := by
  unfold anyR
  rw [Bool.eq_iff_iff, List.any_eq_true, List.any_eq_true]
  constructor
  · rintro ⟨x, hx, h⟩
    exact ⟨x, (mem_canR.1 hx).1, h⟩
  · rintro ⟨x, hx, h⟩
    obtain ⟨y, hy, c⟩ := Dom.can l x hx ((inR_iff _ _ _).1 h).1
    exact ⟨y, hy, in_cov c h⟩
end Go.Abs.Rc
