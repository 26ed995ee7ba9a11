import Derived.Test.YtjoplgehefncbaaDoorATab
set_option linter.all false
/-! Tables by borders: plain law. -/
namespace Go.Abs.Tab
/-- A number in a list that rises; once. -/
def insU : List Int → Int → List Int
  | [], v => [v]
  | x :: l, v => if x = v then x :: l else if x > v then v :: x :: l else x :: insU l v
theorem insU_len (v : Int) : ∀ l : List Int, (insU l v).length ≤ l.length + 1
  | [] => Nat.le_refl _
  | x :: l => by
    have := insU_len v l
    unfold insU
    split
    · exact Nat.le_succ _
    · split
      · exact Nat.le_refl _
      · rw [List.length_cons, List.length_cons]
        omega
theorem insU_mem (v z : Int) : ∀ l : List Int, z ∈ insU l v ↔ z = v ∨ z ∈ l
  | [] => by simp [insU]
  | x :: l => by
    have := insU_mem v z l
    unfold insU
    split
    · rename_i h
      subst h
      simp
    · split
      · simp
      · simp only [List.mem_cons, this]
        constructor
        · rintro (h | h | h)
          · exact .inr (.inl h)
          · exact .inl h
          · exact .inr (.inr h)
        · rintro (h | h | h)
          · exact .inr (.inl h)
          · exact .inl h
          · exact .inr (.inr h)
def SA : List Int → Prop
  | [] => True
  | x :: l => (∀ y ∈ l, x < y) ∧ SA l
theorem insU_SA (v : Int) : ∀ l : List Int, SA l → SA (insU l v)
  | [], _ => ⟨(fun y hy => by cases hy), trivial⟩
  | x :: l, h => by
    have ih := insU_SA v l h.2
    unfold insU
    split
    · exact h
    · split
      · rename_i h1 h2
        refine ⟨fun y hy => ?_, h⟩
        rcases List.mem_cons.1 hy with rfl | hy
        · omega
        · have := h.1 y hy
          omega
      · rename_i h1 h2
        refine ⟨fun y hy => ?_, ih⟩
        rcases (insU_mem v y l).1 hy with rfl | hy
        · omega
        · exact h.1 y hy
namespace Tb
section
variable {α V : Type} (T : Tb α V)
theorem jr_len (jb : α → α → Bool) : ∀ (t : List α) (p : α), (T.jr jb p t).length ≤ t.length + 1
  | [], p => Nat.le_refl _
  | s :: t, p => by
    unfold jr
    split
    · have := jr_len jb t (T.ext1 p s)
      rw [List.length_cons]
      omega
    · have := jr_len jb t s
      rw [List.length_cons, List.length_cons]
      omega
theorem jr_snoc (jb : α → α → Bool) (x : α) : ∀ (t : List α) (p : α), ∃ init q, T.jr jb p t = init ++ [q] ∧ T.jr jb p (t ++ [x]) = if jb q x = true then init ++ [T.ext1 q x] else init ++ [q] ++ [x]
  | [], p => ⟨[], p, rfl, by
      show (if jb p x = true then _ else _) = _
      split <;> rfl⟩
  | s :: t, p => by
    show ∃ init q, (if jb p s = true then _ else _) = _ ∧ (if jb p s = true then _ else _) = _
    by_cases h : jb p s = true
    · obtain ⟨init, q, h1, h2⟩ := jr_snoc jb x t (T.ext1 p s)
      exact ⟨init, q, by rw [if_pos h]; exact h1, by rw [if_pos h]; exact h2⟩
    · obtain ⟨init, q, h1, h2⟩ := jr_snoc jb x t s
      refine ⟨p :: init, q, by rw [if_neg h, h1]; rfl, ?_⟩
      rw [if_neg h]
      show p :: T.jr jb s (t ++ [x]) = _
      rw [h2]
      split <;> rfl
theorem joined_len (jb : α → α → Bool) (t : List α) : (T.joined jb t).length ≤ t.length := by
  cases t with
  | nil => exact Nat.le_refl _
  | cons s t => exact T.jr_len jb t s
theorem joined_snoc (jb : α → α → Bool) (x : α) (t : List α) : (T.joined jb t = [] ∧ T.joined jb (t ++ [x]) = [x]) ∨ ∃ init q, T.joined jb t = init ++ [q] ∧ T.joined jb (t ++ [x]) = if jb q x = true then init ++ [T.ext1 q x] else init ++ [q] ++ [x] := by
  cases t with
  | nil => exact .inl ⟨rfl, rfl⟩
  | cons s t => exact .inr (T.jr_snoc jb x t s)
/-- From each border to the next one. -/
def seg1 (o : Option V) (n x y : Int) : List α := match o with
  | some v => [T.make n x (y - 1) v]
  | none => []
def segs (f : Int → Option V) (n : Int) : List Int → List α
  | x :: y :: r => T.seg1 (f x) n x y ++ segs f n (y :: r)
  | _ => []
theorem segs_two (f : Int → Option V) (n x y : Int) (r : List Int) : T.segs f n (x :: y :: r) = T.seg1 (f x) n x y ++ T.segs f n (y :: r) := by
  conv => lhs; unfold segs
theorem segs_len (f : Int → Option V) (n : Int) : ∀ b : List Int, (T.segs f n b).length ≤ b.length
  | [] => Nat.le_refl _
  | [x] => Nat.zero_le _
  | x :: y :: r => by
    have := segs_len f n (y :: r)
    unfold segs
    rw [List.length_append, List.length_cons]
    have h2 : (T.seg1 (f x) n x y).length ≤ 1 := by unfold seg1; split <;> simp
    omega
theorem get_cong {u : List α} {n c c' : Int} (hl : ∀ q ∈ u, T.has q n c ↔ T.has q n c') (hc : c' ≤ c) : T.get u n c = (T.get u n c').map (fun w => T.sh w (c - c')) := by
  induction u with
  | nil => rfl
  | cons q u ih =>
    have hq := hl q List.mem_cons_self
    have ih := ih (fun z hz => hl z (List.mem_cons_of_mem _ hz))
    unfold get
    by_cases h : T.has q n c
    · rw [if_pos h, if_pos (hq.1 h)]
      have h2 := (hq.1 h).2.1
      show some (T.val q c) = some (T.sh (T.val q c') (c - c'))
      unfold val
      rw [T.sh_add _ _ _ (by omega) (by omega)]
      congr 2
      omega
    · rw [if_neg h, if_neg (fun k => h (hq.2 k))]
      exact ih
/-- A part of one of some. -/
def partOf (u : List α) (n : Int) (x : α) : Prop := ∃ q ∈ u, T.n q = n ∧ T.n x = n ∧ T.lo q ≤ T.lo x ∧ T.lo x ≤ T.hi x ∧ T.hi x ≤ T.hi q ∧ T.v x = T.val q (T.lo x)
theorem segs_ok {u : List α} {n : Int} : ∀ (x : Int) (r : List Int), SA (x :: r) → (∀ q ∈ u, T.n q = n → (T.lo q ∈ x :: r ∨ T.lo q < x) ∧ (T.hi q + 1 ∈ x :: r ∨ T.hi q + 1 < x)) →
    T.OD (T.segs (fun c => T.get u n c) n (x :: r)) ∧ (∀ s ∈ T.segs (fun c => T.get u n c) n (x :: r), T.partOf u n s ∧ x ≤ T.lo s) ∧
    ∀ c, x ≤ c → ∀ w, (∃ s ∈ T.segs (fun c => T.get u n c) n (x :: r), T.has s n c ∧ T.val s c = w) ↔ T.get u n c = some w
  | x, [], hs, hu => by
    refine ⟨trivial, (fun s hs => by cases hs), fun c hc w => ⟨fun ⟨s, h, _⟩ => (by cases h), fun h => ?_⟩⟩
    obtain ⟨q, hq, ⟨q1, q2, q3⟩, _⟩ := T.get_mem h
    rcases (hu q hq q1).2 with k | k
    · have := List.mem_singleton.1 k
      omega
    · omega
  | x, y :: r, hs, hu => by
    have hxy : x < y := hs.1 y List.mem_cons_self
    have hge : ∀ z ∈ y :: r, y ≤ z := fun z hz => by
      rcases List.mem_cons.1 hz with rfl | hz
      · exact Int.le_refl _
      · exact Int.le_of_lt (hs.2.1 z hz)
    have hu' : ∀ q ∈ u, T.n q = n → (T.lo q ∈ y :: r ∨ T.lo q < y) ∧ (T.hi q + 1 ∈ y :: r ∨ T.hi q + 1 < y) := fun q hq hn => by
      obtain ⟨a, b⟩ := hu q hq hn
      constructor
      · rcases a with a | a
        · rcases List.mem_cons.1 a with a | a
          · exact .inr (by omega)
          · exact .inl a
        · exact .inr (by omega)
      · rcases b with b | b
        · rcases List.mem_cons.1 b with b | b
          · exact .inr (by omega)
          · exact .inl b
        · exact .inr (by omega)
    obtain ⟨i1, i2, i3⟩ := segs_ok y r hs.2 hu'
    have hcong : ∀ c, x ≤ c → c < y → ∀ q ∈ u, T.has q n c ↔ T.has q n x := fun c h1 h2 q hq => by
      constructor
      · rintro ⟨a1, a2, a3⟩
        refine ⟨a1, ?_, by omega⟩
        rcases (hu q hq a1).1 with k | k
        · rcases List.mem_cons.1 k with k | k
          · omega
          · have := hge _ k
            omega
        · omega
      · rintro ⟨a1, a2, a3⟩
        refine ⟨a1, by omega, ?_⟩
        rcases (hu q hq a1).2 with k | k
        · rcases List.mem_cons.1 k with k | k
          · omega
          · have := hge _ k
            omega
        · omega
    have hget : ∀ c, x ≤ c → c < y → T.get u n c = (T.get u n x).map (fun w => T.sh w (c - x)) := fun c h1 h2 => T.get_cong (hcong c h1 h2) h1
    rw [T.segs_two]
    show T.OD (T.seg1 (T.get u n x) n x y ++ _) ∧ (∀ s ∈ T.seg1 (T.get u n x) n x y ++ _, _) ∧ ∀ c, x ≤ c → ∀ w, (∃ s ∈ T.seg1 (T.get u n x) n x y ++ _, _) ↔ _
    cases e : T.get u n x with
    | none =>
      rw [show T.seg1 none n x y = [] from rfl, List.nil_append]
      refine ⟨i1, fun s hs => ⟨(i2 s hs).1, by have := (i2 s hs).2; omega⟩, fun c hc w => ?_⟩
      rcases Int.lt_or_le c y with hcy | hcy
      · rw [hget c hc hcy, e]
        refine ⟨fun ⟨s, h1, h2, _⟩ => ?_, fun h => by cases h⟩
        have := (i2 s h1).2
        have := h2.2.1
        omega
      · exact i3 c hcy w
    | some v =>
      rw [show T.seg1 (some v) n x y = [T.make n x (y - 1) v] from rfl, List.singleton_append]
      obtain ⟨q, hq, ⟨q1, q2, q3⟩, qv⟩ := T.get_mem e
      have hqh : y ≤ T.hi q + 1 := by
        rcases (hu q hq q1).2 with k | k
        · rcases List.mem_cons.1 k with k | k
          · omega
          · exact hge _ k
        · omega
      refine ⟨⟨?_, fun s hs => ?_, i1⟩, fun s hs => ?_, fun c hc w => ?_⟩
      · rw [T.lo_mk, T.hi_mk]
        omega
      · have h1 := (i2 s hs).2
        obtain ⟨q', _, _, k, _⟩ := (i2 s hs).1
        refine .inr ⟨by rw [T.n_mk]; exact k.symm, by rw [T.hi_mk]; omega⟩
      · rcases List.mem_cons.1 hs with rfl | hs
        · refine ⟨⟨q, hq, q1, T.n_mk _ _ _ _, ?_, ?_, ?_, ?_⟩, ?_⟩
          · rw [T.lo_mk]; exact q2
          · rw [T.lo_mk, T.hi_mk]; omega
          · rw [T.hi_mk]; omega
          · rw [T.v_mk, T.lo_mk]; exact qv.symm
          · rw [T.lo_mk]; exact Int.le_refl _
        · exact ⟨(i2 s hs).1, by have := (i2 s hs).2; omega⟩
      · rcases Int.lt_or_le c y with hcy | hcy
        · rw [hget c hc hcy, e]
          constructor
          · rintro ⟨s, h1, h2, h3⟩
            rcases List.mem_cons.1 h1 with rfl | h1
            · show some (T.sh v (c - x)) = some w
              rw [← h3]
              unfold val
              rw [T.v_mk, T.lo_mk]
            · have := (i2 s h1).2
              have := h2.2.1
              omega
          · intro h
            refine ⟨_, List.mem_cons_self, ⟨T.n_mk _ _ _ _, by rw [T.lo_mk]; exact hc, by rw [T.hi_mk]; omega⟩, ?_⟩
            have h2 := Option.some.inj h
            rw [← h2]
            unfold val
            rw [T.v_mk, T.lo_mk]
        · rw [← i3 c hcy w]
          constructor
          · rintro ⟨s, h1, h2, h3⟩
            rcases List.mem_cons.1 h1 with rfl | h1
            · have := h2.2.2
              rw [T.hi_mk] at this
              omega
            · exact ⟨s, h1, h2, h3⟩
          · rintro ⟨s, h1, h2, h3⟩
            exact ⟨s, List.mem_cons_of_mem _ h1, h2, h3⟩
/-- What begins or has ended, among codes of n bytes. -/
def bord (sane : α → Bool) (l : List α) (n : Int) (b : List Int) : List Int := l.foldl (fun b q => if T.n q = n ∧ sane q = true then insU (insU b (T.lo q)) (T.hi q + 1) else b) b
theorem bord_ok (sane : α → Bool) (n : Int) : ∀ (l : List α) (b : List Int), SA b → SA (T.bord sane l n b) ∧ (∀ z, z ∈ T.bord sane l n b ↔ z ∈ b ∨ ∃ q ∈ l, sane q = true ∧ T.n q = n ∧ (z = T.lo q ∨ z = T.hi q + 1)) ∧ (T.bord sane l n b).length ≤ b.length + 2 * l.length
  | [], b, hb => ⟨hb, fun z => ⟨fun h => .inl h, fun h => h.elim id fun ⟨q, hq, _⟩ => (by cases hq)⟩, Nat.le_refl _⟩
  | q :: l, b, hb => by
    show SA (T.bord sane l n (if T.n q = n ∧ sane q = true then _ else _)) ∧ (∀ z, z ∈ T.bord sane l n (if T.n q = n ∧ sane q = true then _ else _) ↔ _) ∧ (T.bord sane l n (if T.n q = n ∧ sane q = true then _ else _)).length ≤ _
    by_cases h : T.n q = n ∧ sane q = true
    · rw [if_pos h]
      obtain ⟨i1, i2, i3⟩ := bord_ok sane n l _ (insU_SA (T.hi q + 1) _ (insU_SA (T.lo q) b hb))
      refine ⟨i1, fun z => ?_, ?_⟩
      · rw [i2, insU_mem, insU_mem]
        constructor
        · rintro ((k | k | k) | ⟨p, hp, k⟩)
          · exact .inr ⟨q, List.mem_cons_self, h.2, h.1, .inr k⟩
          · exact .inr ⟨q, List.mem_cons_self, h.2, h.1, .inl k⟩
          · exact .inl k
          · exact .inr ⟨p, List.mem_cons_of_mem _ hp, k⟩
        · rintro (k | ⟨p, hp, k1, k2, k3⟩)
          · exact .inl (.inr (.inr k))
          · rcases List.mem_cons.1 hp with rfl | hp
            · rcases k3 with k3 | k3
              · exact .inl (.inr (.inl k3))
              · exact .inl (.inl k3)
            · exact .inr ⟨p, hp, k1, k2, k3⟩
      · have a := insU_len (T.lo q) b
        have c := insU_len (T.hi q + 1) (insU b (T.lo q))
        rw [List.length_cons]
        omega
    · rw [if_neg h]
      obtain ⟨i1, i2, i3⟩ := bord_ok sane n l b hb
      refine ⟨i1, fun z => ?_, by rw [List.length_cons]; omega⟩
      rw [i2]
      constructor
      · rintro (k | ⟨p, hp, k⟩)
        · exact .inl k
        · exact .inr ⟨p, List.mem_cons_of_mem _ hp, k⟩
      · rintro (k | ⟨p, hp, k1, k2, k3⟩)
        · exact .inl k
        · rcases List.mem_cons.1 hp with rfl | hp
          · exact absurd ⟨k2, k1⟩ h
          · exact .inr ⟨p, hp, k1, k2, k3⟩
/-- The segments of codes of n bytes. -/
theorem segs_all {u : List α} {n : Int} {b : List Int} (hb : SA b) (hmem : ∀ q ∈ u, T.n q = n → T.lo q ∈ b ∧ T.hi q + 1 ∈ b) :
    T.OD (T.segs (fun c => T.get u n c) n b) ∧ (∀ s ∈ T.segs (fun c => T.get u n c) n b, T.partOf u n s) ∧ ∀ c w, (∃ s ∈ T.segs (fun c => T.get u n c) n b, T.has s n c ∧ T.val s c = w) ↔ T.get u n c = some w := by
  cases b with
  | nil =>
    refine ⟨trivial, (fun s hs => by cases hs), fun c w => ⟨fun ⟨s, h, _⟩ => (by cases h), fun h => ?_⟩⟩
    obtain ⟨q, hq, ⟨q1, _⟩, _⟩ := T.get_mem h
    have := (hmem q hq q1).1
    cases this
  | cons x r =>
    obtain ⟨i1, i2, i3⟩ := T.segs_ok (u := u) (n := n) x r hb (fun q hq hn => ⟨.inl (hmem q hq hn).1, .inl (hmem q hq hn).2⟩)
    refine ⟨i1, fun s hs => (i2 s hs).1, fun c w => ?_⟩
    rcases Int.lt_or_le c x with hc | hc
    · constructor
      · rintro ⟨s, h1, h2, _⟩
        have := (i2 s h1).2
        have := h2.2.1
        omega
      · intro h
        obtain ⟨q, hq, ⟨q1, q2, q3⟩, _⟩ := T.get_mem h
        have k := (hmem q hq q1).1
        rcases List.mem_cons.1 k with k | k
        · omega
        · have := hb.1 _ k
          omega
    · exact i3 c hc w
/-- The segments of all codes. -/
def strm (u : List α) (bs : Int → List Int) : List α := T.segs (fun c => T.get u 1 c) 1 (bs 1) ++ (T.segs (fun c => T.get u 2 c) 2 (bs 2) ++ (T.segs (fun c => T.get u 3 c) 3 (bs 3) ++ T.segs (fun c => T.get u 4 c) 4 (bs 4)))
theorem strm_ok {u : List α} {bs : Int → List Int} (hn : ∀ q ∈ u, 1 ≤ T.n q ∧ T.n q ≤ 4) (hb : ∀ n, SA (bs n)) (hmem : ∀ n, ∀ q ∈ u, T.n q = n → T.lo q ∈ bs n ∧ T.hi q + 1 ∈ bs n) :
    T.OD (T.strm u bs) ∧ (∀ s ∈ T.strm u bs, ∃ n, T.partOf u n s) ∧ ∀ n c, T.get (T.strm u bs) n c = T.get u n c := by
  obtain ⟨a1, a2, a3⟩ := T.segs_all (hb 1) (hmem 1)
  obtain ⟨b1, b2, b3⟩ := T.segs_all (hb 2) (hmem 2)
  obtain ⟨c1, c2, c3⟩ := T.segs_all (hb 3) (hmem 3)
  obtain ⟨d1, d2, d3⟩ := T.segs_all (hb 4) (hmem 4)
  have na : ∀ n s, T.partOf u n s → T.n s = n := fun n s ⟨_, _, _, h, _⟩ => h
  have ho : T.OD (T.strm u bs) := by
    refine T.OD_append.2 ⟨a1, T.OD_append.2 ⟨b1, T.OD_append.2 ⟨c1, d1, fun x hx y hy => ?_⟩, fun x hx y hy => ?_⟩, fun x hx y hy => ?_⟩
    · exact .inl (by rw [na _ _ (c2 x hx), na _ _ (d2 y hy)]; decide)
    · rcases List.mem_append.1 hy with hy | hy
      · exact .inl (by rw [na _ _ (b2 x hx), na _ _ (c2 y hy)]; decide)
      · exact .inl (by rw [na _ _ (b2 x hx), na _ _ (d2 y hy)]; decide)
    · rcases List.mem_append.1 hy with hy | hy
      · exact .inl (by rw [na _ _ (a2 x hx), na _ _ (b2 y hy)]; decide)
      · rcases List.mem_append.1 hy with hy | hy
        · exact .inl (by rw [na _ _ (a2 x hx), na _ _ (c2 y hy)]; decide)
        · exact .inl (by rw [na _ _ (a2 x hx), na _ _ (d2 y hy)]; decide)
  have hm : ∀ s, s ∈ T.strm u bs ↔ (s ∈ T.segs (fun c => T.get u 1 c) 1 (bs 1) ∨ s ∈ T.segs (fun c => T.get u 2 c) 2 (bs 2) ∨ s ∈ T.segs (fun c => T.get u 3 c) 3 (bs 3) ∨ s ∈ T.segs (fun c => T.get u 4 c) 4 (bs 4)) := fun s => by
    unfold strm
    rw [List.mem_append, List.mem_append, List.mem_append]
  refine ⟨ho, fun s hs => ?_, fun n c => ?_⟩
  · rcases (hm s).1 hs with h | h | h | h
    · exact ⟨1, a2 s h⟩
    · exact ⟨2, b2 s h⟩
    · exact ⟨3, c2 s h⟩
    · exact ⟨4, d2 s h⟩
  · refine Option.ext fun w => ?_
    show T.get _ n c = some w ↔ T.get u n c = some w
    rw [T.get_iff ho]
    constructor
    · rintro ⟨s, hs, hh, hv⟩
      have hns := hh.1
      rcases (hm s).1 hs with h | h | h | h
      · obtain rfl : n = 1 := hns.symm.trans (na _ _ (a2 s h))
        exact (a3 c w).1 ⟨s, h, hh, hv⟩
      · obtain rfl : n = 2 := hns.symm.trans (na _ _ (b2 s h))
        exact (b3 c w).1 ⟨s, h, hh, hv⟩
      · obtain rfl : n = 3 := hns.symm.trans (na _ _ (c2 s h))
        exact (c3 c w).1 ⟨s, h, hh, hv⟩
      · obtain rfl : n = 4 := hns.symm.trans (na _ _ (d2 s h))
        exact (d3 c w).1 ⟨s, h, hh, hv⟩
    · intro h
      obtain ⟨q, hq, ⟨q1, _⟩, _⟩ := T.get_mem h
      have hr := hn q hq
      have hc : n = 1 ∨ n = 2 ∨ n = 3 ∨ n = 4 := by omega
      rcases hc with rfl | rfl | rfl | rfl
      · obtain ⟨s, h1, h2⟩ := (a3 c w).2 h
        exact ⟨s, (hm s).2 (.inl h1), h2⟩
      · obtain ⟨s, h1, h2⟩ := (b3 c w).2 h
        exact ⟨s, (hm s).2 (.inr (.inl h1)), h2⟩
      · obtain ⟨s, h1, h2⟩ := (c3 c w).2 h
        exact ⟨s, (hm s).2 (.inr (.inr (.inl h1))), h2⟩
      · obtain ⟨s, h1, h2⟩ := (d3 c w).2 h
        exact ⟨s, (hm s).2 (.inr (.inr (.inr h1))), h2⟩
end
end Tb
end Go.Abs.Tab
