/- Layer 7 in plain words: spans as a table of codes (Tab), what span.Build, Find, Last, Canon answer. -/
import Derived.Test.YtehknkgplldiiaaQBase
import Derived.Test.YtehknkgplldiiaaQTab
import Derived.Test.YtehknkgplldiiaaPAllx2
import Derived.Test.YtehknkgplldiiaaPAllx8
import Derived.Test.YtehknkgplldiiaaPAllx12
import Derived.Test.YtehknkgplldiiaaPAllx13
import Derived.Test.YtehknkgplldiiaaPAllx11
set_option linter.unusedVariables false
set_option linter.unusedSimpArgs false
namespace Go.Proofs.YtehknkgplldiiaaQ
open Go.RowKit Go.Proofs.YtehknkgplldiiaaW.PrintWords Go.Proofs.YtehknkgplldiiaaW.PrintLast Go.Proofs.YtehknkgplldiiaaW.PrintMore Go.Proofs.Ytehknkgplldiiaa.PAll Go.Proofs.Ytehknkgplldiiaa.Tab
/-- May a code of n bytes be v? -/
def saneB (n v : Int) : Bool := decide (1 ≤ n ∧ n ≤ 4 ∧ 0 ≤ v ∧ v < 256 ^ n.toNat)
theorem sane_range {n v : Int} (h : saneB n v = true) : (n = 1 ∧ 0 ≤ v ∧ v < 256) ∨ (n = 2 ∧ 0 ≤ v ∧ v < 65536) ∨ (n = 3 ∧ 0 ≤ v ∧ v < 16777216) ∨ (n = 4 ∧ 0 ≤ v ∧ v < 4294967296) := by
  obtain ⟨h1, h2, h3, h4⟩ := of_decide_eq_true h
  have : n = 1 ∨ n = 2 ∨ n = 3 ∨ n = 4 := by omega
  rcases this with rfl | rfl | rfl | rfl <;> simp at h4 <;> omega
theorem sane_iff (n v : Int) : saneB n v = true ↔ ((n = 1 ∧ 0 ≤ v ∧ v < 256) ∨ (n = 2 ∧ 0 ≤ v ∧ v < 65536) ∨ (n = 3 ∧ 0 ≤ v ∧ v < 16777216) ∨ (n = 4 ∧ 0 ≤ v ∧ v < 4294967296)) := by
  refine ⟨sane_range, fun h => ?_⟩
  rcases h with ⟨rfl, h1, h2⟩ | ⟨rfl, h1, h2⟩ | ⟨rfl, h1, h2⟩ | ⟨rfl, h1, h2⟩ <;> (unfold saneB; refine decide_eq_true ⟨by decide, by decide, h1, ?_⟩; simpa using h2)
theorem hex_Sane_is (n v : Int) : hex_Sane.f n v = some (saneB n v) := by
  unfold hex_Sane.f
  by_cases h1 : n ≥ 1
  · rw [if_pos h1]
    by_cases h2 : n ≤ 4
    · rw [if_pos h2]
      by_cases h3 : v ≥ 0
      · rw [if_pos h3]
        have : n = 1 ∨ n = 2 ∨ n = 3 ∨ n = 4 := by omega
        rcases this with rfl | rfl | rfl | rfl
        · rw [show IntKind.u64.wrap (wrap64 (8 * 1)) = 8 from by decide +kernel, if_pos (by decide), show shr .i64 v 8 = v / 256 from rfl]
          congr 1
          rw [Bool.eq_iff_iff, sane_iff, beq_iff_eq]
          omega
        · rw [show IntKind.u64.wrap (wrap64 (8 * 2)) = 16 from by decide +kernel, if_pos (by decide), show shr .i64 v 16 = v / 65536 from rfl]
          congr 1
          rw [Bool.eq_iff_iff, sane_iff, beq_iff_eq]
          omega
        · rw [show IntKind.u64.wrap (wrap64 (8 * 3)) = 24 from by decide +kernel, if_pos (by decide), show shr .i64 v 24 = v / 16777216 from rfl]
          congr 1
          rw [Bool.eq_iff_iff, sane_iff, beq_iff_eq]
          omega
        · rw [show IntKind.u64.wrap (wrap64 (8 * 4)) = 32 from by decide +kernel, if_pos (by decide), show shr .i64 v 32 = v / 4294967296 from rfl]
          congr 1
          rw [Bool.eq_iff_iff, sane_iff, beq_iff_eq]
          omega
      · rw [if_neg h3]
        congr 1
        symm
        rw [Bool.eq_false_iff, Ne, sane_iff]
        omega
    · rw [if_neg h2]
      congr 1
      symm
      rw [Bool.eq_false_iff, Ne, sane_iff]
      omega
  · rw [if_neg h1]
    congr 1
    symm
    rw [Bool.eq_false_iff, Ne, sane_iff]
    omega
theorem rise_zero (step : Bool) : riseI 0 step = 0 := by unfold riseI; split <;> rfl
theorem rise_add (a b : Int) (step : Bool) : riseI a step + riseI b step = riseI (a + b) step := by unfold riseI; split <;> omega
/-- Spans as a table. -/
def TS (step : Bool) : Tb S23 Int where
  n := fun x => x.f0
  lo := fun x => x.f1
  hi := fun x => x.f2
  v := fun x => x.f3
  make := fun a b c d => ⟨a, b, c, d⟩
  sh := fun w d => w + riseI d step
  n_mk := fun _ _ _ _ => rfl
  lo_mk := fun _ _ _ _ => rfl
  hi_mk := fun _ _ _ _ => rfl
  v_mk := fun _ _ _ _ => rfl
  eta := fun _ => rfl
  sh_zero := fun w => by rw [rise_zero]; omega
  sh_add := fun w a b _ _ => by rw [Int.add_assoc, rise_add]
theorem saneS_iff (x : S23) (step : Bool) : saneS x step = true ↔ saneB x.f0 x.f1 = true ∧ saneB x.f0 x.f2 = true ∧ x.f1 ≤ x.f2 ∧ 0 ≤ x.f3 ∧ x.f3 ≤ 65535 - riseI (x.f2 - x.f1) step := by
  unfold saneS span_Sane.f
  rw [hex_Sane_is, hex_Sane_is]
  simp only [Option.bind_some]
  by_cases h1 : saneB x.f0 x.f1 = true
  · rw [if_pos h1]
    by_cases h2 : saneB x.f0 x.f2 = true
    · rw [if_pos h2]
      have r1 := sane_range h1
      have r2 := sane_range h2
      by_cases h3 : x.f1 ≤ x.f2
      · rw [if_pos h3]
        by_cases h4 : x.f3 ≥ 0
        · rw [if_pos h4, w64 (by omega) (by omega)]
          unfold span_rise.f riseI
          cases step with
          | true =>
            simp only [if_true, Option.bind_some, Option.getD_some]
            rw [w64 (by omega) (by omega), decide_eq_true_iff]
            exact ⟨fun h => ⟨h1, h2, h3, h4, h⟩, fun h => h.2.2.2.2⟩
          | false =>
            simp only [if_neg (show ¬ (false = true) by decide), Option.bind_some, Option.getD_some]
            rw [w64 (by omega) (by omega), decide_eq_true_iff]
            exact ⟨fun h => ⟨h1, h2, h3, h4, h⟩, fun h => h.2.2.2.2⟩
        · rw [if_neg h4]
          exact ⟨(fun h => by cases h), fun h => absurd h.2.2.2.1 h4⟩
      · rw [if_neg h3]
        exact ⟨(fun h => by cases h), fun h => absurd h.2.2.1 h3⟩
    · rw [if_neg h2]
      exact ⟨(fun h => by cases h), fun h => absurd h.2.1 h2⟩
  · rw [if_neg h1]
    exact ⟨(fun h => by cases h), fun h => absurd h.1 h1⟩
abbrev Good (step : Bool) (x : S23) : Prop := saneS x step = true
/-- A span's numbers. -/
theorem Good.num {step : Bool} {x : S23} (h : Good step x) : (1 ≤ x.f0 ∧ x.f0 ≤ 4) ∧ (0 ≤ x.f1 ∧ x.f1 ≤ x.f2 ∧ x.f2 < 4294967296) ∧ (0 ≤ x.f3 ∧ x.f3 ≤ 65535) := by
  obtain ⟨h1, h2, h3, h4, h5⟩ := (saneS_iff x step).1 h
  have r1 := sane_range h1
  have r2 := sane_range h2
  have : 0 ≤ riseI (x.f2 - x.f1) step := by unfold riseI; split <;> omega
  omega
theorem Good.small {step : Bool} {x : S23} (h : Good step x) : smallS x := by
  have := h.num
  unfold smallS
  omega
theorem Good.part {step : Bool} {x : S23} (h : Good step x) {a b : Int} (h1 : x.f1 ≤ a) (h2 : a ≤ b) (h3 : b ≤ x.f2) : Good step ⟨x.f0, a, b, x.f3 + riseI (a - x.f1) step⟩ := by
  obtain ⟨k1, k2, k3, k4, k5⟩ := (saneS_iff x step).1 h
  refine (saneS_iff _ step).2 ⟨?_, ?_, h2, ?_, ?_⟩
  · have r1 := sane_range k1
    have r2 := sane_range k2
    rw [sane_iff]
    dsimp only
    omega
  · have r1 := sane_range k1
    have r2 := sane_range k2
    rw [sane_iff]
    dsimp only
    omega
  · dsimp only
    have : 0 ≤ riseI (a - x.f1) step := by unfold riseI; split <;> omega
    omega
  · dsimp only
    unfold riseI at k5 ⊢
    split at k5 <;> (rename_i hs; simp only [hs, if_true, if_neg (show ¬ (false = true) by decide)]; omega)
theorem left_is (x s : S23) (step : Bool) : leftS x s step = (TS step).left s x := by
  unfold leftS Tb.left
  have e : apartS x s = true ↔ ((TS step).n x ≠ (TS step).n s ∨ (TS step).hi x < (TS step).lo s ∨ (TS step).lo x > (TS step).hi s) := by
    unfold apartS
    rw [Bool.or_eq_true, Bool.or_eq_true, bne_iff_ne, decide_eq_true_iff, decide_eq_true_iff]
    exact Iff.rfl
  by_cases h : apartS x s = true
  · rw [if_pos h, if_pos (e.1 h)]
  · rw [if_neg h, if_neg (fun k => h (e.2 k))]
    unfold partS
    rw [Int.sub_self]
    rfl
theorem ord_neg (y t : S23) (step : Bool) : ordS y t < 0 ↔ (TS step).ahead y t.f0 t.f1 := by
  unfold ordS Tb.ahead
  show _ ↔ (y.f0 < t.f0 ∨ (y.f0 = t.f0 ∧ y.f1 < t.f1))
  repeat' split
  all_goals omega
theorem ord_zero (y t : S23) : ordS y t = 0 ↔ (y.f0 = t.f0 ∧ y.f1 = t.f1) := by
  unfold ordS
  repeat' split
  all_goals omega
theorem el_get {l : List S23} {i : Nat} (h : i < l.length) : elS l i = l[i] := by
  unfold elS rd_T23
  rw [Int.toNat_natCast, List.getD_eq_getElem?_getD, List.getElem?_eq_getElem h]
  rfl
theorem rd_get {l : List S23} {i : Nat} (h : i < l.length) : rd_T23 l (i : Int) = l[i] := el_get h
theorem OD_get {step : Bool} : ∀ {l : List S23}, (TS step).OD l → ∀ (a b : Nat) (ha : a < l.length) (hb : b < l.length), a < b → (TS step).bef l[a] l[b]
  | x :: l, ho, 0, b + 1, _, hb, _ => ho.2.1 _ (List.getElem_mem _)
  | x :: l, ho, a + 1, b + 1, ha, hb, h => OD_get ho.2.2 a b (Nat.lt_of_succ_lt_succ ha) (Nat.lt_of_succ_lt_succ hb) (by omega)
theorem bs_part (l : List S23) (t : S23) (mono : ∀ a b, a < b → b < l.length → ordS (elS l b) t < 0 → ordS (elS l a) t < 0) : ∀ n i j, j - i ≤ n → i ≤ j → j ≤ l.length → (∀ m, m < i → ordS (elS l m) t < 0) → (∀ m, j ≤ m → m < l.length → ¬ ordS (elS l m) t < 0) →
    (∀ m, m < bsS l t n i j → ordS (elS l m) t < 0) ∧ (∀ m, bsS l t n i j ≤ m → m < l.length → ¬ ordS (elS l m) t < 0) ∧ bsS l t n i j ≤ l.length
  | 0, i, j, h, hij, hj, h1, h2 => by
    obtain rfl : i = j := by omega
    exact ⟨h1, h2, hj⟩
  | n + 1, i, j, h, hij, hj, h1, h2 => by
    unfold bsS
    by_cases hlt : i < j
    · rw [if_pos hlt]
      by_cases ho : ordS (elS l ((i + j) / 2)) t < 0
      · rw [if_pos ho]
        refine bs_part l t mono n _ _ (by omega) (by omega) hj (fun m hm => ?_) h2
        rcases Nat.lt_or_ge m ((i + j) / 2) with hm2 | hm2
        · exact mono m _ hm2 (by omega) ho
        · obtain rfl : m = (i + j) / 2 := by omega
          exact ho
      · rw [if_neg ho]
        refine bs_part l t mono n _ _ (by omega) (by omega) (by omega) h1 (fun m hm hml hneg => ?_)
        rcases Nat.lt_or_ge ((i + j) / 2) m with hm2 | hm2
        · exact ho (mono _ m hm2 hml hneg)
        · obtain rfl : m = (i + j) / 2 := by omega
          exact ho hneg
    · rw [if_neg hlt]
      obtain rfl : i = j := by omega
      exact ⟨h1, h2, hj⟩
theorem find_part {step : Bool} {l : List S23} (ho : (TS step).OD l) (t : S23) : (∀ y ∈ l.take (findS l t), (TS step).ahead y t.f0 t.f1) ∧ (∀ y ∈ l.drop (findS l t), ¬ (TS step).ahead y t.f0 t.f1) ∧ findS l t ≤ l.length := by
  have mono : ∀ a b, a < b → b < l.length → ordS (elS l b) t < 0 → ordS (elS l a) t < 0 := fun a b hab hb h => by
    rw [el_get hb, ord_neg _ _ step] at h
    rw [el_get (by omega), ord_neg _ _ step]
    have hb1 := OD_get ho a b (by omega) hb hab
    have hl := Tb.OD_lo _ ho l[a] (List.getElem_mem _)
    unfold Tb.ahead at h ⊢
    rcases hb1 with k | ⟨k, k'⟩
    · rcases h with h | ⟨h, h'⟩
      · exact .inl (by omega)
      · exact .inl (by omega)
    · rcases h with h | ⟨h, h'⟩
      · exact .inl (by omega)
      · exact .inr ⟨by omega, by omega⟩
  have hbs := bs_part l t mono l.length 0 l.length (by omega) (Nat.zero_le _) (Nat.le_refl _) (fun m hm => by omega) (fun m hm hml => by omega)
  rw [show bsS l t l.length 0 l.length = findS l t from rfl] at hbs
  obtain ⟨h1, h2, h3⟩ := hbs
  refine ⟨fun y hy => ?_, fun y hy => ?_, h3⟩
  · obtain ⟨m, hm, e⟩ := List.mem_iff_getElem.1 hy
    rw [List.length_take] at hm
    rw [List.getElem_take] at e
    subst e
    have := h1 m (by omega)
    rwa [el_get (by omega), ord_neg _ _ step] at this
  · obtain ⟨m, hm, e⟩ := List.mem_iff_getElem.1 hy
    rw [List.length_drop] at hm
    rw [List.getElem_drop] at e
    subst e
    have := h2 (findS l t + m) (Nat.le_add_right _ _) (by omega)
    rwa [el_get (by omega), ord_neg _ _ step] at this
/-- One more, in order. -/
theorem overS_ok {step : Bool} {t : List S23} (ho : (TS step).OD t) (hg : ∀ x ∈ t, Good step x) {s : S23} (hs : Good step s) :
    (TS step).OD (overS t s step) ∧ (∀ x ∈ overS t s step, Good step x) ∧ (overS t s step).length ≤ t.length + 2 ∧ ∀ n c, (TS step).get (overS t s step) n c = if (TS step).has s n c then some ((TS step).val s c) else (TS step).get t n c := by
  have hfun : (fun x => leftS x s step) = (TS step).left s := funext fun x => left_is x s step
  have hsl : (TS step).lo s ≤ (TS step).hi s := hs.num.2.1.2.1
  unfold overS
  rw [hfun]
  have hgO : (TS step).OD (t.flatMap ((TS step).left s)) := Tb.OD_flatMap _ _ ho (fun x hx => Tb.left_in _ s x hsl (Tb.OD_lo _ ho x hx))
  obtain ⟨p1, p2, p3⟩ := find_part hgO s
  obtain ⟨o1, o2⟩ := Tb.over_ok _ ho hsl p1 p2
  refine ⟨o1, fun x hx => ?_, ?_, o2⟩
  · have hx2 : x = s ∨ x ∈ t.flatMap ((TS step).left s) := by
      rcases List.mem_append.1 hx with h | h
      · exact .inr (List.mem_of_mem_take h)
      · rcases List.mem_cons.1 h with h | h
        · exact .inl h
        · exact .inr (List.mem_of_mem_drop h)
    rcases hx2 with rfl | hx2
    · exact hs
    · obtain ⟨y, hy, hxy⟩ := List.mem_flatMap.1 hx2
      have gy := hg y hy
      have hn := gy.num
      have hn2 := hs.num
      unfold Tb.left at hxy
      split at hxy
      · obtain rfl := List.mem_singleton.1 hxy
        exact gy
      · rename_i hap
        have q1 : ¬ y.f2 < s.f1 := fun e => hap (.inr (.inl e))
        have q2 : ¬ y.f1 > s.f2 := fun e => hap (.inr (.inr e))
        rcases List.mem_append.1 hxy with h | h
        · split at h
          · rename_i hlt
            obtain rfl := List.mem_singleton.1 h
            have hlt2 : y.f1 < s.f1 := hlt
            have := gy.part (a := y.f1) (b := s.f1 - 1) (Int.le_refl _) (by omega) (by omega)
            rw [Int.sub_self] at this
            exact this
          · cases h
        · split at h
          · rename_i hlt
            obtain rfl := List.mem_singleton.1 h
            have hlt2 : y.f2 > s.f2 := hlt
            exact gy.part (a := s.f2 + 1) (b := y.f2) (by omega) (by omega) (Int.le_refl _)
          · cases h
  · have := Tb.left_len _ s hsl ho
    rw [List.length_append, List.length_cons, List.length_take, List.length_drop]
    omega
theorem joins_iff {step : Bool} {p s : S23} (hp : Good step p) (hs : Good step s) : joinsS p s step = true ↔ (TS step).jn p s := by
  have n1 := hp.num
  have n2 := hs.num
  unfold joinsS span_joins.f Tb.jn
  show _ ↔ (p.f0 = s.f0 ∧ s.f1 = p.f2 + 1 ∧ s.f3 = p.f3 + riseI (s.f1 - p.f1) step)
  rw [w64 (by omega) (by omega)]
  by_cases h1 : p.f0 = s.f0
  · rw [if_pos h1]
    by_cases h2 : p.f2 + 1 = s.f1
    · rw [if_pos h2, w64 (by omega) (by omega)]
      unfold span_rise.f riseI
      cases step with
      | true =>
        simp only [if_true, Option.bind_some, Option.getD_some]
        rw [w64 (by omega) (by omega), beq_iff_eq]
        exact ⟨fun h => ⟨h1, h2.symm, h.symm⟩, fun h => h.2.2.symm⟩
      | false =>
        simp only [if_neg (show ¬ (false = true) by decide), Option.bind_some, Option.getD_some]
        rw [w64 (by omega) (by omega), beq_iff_eq]
        exact ⟨fun h => ⟨h1, h2.symm, h.symm⟩, fun h => h.2.2.symm⟩
    · rw [if_neg h2]
      exact ⟨(fun h => by cases h), fun h => absurd h.2.1.symm h2⟩
  · rw [if_neg h1]
    exact ⟨(fun h => by cases h), fun h => absurd h.1 h1⟩
theorem good_ext {step : Bool} (p s : S23) (hp : Good step p) (hs : Good step s) (h : (TS step).jn p s) : Good step ((TS step).ext1 p s) := by
  obtain ⟨h1, h2, h3⟩ := h
  have e1 : p.f0 = s.f0 := h1
  have e2 : s.f1 = p.f2 + 1 := h2
  have e3 : s.f3 = p.f3 + riseI (s.f1 - p.f1) step := h3
  obtain ⟨k1, k2, k3, k4, k5⟩ := (saneS_iff p step).1 hp
  obtain ⟨m1, m2, m3, m4, m5⟩ := (saneS_iff s step).1 hs
  refine (saneS_iff _ step).2 ⟨k1, ?_, ?_, k4, ?_⟩
  · show saneB p.f0 s.f2 = true
    rw [e1]
    exact m2
  · show p.f1 ≤ s.f2
    omega
  · show p.f3 ≤ 65535 - riseI (s.f2 - p.f1) step
    unfold riseI at *
    split at e3 <;> (rename_i hh; simp only [hh, if_true, if_neg (show ¬ (false = true) by decide)] at m5 ⊢; omega)
/-- The table of some, not yet put together. -/
def foldS (step : Bool) (t : List S23) (l : List S23) : List S23 := l.foldl (fun t s => if saneS s step = true then overS t s step else t) t
def joinedS (step : Bool) (t : List S23) : List S23 := (TS step).joined (fun a b => joinsS a b step) t
def buildS (step : Bool) (l : List S23) : List S23 := joinedS step (foldS step [] l)
/-- Only those that may be, the last one first. -/
def lastL (step : Bool) (l : List S23) : List S23 := (l.filter fun x => saneS x step).reverse
theorem lastL_snoc (step : Bool) (l : List S23) (s : S23) : lastL step (l ++ [s]) = if saneS s step = true then s :: lastL step l else lastL step l := by
  unfold lastL
  rw [List.filter_append, List.reverse_append]
  by_cases h : saneS s step = true
  · rw [if_pos h]
    simp [List.filter_cons, h]
  · rw [if_neg h]
    simp [List.filter_cons, h]
theorem fold_ok (step : Bool) : ∀ (l : List S23), (TS step).OD (foldS step [] l) ∧ (∀ x ∈ foldS step [] l, Good step x) ∧ (foldS step [] l).length ≤ 2 * l.length ∧ ∀ n c, (TS step).get (foldS step [] l) n c = (TS step).get (lastL step l) n c := by
  intro l
  induction h : l.length generalizing l with
  | zero =>
    obtain rfl := List.length_eq_zero_iff.1 h
    exact ⟨trivial, (fun x hx => by cases hx), Nat.le_refl _, fun _ _ => rfl⟩
  | succ m ih =>
    obtain ⟨l', s, rfl⟩ : ∃ l' s, l = l' ++ [s] := ⟨l.dropLast, l.getLast (by intro e; rw [e] at h; cases h), (List.dropLast_concat_getLast _).symm⟩
    have hl' : l'.length = m := by simpa using h
    obtain ⟨i1, i2, i3, i4⟩ := ih l' hl'
    have hf : foldS step [] (l' ++ [s]) = if saneS s step = true then overS (foldS step [] l') s step else foldS step [] l' := by
      unfold foldS
      rw [List.foldl_append]
      rfl
    rw [hf]
    simp only [lastL_snoc]
    by_cases hs : saneS s step = true
    · simp only [if_pos hs]
      obtain ⟨o1, o2, o3, o4⟩ := overS_ok i1 i2 hs
      refine ⟨o1, o2, by omega, fun n c => ?_⟩
      rw [o4, i4]
      rfl
    · simp only [if_neg hs]
      exact ⟨i1, i2, by omega, i4⟩
theorem build_ok (step : Bool) (l : List S23) : (TS step).OD (buildS step l) ∧ (TS step).NJ (buildS step l) ∧ (∀ x ∈ buildS step l, Good step x) ∧ (buildS step l).length ≤ 2 * l.length ∧ ∀ n c, (TS step).get (buildS step l) n c = (TS step).get (lastL step l) n c := by
  obtain ⟨f1, f2, f3, f4⟩ := fold_ok step l
  obtain ⟨j1, j2, j3, j4, j5⟩ := Tb.joined_ok (TS step) (fun a b => joinsS a b step) (Good step) good_ext (fun p s hp hs => joins_iff hp hs) f1 f2
  exact ⟨j1, j2, j4, Nat.le_trans j5 f3, fun n c => (j3 n c).trans (f4 n c)⟩
/-- A table is the table of itself. -/
theorem get_lastL {step : Bool} {t : List S23} (ho : (TS step).OD t) (hg : ∀ x ∈ t, Good step x) (n c : Int) : (TS step).get (lastL step t) n c = (TS step).get t n c := by
  have hm : ∀ x, x ∈ lastL step t ↔ x ∈ t := fun x => by
    unfold lastL
    rw [List.mem_reverse, List.mem_filter]
    exact ⟨fun h => h.1, fun h => ⟨h, hg x h⟩⟩
  cases e : (TS step).get t n c with
  | some w =>
    obtain ⟨x, hx, hh, hv⟩ := Tb.get_mem _ e
    have : ∀ (u : List S23), (∀ y ∈ u, y ∈ t) → x ∈ u → (TS step).get u n c = some w := by
      intro u
      induction u with
      | nil => intro _ h; cases h
      | cons y u ih =>
        intro hu hxu
        unfold Tb.get
        by_cases hy : (TS step).has y n c
        · rw [if_pos hy, ← e, Tb.get_of_mem _ ho (hu y List.mem_cons_self) hy]
        · rw [if_neg hy]
          rcases List.mem_cons.1 hxu with rfl | hxu
          · exact absurd hh hy
          · exact ih (fun z hz => hu z (List.mem_cons_of_mem _ hz)) hxu
    exact this _ (fun y hy => (hm y).1 hy) ((hm x).2 hx)
  | none =>
    refine Tb.get_none _ fun x hx hh => ?_
    rw [Tb.get_of_mem _ ho ((hm x).1 hx) hh] at e
    cases e
/-- Two canonical tables that tell the same are the same. -/
theorem same_table {step : Bool} {a b : List S23} (h1 : (TS step).OD a) (h2 : (TS step).NJ a) (h3 : (TS step).OD b) (h4 : (TS step).NJ b) (h : ∀ n c, (TS step).get a n c = (TS step).get b n c) : a = b := Tb.uniq _ h1 h2 h3 h4 h
/-! ### What one tells, what the last one tells, what a table tells -/
def tell (o : Option Int) : Int × Bool := match o with
  | some w => (w, true)
  | none => (0, false)
theorem to_good {step : Bool} {x : S23} (h : Good step x) (n v : Int) : toS x n v step = tell (if (TS step).has x n v then some ((TS step).val x v) else none) := by
  have hn := h.num
  obtain ⟨k1, k2, k3, k4, k5⟩ := (saneS_iff x step).1 h
  unfold toS span_To.f
  rw [saneS_is, hex_Sane_is]
  simp only [Option.bind_some]
  rw [if_pos h]
  by_cases hs : saneB n v = true
  · rw [if_pos hs]
    have r := sane_range hs
    by_cases h1 : n = x.f0
    · rw [if_pos h1]
      by_cases h2 : v < x.f1
      · rw [if_pos h2, if_neg (fun q : (TS step).has x n v => by have : x.f1 ≤ v := q.2.1; omega)]
        rfl
      · rw [if_neg h2]
        by_cases h3 : v > x.f2
        · rw [if_pos h3, if_neg (fun q : (TS step).has x n v => by have : v ≤ x.f2 := q.2.2; omega)]
          rfl
        · rw [if_neg h3, if_pos (show (TS step).has x n v from ⟨h1.symm, (by omega : x.f1 ≤ v), (by omega : v ≤ x.f2)⟩), w64 (by omega) (by omega)]
          show _ = (x.f3 + riseI (v - x.f1) step, true)
          unfold span_rise.f riseI
          unfold riseI at k5
          cases step with
          | true =>
            simp only [if_true, Option.bind_some, Option.getD_some] at k5 ⊢
            rw [w64 (by omega) (by omega)]
          | false =>
            simp only [if_neg (show ¬ (false = true) by decide), Option.bind_some, Option.getD_some]
            rw [w64 (by omega) (by omega)]
    · rw [if_neg h1, if_neg (fun q : (TS step).has x n v => h1 q.1.symm)]
      rfl
  · rw [if_neg hs, if_neg (fun q : (TS step).has x n v => hs ?_)]
    · rfl
    · have e : x.f0 = n := q.1
      have a1 : x.f1 ≤ v := q.2.1
      have a2 : v ≤ x.f2 := q.2.2
      have r1 := sane_range k1
      have r2 := sane_range k2
      rw [sane_iff]
      omega
theorem to_bad {step : Bool} {x : S23} (h : ¬ Good step x) (n v : Int) : toS x n v step = (0, false) := by
  unfold toS span_To.f
  rw [saneS_is]
  simp only [Option.bind_some]
  rw [if_neg h]
  rfl
theorem tell_snd (o : Option Int) : (tell o).2 = o.isSome := by cases o <;> rfl
/-- A canonical table. -/
theorem chk_iff (step : Bool) : ∀ (t : List S23), (∀ j, j < t.length → okAtS t step j = true) ↔ ((∀ x ∈ t, Good step x) ∧ (TS step).OD t ∧ (TS step).NJ t)
  | [] => ⟨fun _ => ⟨(fun x hx => by cases hx), trivial, trivial⟩, fun _ j hj => by cases hj⟩
  | [x] => by
    constructor
    · intro h
      have h0 : saneS x step = true := h 0 (Nat.zero_lt_one)
      have gx : Good step x := h0
      exact ⟨fun y hy => by obtain rfl := List.mem_singleton.1 hy; exact h0, ⟨gx.num.2.1.2.1, (fun y hy => by cases hy), trivial⟩, trivial⟩
    · rintro ⟨h, _, _⟩ j hj
      obtain rfl : j = 0 := by simpa using hj
      exact h x List.mem_cons_self
  | x :: y :: t => by
    have ih := chk_iff step (y :: t)
    have sh : ∀ j, 1 ≤ j → okAtS (x :: y :: t) step (j + 1) = okAtS (y :: t) step j := fun j hj => by
      obtain ⟨m, rfl⟩ : ∃ m, j = m + 1 := ⟨j - 1, by omega⟩
      rfl
    have s1 : okAtS (x :: y :: t) step 1 = (saneS y step && !badS x y step) := rfl
    have bad_iff : Good step x → Good step y → ((!badS x y step) = true ↔ ((TS step).bef x y ∧ ¬ (TS step).jn x y)) := fun gx gy => by
      have n1 := gx.num
      have n2 := gy.num
      unfold badS
      rw [Bool.not_eq_true', Bool.or_eq_false_iff, Bool.or_eq_false_iff, decide_eq_false_iff_not, Bool.and_eq_false_iff, beq_eq_false_iff_ne, decide_eq_false_iff_not, Bool.eq_false_iff, show ¬ (ordS x y ≥ 0) ↔ ordS x y < 0 from Int.not_le, ord_neg _ _ step]
      have hj := joins_iff gx gy
      show ((TS step).ahead x y.f0 y.f1 ∧ ((x.f0 ≠ y.f0 ∨ ¬ x.f2 ≥ y.f1) ∧ ¬ joinsS x y step = true)) ↔ _
      rw [hj]
      show (((x.f0 < y.f0 ∨ (x.f0 = y.f0 ∧ x.f1 < y.f1)) ∧ ((x.f0 ≠ y.f0 ∨ ¬ x.f2 ≥ y.f1) ∧ ¬ (TS step).jn x y)) ↔ ((x.f0 < y.f0 ∨ (x.f0 = y.f0 ∧ x.f2 < y.f1)) ∧ ¬ (TS step).jn x y))
      constructor
      · rintro ⟨a, b, c⟩
        exact ⟨by omega, c⟩
      · rintro ⟨a, c⟩
        exact ⟨by omega, by omega, c⟩
    constructor
    · intro h
      have g0 : Good step x := h 0 (by simp)
      have h1 := h 1 (by simp)
      rw [s1, Bool.and_eq_true] at h1
      have gy : Good step y := h1.1
      obtain ⟨i1, i2, i3⟩ := ih.1 (fun j hj => by
        cases j with
        | zero => exact gy
        | succ m =>
          rw [← sh (m + 1) (by omega)]
          exact h (m + 1 + 1) (by simp at hj ⊢; omega))
      obtain ⟨b1, b2⟩ := (bad_iff g0 gy).1 h1.2
      refine ⟨fun z hz => ?_, ⟨g0.num.2.1.2.1, fun z hz => ?_, i2⟩, b2, i3⟩
      · rcases List.mem_cons.1 hz with rfl | hz
        · exact g0
        · exact i1 z hz
      · rcases List.mem_cons.1 hz with rfl | hz
        · exact b1
        · have hl := i2.1
          rcases i2.2.1 z hz with k | ⟨k, k'⟩ <;> rcases b1 with b | ⟨b, b'⟩
          · exact .inl (by omega)
          · exact .inl (by omega)
          · exact .inl (by omega)
          · exact .inr ⟨by omega, by omega⟩
    · rintro ⟨h1, ⟨h2, h3, h4⟩, h5, h6⟩ j hj
      have gx := h1 x List.mem_cons_self
      have gy := h1 y (List.mem_cons_of_mem _ List.mem_cons_self)
      match j, hj with
      | 0, _ => exact gx
      | 1, _ =>
        rw [s1, Bool.and_eq_true]
        exact ⟨gy, (bad_iff gx gy).2 ⟨h3 y List.mem_cons_self, h5⟩⟩
      | m + 2, hj =>
        rw [sh (m + 1) (by omega)]
        exact ih.2 ⟨fun z hz => h1 z (List.mem_cons_of_mem _ hz), h4, h6⟩ (m + 1) (by simp at hj ⊢; omega)
theorem canon_iff (step : Bool) (t : List S23) : canonS t step = true ↔ ((∀ x ∈ t, Good step x) ∧ (TS step).OD t ∧ (TS step).NJ t) := by
  rw [← chk_iff]
  unfold canonS
  rw [List.all_eq_true]
  exact ⟨fun h j hj => h j (List.mem_range.2 hj), fun h j hj => h j (List.mem_range.1 hj)⟩
theorem find_canon {step : Bool} {t : List S23} (hc : canonS t step = true) (n v : Int) : findV t n v step = tell ((TS step).get t n v) := by
  obtain ⟨hg, ho, hj⟩ := (canon_iff step t).1 hc
  obtain ⟨p1, p2, p3⟩ := find_part ho (⟨n, v, 0, 0⟩ : S23)
  unfold findV
  rw [if_pos hc]
  generalize findS t ⟨n, v, 0, 0⟩ = k at p1 p2 p3 ⊢
  have hsp := List.take_append_drop k t
  by_cases hk : k < t.length ∧ ordS (elS t k) ⟨n, v, 0, 0⟩ = 0
  · rw [if_pos hk]
    obtain ⟨k1, k2⟩ := hk
    rw [el_get k1] at k2 ⊢
    obtain ⟨e1, e2⟩ := (ord_zero _ _).1 k2
    rw [to_good (hg _ (List.getElem_mem _))]
    have hh : (TS step).has t[k] n v := ⟨e1, Int.le_of_eq e2, by have h0 : t[k].f1 ≤ t[k].f2 := Tb.OD_lo _ ho _ (List.getElem_mem _); show v ≤ t[k].f2; have : t[k].f1 = v := e2; omega⟩
    rw [if_pos hh, Tb.get_of_mem _ ho (List.getElem_mem _) hh]
  · rw [if_neg hk]
    have hb : ∀ y b', t.drop k = y :: b' → ¬ ((TS step).n y = n ∧ (TS step).lo y = v) := by
      rintro y b' e ⟨e1, e2⟩
      have hl : k < t.length := by
        rcases Nat.lt_or_ge k t.length with h | h
        · exact h
        · rw [List.drop_eq_nil_of_le h] at e
          cases e
      rw [List.drop_eq_getElem_cons hl] at e
      obtain ⟨e3, _⟩ := List.cons.inj e
      refine hk ⟨hl, ?_⟩
      rw [el_get hl, e3, ord_zero]
      exact ⟨e1, e2⟩
    have ho2 := ho
    rw [← hsp] at ho2
    by_cases h0 : k = 0
    · rw [if_pos h0]
      subst h0
      rw [List.drop_zero] at p2 hb
      rw [Tb.find_first _ ho p2 hb]
      rfl
    · rw [if_neg h0]
      have hk1 : k - 1 < t.length := by omega
      rw [el_get hk1, to_good (hg _ (List.getElem_mem _))]
      have htk : t.take k = t.take (k - 1) ++ [t[k - 1]] := by
        have := take_snoc (l := t) hk1
        rwa [show k - 1 + 1 = k by omega] at this
      have hz : (TS step).ahead t[k - 1] n v := p1 _ (by rw [htk]; exact List.mem_append_right _ (List.mem_singleton.2 rfl))
      have hsp2 : t = t.take (k - 1) ++ t[k - 1] :: t.drop k := by
        conv => lhs; rw [← hsp, htk]
        rw [List.append_assoc]
        rfl
      have ho3 := ho
      rw [hsp2] at ho3
      have := Tb.find_miss _ ho3 hz p2 hb
      rw [← hsp2] at this
      rw [this]
theorem find_not {step : Bool} {t : List S23} (hc : ¬ canonS t step = true) (n v : Int) : findV t n v step = (0, false) := by
  unfold findV
  rw [if_neg hc]
/-! ### The loops -/
theorem joined_l0 (step : Bool) (t : List S23) (ht : t.length ≤ 1000000) : ∀ m i : Nat, i + m = t.length → ∀ (init : List S23) (p : S23), init.length ≤ i →
    Ev (fun k => span_joined.l0 k step (init ++ [p]) t (t.length : Int) (i : Int)) (init ++ (TS step).jr (fun a b => joinsS a b step) p (t.drop i))
  | 0, i, hi, init, p, hin => by
    refine Ev.step (fun k => rfl) ?_
    simp only [span_joined.l0]
    simp only [if_neg (show ¬ ((i : Int) < (t.length : Int)) by omega)]
    rw [List.drop_eq_nil_of_le (by omega)]
    exact Ev.now _
  | m + 1, i, hi, init, p, hin => by
    have hil : i < t.length := by omega
    have hlen : ((init ++ [p]).length : Int) = (init.length : Int) + 1 := by simp
    have hw : wrap64 ((init.length : Int) + 1 - 1) = (init.length : Int) := by rw [w64 (by omega) (by omega)]; omega
    have hrd : rd_T23 (init ++ [p]) (init.length : Int) = p := by
      rw [rd_get (by simp)]
      simp
    have hset : (init ++ [p]).set init.length ((TS step).ext1 p t[i]) = init ++ [(TS step).ext1 p t[i]] := by simp
    refine Ev.step (fun k => rfl) ?_
    simp only [span_joined.l0]
    simp only [hw, hrd, rd_get hil, hlen, Int.toNat_natCast, if_pos (show (i : Int) < (t.length : Int) by omega), if_pos (show (0 : Int) ≤ (i : Int) by omega), if_pos (show (init.length : Int) + 1 > 0 by omega), if_pos (show (0 : Int) ≤ (init.length : Int) by omega), if_pos (show (init.length : Int) < (init.length : Int) + 1 by omega), w64n (show i < 9223372036854775807 by omega)]
    rw [List.drop_eq_getElem_cons hil]
    unfold Tb.jr
    refine Ev.bind (a := joinsS p t[i] step) (Ev.congr (fun k => joinsS_is p t[i] step) (Ev.now _)) ?_
    by_cases hj : joinsS p t[i] step = true
    · simp only [if_pos hj]
      have := joined_l0 step t ht m (i + 1) (by omega) init ((TS step).ext1 p t[i]) (by omega)
      rw [← hset] at this
      exact this
    · simp only [if_neg hj]
      simp only [if_pos (show (init ++ [p]).length < 4398046511104 by rw [List.length_append, List.length_singleton]; omega)]
      have := joined_l0 step t ht m (i + 1) (by omega) (init ++ [p]) t[i] (by rw [List.length_append, List.length_singleton]; omega)
      rw [List.append_assoc init [p] ((TS step).jr (fun a b => joinsS a b step) t[i] (t.drop (i + 1)))] at this
      exact this
theorem joined_is (step : Bool) (t : List S23) (ht : t.length ≤ 1000000) : Ev (fun k => span_joined.f k t step) (joinedS step t) := by
  unfold span_joined.f joinedS
  cases t with
  | nil =>
    refine Ev.step (fun k => rfl) ?_
    simp only [span_joined.l0]
    simp only [List.length_nil, if_neg (show ¬ ((0 : Int) < ((0 : Nat) : Int)) by decide)]
    exact Ev.now _
  | cons s t =>
    refine Ev.step (fun k => rfl) ?_
    simp only [span_joined.l0]
    have h := joined_l0 step (s :: t) ht t.length 1 (by simp; omega) [] s (by simp)
    have r0 : rd_T23 (s :: t) 0 = s := rfl
    have w1 : wrap64 (0 + 1) = 1 := w64 (by omega) (by omega)
    simp only [r0, w1, List.length_nil, if_pos (show (0 : Int) < ((s :: t).length : Int) by rw [List.length_cons]; omega), if_pos (show (0 : Int) ≤ 0 by decide), if_neg (show ¬ (((0 : Nat) : Int) > 0) by decide), if_pos (show (0 : Nat) < 4398046511104 by decide)]
    exact h
theorem build_l0 (step : Bool) (l : List S23) (hl : l.length ≤ 10000) : ∀ m i : Nat, i + m = l.length → Ev (fun k => span_Build.l0 k step (foldS step [] (l.take i)) l (l.length : Int) (i : Int)) (buildS step l)
  | 0, i, hi => by
    obtain rfl : i = l.length := by omega
    obtain ⟨_, _, f3, _⟩ := fold_ok step l
    refine Ev.step (fun k => rfl) ?_
    simp only [span_Build.l0]
    simp only [if_neg (show ¬ ((l.length : Int) < (l.length : Int)) by omega)]
    rw [List.take_length]
    refine Ev.bind (joined_is step _ (by omega)) ?_
    exact Ev.now _
  | m + 1, i, hi => by
    have hil : i < l.length := by omega
    obtain ⟨f1, f2, f3, _⟩ := fold_ok step (l.take i)
    rw [List.length_take] at f3
    have ih := build_l0 step l hl m (i + 1) (by omega)
    rw [take_snoc hil] at ih
    have hf : foldS step [] (l.take i ++ [l[i]]) = if saneS l[i] step = true then overS (foldS step [] (l.take i)) l[i] step else foldS step [] (l.take i) := by
      unfold foldS
      rw [List.foldl_append]
      rfl
    rw [hf] at ih
    refine Ev.step (fun k => rfl) ?_
    simp only [span_Build.l0]
    simp only [rd_get hil, if_pos (show (i : Int) < (l.length : Int) by omega), if_pos (show (0 : Int) ≤ (i : Int) by omega), w64n (show i < 9223372036854775807 by omega)]
    refine Ev.bind (a := saneS l[i] step) (Ev.congr (fun k => saneS_is l[i] step) (Ev.now _)) ?_
    by_cases hs : saneS l[i] step = true
    · simp only [if_pos hs] at ih ⊢
      refine Ev.bind (a := overS (foldS step [] (l.take i)) l[i] step) (Ev.congr (fun k => ?_) (Ev.now _)) ih
      have gs : Good step l[i] := hs
      unfold span_over.f
      exact if_pos ⟨by omega, gs.small, List.all_eq_true.2 fun x hx => decide_eq_true (f2 x hx).small⟩
    · simp only [if_neg hs] at ih ⊢
      exact ih
theorem span_Build_is (step : Bool) (l : List S23) (hl : l.length ≤ 10000) : Ev (fun k => span_Build.f k l step) (buildS step l) := build_l0 step l hl l.length 0 (by omega)
theorem span_Find_is {l : List S23} (hl : l.length ≤ 10000) (n v : Int) (step : Bool) : Ev (fun _ => span_Find.f l n v step) (findV l n v step) := by
  unfold span_Find.f
  rw [if_pos (by omega)]
  exact Ev.now _
theorem span_Canon_is {l : List S23} (hl : l.length ≤ 10000) (step : Bool) : Ev (fun _ => span_Canon.f l step) (canonS l step) := by
  unfold span_Canon.f
  rw [if_pos (by omega)]
  exact Ev.now _
theorem build_canon (step : Bool) (l : List S23) : canonS (buildS step l) step = true := by
  obtain ⟨h1, h2, h3, _, _⟩ := build_ok step l
  exact (canon_iff step _).2 ⟨h3, h1, h2⟩
/-- What a table tells. -/
theorem find_build (step : Bool) (l : List S23) (n v : Int) : findV (buildS step l) n v step = tell ((TS step).get (lastL step l) n v) := by
  rw [find_canon (build_canon step l)]
  rw [(build_ok step l).2.2.2.2]
end Go.Proofs.YtehknkgplldiiaaQ
