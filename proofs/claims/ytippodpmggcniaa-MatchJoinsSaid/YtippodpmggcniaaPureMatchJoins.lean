/- Of any codespaces and text: each piece begins where the one ahead ends, has 1 to 4 bytes, and all of them joined are the text; behind any of them the rest is cut as it is alone. Conditions: none beyond the statement's own. -/
import Derived.Test.YtippodpmggcniaaQAllRef
import Derived.Test.YtippodpmggcniaaSMatchJoins
set_option linter.unusedVariables false
set_option linter.unusedSimpArgs false
namespace Go.Proofs.Ytippodpmggcniaa.Pure
open Go.RowKit Go.Proofs.Ytippodpmggcniaa.PAll Go.Proofs.YtippodpmggcniaaW.PrintWords Go.Proofs.YtippodpmggcniaaW.PrintLast Go.Proofs.YtippodpmggcniaaW.PrintMore Go.Proofs.YtippodpmggcniaaQ
theorem awakeJoins : Ev (fun k => hornbooklaw11_awake.f k) true := Ev.of (k := 40) (fun k => hornbooklaw11_awake.mono k) (by decide +kernel)
/-- One step of a text's cutting. -/
theorem allG_step (l : List Rect) (m a : Nat) (s : List Int) (hm : s.length ≤ a + m) (ha : a < s.length) : ∃ (m' j : Nat) (p : Piece), m = m' + 1 ∧ 1 ≤ j ∧ j ≤ 4 ∧ a + j ≤ s.length ∧ p.f0 = (a : Int) ∧ p.f1 = (j : Int) ∧
    allG l m (a : Int) (s.drop a) = p :: allG l m' ((a + j : Nat) : Int) (s.drop (a + j)) := by
  obtain ⟨m', rfl⟩ : ∃ x, m = x + 1 := ⟨m - 1, by omega⟩
  obtain ⟨j, hj, hj4, hjl, hj1, _, _⟩ := nextB_spec l (s.drop a)
  rw [List.length_drop] at hjl hj1
  have hj1 := hj1 (by omega)
  refine ⟨m', j, ⟨(a : Int), (nextB l (s.drop a)).1, (nextB l (s.drop a)).2, if (nextB l (s.drop a)).2 = true then ⟨(nextB l (s.drop a)).1, valN ((s.drop a).take (nextB l (s.drop a)).1.toNat)⟩ else ⟨0, 0⟩⟩, rfl, hj1, hj4, by omega, rfl, hj, ?_⟩
  · conv => lhs; unfold allG
    rw [List.length_drop, if_neg (show ¬ (s.length - a = 0) by omega), hj, Int.toNat_natCast, show (a : Int) + (j : Int) = ((a + j : Nat) : Int) by omega, List.drop_drop]
theorem allG_end (l : List Rect) (m a : Nat) (s : List Int) (ha : s.length ≤ a) : allG l m (a : Int) (s.drop a) = [] := by
  cases m with
  | zero => rfl
  | succ m =>
    unfold allG
    rw [List.length_drop, if_pos (by omega)]
theorem join_allG (l : List Rect) (s : List Int) : ∀ (m a : Nat), s.length ≤ a + m → a ≤ s.length → joinB (allG l m (a : Int) (s.drop a)) s = s.drop a
  | 0, a, hm, ha => by
    rw [allG_end l 0 a s (by omega), List.drop_of_length_le (by omega)]
    rfl
  | m + 1, a, hm, ha => by
    by_cases h : a < s.length
    · obtain ⟨m', j, p, hmm, h1, h4, hl, e0, e1, e⟩ := allG_step l (m + 1) a s hm h
      obtain rfl : m = m' := by omega
      rw [e]
      unfold joinB
      rw [List.flatMap_cons]
      have ih := join_allG l s m (a + j) (by omega) hl
      unfold joinB at ih
      rw [ih, e0, e1]
      unfold seg
      have hA : mn (mx 0 (a : Int)) (s.length : Int) = (a : Int) := by unfold mn mx; split <;> split <;> omega
      rw [hA, Int.toNat_natCast]
      have hB : mn (mx 0 (j : Int)) ((s.drop a).length : Int) = (j : Int) := by rw [List.length_drop]; unfold mn mx; split <;> split <;> omega
      rw [hB, Int.toNat_natCast, ← List.drop_drop, List.take_append_drop]
    · rw [allG_end l (m + 1) a s (by omega), List.drop_of_length_le (by omega)]
      rfl
/-- A place more. -/
def shift (a : Nat) (p : Piece) : Piece := ⟨(a : Int) + p.f0, p.f1, p.f2, p.f3⟩
theorem allG_shift (l : List Rect) (a : Nat) : ∀ (m m2 : Nat) (p : Nat) (s : List Int), s.length ≤ m → s.length ≤ m2 → allG l m ((a + p : Nat) : Int) s = (allG l m2 (p : Int) s).map (shift a)
  | 0, m2, p, s, h, h2 => by
    have hs : s = [] := List.eq_nil_of_length_eq_zero (by omega)
    subst hs
    cases m2 <;> simp [allG]
  | m + 1, m2, p, s, h, h2 => by
    by_cases hs : s.length = 0
    · have hs : s = [] := List.eq_nil_of_length_eq_zero hs
      subst hs
      cases m2 <;> simp [allG]
    · obtain ⟨m2, rfl⟩ : ∃ x, m2 = x + 1 := ⟨m2 - 1, by omega⟩
      obtain ⟨j, hj, hj4, hjl, hj1, _, _⟩ := nextB_spec l s
      have hj1 := hj1 (by omega)
      unfold allG
      rw [if_neg hs, if_neg hs, List.map_cons, hj, Int.toNat_natCast]
      rw [show ((a + p : Nat) : Int) + (j : Int) = ((a + (p + j) : Nat) : Int) by omega, show (p : Int) + (j : Int) = ((p + j : Nat) : Int) by omega]
      rw [allG_shift l a m m2 (p + j) (s.drop j) (by rw [List.length_drop]; omega) (by rw [List.length_drop]; omega)]
      congr 1
/-- What lies behind the first i pieces. -/
theorem allB_drop (l : List Rect) (s : List Int) : ∀ i : Nat, i ≤ (allB l s).length → ∃ a m : Nat, (allB l s).drop i = allG l m (a : Int) (s.drop a) ∧ s.length ≤ a + m ∧ a ≤ s.length
  | 0, _ => ⟨0, s.length, by rw [List.drop_zero, List.drop_zero]; rfl, by omega, by omega⟩
  | i + 1, h => by
    obtain ⟨a, m, e, hm, ha⟩ := allB_drop l s i (by omega)
    have hi : i < (allB l s).length := by omega
    rw [List.drop_eq_getElem_cons hi] at e
    have hlt : a < s.length := by
      refine Nat.lt_of_not_le fun hle => ?_
      rw [allG_end l m a s hle] at e
      cases e
    obtain ⟨m', j, p, hmm, h1, h4, hl, e0, e1, e2⟩ := allG_step l m a s hm hlt
    rw [e2] at e
    exact ⟨a + j, m', (List.cons.inj e).2, by omega, hl⟩
theorem allB_get (l : List Rect) (s : List Int) (i : Nat) (hi : i < (allB l s).length) : ∃ a m j : Nat, (allB l s)[i].f0 = (a : Int) ∧ (allB l s)[i].f1 = (j : Int) ∧ 1 ≤ j ∧ j ≤ 4 ∧ a + j ≤ s.length ∧ s.length ≤ a + m ∧
    (allB l s).drop i = allG l m (a : Int) (s.drop a) ∧ ∀ b m2 : Nat, (allB l s).drop i = allG l m2 (b : Int) (s.drop b) → s.length ≤ b + m2 → b ≤ s.length → b = a := by
  obtain ⟨a, m, e, hm, ha⟩ := allB_drop l s i (by omega)
  have e' := e
  rw [List.drop_eq_getElem_cons hi] at e
  have hlt : ∀ b m2 : Nat, (allB l s).drop i = allG l m2 (b : Int) (s.drop b) → b < s.length := by
    intro b m2 hb
    refine Nat.lt_of_not_le fun hle => ?_
    rw [allG_end l m2 b s hle, List.drop_eq_getElem_cons hi] at hb
    cases hb
  obtain ⟨m', j, p, hmm, h1, h4, hl, e0, e1, e2⟩ := allG_step l m a s hm (hlt a m e')
  rw [e2] at e
  have ep := (List.cons.inj e).1
  refine ⟨a, m, j, by rw [ep]; exact e0, by rw [ep]; exact e1, h1, h4, hl, hm, e', fun b m2 hb hbm hbl => ?_⟩
  obtain ⟨m3, j3, p3, _, _, _, _, f0, _, f2⟩ := allG_step l m2 b s hbm (hlt b m2 hb)
  rw [f2, List.drop_eq_getElem_cons hi] at hb
  have := (List.cons.inj hb).1
  rw [ep] at this
  rw [this] at e0
  omega
theorem bits_low (x : Int) : 0 ≤ Go.bits .and .i64 x 65535 := by
  have h : ((BitVec.ofInt IntKind.i64.bits x &&& BitVec.ofInt IntKind.i64.bits 65535).toNat) ≤ 65535 := by
    rw [BitVec.toNat_and]
    exact Nat.le_trans Nat.and_le_right (by decide +kernel)
  have e : Go.bits .and .i64 x 65535 = IntKind.i64.wrap (((BitVec.ofInt IntKind.i64.bits x &&& BitVec.ofInt IntKind.i64.bits 65535).toNat : Nat) : Int) := rfl
  rw [e, wraps_i64 _ (by omega) (by omega)]
  omega
theorem joins_l1 (l : List Rect) (s : List Int) (hs : s.length ≤ 300) (i a m : Nat) (hi : i < (allB l s).length) (hlen : (allB l s).length ≤ 300) (ha : (allB l s)[i].f0 = (a : Int)) (hal : a ≤ s.length)
    (hd : (allB l s).drop i = (allB l (s.drop a)).map (shift a)) : ∀ n j : Nat, j + n = (allB l (s.drop a)).length →
    Ev (fun k => hornbooklaw11_MatchJoins.l1 k true (allB l s) (i : Int) ((allB l (s.drop a)).map conv) (j : Int)) true
  | 0, j, h => by
    refine Ev.step (fun k => rfl) ?_
    simp only [hornbooklaw11_MatchJoins.l1, List.length_map]
    simp only [if_neg (show ¬ ((j : Int) < ((allB l (s.drop a)).length : Int)) by omega)]
    exact Ev.now _
  | n + 1, j, h => by
    have hj : j < (allB l (s.drop a)).length := by omega
    have hl2 : (allB l s).length - i = (allB l (s.drop a)).length := by
      have := congrArg List.length hd
      rwa [List.length_drop, List.length_map] at this
    have hij : i + j < (allB l s).length := by omega
    have hget : (allB l s)[i + j] = shift a (allB l (s.drop a))[j] := by
      have h1 : ((allB l s).drop i)[j]? = some (allB l s)[i + j] := by rw [List.getElem?_drop, List.getElem?_eq_getElem hij]
      rw [hd, List.getElem?_map, List.getElem?_eq_getElem hj] at h1
      exact (Option.some.inj h1).symm
    refine Ev.step (fun k => rfl) ?_
    simp only [hornbooklaw11_MatchJoins.l1, List.length_map]
    simp only [if_pos (show (j : Int) < ((allB l (s.drop a)).length : Int) by omega)]
    rw [w64 (n := (i : Int) + (j : Int)) (by omega) (by omega), w64 (n := (i : Int) + (j : Int) + 1) (by omega) (by omega)]
    rw [show (i : Int) + (j : Int) + 1 = ((i + j + 1 : Nat) : Int) by omega, show (i : Int) + (j : Int) = ((i + j : Nat) : Int) by omega]
    simp only [if_pos (show (0 : Int) ≤ ((i + j : Nat) : Int) by omega), if_pos (show ((i + j : Nat) : Int) ≤ ((i + j + 1 : Nat) : Int) by omega), if_pos (show ((i + j + 1 : Nat) : Int) ≤ ((allB l s).length : Int) by omega), Int.toNat_natCast]
    have hone : ((allB l s).take (i + j + 1)).drop (i + j) = [(allB l s)[i + j]] := by
      rw [List.drop_take, show i + j + 1 - (i + j) = 1 by omega, List.drop_eq_getElem_cons hij, List.take_succ_cons, List.take_zero]
    rw [hone]
    refine Ev.bind (cut_is _ (by simp)) ?_
    simp only [List.map_cons, List.map_nil, List.length_singleton, if_pos (show (0 : Int) < ((1 : Nat) : Int) by omega), if_pos (show (0 : Int) ≤ (i : Int) by omega), if_pos (show (i : Int) < ((allB l s).length : Int) by omega), if_pos (show (0 : Int) ≤ (j : Int) by omega)]
    rw [rdP_nat hi, rdR_nat (l := (allB l (s.drop a)).map conv) (by rw [List.length_map]; exact hj), List.getElem_map]
    rw [show rd_T49 [conv (allB l s)[i + j]] 0 = conv (allB l s)[i + j] from rfl, hget, ha]
    have hjj : j ≤ (allB l (s.drop a)).length := by omega
    obtain ⟨a2, m2, j2, e0, e1, q1, q4, ql, _⟩ := allB_get l (s.drop a) j hj
    rw [List.length_drop] at ql
    have e2 : wrap64 ((conv (shift a (allB l (s.drop a))[j])).f0 - (a : Int)) = (conv (allB l (s.drop a))[j]).f0 := by
      show wrap64 ((a : Int) + (allB l (s.drop a))[j].f0 - (a : Int)) = (allB l (s.drop a))[j].f0
      rw [e0, w64 (by omega) (by omega)]
      omega
    rw [e2]
    have e3 : (conv (shift a (allB l (s.drop a))[j])).f1 = (conv (allB l (s.drop a))[j]).f1 := rfl
    have e4 : (conv (shift a (allB l (s.drop a))[j])).f2 = (conv (allB l (s.drop a))[j]).f2 := rfl
    have e5 : (conv (shift a (allB l (s.drop a))[j])).f3 = (conv (allB l (s.drop a))[j]).f3 := rfl
    rw [e3, e4, e5]
    simp only [beq_self_eq_true, Bool.not_true, Bool.or_self, if_neg (show ¬ (false = true) by decide)]
    rw [w64n (by omega)]
    exact joins_l1 l s hs i a m hi hlen ha hal hd n (j + 1) (by omega)
theorem joins_j2 (l : List Rect) (hl : l.length ≤ 60) (s : List Int) (hb : Bytes s) (hs : s.length ≤ 300) (x : Int) : Ev (fun k => hornbooklaw11_MatchJoins.j2 k l s x true (allB l s) (((allB l s).length : Int) == 0)) true := by
  have hlen : (allB l s).length ≤ s.length := allG_le l _ _ _
  refine Ev.step (fun k => rfl) ?_
  simp only [hornbooklaw11_MatchJoins.j2]
  by_cases h0 : (allB l s).length = 0
  · have h1 : (((allB l s).length : Int) == 0) = true := by rw [beq_iff_eq]; omega
    have hs0 : s.length = 0 := by
      refine Nat.eq_zero_of_not_pos fun hp => ?_
      obtain ⟨m', j, p, _, _, _, _, _, _, e⟩ := allG_step l s.length 0 s (by omega) hp
      rw [List.drop_zero] at e
      have : (allB l s).length = _ := congrArg List.length e
      rw [h0] at this
      cases this
    simp only [h1, if_true, if_pos (show (s.length : Int) = 0 by omega)]
    exact Ev.now _
  · have h1 : (((allB l s).length : Int) == 0) = false := by rw [beq_eq_false_iff_ne]; omega
    simp only [h1, if_neg (show ¬ (false = true) by decide), if_neg (show ¬ (((allB l s).length : Int) = 0) by omega)]
    have hx := bits_low x
    have hmod : Int.tmod (Go.bits .and .i64 x 65535) ((allB l s).length : Int) = (Go.bits .and .i64 x 65535) % ((allB l s).length : Int) := Int.tmod_eq_emod_of_nonneg hx
    have hm0 := Int.emod_nonneg (Go.bits .and .i64 x 65535) (show ((allB l s).length : Int) ≠ 0 by omega)
    have hm1 := Int.emod_lt_of_pos (Go.bits .and .i64 x 65535) (show (0 : Int) < ((allB l s).length : Int) by omega)
    rw [hmod]
    generalize (Go.bits .and .i64 x 65535) % ((allB l s).length : Int) = I at *
    obtain ⟨i, rfl⟩ := Int.eq_ofNat_of_zero_le hm0
    have hi : i < (allB l s).length := by omega
    obtain ⟨a, m, j, e0, e1, q1, q4, ql, qm, qd, _⟩ := allB_get l s i hi
    simp only [if_pos hm0, if_pos hm1]
    rw [rdP_nat hi, e0]
    simp only [if_pos (show (0 : Int) ≤ (a : Int) by omega), if_pos (show (a : Int) ≤ (s.length : Int) by omega), Int.toNat_natCast]
    have hd : (allB l s).drop i = (allB l (s.drop a)).map (shift a) := by
      rw [qd]
      have := allG_shift l a m (s.drop a).length 0 (s.drop a) (by rw [List.length_drop]; omega) (by omega)
      rw [show ((a + 0 : Nat) : Int) = (a : Int) by omega] at this
      exact this
    have hl2 : (allB l s).length - i = (allB l (s.drop a)).length := by
      have := congrArg List.length hd
      rwa [List.length_drop, List.length_map] at this
    refine Ev.bind (match_All_is l (by omega) (s.drop a) (hb.drop a) (by rw [List.length_drop]; omega)) ?_
    refine Ev.bind (cut_is (allB l (s.drop a)) (by omega)) ?_
    rw [w64 (n := ((allB l s).length : Int) - (i : Int)) (by omega) (by omega), List.length_map]
    simp only [if_pos (show (((allB l (s.drop a)).length : Nat) : Int) = ((allB l s).length : Int) - (i : Int) by omega)]
    exact joins_l1 l s hs i a m hi (by omega) e0 (by omega) hd _ 0 (Nat.zero_add _)
theorem joins_l0 (l : List Rect) (hl : l.length ≤ 60) (s : List Int) (hb : Bytes s) (hs : s.length ≤ 300) (x : Int) : ∀ n i a m : Nat, i + n = (allB l s).length → (allB l s).drop i = allG l m (a : Int) (s.drop a) → s.length ≤ a + m → a ≤ s.length →
    Ev (fun k => hornbooklaw11_MatchJoins.l0 k l s x true (allB l s) (a : Int) (i : Int)) true
  | 0, i, a, m, h, hd, hm, ha => by
    have hlen : (allB l s).length ≤ s.length := allG_le l _ _ _
    have haL : a = s.length := by
      refine Nat.le_antisymm ha (Nat.le_of_not_lt fun hlt => ?_)
      obtain ⟨m', j, p, _, _, _, _, _, _, e⟩ := allG_step l m a s hm hlt
      rw [List.drop_of_length_le (by omega), e] at hd
      cases hd
    refine Ev.step (fun k => rfl) ?_
    simp only [hornbooklaw11_MatchJoins.l0]
    simp only [if_neg (show ¬ ((i : Int) < ((allB l s).length : Int)) by omega), if_pos (show (a : Int) = (s.length : Int) by omega)]
    refine Ev.bind (match_Join_is s hs (allB l s) (by omega)) ?_
    have hj : joinB (allB l s) s = s := by
      have := join_allG l s s.length 0 (by omega) (by omega)
      rwa [List.drop_zero] at this
    rw [hj]
    simp only [if_true]
    exact joins_j2 l hl s hb hs x
  | n + 1, i, a, m, h, hd, hm, ha => by
    have hlen : (allB l s).length ≤ s.length := allG_le l _ _ _
    have hi : i < (allB l s).length := by omega
    obtain ⟨a2, m2, j, e0, e1, q1, q4, ql, qm, qd, qu⟩ := allB_get l s i hi
    have haa := qu a m hd hm ha
    subst haa
    obtain ⟨m', j', p, _, _, _, ql', _, f1, f2⟩ := allG_step l m a s hm (by omega)
    have hd' := hd
    rw [f2, List.drop_eq_getElem_cons hi] at hd'
    have hp := (List.cons.inj hd').1
    have hjj : j' = j := by
      rw [hp] at e1
      omega
    subst hjj
    refine Ev.step (fun k => rfl) ?_
    simp only [hornbooklaw11_MatchJoins.l0]
    simp only [if_pos (show (i : Int) < ((allB l s).length : Int) by omega), if_pos (show (0 : Int) ≤ (i : Int) by omega)]
    rw [rdP_nat hi, e0, e1]
    simp only [if_true, if_neg (show ¬ ((j' : Int) < 1) by omega), if_neg (show ¬ ((j' : Int) > 4) by omega)]
    rw [w64 (n := (a : Int) + (j' : Int)) (by omega) (by omega), w64n (by omega), show (a : Int) + (j' : Int) = ((a + j' : Nat) : Int) by omega]
    exact joins_l0 l hl s hb hs x n (i + 1) (a + j') m' (by omega) (List.cons.inj hd').2 (by omega) ql'
theorem MatchJoins : hornbooklaw11_MatchJoins.Pure := by
  rintro l s x ⟨hlm, hlw⟩ ⟨hsm, hsw⟩ hx
  have hb : Bytes s := fun x hx => byte_wf (hsw x hx)
  refine Ev.rounds (g := fun k => hornbooklaw11_MatchJoins.f k l s x) ?_
  unfold hornbooklaw11_MatchJoins.f
  refine Ev.bind awakeJoins ?_
  have out : Ev (fun k => hornbooklaw11_MatchJoins.j0 k l s x true true) true := by
    refine Ev.step (fun k => rfl) ?_
    simp only [hornbooklaw11_MatchJoins.j0, if_true]
    exact Ev.now _
  by_cases hl : (l.length : Int) > 60
  · simp only [if_pos hl]
    exact out
  · simp only [if_neg hl]
    by_cases hs : (s.length : Int) > 300
    · rw [decide_eq_true hs]
      exact out
    · rw [decide_eq_false hs]
      refine Ev.step (fun k => rfl) ?_
      simp only [hornbooklaw11_MatchJoins.j0, if_neg (show ¬ (false = true) by decide)]
      refine Ev.bind (match_All_is l (by omega) s hb (by omega)) ?_
      exact joins_l0 l (by omega) s hb (by omega) x _ 0 0 s.length (Nat.zero_add _) (by rw [List.drop_zero, List.drop_zero]; rfl) (by omega) (by omega)
end Go.Proofs.Ytippodpmggcniaa.Pure
