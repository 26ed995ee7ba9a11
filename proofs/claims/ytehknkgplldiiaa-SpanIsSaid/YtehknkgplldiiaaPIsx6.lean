-- made by xprint.py of this session
import Derived.Test.YtehknkgplldiiaaPIsx0
import Derived.Test.YtehknkgplldiiaaPIsx2
import Derived.Test.YtehknkgplldiiaaPIsx5
import Derived.RangeFuncNested
import Derived.RangeFuncBound
import Derived.RangeFuncCalls
import Derived.Shelf.Abstract
import Derived.Shelf.RegionOpen
import Derived.OwnWalkIn
import Derived.TacticsInMore
import Derived.LoopNIn
import Derived.LoopIn
import Derived.WalkKit
namespace Go.Proofs.Ytehknkgplldiiaa.PIs
open Go.RowKit Go.Proofs.YtehknkgplldiiaaW.PrintWords Go.Proofs.YtehknkgplldiiaaW.PrintLast Go.Proofs.YtehknkgplldiiaaW.PrintMore
attribute [local go_sem] max2_int min2_int max_two min_two max_three min_three max_four min_four   -- for this text's walks alone
set_option linter.unusedVariables false
set_option linter.unusedSimpArgs false

/-! ### EXT span_left: function 38 -/
-- IMPORTS Derived.RangeFuncNested;Derived.RangeFuncBound;Derived.RangeFuncCalls;Derived.Shelf.Abstract;Derived.Shelf.RegionOpen;Derived.OwnWalkIn;Derived.TacticsInMore;Derived.LoopNIn;Derived.LoopIn;Derived.WalkKit
/-! span.left: the parts of a span that another one leaves: a closure. -/
attribute [local go_sem] Oper.semAt_some
/-- No number of a span so great that a sum of two goes round. -/
def smallS (x : S23) : Prop := (-1099511627776 ≤ x.f1 ∧ x.f1 ≤ 1099511627776) ∧ (-1099511627776 ≤ x.f2 ∧ x.f2 ≤ 1099511627776) ∧ (-1099511627776 ≤ x.f3 ∧ x.f3 ≤ 1099511627776)
def riseI (d : Int) (step : Bool) : Int := if step = true then d else 0
def partS (x : S23) (lo hi : Int) (step : Bool) : S23 := ⟨x.f0, lo, hi, x.f3 + riseI (lo - x.f1) step⟩
def apartS (x s : S23) : Bool := x.f0 != s.f0 || (decide (x.f2 < s.f1) || decide (x.f1 > s.f2))
def leftS (x s : S23) (step : Bool) : List S23 :=
  if apartS x s = true then [x] else (if x.f1 < s.f1 then [partS x x.f1 (s.f1 - 1) step] else []) ++ (if x.f2 > s.f2 then [partS x (s.f2 + 1) x.f2 step] else [])
theorem part_any (x : S23) (lo hi : Int) (step : Bool) (w : World) (hx : smallS x) (h0 : -1099511627777 ≤ lo) (h1 : lo ≤ 1099511627777) :
    Calls Try.prog 46 #[.agg #[.int .i64 x.f0, .int .i64 x.f1, .int .i64 x.f2, .int .i64 x.f3], .int .i64 lo, .int .i64 hi, .bool step] w fun e w' => e = .returned (.agg #[.int .i64 (partS x lo hi step).f0, .int .i64 (partS x lo hi step).f1, .int .i64 (partS x lo hi step).f2, .int .i64 (partS x lo hi step).f3]) ∧ Below w.heap.size w w' := by
  refine span_part.calls _ _ _ _ _ _ _ _ _ _ _ w ?_
  have e1 : wrap64 (lo - x.f1) = lo - x.f1 := by have := hx.1; unfold wrap64; omega
  unfold span_part.f span_rise.f partS riseI
  rw [e1]
  cases step with
  | true =>
    have e2 : wrap64 (x.f3 + (lo - x.f1)) = x.f3 + (lo - x.f1) := by have := hx.1; have := hx.2.2; unfold wrap64; omega
    rw [if_pos rfl, Option.bind_some, e2, if_pos rfl]
  | false =>
    have e2 : wrap64 (x.f3 + 0) = x.f3 + 0 := by have := hx.2.2; unfold wrap64; omega
    rw [if_neg (by decide), Option.bind_some, e2, if_neg (by decide)]
set_option maxRecDepth 100000 in
set_option maxHeartbeats 2000000 in
theorem left_calls (x s : S23) (step : Bool) (w : World) :
    Calls Try.prog 38 #[.agg #[.int .i64 x.f0, .int .i64 x.f1, .int .i64 x.f2, .int .i64 x.f3], .agg #[.int .i64 s.f0, .int .i64 s.f1, .int .i64 s.f2, .int .i64 s.f3], .bool step] w fun e w' =>
      e = .returned (.func (.func 45) #[] #[.pointer (some ⟨w.heap.size, 0, none⟩), .pointer (some ⟨w.heap.size + 1, 0, none⟩), .pointer (some ⟨w.heap.size + 2, 0, none⟩)]) ∧
      w' = ((w.alloc (.cells #[.int .i64 x.f0, .int .i64 x.f1, .int .i64 x.f2, .int .i64 x.f3] 23)).alloc (.cells #[.int .i64 s.f0, .int .i64 s.f1, .int .i64 s.f2, .int .i64 s.f3] 23)).alloc (.cells #[.bool step] 4) := by
  have hu := Try.underlying23
  go_enter Try.func38, Try.ntmps38
  go_wp2
  go_ret
  exact ⟨rfl, rfl⟩
/-- Three blocks lie as they lay. -/
def Kp3 (a b c : Nat) (W W' : World) : Prop := W'.heap[a]? = W.heap[a]? ∧ W'.heap[b]? = W.heap[b]? ∧ W'.heap[c]? = W.heap[c]?
theorem Kp3.trans {a b c : Nat} {A B C : World} (h : Kp3 a b c A B) (k : Kp3 a b c B C) : Kp3 a b c A C := ⟨k.1.trans h.1, k.2.1.trans h.2.1, k.2.2.trans h.2.2⟩
theorem abides_below {J : List S23 → World → Prop} {B : Nat} (hJ : AbidesFrom B J) {pre : List S23} {W W' : World} (h : J pre W) (hb : Below W.heap.size W W') : J pre W' :=
  hJ pre W W' none h ⟨hb.os, hb.tape, hb.output, hb.size, fun k hk _ => hb.block k hk⟩ (fun _ e => by cases e)
set_option maxRecDepth 100000 in
set_option maxHeartbeats 4000000 in
/-- span.left's closure, at every body that keeps the three blocks. -/
theorem left1 (n : Nat) (hn : 2 ≤ n) (l a b c : Nat) (x s : S23) (step : Bool) (hx : smallS x) (hs : smallS s) (J Jx : List S23 → World → Prop)
    (hY : ∀ pre (y : S23) W, J pre W → pre.length < 3 → YieldAt Fence.wide (n - 1) Try.prog l #[.agg #[.int .i64 y.f0, .int .i64 y.f1, .int .i64 y.f2, .int .i64 y.f3]] W fun e W' =>
      (e = .returned (.bool true) ∧ J (pre ++ [y]) W' ∧ Kp3 a b c W W') ∨ (e = .returned (.bool false) ∧ Jx (pre ++ [y]) W'))
    (W : World) (hJ : AbidesFrom W.heap.size J) (ha : W.heap[a]? = some (.cells #[.int .i64 x.f0, .int .i64 x.f1, .int .i64 x.f2, .int .i64 x.f3] 23 (0, 0))) (hb : W.heap[b]? = some (.cells #[.int .i64 s.f0, .int .i64 s.f1, .int .i64 s.f2, .int .i64 s.f3] 23 (0, 0))) (hc : W.heap[c]? = some (.cells #[.bool step] 4 (0, 0))) (h0 : J [] W) :
    CallsIn Fence.wide n Try.prog 45 #[.func (.yield l) #[] #[], .pointer (some ⟨a, 0, none⟩), .pointer (some ⟨b, 0, none⟩), .pointer (some ⟨c, 0, none⟩)] W fun e W' => (∃ v, e = .returned v) ∧
      ((∃ ys, ys = leftS x s step ∧ J ys W') ∨ (∃ pre, True ∧ Jx pre W')) := by
  have hu := Try.underlying23
  have hn1 : 1 ≤ n := by omega
  obtain ⟨x0, x1, x2, x3⟩ := x
  obtain ⟨s0, s1, s2, s3⟩ := s
  dsimp only at ha hb
  have cx0 : W.cell? ⟨a, 0, none⟩ = some (.int .i64 x0) := (blk_cell ha 0).trans rfl
  have cx1 : W.cell? ⟨a, 1, none⟩ = some (.int .i64 x1) := (blk_cell ha 1).trans rfl
  have cx2 : W.cell? ⟨a, 2, none⟩ = some (.int .i64 x2) := (blk_cell ha 2).trans rfl
  have cx3 : W.cell? ⟨a, 3, none⟩ = some (.int .i64 x3) := (blk_cell ha 3).trans rfl
  have cs0 : W.cell? ⟨b, 0, none⟩ = some (.int .i64 s0) := (blk_cell hb 0).trans rfl
  have cs1 : W.cell? ⟨b, 1, none⟩ = some (.int .i64 s1) := (blk_cell hb 1).trans rfl
  have cs2 : W.cell? ⟨b, 2, none⟩ = some (.int .i64 s2) := (blk_cell hb 2).trans rfl
  have cs3 : W.cell? ⟨b, 3, none⟩ = some (.int .i64 s3) := (blk_cell hb 3).trans rfl
  have cc0 : W.cell? ⟨c, 0, none⟩ = some (.bool step) := (blk_cell hc 0).trans rfl
  refine callsIn_of_wp Try.func45 rfl trivial ?_ rfl
  simp only [Try.ntmps45, List.size_toArray, List.length_cons, List.length_nil, Nat.reduceAdd, Nat.reduceSub, Array.replicate_succ, Array.replicate_zero, List.push_toArray, List.append_toArray, List.nil_append, List.cons_append]
  have A1 : smallS (⟨x0, x1, x2, x3⟩ : S23) := hx
  have A2 : smallS (⟨s0, s1, s2, s3⟩ : S23) := hs
  by_cases hap : apartS (⟨x0, x1, x2, x3⟩ : S23) (⟨s0, s1, s2, s3⟩ : S23) = true
  · have e : leftS (⟨x0, x1, x2, x3⟩ : S23) (⟨s0, s1, s2, s3⟩ : S23) step = [(⟨x0, x1, x2, x3⟩ : S23)] := if_pos hap
    rw [e]
    obtain ⟨fn, tmps, assign, body, hy, hR⟩ := hY [] (⟨x0, x1, x2, x3⟩ : S23) W h0 (by decide)
    (try dsimp only at hy)
    by_cases c1 : x0 = s0
    · have b1 : (x0 != s0) = false := bne_eq_false_iff_eq.mpr c1
      subst c1
      by_cases c2 : x2 < s1
      · have b2 : decide (x2 < s1) = true := decide_eq_true c2
        clear e hap A1 A2 hx hs
        gi_wp2
        refine hR.mono ?_
        rintro e W3 (⟨rfl, hJ3, _⟩ | ⟨rfl, hJx3⟩)
        · gi_wp2
          refine bodyPost_ret (results_none rfl _ _ _) rfl ?_
          exact ⟨⟨_, rfl⟩, .inl ⟨[(⟨x0, x1, x2, x3⟩ : S23)], rfl, hJ3⟩⟩
        · gi_wp2
          refine bodyPost_ret (results_none rfl _ _ _) rfl ?_
          exact ⟨⟨_, rfl⟩, .inr ⟨_, trivial, hJx3⟩⟩
      · have b2 : decide (x2 < s1) = false := decide_eq_false c2
        by_cases c3 : x1 > s2
        · have b3 : decide (x1 > s2) = true := decide_eq_true c3
          clear e hap A1 A2 hx hs
          gi_wp2
          refine hR.mono ?_
          rintro e W3 (⟨rfl, hJ3, _⟩ | ⟨rfl, hJx3⟩)
          · gi_wp2
            refine bodyPost_ret (results_none rfl _ _ _) rfl ?_
            exact ⟨⟨_, rfl⟩, .inl ⟨[(⟨x0, x1, x2, x3⟩ : S23)], rfl, hJ3⟩⟩
          · gi_wp2
            refine bodyPost_ret (results_none rfl _ _ _) rfl ?_
            exact ⟨⟨_, rfl⟩, .inr ⟨_, trivial, hJx3⟩⟩
        · exact absurd hap (by simp [apartS, c2, c3])
    · have b1 : (x0 != s0) = true := bne_iff_ne.mpr c1
      clear e hap A1 A2 hx hs
      gi_wp2
      refine hR.mono ?_
      rintro e W3 (⟨rfl, hJ3, _⟩ | ⟨rfl, hJx3⟩)
      · gi_wp2
        refine bodyPost_ret (results_none rfl _ _ _) rfl ?_
        exact ⟨⟨_, rfl⟩, .inl ⟨[(⟨x0, x1, x2, x3⟩ : S23)], rfl, hJ3⟩⟩
      · gi_wp2
        refine bodyPost_ret (results_none rfl _ _ _) rfl ?_
        exact ⟨⟨_, rfl⟩, .inr ⟨_, trivial, hJx3⟩⟩
  · have hna : ¬ (x0 ≠ s0) ∧ ¬ x2 < s1 ∧ ¬ x1 > s2 := by
      unfold apartS at hap
      simp only [Bool.or_eq_true, bne_iff_ne, decide_eq_true_eq] at hap
      omega
    have e : leftS (⟨x0, x1, x2, x3⟩ : S23) (⟨s0, s1, s2, s3⟩ : S23) step = (if x1 < s1 then [(partS (⟨x0, x1, x2, x3⟩ : S23) x1 (s1 - 1) step)] else []) ++ (if x2 > s2 then [(partS (⟨x0, x1, x2, x3⟩ : S23) (s2 + 1) x2 step)] else []) := if_neg hap
    rw [e]
    obtain ⟨n1, n2, n3⟩ := hna
    have n1 : x0 = s0 := by omega
    subst n1
    have b1 : (x0 != x0) = false := bne_self_eq_false x0
    have b2 : decide (x2 < s1) = false := decide_eq_false n2
    have b3 : decide (x1 > s2) = false := decide_eq_false n3
    have B1 : -1099511627776 ≤ s1 ∧ s1 ≤ 1099511627776 := hs.1
    have B2 : -1099511627776 ≤ s2 ∧ s2 ≤ 1099511627776 := hs.2.1
    have B3 : -1099511627776 ≤ x1 ∧ x1 ≤ 1099511627776 := hx.1
    clear e hap A2 hx hs
    by_cases d1 : x1 < s1
    · have f1 : decide (x1 < s1) = true := decide_eq_true d1
      by_cases d2 : x2 > s2
      · have f2 : decide (x2 > s2) = true := decide_eq_true d2
        rw [show (if x1 < s1 then [(partS (⟨x0, x1, x2, x3⟩ : S23) x1 (s1 - 1) step)] else []) ++ (if x2 > s2 then [(partS (⟨x0, x1, x2, x3⟩ : S23) (s2 + 1) x2 step)] else []) = [(partS (⟨x0, x1, x2, x3⟩ : S23) x1 (s1 - 1) step), (partS (⟨x0, x1, x2, x3⟩ : S23) (s2 + 1) x2 step)] by rw [if_pos d1, if_pos d2]; rfl]
        gi_wp2_with (refine ⟨trivial, ?_⟩; gi_at_call 46; refine (callsIn_wide.2 (part_any (⟨x0, x1, x2, x3⟩ : S23) x1 (s1 - 1) step _ A1 (by omega) (by omega))).mono ?_; rintro e W2 ⟨rfl, hbel⟩; have hJ2 := abides_below hJ h0 hbel; obtain ⟨fn, tmps, assign, body, hy, hR⟩ := hY [] (partS (⟨x0, x1, x2, x3⟩ : S23) x1 (s1 - 1) step) _ hJ2 (by simp); (try dsimp only at hy))
        refine hR.mono ?_
        rintro e W3 (⟨rfl, hJ3, hk⟩ | ⟨rfl, hJx3⟩)
        · have la := (Array.getElem?_eq_some_iff.1 ha).1
          have lb := (Array.getElem?_eq_some_iff.1 hb).1
          have lc := (Array.getElem?_eq_some_iff.1 hc).1
          replace cx0 := (World.cell?_of_block (w' := W3) (a := ⟨a, 0, none⟩) (hk.1.trans (hbel.block a la))).trans cx0
          replace cx1 := (World.cell?_of_block (w' := W3) (a := ⟨a, 1, none⟩) (hk.1.trans (hbel.block a la))).trans cx1
          replace cx2 := (World.cell?_of_block (w' := W3) (a := ⟨a, 2, none⟩) (hk.1.trans (hbel.block a la))).trans cx2
          replace cx3 := (World.cell?_of_block (w' := W3) (a := ⟨a, 3, none⟩) (hk.1.trans (hbel.block a la))).trans cx3
          replace cs0 := (World.cell?_of_block (w' := W3) (a := ⟨b, 0, none⟩) (hk.2.1.trans (hbel.block b lb))).trans cs0
          replace cs1 := (World.cell?_of_block (w' := W3) (a := ⟨b, 1, none⟩) (hk.2.1.trans (hbel.block b lb))).trans cs1
          replace cs2 := (World.cell?_of_block (w' := W3) (a := ⟨b, 2, none⟩) (hk.2.1.trans (hbel.block b lb))).trans cs2
          replace cs3 := (World.cell?_of_block (w' := W3) (a := ⟨b, 3, none⟩) (hk.2.1.trans (hbel.block b lb))).trans cs3
          replace cc0 := (World.cell?_of_block (w' := W3) (a := ⟨c, 0, none⟩) (hk.2.2.trans (hbel.block c lc))).trans cc0
          clear hk hbel hy hR la lb lc
          replace hJ3 : J [(partS (⟨x0, x1, x2, x3⟩ : S23) x1 (s1 - 1) step)] W3 := hJ3
          gi_wp2_with (refine ⟨trivial, ?_⟩; gi_at_call 46; refine (callsIn_wide.2 (part_any (⟨x0, x1, x2, x3⟩ : S23) (s2 + 1) x2 step _ A1 (by omega) (by omega))).mono ?_; rintro e W2 ⟨rfl, hbel⟩; have hJ2 := abides_below hJ hJ3 hbel; obtain ⟨fn, tmps, assign, body, hy, hR⟩ := hY [(partS (⟨x0, x1, x2, x3⟩ : S23) x1 (s1 - 1) step)] (partS (⟨x0, x1, x2, x3⟩ : S23) (s2 + 1) x2 step) _ hJ2 (by simp); (try dsimp only at hy))
          refine hR.mono ?_
          rintro e W5 (⟨rfl, hJ5, _⟩ | ⟨rfl, hJx5⟩)
          · gi_wp2
            go_end0
            first | exact ⟨⟨_, rfl⟩, .inl ⟨_, rfl, hJ5⟩⟩ | exact ⟨⟨_, rfl⟩, .inl hJ5⟩ | exact .inl hJ5
          · gi_wp2
            go_end0
            first | exact ⟨⟨_, rfl⟩, .inr ⟨_, trivial, hJx5⟩⟩ | exact ⟨⟨_, rfl⟩, .inr ⟨_, hJx5⟩⟩ | exact .inr ⟨_, hJx5⟩
        · gi_wp2
          refine bodyPost_ret (results_none rfl _ _ _) rfl ?_
          first | exact ⟨⟨_, rfl⟩, .inr ⟨_, trivial, hJx3⟩⟩ | exact ⟨⟨_, rfl⟩, .inr ⟨_, hJx3⟩⟩ | exact .inr ⟨_, hJx3⟩
      · have f2 : decide (x2 > s2) = false := decide_eq_false d2
        rw [show (if x1 < s1 then [(partS (⟨x0, x1, x2, x3⟩ : S23) x1 (s1 - 1) step)] else []) ++ (if x2 > s2 then [(partS (⟨x0, x1, x2, x3⟩ : S23) (s2 + 1) x2 step)] else []) = [(partS (⟨x0, x1, x2, x3⟩ : S23) x1 (s1 - 1) step)] by rw [if_pos d1, if_neg d2]; rfl]
        gi_wp2_with (refine ⟨trivial, ?_⟩; gi_at_call 46; refine (callsIn_wide.2 (part_any (⟨x0, x1, x2, x3⟩ : S23) x1 (s1 - 1) step _ A1 (by omega) (by omega))).mono ?_; rintro e W2 ⟨rfl, hbel⟩; have hJ2 := abides_below hJ h0 hbel; obtain ⟨fn, tmps, assign, body, hy, hR⟩ := hY [] (partS (⟨x0, x1, x2, x3⟩ : S23) x1 (s1 - 1) step) _ hJ2 (by simp); (try dsimp only at hy))
        refine hR.mono ?_
        rintro e W3 (⟨rfl, hJ3, hk⟩ | ⟨rfl, hJx3⟩)
        · have la := (Array.getElem?_eq_some_iff.1 ha).1
          have lb := (Array.getElem?_eq_some_iff.1 hb).1
          have lc := (Array.getElem?_eq_some_iff.1 hc).1
          replace cx0 := (World.cell?_of_block (w' := W3) (a := ⟨a, 0, none⟩) (hk.1.trans (hbel.block a la))).trans cx0
          replace cx1 := (World.cell?_of_block (w' := W3) (a := ⟨a, 1, none⟩) (hk.1.trans (hbel.block a la))).trans cx1
          replace cx2 := (World.cell?_of_block (w' := W3) (a := ⟨a, 2, none⟩) (hk.1.trans (hbel.block a la))).trans cx2
          replace cx3 := (World.cell?_of_block (w' := W3) (a := ⟨a, 3, none⟩) (hk.1.trans (hbel.block a la))).trans cx3
          replace cs0 := (World.cell?_of_block (w' := W3) (a := ⟨b, 0, none⟩) (hk.2.1.trans (hbel.block b lb))).trans cs0
          replace cs1 := (World.cell?_of_block (w' := W3) (a := ⟨b, 1, none⟩) (hk.2.1.trans (hbel.block b lb))).trans cs1
          replace cs2 := (World.cell?_of_block (w' := W3) (a := ⟨b, 2, none⟩) (hk.2.1.trans (hbel.block b lb))).trans cs2
          replace cs3 := (World.cell?_of_block (w' := W3) (a := ⟨b, 3, none⟩) (hk.2.1.trans (hbel.block b lb))).trans cs3
          replace cc0 := (World.cell?_of_block (w' := W3) (a := ⟨c, 0, none⟩) (hk.2.2.trans (hbel.block c lc))).trans cc0
          clear hk hbel hy hR la lb lc
          replace hJ3 : J [(partS (⟨x0, x1, x2, x3⟩ : S23) x1 (s1 - 1) step)] W3 := hJ3
          gi_wp2
          go_end0
          first | exact ⟨⟨_, rfl⟩, .inl ⟨_, rfl, hJ3⟩⟩ | exact ⟨⟨_, rfl⟩, .inl hJ3⟩ | exact .inl hJ3
        · gi_wp2
          refine bodyPost_ret (results_none rfl _ _ _) rfl ?_
          first | exact ⟨⟨_, rfl⟩, .inr ⟨_, trivial, hJx3⟩⟩ | exact ⟨⟨_, rfl⟩, .inr ⟨_, hJx3⟩⟩ | exact .inr ⟨_, hJx3⟩
    · have f1 : decide (x1 < s1) = false := decide_eq_false d1
      by_cases d2 : x2 > s2
      · have f2 : decide (x2 > s2) = true := decide_eq_true d2
        rw [show (if x1 < s1 then [(partS (⟨x0, x1, x2, x3⟩ : S23) x1 (s1 - 1) step)] else []) ++ (if x2 > s2 then [(partS (⟨x0, x1, x2, x3⟩ : S23) (s2 + 1) x2 step)] else []) = [(partS (⟨x0, x1, x2, x3⟩ : S23) (s2 + 1) x2 step)] by rw [if_neg d1, if_pos d2]; rfl]
        gi_wp2
        refine ⟨trivial, ?_⟩
        gi_wp2
        refine ⟨fun _ h => (by cases h), ?_⟩
        gi_wp2_with (refine ⟨trivial, ?_⟩; gi_at_call 46; refine (callsIn_wide.2 (part_any (⟨x0, x1, x2, x3⟩ : S23) (s2 + 1) x2 step _ A1 (by omega) (by omega))).mono ?_; rintro e W2 ⟨rfl, hbel⟩; have hJ2 := abides_below hJ h0 hbel; obtain ⟨fn, tmps, assign, body, hy, hR⟩ := hY [] (partS (⟨x0, x1, x2, x3⟩ : S23) (s2 + 1) x2 step) _ hJ2 (by simp); (try dsimp only at hy))
        refine hR.mono ?_
        rintro e W5 (⟨rfl, hJ5, _⟩ | ⟨rfl, hJx5⟩)
        · gi_wp2
          go_end0
          first | exact ⟨⟨_, rfl⟩, .inl ⟨_, rfl, hJ5⟩⟩ | exact ⟨⟨_, rfl⟩, .inl hJ5⟩ | exact .inl hJ5
        · gi_wp2
          go_end0
          first | exact ⟨⟨_, rfl⟩, .inr ⟨_, trivial, hJx5⟩⟩ | exact ⟨⟨_, rfl⟩, .inr ⟨_, hJx5⟩⟩ | exact .inr ⟨_, hJx5⟩
      · have f2 : decide (x2 > s2) = false := decide_eq_false d2
        rw [show (if x1 < s1 then [(partS (⟨x0, x1, x2, x3⟩ : S23) x1 (s1 - 1) step)] else []) ++ (if x2 > s2 then [(partS (⟨x0, x1, x2, x3⟩ : S23) (s2 + 1) x2 step)] else []) = [] by rw [if_neg d1, if_neg d2]; rfl]
        gi_wp2
        refine ⟨trivial, ?_⟩
        gi_wp2
        refine ⟨fun _ h => (by cases h), ?_⟩
        gi_wp2
        go_end0
        first | exact ⟨⟨_, rfl⟩, .inl ⟨_, rfl, h0⟩⟩ | exact ⟨⟨_, rfl⟩, .inl h0⟩ | exact .inl h0
theorem left_stops (n : Nat) (hn : 2 ≤ n) (a b c : Nat) (x s : S23) (step : Bool) (hx : smallS x) (hs : smallS s) (w : World)
    (ha : w.heap[a]? = some (.cells #[.int .i64 x.f0, .int .i64 x.f1, .int .i64 x.f2, .int .i64 x.f3] 23 (0, 0))) (hb : w.heap[b]? = some (.cells #[.int .i64 s.f0, .int .i64 s.f1, .int .i64 s.f2, .int .i64 s.f3] 23 (0, 0))) (hc : w.heap[c]? = some (.cells #[.bool step] 4 (0, 0))) :
    SeqStopsK Fence.wide n Try.prog 45 #[.pointer (some ⟨a, 0, none⟩), .pointer (some ⟨b, 0, none⟩), .pointer (some ⟨c, 0, none⟩)] (fun y : S23 => #[.agg #[.int .i64 y.f0, .int .i64 y.f1, .int .i64 y.f2, .int .i64 y.f3]]) (Kp3 a b c) (fun ys => ys = leftS x s step) (fun _ => True) 3 w :=
  fun l J Jx W hW hJ _ hY h0 => left1 n hn l a b c x s step hx hs J Jx hY W hJ ((hW.block a (Array.getElem?_eq_some_iff.1 ha).1).trans ha) ((hW.block b (Array.getElem?_eq_some_iff.1 hb).1).trans hb) ((hW.block c (Array.getElem?_eq_some_iff.1 hc).1).trans hc) h0

end Go.Proofs.Ytehknkgplldiiaa.PIs
