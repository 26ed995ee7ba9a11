/- span.part by the engine; span.left and its closure by hand. -/
import Derived.Test.YtpkgkdcfolmbhaaGreatASpanB
import Derived.Test.YtpkgkdcfolmbhaaGreatARectO
import Derived.RangeFuncNested
import Derived.RangeFuncBound
import Derived.RangeFuncCalls
import Derived.RangeFuncLeaves
import Derived.Shelf.Abstract
import Derived.Shelf.RegionOpen
import Derived.OwnWalkIn
import Derived.TacticsInMore
import Derived.LoopNIn
import Derived.LoopIn
import Derived.WalkKit
set_option linter.all false
set_option maxRecDepth 100000
namespace Go.Abs.Span
open Go.RowKit Go.Proofs Go.Abs.Tab Go.Abs.Rc
attribute [local go_sem] Oper.semAt_some
/-- No number of a span so great that a sum of two goes round. -/
def smallS (x : Spn) : Prop := (-1099511627776 ≤ x.lo ∧ x.lo ≤ 1099511627776) ∧ (-1099511627776 ≤ x.hi ∧ x.hi ≤ 1099511627776) ∧ (-1099511627776 ≤ x.to ∧ x.to ≤ 1099511627776)
def partS (x : Spn) (lo hi : Int) (step : Bool) : Spn := ⟨x.n, lo, hi, x.to + more step (lo - x.lo)⟩
def apartS (x s : Spn) : Bool := x.n != s.n || (decide (x.hi < s.lo) || decide (x.lo > s.hi))
def leftS (x s : Spn) (step : Bool) : List Spn :=
  if apartS x s = true then [x] else (if x.lo < s.lo then [partS x x.lo (s.lo - 1) step] else []) ++ (if x.hi > s.hi then [partS x (s.hi + 1) x.hi step] else [])
def SPartS : Sp := ⟨Spn × Int × Int × Bool, fun (x, lo, hi, st) => smallS x ∧ -1099511627777 ≤ lo ∧ lo ≤ 1099511627777, fun (x, lo, hi, st) => [.agg (cSp x), .int .i64 lo, .int .i64 hi, .lit st], fun (x, lo, hi, st) => .st (.agg (cSp (partS x lo hi st)))⟩
theorem part : SpOK Tryz.prog 158 SPartS := fun ⟨x, lo, hi, st⟩ ⟨hx, h0, h1⟩ => by
  have hC : COK Tryz.prog (cfg [(103, SRise)]) := Ty.ty.cfg ⟨rise, trivial⟩
  obtain ⟨hx1, hx2, hx3⟩ := hx
  have e1 := iw (n := lo - x.lo) (by omega) (by omega)
  have hm : -4398046511104 ≤ more st (lo - x.lo) ∧ more st (lo - x.lo) ≤ 4398046511104 := by cases st <;> simp only [more, cond_true, cond_false] <;> omega
  have e2 := iw (n := x.to + more st (lo - x.lo)) (by omega) (by omega)
  ((refine Fn.ofF hC Tryz.func158 Tryz.ntmps158 rfl rfl rfl ?_); (repeat' first | (with_reducible exact trivial) | (with_reducible rfl) | (refine And.intro ?_ ?_) | (refine Need.mk ?_) | exact True.intro | (first | (refine ⟨_, Told.refl _, ?_, ?_⟩) | (refine ⟨⟨_, _⟩, Told.refl _, ?_, ?_⟩) | (refine ⟨⟨_, _, _⟩, Told.refl _, ?_, ?_⟩) | (refine ⟨⟨_, _, _, _⟩, Told.refl _, ?_, ?_⟩) | (refine ⟨⟨_, _, _, _, _⟩, Told.refl _, ?_, ?_⟩) | (refine ⟨(), Told.refl _, ?_, ?_⟩)) | (with_reducible intro _) | (refine fun (_ : Bool) => ?_)))
  all_goals first
    | rfl
    | (rw [e1, e2]; rfl)
theorem part_any (x : Spn) (lo hi : Int) (step : Bool) (w : World) (hx : smallS x) (h0 : -1099511627777 ≤ lo) (h1 : lo ≤ 1099511627777) :
    Calls Tryz.prog 158 #[.agg #[.int .i64 x.n, .int .i64 x.lo, .int .i64 x.hi, .int .i64 x.to], .int .i64 lo, .int .i64 hi, .bool step] w fun e w' => e = .returned (.agg #[.int .i64 (partS x lo hi step).n, .int .i64 (partS x lo hi step).lo, .int .i64 (partS x lo hi step).hi, .int .i64 (partS x lo hi step).to]) ∧ Below w.heap.size w w' := by
  refine ((part (x, lo, hi, step) ⟨hx, h0, h1⟩).2 w (fun _ => False) [.agg #[.int .i64 x.n, .int .i64 x.lo, .int .i64 x.hi, .int .i64 x.to], .int .i64 lo, .int .i64 hi, .bool step] (fun _ h => h.elim) ⟨rfl, fun i a v q1 q2 => ?_⟩).mono ?_
  · match i, q1, q2 with
    | 0, q1, q2 =>
      obtain rfl := Option.some.inj q1
      obtain rfl := Option.some.inj q2
      refine .agg (cSp x) [.int .i64 x.n, .int .i64 x.lo, .int .i64 x.hi, .int .i64 x.to] rfl fun j a v p1 p2 => ?_
      have hj : j < 4 := (List.getElem?_eq_some_iff.1 p1).1
      have hc : j = 0 ∨ j = 1 ∨ j = 2 ∨ j = 3 := by omega
      rcases hc with rfl | rfl | rfl | rfl
      all_goals
        obtain rfl := Option.some.inj p1
        obtain rfl := Option.some.inj p2
        exact .int _ _
    | 1, q1, q2 =>
      obtain rfl := Option.some.inj q1
      obtain rfl := Option.some.inj q2
      exact .int _ _
    | 2, q1, q2 =>
      obtain rfl := Option.some.inj q1
      obtain rfl := Option.some.inj q2
      exact .int _ _
    | 3, q1, q2 =>
      obtain rfl := Option.some.inj q1
      obtain rfl := Option.some.inj q2
      exact .lit _
  · rintro e w' ⟨v, S', rfl, hr, _, _, hb⟩
    refine ⟨?_, hb⟩
    obtain ⟨vs, rfl, hl, hv⟩ := rv_agg (.st _ _ hr : RV w' S' [] _ _)
    match vs, hl with
    | [a0, a1, a2, a3], _ =>
      have e0 := rv_int (hv 0 _ _ rfl rfl)
      have e1 := rv_int (hv 1 _ _ rfl rfl)
      have e2 := rv_int (hv 2 _ _ rfl rfl)
      have e3 := rv_int (hv 3 _ _ rfl rfl)
      rw [e0, e1, e2, e3]
set_option maxRecDepth 100000 in
set_option maxHeartbeats 2000000 in
theorem left_calls (x s : Spn) (step : Bool) (w : World) :
    Calls Tryz.prog 135 #[.agg #[.int .i64 x.n, .int .i64 x.lo, .int .i64 x.hi, .int .i64 x.to], .agg #[.int .i64 s.n, .int .i64 s.lo, .int .i64 s.hi, .int .i64 s.to], .bool step] w fun e w' =>
      e = .returned (.func (.func 157) #[] #[.pointer (some ⟨w.heap.size, 0, none⟩), .pointer (some ⟨w.heap.size + 1, 0, none⟩), .pointer (some ⟨w.heap.size + 2, 0, none⟩)]) ∧
      w' = ((w.alloc (.cells #[.int .i64 x.n, .int .i64 x.lo, .int .i64 x.hi, .int .i64 x.to] 83)).alloc (.cells #[.int .i64 s.n, .int .i64 s.lo, .int .i64 s.hi, .int .i64 s.to] 83)).alloc (.cells #[.bool step] 4) := by
  have hu := Tryz.underlying83
  go_enter Tryz.func135, Tryz.ntmps135
  go_wp2
  go_ret
  exact ⟨rfl, rfl⟩
/-- Three blocks lie as they lay. -/
def Kp3 (a b c : Nat) (W W' : World) : Prop := W'.heap[a]? = W.heap[a]? ∧ W'.heap[b]? = W.heap[b]? ∧ W'.heap[c]? = W.heap[c]?
theorem Kp3.trans {a b c : Nat} {A B C : World} (h : Kp3 a b c A B) (k : Kp3 a b c B C) : Kp3 a b c A C := ⟨k.1.trans h.1, k.2.1.trans h.2.1, k.2.2.trans h.2.2⟩
theorem abides_below {J : List Spn → World → Prop} {B : Nat} (hJ : AbidesFrom B J) {pre : List Spn} {W W' : World} (h : J pre W) (hb : Below W.heap.size W W') : J pre W' :=
  hJ pre W W' none h ⟨hb.os, hb.tape, hb.output, hb.size, fun k hk _ => hb.block k hk⟩ (fun _ e => by cases e)
set_option maxRecDepth 100000 in
set_option maxHeartbeats 4000000 in
/-- span.left's closure, at every body that keeps the three blocks. -/
theorem left1 (n : Nat) (hn : 2 ≤ n) (l a b c : Nat) (x s : Spn) (step : Bool) (hx : smallS x) (hs : smallS s) (J Jx : List Spn → World → Prop)
    (hY : ∀ pre (y : Spn) W, J pre W → pre.length < 3 → YieldAt Fence.wide (n - 1) Tryz.prog l #[.agg #[.int .i64 y.n, .int .i64 y.lo, .int .i64 y.hi, .int .i64 y.to]] W fun e W' =>
      (e = .returned (.bool true) ∧ J (pre ++ [y]) W' ∧ Kp3 a b c W W') ∨ (e = .returned (.bool false) ∧ Jx (pre ++ [y]) W'))
    (W : World) (hJ : AbidesFrom W.heap.size J) (ha : W.heap[a]? = some (.cells #[.int .i64 x.n, .int .i64 x.lo, .int .i64 x.hi, .int .i64 x.to] 83 (0, 0))) (hb : W.heap[b]? = some (.cells #[.int .i64 s.n, .int .i64 s.lo, .int .i64 s.hi, .int .i64 s.to] 83 (0, 0))) (hc : W.heap[c]? = some (.cells #[.bool step] 4 (0, 0))) (h0 : J [] W) :
    CallsIn Fence.wide n Tryz.prog 157 #[.func (.yield l) #[] #[], .pointer (some ⟨a, 0, none⟩), .pointer (some ⟨b, 0, none⟩), .pointer (some ⟨c, 0, none⟩)] W fun e W' => (∃ v, e = .returned v) ∧
      ((∃ ys, ys = leftS x s step ∧ J ys W') ∨ (∃ pre, True ∧ Jx pre W')) := by
  have hu := Tryz.underlying83
  have hn1 : 1 ≤ n := by omega
  obtain ⟨x0, x1, x2, x3⟩ := x
  obtain ⟨s0, s1, s2, s3⟩ := s
  dsimp only at ha hb
  have cx0 : W.cell? ⟨a, 0, none⟩ = some (.int .i64 x0) := (blk_cell ha 0).trans rfl
  have cx1 : W.cell? ⟨a, 1, none⟩ = some (.int .i64 x1) := (blk_cell ha 1).trans rfl
  have cx2 : W.cell? ⟨a, 2, none⟩ = some (.int .i64 x2) := (blk_cell ha 2).trans rfl
  have cx3 : W.cell? ⟨a, 3, none⟩ = some (.int .i64 x3) := (blk_cell ha 3).trans rfl
  have cs0 : W.cell? ⟨b, 0, none⟩ = some (.int .i64 s0) := (blk_cell hb 0).trans rfl
  have cs1 : W.cell? ⟨b, 1, none⟩ = some (.int .i64 s1) := (blk_cell hb 1).trans rfl
  have cs2 : W.cell? ⟨b, 2, none⟩ = some (.int .i64 s2) := (blk_cell hb 2).trans rfl
  have cs3 : W.cell? ⟨b, 3, none⟩ = some (.int .i64 s3) := (blk_cell hb 3).trans rfl
  have cc0 : W.cell? ⟨c, 0, none⟩ = some (.bool step) := (blk_cell hc 0).trans rfl
  refine callsIn_of_wp Tryz.func157 rfl trivial ?_ rfl
  simp only [Tryz.ntmps157, List.size_toArray, List.length_cons, List.length_nil, Nat.reduceAdd, Nat.reduceSub, Array.replicate_succ, Array.replicate_zero, List.push_toArray, List.append_toArray, List.nil_append, List.cons_append]
  have A1 : smallS (⟨x0, x1, x2, x3⟩ : Spn) := hx
  have A2 : smallS (⟨s0, s1, s2, s3⟩ : Spn) := hs
  by_cases hap : apartS (⟨x0, x1, x2, x3⟩ : Spn) (⟨s0, s1, s2, s3⟩ : Spn) = true
  · have e : leftS (⟨x0, x1, x2, x3⟩ : Spn) (⟨s0, s1, s2, s3⟩ : Spn) step = [(⟨x0, x1, x2, x3⟩ : Spn)] := if_pos hap
    rw [e]
    obtain ⟨fn, tmps, assign, body, hy, hR⟩ := hY [] (⟨x0, x1, x2, x3⟩ : Spn) W h0 (by decide)
    (try dsimp only at hy)
    by_cases c1 : x0 = s0
    · have b1 : (x0 != s0) = false := bne_eq_false_iff_eq.mpr c1
      subst c1
      by_cases c2 : x2 < s1
      · have b2 : decide (x2 < s1) = true := decide_eq_true c2
        clear e hap A1 A2 hx hs
        gi_wp2
        refine hR.mono ?_
        rintro e W3 (⟨rfl, hJ3, _⟩ | ⟨rfl, hJx3⟩)
        · gi_wp2
          refine bodyPost_ret (results_none rfl _ _ _) rfl ?_
          exact ⟨⟨_, rfl⟩, .inl ⟨[(⟨x0, x1, x2, x3⟩ : Spn)], rfl, hJ3⟩⟩
        · gi_wp2
          refine bodyPost_ret (results_none rfl _ _ _) rfl ?_
          exact ⟨⟨_, rfl⟩, .inr ⟨_, trivial, hJx3⟩⟩
      · have b2 : decide (x2 < s1) = false := decide_eq_false c2
        by_cases c3 : x1 > s2
        · have b3 : decide (x1 > s2) = true := decide_eq_true c3
          clear e hap A1 A2 hx hs
          gi_wp2
          refine hR.mono ?_
          rintro e W3 (⟨rfl, hJ3, _⟩ | ⟨rfl, hJx3⟩)
          · gi_wp2
            refine bodyPost_ret (results_none rfl _ _ _) rfl ?_
            exact ⟨⟨_, rfl⟩, .inl ⟨[(⟨x0, x1, x2, x3⟩ : Spn)], rfl, hJ3⟩⟩
          · gi_wp2
            refine bodyPost_ret (results_none rfl _ _ _) rfl ?_
            exact ⟨⟨_, rfl⟩, .inr ⟨_, trivial, hJx3⟩⟩
        · exact absurd hap (by simp [apartS, c2, c3])
    · have b1 : (x0 != s0) = true := bne_iff_ne.mpr c1
      clear e hap A1 A2 hx hs
      gi_wp2
      refine hR.mono ?_
      rintro e W3 (⟨rfl, hJ3, _⟩ | ⟨rfl, hJx3⟩)
      · gi_wp2
        refine bodyPost_ret (results_none rfl _ _ _) rfl ?_
        exact ⟨⟨_, rfl⟩, .inl ⟨[(⟨x0, x1, x2, x3⟩ : Spn)], rfl, hJ3⟩⟩
      · gi_wp2
        refine bodyPost_ret (results_none rfl _ _ _) rfl ?_
        exact ⟨⟨_, rfl⟩, .inr ⟨_, trivial, hJx3⟩⟩
  · have hna : ¬ (x0 ≠ s0) ∧ ¬ x2 < s1 ∧ ¬ x1 > s2 := by
      unfold apartS at hap
      simp only [Bool.or_eq_true, bne_iff_ne, decide_eq_true_eq] at hap
      omega
    have e : leftS (⟨x0, x1, x2, x3⟩ : Spn) (⟨s0, s1, s2, s3⟩ : Spn) step = (if x1 < s1 then [(partS (⟨x0, x1, x2, x3⟩ : Spn) x1 (s1 - 1) step)] else []) ++ (if x2 > s2 then [(partS (⟨x0, x1, x2, x3⟩ : Spn) (s2 + 1) x2 step)] else []) := if_neg hap
    rw [e]
    obtain ⟨n1, n2, n3⟩ := hna
    have n1 : x0 = s0 := by omega
    subst n1
    have b1 : (x0 != x0) = false := bne_self_eq_false x0
    have b2 : decide (x2 < s1) = false := decide_eq_false n2
    have b3 : decide (x1 > s2) = false := decide_eq_false n3
    have B1 : -1099511627776 ≤ s1 ∧ s1 ≤ 1099511627776 := hs.1
    have B2 : -1099511627776 ≤ s2 ∧ s2 ≤ 1099511627776 := hs.2.1
    have B3 : -1099511627776 ≤ x1 ∧ x1 ≤ 1099511627776 := hx.1
    clear e hap A2 hx hs
    by_cases d1 : x1 < s1
    · have f1 : decide (x1 < s1) = true := decide_eq_true d1
      by_cases d2 : x2 > s2
      · have f2 : decide (x2 > s2) = true := decide_eq_true d2
        rw [show (if x1 < s1 then [(partS (⟨x0, x1, x2, x3⟩ : Spn) x1 (s1 - 1) step)] else []) ++ (if x2 > s2 then [(partS (⟨x0, x1, x2, x3⟩ : Spn) (s2 + 1) x2 step)] else []) = [(partS (⟨x0, x1, x2, x3⟩ : Spn) x1 (s1 - 1) step), (partS (⟨x0, x1, x2, x3⟩ : Spn) (s2 + 1) x2 step)] by rw [if_pos d1, if_pos d2]; rfl]
        gi_wp2_with (refine ⟨trivial, ?_⟩; gi_at_call 158; refine (callsIn_wide.2 (part_any (⟨x0, x1, x2, x3⟩ : Spn) x1 (s1 - 1) step _ A1 (by omega) (by omega))).mono ?_; rintro e W2 ⟨rfl, hbel⟩; have hJ2 := abides_below hJ h0 hbel; obtain ⟨fn, tmps, assign, body, hy, hR⟩ := hY [] (partS (⟨x0, x1, x2, x3⟩ : Spn) x1 (s1 - 1) step) _ hJ2 (by simp); (try dsimp only at hy))
        refine hR.mono ?_
        rintro e W3 (⟨rfl, hJ3, hk⟩ | ⟨rfl, hJx3⟩)
        · have la := (Array.getElem?_eq_some_iff.1 ha).1
          have lb := (Array.getElem?_eq_some_iff.1 hb).1
          have lc := (Array.getElem?_eq_some_iff.1 hc).1
          replace cx0 := (World.cell?_of_block (w' := W3) (a := ⟨a, 0, none⟩) (hk.1.trans (hbel.block a la))).trans cx0
          replace cx1 := (World.cell?_of_block (w' := W3) (a := ⟨a, 1, none⟩) (hk.1.trans (hbel.block a la))).trans cx1
          replace cx2 := (World.cell?_of_block (w' := W3) (a := ⟨a, 2, none⟩) (hk.1.trans (hbel.block a la))).trans cx2
          replace cx3 := (World.cell?_of_block (w' := W3) (a := ⟨a, 3, none⟩) (hk.1.trans (hbel.block a la))).trans cx3
          replace cs0 := (World.cell?_of_block (w' := W3) (a := ⟨b, 0, none⟩) (hk.2.1.trans (hbel.block b lb))).trans cs0
          replace cs1 := (World.cell?_of_block (w' := W3) (a := ⟨b, 1, none⟩) (hk.2.1.trans (hbel.block b lb))).trans cs1
          replace cs2 := (World.cell?_of_block (w' := W3) (a := ⟨b, 2, none⟩) (hk.2.1.trans (hbel.block b lb))).trans cs2
          replace cs3 := (World.cell?_of_block (w' := W3) (a := ⟨b, 3, none⟩) (hk.2.1.trans (hbel.block b lb))).trans cs3
          replace cc0 := (World.cell?_of_block (w' := W3) (a := ⟨c, 0, none⟩) (hk.2.2.trans (hbel.block c lc))).trans cc0
          clear hk hbel hy hR la lb lc
          replace hJ3 : J [(partS (⟨x0, x1, x2, x3⟩ : Spn) x1 (s1 - 1) step)] W3 := hJ3
          gi_wp2_with (refine ⟨trivial, ?_⟩; gi_at_call 158; refine (callsIn_wide.2 (part_any (⟨x0, x1, x2, x3⟩ : Spn) (s2 + 1) x2 step _ A1 (by omega) (by omega))).mono ?_; rintro e W2 ⟨rfl, hbel⟩; have hJ2 := abides_below hJ hJ3 hbel; obtain ⟨fn, tmps, assign, body, hy, hR⟩ := hY [(partS (⟨x0, x1, x2, x3⟩ : Spn) x1 (s1 - 1) step)] (partS (⟨x0, x1, x2, x3⟩ : Spn) (s2 + 1) x2 step) _ hJ2 (by simp); (try dsimp only at hy))
          refine hR.mono ?_
          rintro e W5 (⟨rfl, hJ5, _⟩ | ⟨rfl, hJx5⟩)
          · gi_wp2
            go_end0
            first | exact ⟨⟨_, rfl⟩, .inl ⟨_, rfl, hJ5⟩⟩ | exact ⟨⟨_, rfl⟩, .inl hJ5⟩ | exact .inl hJ5
          · gi_wp2
            go_end0
            first | exact ⟨⟨_, rfl⟩, .inr ⟨_, trivial, hJx5⟩⟩ | exact ⟨⟨_, rfl⟩, .inr ⟨_, hJx5⟩⟩ | exact .inr ⟨_, hJx5⟩
        · gi_wp2
          refine bodyPost_ret (results_none rfl _ _ _) rfl ?_
          first | exact ⟨⟨_, rfl⟩, .inr ⟨_, trivial, hJx3⟩⟩ | exact ⟨⟨_, rfl⟩, .inr ⟨_, hJx3⟩⟩ | exact .inr ⟨_, hJx3⟩
      · have f2 : decide (x2 > s2) = false := decide_eq_false d2
        rw [show (if x1 < s1 then [(partS (⟨x0, x1, x2, x3⟩ : Spn) x1 (s1 - 1) step)] else []) ++ (if x2 > s2 then [(partS (⟨x0, x1, x2, x3⟩ : Spn) (s2 + 1) x2 step)] else []) = [(partS (⟨x0, x1, x2, x3⟩ : Spn) x1 (s1 - 1) step)] by rw [if_pos d1, if_neg d2]; rfl]
        gi_wp2_with (refine ⟨trivial, ?_⟩; gi_at_call 158; refine (callsIn_wide.2 (part_any (⟨x0, x1, x2, x3⟩ : Spn) x1 (s1 - 1) step _ A1 (by omega) (by omega))).mono ?_; rintro e W2 ⟨rfl, hbel⟩; have hJ2 := abides_below hJ h0 hbel; obtain ⟨fn, tmps, assign, body, hy, hR⟩ := hY [] (partS (⟨x0, x1, x2, x3⟩ : Spn) x1 (s1 - 1) step) _ hJ2 (by simp); (try dsimp only at hy))
        refine hR.mono ?_
        rintro e W3 (⟨rfl, hJ3, hk⟩ | ⟨rfl, hJx3⟩)
        · have la := (Array.getElem?_eq_some_iff.1 ha).1
          have lb := (Array.getElem?_eq_some_iff.1 hb).1
          have lc := (Array.getElem?_eq_some_iff.1 hc).1
          replace cx0 := (World.cell?_of_block (w' := W3) (a := ⟨a, 0, none⟩) (hk.1.trans (hbel.block a la))).trans cx0
          replace cx1 := (World.cell?_of_block (w' := W3) (a := ⟨a, 1, none⟩) (hk.1.trans (hbel.block a la))).trans cx1
          replace cx2 := (World.cell?_of_block (w' := W3) (a := ⟨a, 2, none⟩) (hk.1.trans (hbel.block a la))).trans cx2
          replace cx3 := (World.cell?_of_block (w' := W3) (a := ⟨a, 3, none⟩) (hk.1.trans (hbel.block a la))).trans cx3
          replace cs0 := (World.cell?_of_block (w' := W3) (a := ⟨b, 0, none⟩) (hk.2.1.trans (hbel.block b lb))).trans cs0
          replace cs1 := (World.cell?_of_block (w' := W3) (a := ⟨b, 1, none⟩) (hk.2.1.trans (hbel.block b lb))).trans cs1
          replace cs2 := (World.cell?_of_block (w' := W3) (a := ⟨b, 2, none⟩) (hk.2.1.trans (hbel.block b lb))).trans cs2
          replace cs3 := (World.cell?_of_block (w' := W3) (a := ⟨b, 3, none⟩) (hk.2.1.trans (hbel.block b lb))).trans cs3
          replace cc0 := (World.cell?_of_block (w' := W3) (a := ⟨c, 0, none⟩) (hk.2.2.trans (hbel.block c lc))).trans cc0
          clear hk hbel hy hR la lb lc
          replace hJ3 : J [(partS (⟨x0, x1, x2, x3⟩ : Spn) x1 (s1 - 1) step)] W3 := hJ3
          gi_wp2
          go_end0
          first | exact ⟨⟨_, rfl⟩, .inl ⟨_, rfl, hJ3⟩⟩ | exact ⟨⟨_, rfl⟩, .inl hJ3⟩ | exact .inl hJ3
        · gi_wp2
          refine bodyPost_ret (results_none rfl _ _ _) rfl ?_
          first | exact ⟨⟨_, rfl⟩, .inr ⟨_, trivial, hJx3⟩⟩ | exact ⟨⟨_, rfl⟩, .inr ⟨_, hJx3⟩⟩ | exact .inr ⟨_, hJx3⟩
    · have f1 : decide (x1 < s1) = false := decide_eq_false d1
      by_cases d2 : x2 > s2
      · have f2 : decide (x2 > s2) = true := decide_eq_true d2
        rw [show (if x1 < s1 then [(partS (⟨x0, x1, x2, x3⟩ : Spn) x1 (s1 - 1) step)] else []) ++ (if x2 > s2 then [(partS (⟨x0, x1, x2, x3⟩ : Spn) (s2 + 1) x2 step)] else []) = [(partS (⟨x0, x1, x2, x3⟩ : Spn) (s2 + 1) x2 step)] by rw [if_neg d1, if_pos d2]; rfl]
        gi_wp2
        refine ⟨trivial, ?_⟩
        gi_wp2
        refine ⟨fun _ h => (by cases h), ?_⟩
        gi_wp2_with (refine ⟨trivial, ?_⟩; gi_at_call 158; refine (callsIn_wide.2 (part_any (⟨x0, x1, x2, x3⟩ : Spn) (s2 + 1) x2 step _ A1 (by omega) (by omega))).mono ?_; rintro e W2 ⟨rfl, hbel⟩; have hJ2 := abides_below hJ h0 hbel; obtain ⟨fn, tmps, assign, body, hy, hR⟩ := hY [] (partS (⟨x0, x1, x2, x3⟩ : Spn) (s2 + 1) x2 step) _ hJ2 (by simp); (try dsimp only at hy))
        refine hR.mono ?_
        rintro e W5 (⟨rfl, hJ5, _⟩ | ⟨rfl, hJx5⟩)
        · gi_wp2
          go_end0
          first | exact ⟨⟨_, rfl⟩, .inl ⟨_, rfl, hJ5⟩⟩ | exact ⟨⟨_, rfl⟩, .inl hJ5⟩ | exact .inl hJ5
        · gi_wp2
          go_end0
          first | exact ⟨⟨_, rfl⟩, .inr ⟨_, trivial, hJx5⟩⟩ | exact ⟨⟨_, rfl⟩, .inr ⟨_, hJx5⟩⟩ | exact .inr ⟨_, hJx5⟩
      · have f2 : decide (x2 > s2) = false := decide_eq_false d2
        rw [show (if x1 < s1 then [(partS (⟨x0, x1, x2, x3⟩ : Spn) x1 (s1 - 1) step)] else []) ++ (if x2 > s2 then [(partS (⟨x0, x1, x2, x3⟩ : Spn) (s2 + 1) x2 step)] else []) = [] by rw [if_neg d1, if_neg d2]; rfl]
        gi_wp2
        refine ⟨trivial, ?_⟩
        gi_wp2
        refine ⟨fun _ h => (by cases h), ?_⟩
        gi_wp2
        go_end0
        first | exact ⟨⟨_, rfl⟩, .inl ⟨_, rfl, h0⟩⟩ | exact ⟨⟨_, rfl⟩, .inl h0⟩ | exact .inl h0
theorem left_stops (n : Nat) (hn : 2 ≤ n) (a b c : Nat) (x s : Spn) (step : Bool) (hx : smallS x) (hs : smallS s) (w : World)
    (ha : w.heap[a]? = some (.cells #[.int .i64 x.n, .int .i64 x.lo, .int .i64 x.hi, .int .i64 x.to] 83 (0, 0))) (hb : w.heap[b]? = some (.cells #[.int .i64 s.n, .int .i64 s.lo, .int .i64 s.hi, .int .i64 s.to] 83 (0, 0))) (hc : w.heap[c]? = some (.cells #[.bool step] 4 (0, 0))) :
    SeqStopsK Fence.wide n Tryz.prog 157 #[.pointer (some ⟨a, 0, none⟩), .pointer (some ⟨b, 0, none⟩), .pointer (some ⟨c, 0, none⟩)] (fun y : Spn => #[.agg #[.int .i64 y.n, .int .i64 y.lo, .int .i64 y.hi, .int .i64 y.to]]) (Kp3 a b c) (fun ys => ys = leftS x s step) (fun _ => True) 3 w :=
  fun l J Jx W hW hJ _ hY h0 => left1 n hn l a b c x s step hx hs J Jx hY W hJ ((hW.block a (Array.getElem?_eq_some_iff.1 ha).1).trans ha) ((hW.block b (Array.getElem?_eq_some_iff.1 hb).1).trans hb) ((hW.block c (Array.getElem?_eq_some_iff.1 hc).1).trans hc) h0
end Go.Abs.Span
