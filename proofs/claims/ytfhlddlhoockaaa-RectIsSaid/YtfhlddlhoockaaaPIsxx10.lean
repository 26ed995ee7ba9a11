-- made by xprint.py of this session
import Derived.Test.YtfhlddlhoockaaaPIsxx0
import Derived.Test.YtfhlddlhoockaaaPIsxx2
import Derived.Test.YtfhlddlhoockaaaPIsxx8
import Derived.Test.YtfhlddlhoockaaaPIsxx9
import Derived.RangeFuncNested
import Derived.RangeFuncBound
import Derived.RangeFuncCalls
import Derived.Shelf.Abstract
import Derived.Shelf.RegionOpen
import Derived.OwnWalkIn
import Derived.TacticsInMore
import Derived.LoopNIn
import Derived.LoopIn
import Derived.WalkKit
import Derived.Deep.QuietTactic
import Derived.Deep.RegionHeld3
import Derived.Shelf.SlicesE.Clone
import Derived.Test.YtfhlddlhoockaaaShelf
namespace Go.Proofs.Ytfhlddlhoockaaa.PIsx
open Go.RowKit Go.Proofs.YtfhlddlhoockaaaW.PrintWords Go.Proofs.YtfhlddlhoockaaaW.PrintLast Go.Proofs.YtfhlddlhoockaaaW.PrintMore
attribute [local go_sem] max2_int min2_int max_two min_two max_three min_three max_four min_four   -- for this text's walks alone
set_option linter.unusedVariables false
set_option linter.unusedSimpArgs false

/-! ### EXT rect_Nth: function 19 -/
-- IMPORTS Derived.RangeFuncNested;Derived.RangeFuncBound;Derived.RangeFuncCalls;Derived.Shelf.Abstract;Derived.Shelf.RegionOpen;Derived.OwnWalkIn;Derived.TacticsInMore;Derived.LoopNIn;Derived.LoopIn;Derived.WalkKit;Derived.Deep.QuietTactic;Derived.Deep.RegionHeld3;Derived.Shelf.SlicesE.Clone;Derived.Test.YtfhlddlhoockaaaShelf
/-! rect.Nth: a range over slices.Backward. -/
attribute [local go_sem] Oper.semAt_some
/-- What has come when k rounds are over. -/
def rect_Nth.upto {α : Type} (f : Nat → α) (k : Nat) : List α := (List.range k).map f
theorem rect_Nth.upto_succ {α : Type} (f : Nat → α) (k : Nat) : rect_Nth.upto f (k + 1) = rect_Nth.upto f k ++ [f k] := by simp [rect_Nth.upto, List.range_succ]
theorem rect_Nth.upto_length {α : Type} (f : Nat → α) (k : Nat) : (rect_Nth.upto f k).length = k := by simp [rect_Nth.upto]
def rect_Nth.at_ (zs : List Int) (i : Nat) : Int := zs[i]?.getD 0
/-- Two blocks lie as they lay. -/
def rect_Nth.Kp (a b : Nat) (W W' : World) : Prop := W'.heap[a]? = W.heap[a]? ∧ W'.heap[b]? = W.heap[b]?
theorem rect_Nth.Kp.trans {a b : Nat} {A B C : World} (h : rect_Nth.Kp a b A B) (k : rect_Nth.Kp a b B C) : rect_Nth.Kp a b A C := ⟨k.1.trans h.1, k.2.trans h.2⟩
theorem rect_Nth.Kp.cell {a b : Nat} {A B : World} (h : rect_Nth.Kp a b A B) {p : Addr} (hp : p.block = a ∨ p.block = b) : B.cell? p = A.cell? p := by
  rcases hp with e | e
  · exact World.cell?_of_block (by rw [e]; exact h.1)
  · exact World.cell?_of_block (by rw [e]; exact h.2)
/-- slices.Backward's value. -/
theorem rect_Nth.backward (A : Option Addr) (n c : Nat) (w : World) :
    Calls Try.prog 41 #[.slice A n c] w fun e w' => e = .returned (.func (.func 56) #[] #[.pointer (some ⟨w.heap.size, 0, none⟩)]) ∧ w' = w.alloc (.cells #[.slice A n c] 63) := by
  go_enter Try.func41, Try.ntmps41
  go_wp2
  go_ret
  exact ⟨rfl, rfl⟩
set_option maxRecDepth 100000 in
set_option maxHeartbeats 2000000 in
/-- slices.Backward's closure, at every body that keeps the two blocks. -/
theorem rect_Nth.back1 (F : Fence) (n : Nat) (hf : F.fn 56) (hro : F.round = none) (hn : 1 ≤ n) (l Bs g off len cap : Nat) (hm : 1 ≤ len) (zs : List Int) (hreach : len ≤ 1000000000) (J Jx : List (Fin len) → World → Prop)
    (hY : ∀ pre x W, J pre W → pre.length < len → YieldAt F (n - 1) Try.prog l #[.int .i64 ((x : Fin len).1 : Int), .int .i64 (rect_Nth.at_ zs x.1)] W fun e W' =>
      (e = .returned (.bool true) ∧ J (pre ++ [x]) W' ∧ rect_Nth.Kp Bs g W W') ∨ (e = .returned (.bool false) ∧ Jx (pre ++ [x]) W'))
    (W : World) (hBs : W.cell? ⟨Bs, 0, none⟩ = some (.slice (some ⟨g, off, none⟩) len cap)) (hc : ∀ j, j < len → W.cell? ⟨g, off + j, none⟩ = some (.int .i64 (rect_Nth.at_ zs j))) (h0 : J [] W) :
    CallsIn F n Try.prog 56 #[.func (.yield l) #[] #[], .pointer (some ⟨Bs, 0, none⟩)] W fun e W' => (∃ v, e = .returned v) ∧
      ((∃ ys, ys = rect_Nth.upto (fun j => (⟨len - 1 - j, by omega⟩ : Fin len)) len ∧ J ys W') ∨ (∃ pre, True ∧ Jx pre W')) := by
  refine callsIn_of_wp Try.func56 rfl hf ?_ hro
  simp only [Try.ntmps56, List.size_toArray, List.length_cons, List.length_nil, Nat.reduceAdd, Nat.reduceSub, Array.replicate_succ, Array.replicate_zero, List.push_toArray, List.append_toArray, List.nil_append, List.cons_append]
  gi_wp2
  gi_loopw [3] (fun i wr => ∃ k : Nat, ∃ x : Int, k ≤ len ∧ x = (len : Int) - 1 - k ∧ i = .int .i64 x ∧ J (rect_Nth.upto (fun j => (⟨len - 1 - j, by omega⟩ : Fin len)) k) wr ∧ rect_Nth.Kp Bs g W wr)
    (fun i _ => (intOf i + 1).toNat)
  case atStart => exact ⟨0, (len : Int) - 1, Nat.zero_le _, by omega, rfl, h0, rfl, rfl⟩
  case round =>
    obtain ⟨k, x, hk, hx, rfl, hJs, hnx⟩ := hrel
    have hBs' := (hnx.cell (p := ⟨Bs, 0, none⟩) (.inl rfl)).trans hBs
    by_cases hlt : k < len
    · obtain ⟨i, rfl⟩ := Int.eq_ofNat_of_zero_le (show 0 ≤ x by omega)
      obtain rfl : k = len - 1 - i := by omega
      have hi : len - 1 - (len - 1 - i) = i := by omega
      have hil : i < len := by omega
      clear hx
      obtain ⟨fn, tmps, assign, body, hy, hR⟩ := hY _ (⟨i, hil⟩ : Fin len) wr hJs (by rw [rect_Nth.upto_length]; exact hlt)
      dsimp only at hy
      have hcx' := (hnx.cell (p := ⟨g, off + i, none⟩) (.inr rfl)).trans (hc i hil)
      have hd0 : decide ((i : Int) ≥ 0) = true := decide_eq_true (by omega)
      have hp0 : (0 ≤ (i : Int)) = True := eq_true (by omega)
      have hp1 : ((i : Int) < (len : Int)) = True := eq_true (by omega)
      gi_wp2
      refine hR.mono ?_
      rintro e W3 (⟨rfl, hJ3, hk3⟩ | ⟨rfl, hJx3⟩)
      · gi_wp2
        go_roundw
        case rel => exact ⟨len - 1 - i + 1, (i : Int) - 1, by omega, by omega, rfl, by rw [rect_Nth.upto_succ]; simp only [hi]; exact hJ3, hnx.trans hk3⟩
        case measure => simp [intOf]
      · gi_wp2
        refine bodyPost_ret (results_none rfl _ _ _) rfl ?_
        exact ⟨⟨_, rfl⟩, .inr ⟨_, trivial, hJx3⟩⟩
    · obtain rfl : k = len := by omega
      obtain rfl : x = -1 := by omega
      gi_wp2
      go_end0
      exact ⟨⟨_, rfl⟩, .inl ⟨_, rfl, hJs⟩⟩
theorem rect_Nth.stops (F : Fence) (n : Nat) (hf : F.fn 56) (hro : F.round = none) (hn : 1 ≤ n) (Bs g off len cap : Nat) (hm : 1 ≤ len) (zs : List Int) (hreach : len ≤ 1000000000) (w : World) (hB : Bs < w.heap.size) (hg : g < w.heap.size)
    (hBs : w.cell? ⟨Bs, 0, none⟩ = some (.slice (some ⟨g, off, none⟩) len cap)) (hc : ∀ j, j < len → w.cell? ⟨g, off + j, none⟩ = some (.int .i64 (rect_Nth.at_ zs j))) :
    SeqStopsK F n Try.prog 56 #[.pointer (some ⟨Bs, 0, none⟩)] (fun x : Fin len => #[Value.int .i64 (x.1 : Int), Value.int .i64 (rect_Nth.at_ zs x.1)]) (rect_Nth.Kp Bs g)
      (fun ys => ys = rect_Nth.upto (fun j => (⟨len - 1 - j, by omega⟩ : Fin len)) len) (fun _ => True) len w := fun l J Jx W hW _ _ hY h0 =>
  rect_Nth.back1 F n hf hro hn l Bs g off len cap hm zs hreach J Jx hY W ((hW.cell (p := ⟨Bs, 0, none⟩) hB).trans hBs) (fun j hj => (hW.cell (p := ⟨g, off + j, none⟩) hg).trans (hc j hj)) h0
/-- One round: a number's last place is taken off, and laid at its place. -/
def rect_Nth.step (zs : List Int) (i : Nat) (s : Int × List Int) : Int × List Int := (wrap64 (Int.tdiv s.1 (rect_Nth.at_ zs i)), s.2.set i (((rect_Nth.at_ s.2 i) + (Int.tmod s.1 (rect_Nth.at_ zs i))) % 256))
def rect_Nth.go (zs : List Int) : Nat → Int × List Int → Int × List Int
  | 0, s => s
  | i + 1, s => rect_Nth.go zs i (rect_Nth.step zs i s)
theorem rect_Nth.go_upto (zs : List Int) (len : Nat) (hm : 1 ≤ len) (s : Int × List Int) : ∀ k, k ≤ len →
    rect_Nth.go zs (len - k) ((rect_Nth.upto (fun j => (⟨len - 1 - j, by omega⟩ : Fin len)) k).foldl (fun s x => rect_Nth.step zs x.1 s) s) = rect_Nth.go zs len s
  | 0, _ => rfl
  | k + 1, hk => by
    have ih := rect_Nth.go_upto zs len hm s k (by omega)
    rw [show len - k = (len - (k + 1)) + 1 by omega] at ih
    rw [rect_Nth.upto_succ, List.foldl_append, ← ih]
    show _ = rect_Nth.go zs (len - (k + 1)) (rect_Nth.step zs (len - (k + 1)) _)
    simp only [List.foldl_cons, List.foldl_nil]
    rw [show len - 1 - k = len - (k + 1) by omega]
theorem rect_Nth.go_all (zs : List Int) (len : Nat) (hm : 1 ≤ len) (s : Int × List Int) :
    (rect_Nth.upto (fun j => (⟨len - 1 - j, by omega⟩ : Fin len)) len).foldl (fun s x => rect_Nth.step zs x.1 s) s = rect_Nth.go zs len s := by
  have h := rect_Nth.go_upto zs len hm s len (Nat.le_refl _)
  rw [Nat.sub_self] at h
  exact h
/-- A copy of some bytes. -/
theorem rect_Nth.clone (A : Option Addr) (c : Nat) (l : List Int) (w : World) (hr : Kd.C (Kd.int .u8) w A l.length l) (h1 : 1 ≤ l.length) (h2 : l.length ≤ 1000000000) :
    Calls Try.prog 40 #[.slice A l.length c] w fun e w' => ∃ v', e = .returned v' ∧ Kd.R (Kd.int .u8) 5 w' w.heap.size (fun _ => True) v' l ∧ Below w.heap.size w w' := by
  obtain ⟨i0, hi, hzz⟩ := Option.map_eq_some_iff.mp info5
  have hz0 : i0.zero = some (.int .u8 0) := congrArg (·.1) hzz
  have hz1 : i0.size = 1 := congrArg (·.2.1) hzz
  have hz2 : i0.bytes = 1 := congrArg (·.2.2) hzz
  obtain ⟨ad, rfl, _⟩ := Kd.at_int hr 0 (Int.le_refl _) (by omega)
  have hspot : ∀ i : Nat, i < l.length → w.cell? (ad.add i) = some (.int .u8 (rd l (i : Int))) := by
    intro i hi
    obtain ⟨ad', e, h⟩ := Kd.at_int hr (i : Int) (by omega) (by omega)
    cases e
    exact h
  obtain ⟨b, off, sp⟩ := ad
  have hsp : sp = none := by
    have h := hspot 0 (by omega)
    cases sp with
    | none => rfl
    | some z =>
      unfold World.cell? Addr.add at h
      simp at h
      split at h <;> simp at h
  subst hsp
  refine (Go.Proofs.AnyE.slices_Clone Try.cloneB i0 _ 1 1 hi hz0 hz1 hz2 rfl (by decide) Try.sizeOf5 b off l.length c (nums .u8 l) w (by simp [nums_length]) (by unfold maxLen; omega) (by omega) (fun j u hu => ?_) (fun u hu => ?_)).mono ?_
  · obtain ⟨hj, hu'⟩ := List.getElem?_eq_some_iff.mp hu
    rw [nums_length] at hj
    have h := hspot j hj
    rw [← hu']
    simp only [nums, List.getElem_map]
    have e : rd l (j : Int) = l[j] := by unfold rd; simp [List.getD, hj]
    rw [e] at h
    have ea : (⟨b, off, none⟩ : Addr).add j = ⟨b, off + j, none⟩ := by
      cases j <;> simp [Addr.add]
    rw [ea] at h
    exact h
  · unfold nums at hu
    obtain ⟨x, _, rfl⟩ := List.mem_map.mp hu
    rfl
  · rintro e w' ⟨v', rfl, ho, _, hb⟩
    exact ⟨v', rfl, Kd.R_of_own ho (fun _ _ => trivial), hb⟩
theorem rect_Nth.row {k : IntKind} {e : Nat} {W : World} {base : Nat} {ok : Nat → Prop} {ad : Addr} {n c : Nat} {xs : List Int} (h : (Kd.int k).R e W base ok (.slice (some ad) n c) xs) :
    ∃ g cells, ad = ⟨g, 0, none⟩ ∧ g < W.heap.size ∧ W.heap[g]? = some (.cells cells e (0, 0)) := by
  obtain ⟨_, inner, ho, hr⟩ := h
  rcases ho.2 with ⟨he, _⟩ | ⟨g, cap, cur, he, hg, hh, r⟩
  · cases he
  · cases he
    exact ⟨g, cur, rfl, blk_lt hh, hh⟩
theorem rect_Nth.base {k : IntKind} {e : Nat} {W : World} {base : Nat} {ok : Nat → Prop} {v : Value} {xs : List Int} (h : (Kd.int k).R e W base ok v xs) : ∀ j, v.ownBlock = some j → base ≤ j := by
  obtain ⟨_, inner, ho, hr⟩ := h
  exact own_base ho
theorem rect_Nth.R_own {k : IntKind} {e : Nat} {W W' : World} {base : Nat} {ok : Nat → Prop} {v : Value} {xs : List Int} {row : Option Nat} (h : (Kd.int k).R e W base ok v xs) (hg : W.grownBy W' row)
    (hr : ∀ r, row = some r → ∃ o : Obj, W.heap[r]? = some o ∧ o.isCells = false) : (Kd.int k).R e W' base ok v xs :=
  Kd.R_mono (Kd.R_grown (Kd.R_bound h) hg (fun k hk e => by
    obtain ⟨_, _, _, q, _, cells, hc⟩ := hk
    obtain ⟨o, ho, hn⟩ := hr k e.symm
    rw [hc] at ho
    cases ho
    exact absurd hn (by simp [Obj.isCells]))) (fun _ hk => hk.1)
theorem rect_Nth.heap_own {W W' : World} {row : Option Nat} {g t : Nat} {cs : Array Value} {fr : Nat × Nat} (h : W.heap[g]? = some (.cells cs t fr)) (hg : W.grownBy W' row)
    (hr : ∀ r, row = some r → ∃ o : Obj, W.heap[r]? = some o ∧ o.isCells = false) : W'.heap[g]? = some (.cells cs t fr) := (grownBy_keeps_cells hg hr h rfl).trans h
def rect_Nth.st (zs : List Int) (s : Int × List Int) {n : Nat} (pre : List (Fin n)) : Int × List Int := pre.foldl (fun s x => rect_Nth.step zs x.1 s) s
theorem rect_Nth.st_snoc (zs : List Int) (s : Int × List Int) {n : Nat} (pre : List (Fin n)) (x : Fin n) : rect_Nth.st zs s (pre ++ [x]) = rect_Nth.step zs x.1 (rect_Nth.st zs s pre) := by simp [rect_Nth.st]
theorem rect_Nth.step_len (zs : List Int) (i : Nat) (s : Int × List Int) : (rect_Nth.step zs i s).2.length = s.2.length := by simp [rect_Nth.step]
theorem rect_Nth.rd_get (l : List Int) (i : Nat) : rd l (i : Int) = rect_Nth.at_ l i := by unfold rd rect_Nth.at_; simp
/-! A region that draws its order, in a round: walked as anywhere, where no operation defers. -/
def rect_Nth.noDefer (ops : Array Oper) : Bool := ops.toList.all fun o => match o.op with | .defer _ => false | _ => true
theorem rect_Nth.noDefer_spec {ops : Array Oper} (h : rect_Nth.noDefer ops = true) {i : Nat} {o : Oper} (hi : ops[i]? = some o) : ∀ c, o.op ≠ .defer c := by
  intro c hc
  unfold rect_Nth.noDefer at h
  rw [List.all_eq_true] at h
  have := h o (by rw [Array.mem_toList_iff]; exact Array.mem_of_getElem? hi)
  rw [hc] at this
  cases this
theorem rect_Nth.op_round {F : Fence} {n : Nat} {P : Program} {ops : Array Oper} {Q : Exit → Act → World → Prop} (hro : F.round = none) (hd : rect_Nth.noDefer ops = true) (l : Nat) {i : Nat} {K K' : Act → World → Prop} {a : Act} {w : World}
    (hK : ∀ a w, K a w → K' a w) (h : wpOpIn F n P ops Q i K a w) : wpOpIn (F.inRound l) n P ops Q i K' a w := by
  have h := wpOpIn_mono hK h
  unfold wpOpIn at *
  split
  · rename_i hn
    simp only [hn] at h
    exact h
  · rename_i o ho
    simp only [ho] at h
    split
    · rename_i hw
      simp only [hw, if_true] at h
      unfold Oper.wpIn at *
      refine ⟨h.1, ?_⟩
      have h2 := h.2
      rw [hro, Oper.semAt_none] at h2
      rw [show (F.inRound l).round = some l from rfl, Oper.semAt_some l _ _ (rect_Nth.noDefer_spec hd ho)]
      exact h2
    · rename_i hw
      simp only [hw] at h
      exact h
theorem rect_Nth.any_round {F : Fence} {n : Nat} {P : Program} {md : Region.Mode} {ops : Array Oper} {Q : Exit → Act → World → Prop} (hro : F.round = none) (hd : rect_Nth.noDefer ops = true) (l : Nat) : ∀ (fuel : Nat) (listed : Array Bool) (a : Act) (w : World),
    wpAnyIn F n P md ops Q fuel listed a w → wpAnyIn (F.inRound l) n P md ops Q fuel listed a w
  | 0, _, _, _, h => h
  | fuel + 1, listed, a, w, h => ⟨h.1, fun i hi => rect_Nth.op_round hro hd l (fun a w => rect_Nth.any_round hro hd l fuel _ a w) (h.2 i hi)⟩
theorem rect_Nth.region_round {F : Fence} {n : Nat} {P : Program} {ops : Array Oper} {Q : Exit → Act → World → Prop} (hro : F.round = none) (hd : rect_Nth.noDefer ops = true) (l : Nat) {id : Nat} {a : Act} {w : World} (hm : P.follows .mixedOrders = true)
    (h : wpAnyIn F n P .any ops Q ops.size (Array.replicate ops.size false) a w.drew) : (Code.region id ops true).wpIn (F.inRound l) n P Q a w :=
  wpIn_region_any hm (rect_Nth.any_round hro hd l _ _ _ _ h)
set_option maxHeartbeats 8000000 in
set_option maxRecDepth 100000 in
theorem rect_Nth.neg (k : Nat) (a0_0 : Int) (a0_1 : Int) (a0_2 : Int) (a1 : Int) (hneg : a1 < 0) (w : World) :
    Calls Try.prog 19 #[.agg #[.int .i64 a0_0, .int .i64 a0_1, .int .i64 a0_2], .int .i64 a1] w fun e w' => e = .returned (.tuple #[.agg #[.int .i64 0, .int .i64 0], .bool false]) ∧ Below w.heap.size w w' := by
  have hu31 := Try.underlying31
  have hu28 := Try.underlying28
  have hu55 := Try.underlying55
  have HB := Aside0.mk (Below.refl w.heap.size w)
  go_enter Try.func19, Try.ntmps19
  go_upto_region 1 with (first | ((with_reducible refine gate_dst (N := 2) rfl ?_); refine box_event ?hg (N := 2) ?hd (cs := #[.int .i64 a0_0, .int .i64 a0_1, .int .i64 a0_2]) (t := 31) ?hr ?_; (case hd => rfl); (case hg => rfl); (case hr => first | (go_simp; done) | (go_simp; rfl)); intro gr hg w2 hbox hb; have n0_ := Aside0.mk (hbox); have n1_ := Aside0.mk ((by rw [hg]; exact (below_size (by repeat (first | (with_reducible first | exact HB.out | apply below_alloc | apply pw_below_drewN | apply below_drew1) | exact HB.out))) : w.heap.size ≤ gr)); have n2_ := Aside0.mk (below_step (by repeat (first | (with_reducible first | exact HB.out | apply below_alloc | apply pw_below_drewN | apply below_drew1) | exact HB.out)) hb); (try clear BKr); (try clear GEr); (try clear HB); have BKr := n0_; have GEr := n1_; have HB := n2_; clear n0_ n1_ n2_; clear hb hbox hg) | ((with_reducible refine gate_dst (N := 3) rfl ?_); refine box_event ?hg (N := 3) ?hd (cs := #[.int .i64 a1]) (t := 3) ?hr ?_; (case hd => rfl); (case hg => rfl); (case hr => first | (go_simp; done) | (go_simp; rfl)); intro gk hg w3 hbox hb; have n0_ := Aside0.mk (blk_below (g := gr) (o := .cells #[.int .i64 a0_0, .int .i64 a0_1, .int .i64 a0_2] 31 (0, 0)) (by (with_reducible repeat (first | refine blk_drewN ?_ _ | refine blk_drew ?_ | refine blk_alloc ?_ _)); exact BKr.out) hb); have n1_ := Aside0.mk ((by rw [hg]; exact Nat.ne_of_lt (blk_lt (g := gr) (o := .cells #[.int .i64 a0_0, .int .i64 a0_1, .int .i64 a0_2] 31 (0, 0)) (by (with_reducible repeat (first | refine blk_drewN ?_ _ | refine blk_drew ?_ | refine blk_alloc ?_ _)); exact BKr.out)) : gr ≠ gk)); have n2_ := Aside0.mk ((by rw [hg]; exact Nat.ne_of_gt (blk_lt (g := gr) (o := .cells #[.int .i64 a0_0, .int .i64 a0_1, .int .i64 a0_2] 31 (0, 0)) (by (with_reducible repeat (first | refine blk_drewN ?_ _ | refine blk_drew ?_ | refine blk_alloc ?_ _)); exact BKr.out)) : gk ≠ gr)); have n3_ := Aside0.mk (hbox); have n4_ := Aside0.mk ((by rw [hg]; exact (below_size (by repeat (first | (with_reducible first | exact HB.out | apply below_alloc | apply pw_below_drewN | apply below_drew1 | refine below_set ?_ GEr.out) | exact HB.out))) : w.heap.size ≤ gk)); have n5_ := Aside0.mk (below_step (by repeat (first | (with_reducible first | exact HB.out | apply below_alloc | apply pw_below_drewN | apply below_drew1 | refine below_set ?_ GEr.out) | exact HB.out)) hb); (try clear BKr); (try clear NBr_k); (try clear NBk_r); (try clear BKk); (try clear GEk); (try clear HB); have BKr := n0_; have NBr_k := n1_; have NBk_r := n2_; have BKk := n3_; have GEk := n4_; have HB := n5_; clear n0_ n1_ n2_ n3_ n4_ n5_; clear hb hbox hg) | ((with_reducible refine gate_dst (N := 4) rfl ?_); refine box_event ?hg (N := 4) ?hd (cs := #[.int .i64 0, .int .i64 0]) (t := 28) ?hr ?_; (case hd => rfl); (case hg => rfl); (case hr => first | (go_simp; done) | (go_simp; rfl)); intro gq hg w4 hbox hb; have n0_ := Aside0.mk (blk_below (g := gr) (o := .cells #[.int .i64 a0_0, .int .i64 a0_1, .int .i64 a0_2] 31 (0, 0)) (by (with_reducible repeat (first | refine blk_drewN ?_ _ | refine blk_drew ?_ | refine blk_alloc ?_ _)); exact BKr.out) hb); have n1_ := Aside0.mk (blk_below (g := gk) (o := .cells #[.int .i64 a1] 3 (0, 0)) (by (with_reducible repeat (first | refine blk_drewN ?_ _ | refine blk_drew ?_ | refine blk_alloc ?_ _)); exact BKk.out) hb); have n2_ := Aside0.mk ((by rw [hg]; exact Nat.ne_of_lt (blk_lt (g := gr) (o := .cells #[.int .i64 a0_0, .int .i64 a0_1, .int .i64 a0_2] 31 (0, 0)) (by (with_reducible repeat (first | refine blk_drewN ?_ _ | refine blk_drew ?_ | refine blk_alloc ?_ _)); exact BKr.out)) : gr ≠ gq)); have n3_ := Aside0.mk ((by rw [hg]; exact Nat.ne_of_gt (blk_lt (g := gr) (o := .cells #[.int .i64 a0_0, .int .i64 a0_1, .int .i64 a0_2] 31 (0, 0)) (by (with_reducible repeat (first | refine blk_drewN ?_ _ | refine blk_drew ?_ | refine blk_alloc ?_ _)); exact BKr.out)) : gq ≠ gr)); have n4_ := Aside0.mk ((by rw [hg]; exact Nat.ne_of_lt (blk_lt (g := gk) (o := .cells #[.int .i64 a1] 3 (0, 0)) (by (with_reducible repeat (first | refine blk_drewN ?_ _ | refine blk_drew ?_ | refine blk_alloc ?_ _)); exact BKk.out)) : gk ≠ gq)); have n5_ := Aside0.mk ((by rw [hg]; exact Nat.ne_of_gt (blk_lt (g := gk) (o := .cells #[.int .i64 a1] 3 (0, 0)) (by (with_reducible repeat (first | refine blk_drewN ?_ _ | refine blk_drew ?_ | refine blk_alloc ?_ _)); exact BKk.out)) : gq ≠ gk)); have n6_ := Aside0.mk (hbox); have n7_ := Aside0.mk ((by rw [hg]; exact (below_size (by repeat (first | (with_reducible first | exact HB.out | apply below_alloc | apply pw_below_drewN | apply below_drew1 | refine below_set ?_ GEr.out | refine below_set ?_ GEk.out) | exact HB.out))) : w.heap.size ≤ gq)); have n8_ := Aside0.mk (below_step (by repeat (first | (with_reducible first | exact HB.out | apply below_alloc | apply pw_below_drewN | apply below_drew1 | refine below_set ?_ GEr.out | refine below_set ?_ GEk.out) | exact HB.out)) hb); (try clear BKr); (try clear BKk); (try clear NBr_q); (try clear NBq_r); (try clear NBk_q); (try clear NBq_k); (try clear BKq); (try clear GEq); (try clear HB); have BKr := n0_; have BKk := n1_; have NBr_q := n2_; have NBq_r := n3_; have NBk_q := n4_; have NBq_k := n5_; have BKq := n6_; have GEq := n7_; have HB := n8_; clear n0_ n1_ n2_ n3_ n4_ n5_ n6_ n7_ n8_; clear hb hbox hg))
  (try simp only [Act.put, List.setIfInBounds_toArray, List.set_cons_zero, List.set_cons_succ])
  go_cut [18] (fun v18 wc => v18 = .bool true ∧ Aside0 (wc.heap[gr]? = some (.cells #[.int .i64 a0_0, .int .i64 a0_1, .int .i64 a0_2] 31 (0, 0))) ∧ Aside0 (wc.heap[gk]? = some (.cells #[.int .i64 a1] 3 (0, 0))) ∧ Aside0 (wc.heap[gq]? = some (.cells #[.int .i64 0, .int .i64 0] 28 (0, 0))) ∧ Aside0 (Below w.heap.size w wc))
  case first =>
    have c0b : decide (a1 < 0) = true := decide_eq_true hneg
    (try rw [c0b])
    have hNBr_k := NBr_k.out
    have hNBk_r := NBk_r.out
    have hNBr_q := NBr_q.out
    have hNBq_r := NBq_r.out
    have hNBk_q := NBk_q.out
    have hNBq_k := NBq_k.out
    have hczr_0 : w4.cell? ⟨gr, 0, none⟩ = some (.int .i64 a0_0) := (blk_cell BKr.out 0).trans rfl
    have hczr_1 : w4.cell? ⟨gr, 1, none⟩ = some (.int .i64 a0_1) := (blk_cell BKr.out 1).trans rfl
    have hczr_2 : w4.cell? ⟨gr, 2, none⟩ = some (.int .i64 a0_2) := (blk_cell BKr.out 2).trans rfl
    have hfzr_0 := blk_frozen BKr.out 0
    have hfzr_1 := blk_frozen BKr.out 1
    have hfzr_2 := blk_frozen BKr.out 2
    have hczk_0 : w4.cell? ⟨gk, 0, none⟩ = some (.int .i64 a1) := (blk_cell BKk.out 0).trans rfl
    have hfzk_0 := blk_frozen BKk.out 0
    have hczq_0 : w4.cell? ⟨gq, 0, none⟩ = some (.int .i64 0) := (blk_cell BKq.out 0).trans rfl
    have hczq_1 : w4.cell? ⟨gq, 1, none⟩ = some (.int .i64 0) := (blk_cell BKq.out 1).trans rfl
    have hfzq_0 := blk_frozen BKq.out 0
    have hfzq_1 := blk_frozen BKq.out 1
    go_quiet (fail)
    go_wp2
    go_meet
    case rel => exact ⟨(by first | rfl | (simp; done) | (simp [*]; done)), ⟨by (with_reducible repeat (first | refine blk_drewN ?_ _ | refine blk_drew ?_ | refine blk_alloc ?_ _)); exact BKr.out⟩, ⟨by (with_reducible repeat (first | refine blk_drewN ?_ _ | refine blk_drew ?_ | refine blk_alloc ?_ _)); exact BKk.out⟩, ⟨by (with_reducible repeat (first | refine blk_drewN ?_ _ | refine blk_drew ?_ | refine blk_alloc ?_ _)); exact BKq.out⟩, ⟨by repeat (first | (with_reducible first | exact HB.out | apply below_alloc | apply pw_below_drewN | apply below_drew1 | refine below_set ?_ GEr.out | refine below_set ?_ GEk.out | refine below_set ?_ GEq.out) | exact HB.out)⟩⟩
  case rest =>
    obtain ⟨rfl, BKr, BKk, BKq, HB⟩ := hcut
    have hNBr_k := NBr_k.out
    have hNBk_r := NBk_r.out
    have hNBr_q := NBr_q.out
    have hNBq_r := NBq_r.out
    have hNBk_q := NBk_q.out
    have hNBq_k := NBq_k.out
    have hczr_0 : wc.cell? ⟨gr, 0, none⟩ = some (.int .i64 a0_0) := (blk_cell BKr.out 0).trans rfl
    have hczr_1 : wc.cell? ⟨gr, 1, none⟩ = some (.int .i64 a0_1) := (blk_cell BKr.out 1).trans rfl
    have hczr_2 : wc.cell? ⟨gr, 2, none⟩ = some (.int .i64 a0_2) := (blk_cell BKr.out 2).trans rfl
    have hfzr_0 := blk_frozen BKr.out 0
    have hfzr_1 := blk_frozen BKr.out 1
    have hfzr_2 := blk_frozen BKr.out 2
    have hczk_0 : wc.cell? ⟨gk, 0, none⟩ = some (.int .i64 a1) := (blk_cell BKk.out 0).trans rfl
    have hfzk_0 := blk_frozen BKk.out 0
    have hczq_0 : wc.cell? ⟨gq, 0, none⟩ = some (.int .i64 0) := (blk_cell BKq.out 0).trans rfl
    have hczq_1 : wc.cell? ⟨gq, 1, none⟩ = some (.int .i64 0) := (blk_cell BKq.out 1).trans rfl
    have hfzq_0 := blk_frozen BKq.out 0
    have hfzq_1 := blk_frozen BKq.out 1
    go_wp2
    refine bodyPost_ret (results_ct rfl _ _ gq 28 #[.int .i64 0, .int .i64 0] (0, 0) _ rfl (by (with_reducible repeat (first | refine blk_drewN ?_ _ | refine blk_drew ?_ | refine blk_alloc ?_ _)); refine blk_put (cs := #[.int .i64 0, .int .i64 0]) ?_ 1 _ rfl; (with_reducible repeat (first | refine blk_drewN ?_ _ | refine blk_drew ?_ | refine blk_alloc ?_ _)); refine blk_put (cs := #[.int .i64 0, .int .i64 0]) ?_ 0 _ rfl; (with_reducible repeat (first | refine blk_drewN ?_ _ | refine blk_drew ?_ | refine blk_alloc ?_ _)); exact BKq.out) Try.underlying28 rfl (by kernel_rfl)) rfl ?_
    exact ⟨by first | rfl | (simp [errW_none, errW_some] <;> rfl) | (simp [*, errW_none, errW_some] <;> rfl), by repeat (first | (with_reducible first | exact HB.out | apply below_alloc | apply pw_below_drewN | apply below_drew1 | refine below_set ?_ GEr.out | refine below_set ?_ GEk.out | refine below_set ?_ GEq.out) | exact HB.out)⟩
set_option maxHeartbeats 8000000 in
set_option maxRecDepth 100000 in
theorem rect_Nth.past (k : Nat) (a0_0 : Int) (a0_1 : Int) (a0_2 : Int) (a1 : Int) (t : Int) (hneg : ¬ a1 < 0) (hge : a1 ≥ t) (A1 : rect_Size.f k a0_0 a0_1 a0_2 = some t) (w : World) :
    Calls Try.prog 19 #[.agg #[.int .i64 a0_0, .int .i64 a0_1, .int .i64 a0_2], .int .i64 a1] w fun e w' => e = .returned (.tuple #[.agg #[.int .i64 0, .int .i64 0], .bool false]) ∧ Below w.heap.size w w' := by
  have hu31 := Try.underlying31
  have hu28 := Try.underlying28
  have hu55 := Try.underlying55
  have HB := Aside0.mk (Below.refl w.heap.size w)
  go_enter Try.func19, Try.ntmps19
  go_upto_region 1 with (first | ((with_reducible refine gate_dst (N := 2) rfl ?_); refine box_event ?hg (N := 2) ?hd (cs := #[.int .i64 a0_0, .int .i64 a0_1, .int .i64 a0_2]) (t := 31) ?hr ?_; (case hd => rfl); (case hg => rfl); (case hr => first | (go_simp; done) | (go_simp; rfl)); intro gr hg w2 hbox hb; have n0_ := Aside0.mk (hbox); have n1_ := Aside0.mk ((by rw [hg]; exact (below_size (by repeat (first | (with_reducible first | exact HB.out | apply below_alloc | apply pw_below_drewN | apply below_drew1) | exact HB.out))) : w.heap.size ≤ gr)); have n2_ := Aside0.mk (below_step (by repeat (first | (with_reducible first | exact HB.out | apply below_alloc | apply pw_below_drewN | apply below_drew1) | exact HB.out)) hb); (try clear BKr); (try clear GEr); (try clear HB); have BKr := n0_; have GEr := n1_; have HB := n2_; clear n0_ n1_ n2_; clear hb hbox hg) | ((with_reducible refine gate_dst (N := 3) rfl ?_); refine box_event ?hg (N := 3) ?hd (cs := #[.int .i64 a1]) (t := 3) ?hr ?_; (case hd => rfl); (case hg => rfl); (case hr => first | (go_simp; done) | (go_simp; rfl)); intro gk hg w3 hbox hb; have n0_ := Aside0.mk (blk_below (g := gr) (o := .cells #[.int .i64 a0_0, .int .i64 a0_1, .int .i64 a0_2] 31 (0, 0)) (by (with_reducible repeat (first | refine blk_drewN ?_ _ | refine blk_drew ?_ | refine blk_alloc ?_ _)); exact BKr.out) hb); have n1_ := Aside0.mk ((by rw [hg]; exact Nat.ne_of_lt (blk_lt (g := gr) (o := .cells #[.int .i64 a0_0, .int .i64 a0_1, .int .i64 a0_2] 31 (0, 0)) (by (with_reducible repeat (first | refine blk_drewN ?_ _ | refine blk_drew ?_ | refine blk_alloc ?_ _)); exact BKr.out)) : gr ≠ gk)); have n2_ := Aside0.mk ((by rw [hg]; exact Nat.ne_of_gt (blk_lt (g := gr) (o := .cells #[.int .i64 a0_0, .int .i64 a0_1, .int .i64 a0_2] 31 (0, 0)) (by (with_reducible repeat (first | refine blk_drewN ?_ _ | refine blk_drew ?_ | refine blk_alloc ?_ _)); exact BKr.out)) : gk ≠ gr)); have n3_ := Aside0.mk (hbox); have n4_ := Aside0.mk ((by rw [hg]; exact (below_size (by repeat (first | (with_reducible first | exact HB.out | apply below_alloc | apply pw_below_drewN | apply below_drew1 | refine below_set ?_ GEr.out) | exact HB.out))) : w.heap.size ≤ gk)); have n5_ := Aside0.mk (below_step (by repeat (first | (with_reducible first | exact HB.out | apply below_alloc | apply pw_below_drewN | apply below_drew1 | refine below_set ?_ GEr.out) | exact HB.out)) hb); (try clear BKr); (try clear NBr_k); (try clear NBk_r); (try clear BKk); (try clear GEk); (try clear HB); have BKr := n0_; have NBr_k := n1_; have NBk_r := n2_; have BKk := n3_; have GEk := n4_; have HB := n5_; clear n0_ n1_ n2_ n3_ n4_ n5_; clear hb hbox hg) | ((with_reducible refine gate_dst (N := 4) rfl ?_); refine box_event ?hg (N := 4) ?hd (cs := #[.int .i64 0, .int .i64 0]) (t := 28) ?hr ?_; (case hd => rfl); (case hg => rfl); (case hr => first | (go_simp; done) | (go_simp; rfl)); intro gq hg w4 hbox hb; have n0_ := Aside0.mk (blk_below (g := gr) (o := .cells #[.int .i64 a0_0, .int .i64 a0_1, .int .i64 a0_2] 31 (0, 0)) (by (with_reducible repeat (first | refine blk_drewN ?_ _ | refine blk_drew ?_ | refine blk_alloc ?_ _)); exact BKr.out) hb); have n1_ := Aside0.mk (blk_below (g := gk) (o := .cells #[.int .i64 a1] 3 (0, 0)) (by (with_reducible repeat (first | refine blk_drewN ?_ _ | refine blk_drew ?_ | refine blk_alloc ?_ _)); exact BKk.out) hb); have n2_ := Aside0.mk ((by rw [hg]; exact Nat.ne_of_lt (blk_lt (g := gr) (o := .cells #[.int .i64 a0_0, .int .i64 a0_1, .int .i64 a0_2] 31 (0, 0)) (by (with_reducible repeat (first | refine blk_drewN ?_ _ | refine blk_drew ?_ | refine blk_alloc ?_ _)); exact BKr.out)) : gr ≠ gq)); have n3_ := Aside0.mk ((by rw [hg]; exact Nat.ne_of_gt (blk_lt (g := gr) (o := .cells #[.int .i64 a0_0, .int .i64 a0_1, .int .i64 a0_2] 31 (0, 0)) (by (with_reducible repeat (first | refine blk_drewN ?_ _ | refine blk_drew ?_ | refine blk_alloc ?_ _)); exact BKr.out)) : gq ≠ gr)); have n4_ := Aside0.mk ((by rw [hg]; exact Nat.ne_of_lt (blk_lt (g := gk) (o := .cells #[.int .i64 a1] 3 (0, 0)) (by (with_reducible repeat (first | refine blk_drewN ?_ _ | refine blk_drew ?_ | refine blk_alloc ?_ _)); exact BKk.out)) : gk ≠ gq)); have n5_ := Aside0.mk ((by rw [hg]; exact Nat.ne_of_gt (blk_lt (g := gk) (o := .cells #[.int .i64 a1] 3 (0, 0)) (by (with_reducible repeat (first | refine blk_drewN ?_ _ | refine blk_drew ?_ | refine blk_alloc ?_ _)); exact BKk.out)) : gq ≠ gk)); have n6_ := Aside0.mk (hbox); have n7_ := Aside0.mk ((by rw [hg]; exact (below_size (by repeat (first | (with_reducible first | exact HB.out | apply below_alloc | apply pw_below_drewN | apply below_drew1 | refine below_set ?_ GEr.out | refine below_set ?_ GEk.out) | exact HB.out))) : w.heap.size ≤ gq)); have n8_ := Aside0.mk (below_step (by repeat (first | (with_reducible first | exact HB.out | apply below_alloc | apply pw_below_drewN | apply below_drew1 | refine below_set ?_ GEr.out | refine below_set ?_ GEk.out) | exact HB.out)) hb); (try clear BKr); (try clear BKk); (try clear NBr_q); (try clear NBq_r); (try clear NBk_q); (try clear NBq_k); (try clear BKq); (try clear GEq); (try clear HB); have BKr := n0_; have BKk := n1_; have NBr_q := n2_; have NBq_r := n3_; have NBk_q := n4_; have NBq_k := n5_; have BKq := n6_; have GEq := n7_; have HB := n8_; clear n0_ n1_ n2_ n3_ n4_ n5_ n6_ n7_ n8_; clear hb hbox hg))
  (try simp only [Act.put, List.setIfInBounds_toArray, List.set_cons_zero, List.set_cons_succ])
  go_cut [18] (fun v18 wc => v18 = .bool true ∧ Aside0 (wc.heap[gr]? = some (.cells #[.int .i64 a0_0, .int .i64 a0_1, .int .i64 a0_2] 31 (0, 0))) ∧ Aside0 (wc.heap[gk]? = some (.cells #[.int .i64 a1] 3 (0, 0))) ∧ Aside0 (wc.heap[gq]? = some (.cells #[.int .i64 0, .int .i64 0] 28 (0, 0))) ∧ Aside0 (Below w.heap.size w wc))
  case first =>
    have c0b : decide (a1 < 0) = false := decide_eq_false (by omega)
    (try rw [c0b])
    have c1b : decide (a1 ≥ t) = true := decide_eq_true hge
    have hNBr_k := NBr_k.out
    have hNBk_r := NBk_r.out
    have hNBr_q := NBr_q.out
    have hNBq_r := NBq_r.out
    have hNBk_q := NBk_q.out
    have hNBq_k := NBq_k.out
    have hczr_0 : w4.cell? ⟨gr, 0, none⟩ = some (.int .i64 a0_0) := (blk_cell BKr.out 0).trans rfl
    have hczr_1 : w4.cell? ⟨gr, 1, none⟩ = some (.int .i64 a0_1) := (blk_cell BKr.out 1).trans rfl
    have hczr_2 : w4.cell? ⟨gr, 2, none⟩ = some (.int .i64 a0_2) := (blk_cell BKr.out 2).trans rfl
    have hfzr_0 := blk_frozen BKr.out 0
    have hfzr_1 := blk_frozen BKr.out 1
    have hfzr_2 := blk_frozen BKr.out 2
    have hczk_0 : w4.cell? ⟨gk, 0, none⟩ = some (.int .i64 a1) := (blk_cell BKk.out 0).trans rfl
    have hfzk_0 := blk_frozen BKk.out 0
    have hczq_0 : w4.cell? ⟨gq, 0, none⟩ = some (.int .i64 0) := (blk_cell BKq.out 0).trans rfl
    have hczq_1 : w4.cell? ⟨gq, 1, none⟩ = some (.int .i64 0) := (blk_cell BKq.out 1).trans rfl
    have hfzq_0 := blk_frozen BKq.out 0
    have hfzq_1 := blk_frozen BKq.out 1
    go_region_held3 (fun W => (W.heap[gr]? = some (.cells #[.int .i64 a0_0, .int .i64 a0_1, .int .i64 a0_2] 31 (0, 0))) ∧ (W.heap[gk]? = some (.cells #[.int .i64 a1] 3 (0, 0))) ∧ (W.heap[gq]? = some (.cells #[.int .i64 0, .int .i64 0] 28 (0, 0))) ∧ (Below w.heap.size w W) ∧ W.cell? ⟨gk, 0, none⟩ = some (.int .i64 a1) ∧ W.cell? ⟨gr, 0, none⟩ = some (.int .i64 a0_0) ∧ W.cell? ⟨gr, 1, none⟩ = some (.int .i64 a0_1) ∧ W.cell? ⟨gr, 2, none⟩ = some (.int .i64 a0_2)) (exact ⟨(by (with_reducible repeat (first | refine blk_drewN ?_ _ | refine blk_drew ?_ | refine blk_alloc ?_ _)); exact BKr.out), (by (with_reducible repeat (first | refine blk_drewN ?_ _ | refine blk_drew ?_ | refine blk_alloc ?_ _)); exact BKk.out), (by (with_reducible repeat (first | refine blk_drewN ?_ _ | refine blk_drew ?_ | refine blk_alloc ?_ _)); exact BKq.out), by repeat (first | (with_reducible first | exact HB.out | apply below_alloc | apply pw_below_drewN | apply below_drew1 | refine below_set ?_ GEr.out | refine below_set ?_ GEk.out | refine below_set ?_ GEq.out) | exact HB.out), (blk_cell (by (with_reducible repeat (first | refine blk_drewN ?_ _ | refine blk_drew ?_ | refine blk_alloc ?_ _)); exact BKk.out) 0).trans rfl, (blk_cell (by (with_reducible repeat (first | refine blk_drewN ?_ _ | refine blk_drew ?_ | refine blk_alloc ?_ _)); exact BKr.out) 0).trans rfl, (blk_cell (by (with_reducible repeat (first | refine blk_drewN ?_ _ | refine blk_drew ?_ | refine blk_alloc ?_ _)); exact BKr.out) 1).trans rfl, (blk_cell (by (with_reducible repeat (first | refine blk_drewN ?_ _ | refine blk_drew ?_ | refine blk_alloc ?_ _)); exact BKr.out) 2).trans rfl⟩) ((first | (go_at_call 24; (with_reducible refine (rect_Size.calls k a0_0 a0_1 a0_2 t _ A1).mono ?_); rintro e w5 ⟨rfl, hb⟩; have n0_ := Aside0.mk (blk_below (g := gr) (o := .cells #[.int .i64 a0_0, .int .i64 a0_1, .int .i64 a0_2] 31 (0, 0)) (by (with_reducible repeat (first | refine blk_drewN ?_ _ | refine blk_drew ?_ | refine blk_alloc ?_ _)); exact BKr.out) hb); have n1_ := Aside0.mk (blk_below (g := gk) (o := .cells #[.int .i64 a1] 3 (0, 0)) (by (with_reducible repeat (first | refine blk_drewN ?_ _ | refine blk_drew ?_ | refine blk_alloc ?_ _)); exact BKk.out) hb); have n2_ := Aside0.mk (blk_below (g := gq) (o := .cells #[.int .i64 0, .int .i64 0] 28 (0, 0)) (by (with_reducible repeat (first | refine blk_drewN ?_ _ | refine blk_drew ?_ | refine blk_alloc ?_ _)); exact BKq.out) hb); have n3_ := Aside0.mk (below_step (by repeat (first | (with_reducible first | exact HB.out | apply below_alloc | apply pw_below_drewN | apply below_drew1 | refine below_set ?_ GEr.out | refine below_set ?_ GEk.out | refine below_set ?_ GEq.out) | exact HB.out)) hb); (try clear BKr); (try clear BKk); (try clear BKq); (try clear HB); have BKr := n0_; have BKk := n1_; have BKq := n2_; have HB := n3_; clear n0_ n1_ n2_ n3_; (try clear hb); (try clear ho0); (try clear ho1))))
    all_goals go_wp2
    all_goals go_meet
    case rel => exact ⟨(by first | rfl | (simp; done) | (simp [*]; done)), ⟨by (with_reducible repeat (first | refine blk_drewN ?_ _ | refine blk_drew ?_ | refine blk_alloc ?_ _)); exact BKr.out⟩, ⟨by (with_reducible repeat (first | refine blk_drewN ?_ _ | refine blk_drew ?_ | refine blk_alloc ?_ _)); exact BKk.out⟩, ⟨by (with_reducible repeat (first | refine blk_drewN ?_ _ | refine blk_drew ?_ | refine blk_alloc ?_ _)); exact BKq.out⟩, ⟨by repeat (first | (with_reducible first | exact HB.out | apply below_alloc | apply pw_below_drewN | apply below_drew1 | refine below_set ?_ GEr.out | refine below_set ?_ GEk.out | refine below_set ?_ GEq.out) | exact HB.out)⟩⟩
  case rest =>
    obtain ⟨rfl, BKr, BKk, BKq, HB⟩ := hcut
    have hNBr_k := NBr_k.out
    have hNBk_r := NBk_r.out
    have hNBr_q := NBr_q.out
    have hNBq_r := NBq_r.out
    have hNBk_q := NBk_q.out
    have hNBq_k := NBq_k.out
    have hczr_0 : wc.cell? ⟨gr, 0, none⟩ = some (.int .i64 a0_0) := (blk_cell BKr.out 0).trans rfl
    have hczr_1 : wc.cell? ⟨gr, 1, none⟩ = some (.int .i64 a0_1) := (blk_cell BKr.out 1).trans rfl
    have hczr_2 : wc.cell? ⟨gr, 2, none⟩ = some (.int .i64 a0_2) := (blk_cell BKr.out 2).trans rfl
    have hfzr_0 := blk_frozen BKr.out 0
    have hfzr_1 := blk_frozen BKr.out 1
    have hfzr_2 := blk_frozen BKr.out 2
    have hczk_0 : wc.cell? ⟨gk, 0, none⟩ = some (.int .i64 a1) := (blk_cell BKk.out 0).trans rfl
    have hfzk_0 := blk_frozen BKk.out 0
    have hczq_0 : wc.cell? ⟨gq, 0, none⟩ = some (.int .i64 0) := (blk_cell BKq.out 0).trans rfl
    have hczq_1 : wc.cell? ⟨gq, 1, none⟩ = some (.int .i64 0) := (blk_cell BKq.out 1).trans rfl
    have hfzq_0 := blk_frozen BKq.out 0
    have hfzq_1 := blk_frozen BKq.out 1
    go_wp2
    refine bodyPost_ret (results_ct rfl _ _ gq 28 #[.int .i64 0, .int .i64 0] (0, 0) _ rfl (by (with_reducible repeat (first | refine blk_drewN ?_ _ | refine blk_drew ?_ | refine blk_alloc ?_ _)); refine blk_put (cs := #[.int .i64 0, .int .i64 0]) ?_ 1 _ rfl; (with_reducible repeat (first | refine blk_drewN ?_ _ | refine blk_drew ?_ | refine blk_alloc ?_ _)); refine blk_put (cs := #[.int .i64 0, .int .i64 0]) ?_ 0 _ rfl; (with_reducible repeat (first | refine blk_drewN ?_ _ | refine blk_drew ?_ | refine blk_alloc ?_ _)); exact BKq.out) Try.underlying28 rfl (by kernel_rfl)) rfl ?_
    exact ⟨by first | rfl | (simp [errW_none, errW_some] <;> rfl) | (simp [*, errW_none, errW_some] <;> rfl), by repeat (first | (with_reducible first | exact HB.out | apply below_alloc | apply pw_below_drewN | apply below_drew1 | refine below_set ?_ GEr.out | refine below_set ?_ GEk.out | refine below_set ?_ GEq.out) | exact HB.out)⟩
set_option maxHeartbeats 8000000 in
set_option maxRecDepth 100000 in
theorem rect_Nth.within (k : Nat) (a0_0 : Int) (a0_1 : Int) (a0_2 : Int) (a1 : Int) (t : Int) (lo hi ws : List Int) (ok : Bool) (r1 r2 : Int) (r3 : Bool) (hneg : ¬ a1 < 0) (hge : ¬ a1 ≥ t) (A1 : rect_Size.f k a0_0 a0_1 a0_2 = some t) (A2 : rect_of.f k a0_0 a0_1 a0_2 = some (lo, hi, ok)) (A4 : rect_box_widths.f k lo hi = some ws)
    (hwl : ws.length = lo.length) (hw1 : 1 ≤ ws.length) (hw2 : ws.length ≤ 1000000000) (hpos : ∀ z ∈ ws, 0 < z) (A5 : hex_Val.f k (rect_Nth.go ws ws.length (a1, lo)).2 = some (r1, r2, r3)) (w : World) :
    Calls Try.prog 19 #[.agg #[.int .i64 a0_0, .int .i64 a0_1, .int .i64 a0_2], .int .i64 a1] w fun e w' => e = .returned (.tuple #[.agg #[.int .i64 r1, .int .i64 r2], .bool r3]) ∧ Below w.heap.size w w' := by
  have hu31 := Try.underlying31
  have hu28 := Try.underlying28
  have hu55 := Try.underlying55
  have HB := Aside0.mk (Below.refl w.heap.size w)
  refine callsIn_wide.1 (callsIn_of_wp_marks (F := Fence.wide) (n := 9) Try.func19 rfl trivial (wpIn_wide.2 ?_))
  simp only [Try.ntmps19, List.size_toArray, List.length_cons, List.length_nil, Nat.reduceAdd, Nat.reduceSub, Array.replicate_succ, Array.replicate_zero, List.push_toArray, List.append_toArray, List.nil_append, List.cons_append]
  go_upto_region 1 with (first | ((with_reducible refine gate_dst (N := 2) rfl ?_); refine box_event ?hg (N := 2) ?hd (cs := #[.int .i64 a0_0, .int .i64 a0_1, .int .i64 a0_2]) (t := 31) ?hr ?_; (case hd => rfl); (case hg => rfl); (case hr => first | (go_simp; done) | (go_simp; rfl)); intro gr hg w2 hbox hb; have n0_ := Aside0.mk (hbox); have n1_ := Aside0.mk ((by rw [hg]; exact (below_size (by repeat (first | (with_reducible first | exact HB.out | apply below_alloc | apply pw_below_drewN | apply below_drew1) | exact HB.out))) : w.heap.size ≤ gr)); have n2_ := Aside0.mk (below_step (by repeat (first | (with_reducible first | exact HB.out | apply below_alloc | apply pw_below_drewN | apply below_drew1) | exact HB.out)) hb); (try clear BKr); (try clear GEr); (try clear HB); have BKr := n0_; have GEr := n1_; have HB := n2_; clear n0_ n1_ n2_; clear hb hbox hg) | ((with_reducible refine gate_dst (N := 3) rfl ?_); refine box_event ?hg (N := 3) ?hd (cs := #[.int .i64 a1]) (t := 3) ?hr ?_; (case hd => rfl); (case hg => rfl); (case hr => first | (go_simp; done) | (go_simp; rfl)); intro gk hg w3 hbox hb; have n0_ := Aside0.mk (blk_below (g := gr) (o := .cells #[.int .i64 a0_0, .int .i64 a0_1, .int .i64 a0_2] 31 (0, 0)) (by (with_reducible repeat (first | refine blk_drewN ?_ _ | refine blk_drew ?_ | refine blk_alloc ?_ _)); exact BKr.out) hb); have n1_ := Aside0.mk ((by rw [hg]; exact Nat.ne_of_lt (blk_lt (g := gr) (o := .cells #[.int .i64 a0_0, .int .i64 a0_1, .int .i64 a0_2] 31 (0, 0)) (by (with_reducible repeat (first | refine blk_drewN ?_ _ | refine blk_drew ?_ | refine blk_alloc ?_ _)); exact BKr.out)) : gr ≠ gk)); have n2_ := Aside0.mk ((by rw [hg]; exact Nat.ne_of_gt (blk_lt (g := gr) (o := .cells #[.int .i64 a0_0, .int .i64 a0_1, .int .i64 a0_2] 31 (0, 0)) (by (with_reducible repeat (first | refine blk_drewN ?_ _ | refine blk_drew ?_ | refine blk_alloc ?_ _)); exact BKr.out)) : gk ≠ gr)); have n3_ := Aside0.mk (hbox); have n4_ := Aside0.mk ((by rw [hg]; exact (below_size (by repeat (first | (with_reducible first | exact HB.out | apply below_alloc | apply pw_below_drewN | apply below_drew1 | refine below_set ?_ GEr.out) | exact HB.out))) : w.heap.size ≤ gk)); have n5_ := Aside0.mk (below_step (by repeat (first | (with_reducible first | exact HB.out | apply below_alloc | apply pw_below_drewN | apply below_drew1 | refine below_set ?_ GEr.out) | exact HB.out)) hb); (try clear BKr); (try clear NBr_k); (try clear NBk_r); (try clear BKk); (try clear GEk); (try clear HB); have BKr := n0_; have NBr_k := n1_; have NBk_r := n2_; have BKk := n3_; have GEk := n4_; have HB := n5_; clear n0_ n1_ n2_ n3_ n4_ n5_; clear hb hbox hg) | ((with_reducible refine gate_dst (N := 4) rfl ?_); refine box_event ?hg (N := 4) ?hd (cs := #[.int .i64 0, .int .i64 0]) (t := 28) ?hr ?_; (case hd => rfl); (case hg => rfl); (case hr => first | (go_simp; done) | (go_simp; rfl)); intro gq hg w4 hbox hb; have n0_ := Aside0.mk (blk_below (g := gr) (o := .cells #[.int .i64 a0_0, .int .i64 a0_1, .int .i64 a0_2] 31 (0, 0)) (by (with_reducible repeat (first | refine blk_drewN ?_ _ | refine blk_drew ?_ | refine blk_alloc ?_ _)); exact BKr.out) hb); have n1_ := Aside0.mk (blk_below (g := gk) (o := .cells #[.int .i64 a1] 3 (0, 0)) (by (with_reducible repeat (first | refine blk_drewN ?_ _ | refine blk_drew ?_ | refine blk_alloc ?_ _)); exact BKk.out) hb); have n2_ := Aside0.mk ((by rw [hg]; exact Nat.ne_of_lt (blk_lt (g := gr) (o := .cells #[.int .i64 a0_0, .int .i64 a0_1, .int .i64 a0_2] 31 (0, 0)) (by (with_reducible repeat (first | refine blk_drewN ?_ _ | refine blk_drew ?_ | refine blk_alloc ?_ _)); exact BKr.out)) : gr ≠ gq)); have n3_ := Aside0.mk ((by rw [hg]; exact Nat.ne_of_gt (blk_lt (g := gr) (o := .cells #[.int .i64 a0_0, .int .i64 a0_1, .int .i64 a0_2] 31 (0, 0)) (by (with_reducible repeat (first | refine blk_drewN ?_ _ | refine blk_drew ?_ | refine blk_alloc ?_ _)); exact BKr.out)) : gq ≠ gr)); have n4_ := Aside0.mk ((by rw [hg]; exact Nat.ne_of_lt (blk_lt (g := gk) (o := .cells #[.int .i64 a1] 3 (0, 0)) (by (with_reducible repeat (first | refine blk_drewN ?_ _ | refine blk_drew ?_ | refine blk_alloc ?_ _)); exact BKk.out)) : gk ≠ gq)); have n5_ := Aside0.mk ((by rw [hg]; exact Nat.ne_of_gt (blk_lt (g := gk) (o := .cells #[.int .i64 a1] 3 (0, 0)) (by (with_reducible repeat (first | refine blk_drewN ?_ _ | refine blk_drew ?_ | refine blk_alloc ?_ _)); exact BKk.out)) : gq ≠ gk)); have n6_ := Aside0.mk (hbox); have n7_ := Aside0.mk ((by rw [hg]; exact (below_size (by repeat (first | (with_reducible first | exact HB.out | apply below_alloc | apply pw_below_drewN | apply below_drew1 | refine below_set ?_ GEr.out | refine below_set ?_ GEk.out) | exact HB.out))) : w.heap.size ≤ gq)); have n8_ := Aside0.mk (below_step (by repeat (first | (with_reducible first | exact HB.out | apply below_alloc | apply pw_below_drewN | apply below_drew1 | refine below_set ?_ GEr.out | refine below_set ?_ GEk.out) | exact HB.out)) hb); (try clear BKr); (try clear BKk); (try clear NBr_q); (try clear NBq_r); (try clear NBk_q); (try clear NBq_k); (try clear BKq); (try clear GEq); (try clear HB); have BKr := n0_; have BKk := n1_; have NBr_q := n2_; have NBq_r := n3_; have NBk_q := n4_; have NBq_k := n5_; have BKq := n6_; have GEq := n7_; have HB := n8_; clear n0_ n1_ n2_ n3_ n4_ n5_ n6_ n7_ n8_; clear hb hbox hg))
  (try simp only [Act.put, List.setIfInBounds_toArray, List.set_cons_zero, List.set_cons_succ])
  have c0b : decide (a1 < 0) = false := decide_eq_false (by omega)
  have c1b : decide (a1 ≥ t) = false := decide_eq_false hge
  have hNBr_k := NBr_k.out
  have hNBk_r := NBk_r.out
  have hNBr_q := NBr_q.out
  have hNBq_r := NBq_r.out
  have hNBk_q := NBk_q.out
  have hNBq_k := NBq_k.out
  have hczr_0 : w4.cell? ⟨gr, 0, none⟩ = some (.int .i64 a0_0) := (blk_cell BKr.out 0).trans rfl
  have hczr_1 : w4.cell? ⟨gr, 1, none⟩ = some (.int .i64 a0_1) := (blk_cell BKr.out 1).trans rfl
  have hczr_2 : w4.cell? ⟨gr, 2, none⟩ = some (.int .i64 a0_2) := (blk_cell BKr.out 2).trans rfl
  have hfzr_0 := blk_frozen BKr.out 0
  have hfzr_1 := blk_frozen BKr.out 1
  have hfzr_2 := blk_frozen BKr.out 2
  have hczk_0 : w4.cell? ⟨gk, 0, none⟩ = some (.int .i64 a1) := (blk_cell BKk.out 0).trans rfl
  have hfzk_0 := blk_frozen BKk.out 0
  have hczq_0 : w4.cell? ⟨gq, 0, none⟩ = some (.int .i64 0) := (blk_cell BKq.out 0).trans rfl
  have hczq_1 : w4.cell? ⟨gq, 1, none⟩ = some (.int .i64 0) := (blk_cell BKq.out 1).trans rfl
  have hfzq_0 := blk_frozen BKq.out 0
  have hfzq_1 := blk_frozen BKq.out 1
  go_region_held3 (fun W => (W.heap[gr]? = some (.cells #[.int .i64 a0_0, .int .i64 a0_1, .int .i64 a0_2] 31 (0, 0))) ∧ (W.heap[gk]? = some (.cells #[.int .i64 a1] 3 (0, 0))) ∧ (W.heap[gq]? = some (.cells #[.int .i64 0, .int .i64 0] 28 (0, 0))) ∧ (Below w.heap.size w W) ∧ W.cell? ⟨gk, 0, none⟩ = some (.int .i64 a1) ∧ W.cell? ⟨gr, 0, none⟩ = some (.int .i64 a0_0) ∧ W.cell? ⟨gr, 1, none⟩ = some (.int .i64 a0_1) ∧ W.cell? ⟨gr, 2, none⟩ = some (.int .i64 a0_2)) (exact ⟨(by (with_reducible repeat (first | refine blk_drewN ?_ _ | refine blk_drew ?_ | refine blk_alloc ?_ _)); exact BKr.out), (by (with_reducible repeat (first | refine blk_drewN ?_ _ | refine blk_drew ?_ | refine blk_alloc ?_ _)); exact BKk.out), (by (with_reducible repeat (first | refine blk_drewN ?_ _ | refine blk_drew ?_ | refine blk_alloc ?_ _)); exact BKq.out), by repeat (first | (with_reducible first | exact HB.out | apply below_alloc | apply pw_below_drewN | apply below_drew1 | refine below_set ?_ GEr.out | refine below_set ?_ GEk.out | refine below_set ?_ GEq.out) | exact HB.out), (blk_cell (by (with_reducible repeat (first | refine blk_drewN ?_ _ | refine blk_drew ?_ | refine blk_alloc ?_ _)); exact BKk.out) 0).trans rfl, (blk_cell (by (with_reducible repeat (first | refine blk_drewN ?_ _ | refine blk_drew ?_ | refine blk_alloc ?_ _)); exact BKr.out) 0).trans rfl, (blk_cell (by (with_reducible repeat (first | refine blk_drewN ?_ _ | refine blk_drew ?_ | refine blk_alloc ?_ _)); exact BKr.out) 1).trans rfl, (blk_cell (by (with_reducible repeat (first | refine blk_drewN ?_ _ | refine blk_drew ?_ | refine blk_alloc ?_ _)); exact BKr.out) 2).trans rfl⟩) ((first | (go_at_call 24; (with_reducible refine (rect_Size.calls k a0_0 a0_1 a0_2 t _ A1).mono ?_); rintro e w5 ⟨rfl, hb⟩; have n0_ := Aside0.mk (blk_below (g := gr) (o := .cells #[.int .i64 a0_0, .int .i64 a0_1, .int .i64 a0_2] 31 (0, 0)) (by (with_reducible repeat (first | refine blk_drewN ?_ _ | refine blk_drew ?_ | refine blk_alloc ?_ _)); exact BKr.out) hb); have n1_ := Aside0.mk (blk_below (g := gk) (o := .cells #[.int .i64 a1] 3 (0, 0)) (by (with_reducible repeat (first | refine blk_drewN ?_ _ | refine blk_drew ?_ | refine blk_alloc ?_ _)); exact BKk.out) hb); have n2_ := Aside0.mk (blk_below (g := gq) (o := .cells #[.int .i64 0, .int .i64 0] 28 (0, 0)) (by (with_reducible repeat (first | refine blk_drewN ?_ _ | refine blk_drew ?_ | refine blk_alloc ?_ _)); exact BKq.out) hb); have n3_ := Aside0.mk (below_step (by repeat (first | (with_reducible first | exact HB.out | apply below_alloc | apply pw_below_drewN | apply below_drew1 | refine below_set ?_ GEr.out | refine below_set ?_ GEk.out | refine below_set ?_ GEq.out) | exact HB.out)) hb); (try clear BKr); (try clear BKk); (try clear BKq); (try clear HB); have BKr := n0_; have BKk := n1_; have BKq := n2_; have HB := n3_; clear n0_ n1_ n2_ n3_; (try clear hb); (try clear ho0); (try clear ho1); (try clear hczr_0); (try clear hczr_1); (try clear hczr_2); (try clear hfzr_0); (try clear hfzr_1); (try clear hfzr_2); have hczr_0 : w5.cell? ⟨gr, 0, none⟩ = some (.int .i64 a0_0) := (blk_cell BKr.out 0).trans rfl; have hczr_1 : w5.cell? ⟨gr, 1, none⟩ = some (.int .i64 a0_1) := (blk_cell BKr.out 1).trans rfl; have hczr_2 : w5.cell? ⟨gr, 2, none⟩ = some (.int .i64 a0_2) := (blk_cell BKr.out 2).trans rfl; have hfzr_0 := blk_frozen BKr.out 0; have hfzr_1 := blk_frozen BKr.out 1; have hfzr_2 := blk_frozen BKr.out 2; (try clear hczk_0); (try clear hfzk_0); have hczk_0 : w5.cell? ⟨gk, 0, none⟩ = some (.int .i64 a1) := (blk_cell BKk.out 0).trans rfl; have hfzk_0 := blk_frozen BKk.out 0; (try clear hczq_0); (try clear hczq_1); (try clear hfzq_0); (try clear hfzq_1); have hczq_0 : w5.cell? ⟨gq, 0, none⟩ = some (.int .i64 0) := (blk_cell BKq.out 0).trans rfl; have hczq_1 : w5.cell? ⟨gq, 1, none⟩ = some (.int .i64 0) := (blk_cell BKq.out 1).trans rfl; have hfzq_0 := blk_frozen BKq.out 0; have hfzq_1 := blk_frozen BKq.out 1)))
  go_wp2_with (first | ((with_reducible refine gate_callee (f := 39) rfl ?_); refine goesL_ (some 22) rfl rfl Try.func39 (by kernel_rfl) rfl #[.agg #[.int .i64 a0_0, .int .i64 a0_1, .int .i64 a0_2]] rfl (by (try simp only [List.map_toArray, List.map_cons, List.map_nil]); first | done | rfl | (simp only [List.length_drop, List.length_take]; rfl)) ?_; (with_reducible refine (rect_of.calls k a0_0 a0_1 a0_2 lo hi ok _ A2).mono ?_); rintro e w6 ⟨vlo, vhi, rfl, ho0, ho1, hb⟩; refine ⟨_, rfl, ?_⟩; have n0_ := Aside0.mk (blk_below (g := gr) (o := .cells #[.int .i64 a0_0, .int .i64 a0_1, .int .i64 a0_2] 31 (0, 0)) (by (with_reducible repeat (first | refine blk_drewN ?_ _ | refine blk_drew ?_ | refine blk_alloc ?_ _)); exact BKr.out) hb); have n1_ := Aside0.mk (blk_below (g := gk) (o := .cells #[.int .i64 a1] 3 (0, 0)) (by (with_reducible repeat (first | refine blk_drewN ?_ _ | refine blk_drew ?_ | refine blk_alloc ?_ _)); exact BKk.out) hb); have n2_ := Aside0.mk (blk_below (g := gq) (o := .cells #[.int .i64 0, .int .i64 0] 28 (0, 0)) (by (with_reducible repeat (first | refine blk_drewN ?_ _ | refine blk_drew ?_ | refine blk_alloc ?_ _)); exact BKq.out) hb); have n3_ := Aside0.mk (Kd.R_lower ho0 (below_size (by repeat (first | (with_reducible first | exact HB.out | apply below_alloc | apply pw_below_drewN | apply below_drew1 | refine below_set ?_ GEr.out | refine below_set ?_ GEk.out | refine below_set ?_ GEq.out) | exact HB.out)))); have n4_ := Aside0.mk (Kd.R_lower ho1 (below_size (by repeat (first | (with_reducible first | exact HB.out | apply below_alloc | apply pw_below_drewN | apply below_drew1 | refine below_set ?_ GEr.out | refine below_set ?_ GEk.out | refine below_set ?_ GEq.out) | exact HB.out)))); have n5_ := Aside0.mk (below_step (by repeat (first | (with_reducible first | exact HB.out | apply below_alloc | apply pw_below_drewN | apply below_drew1 | refine below_set ?_ GEr.out | refine below_set ?_ GEk.out | refine below_set ?_ GEq.out) | exact HB.out)) hb); (try clear BKr); (try clear BKk); (try clear BKq); (try clear HOlo); (try clear HOhi); (try clear HB); have BKr := n0_; have BKk := n1_; have BKq := n2_; have HOlo := n3_; have HOhi := n4_; have HB := n5_; clear n0_ n1_ n2_ n3_ n4_ n5_; (try clear hb); (try clear ho0); (try clear ho1); (try clear hczr_0); (try clear hczr_1); (try clear hczr_2); (try clear hfzr_0); (try clear hfzr_1); (try clear hfzr_2); (try clear hczk_0); (try clear hfzk_0); (try clear hczq_0); (try clear hczq_1); (try clear hfzq_0); (try clear hfzq_1)) | ((with_reducible refine gate_dst (N := 6) rfl ?_); refine box_event ?hg (N := 6) ?hd (cs := #[.slice none 0 0, .slice none 0 0]) (t := 55) ?hr ?_; (case hd => rfl); (case hg => rfl); (case hr => first | (go_simp; done) | (go_simp; rfl)); intro gx hg w7 hbox hb; have n0_ := Aside0.mk (blk_below (g := gr) (o := .cells #[.int .i64 a0_0, .int .i64 a0_1, .int .i64 a0_2] 31 (0, 0)) (by (with_reducible repeat (first | refine blk_drewN ?_ _ | refine blk_drew ?_ | refine blk_alloc ?_ _)); exact BKr.out) hb); have n1_ := Aside0.mk (blk_below (g := gk) (o := .cells #[.int .i64 a1] 3 (0, 0)) (by (with_reducible repeat (first | refine blk_drewN ?_ _ | refine blk_drew ?_ | refine blk_alloc ?_ _)); exact BKk.out) hb); have n2_ := Aside0.mk (blk_below (g := gq) (o := .cells #[.int .i64 0, .int .i64 0] 28 (0, 0)) (by (with_reducible repeat (first | refine blk_drewN ?_ _ | refine blk_drew ?_ | refine blk_alloc ?_ _)); exact BKq.out) hb); have n3_ := Aside0.mk (Kd.R_below (by (with_reducible repeat (first | apply Kd.R_alloc | apply Kd.R_drewN | apply Kd.R_drew)); exact HOlo.out) hb); have n4_ := Aside0.mk (Kd.R_below (by (with_reducible repeat (first | apply Kd.R_alloc | apply Kd.R_drewN | apply Kd.R_drew)); exact HOhi.out) hb); have n5_ := Aside0.mk ((by rw [hg]; exact Nat.ne_of_lt (blk_lt (g := gr) (o := .cells #[.int .i64 a0_0, .int .i64 a0_1, .int .i64 a0_2] 31 (0, 0)) (by (with_reducible repeat (first | refine blk_drewN ?_ _ | refine blk_drew ?_ | refine blk_alloc ?_ _)); exact BKr.out)) : gr ≠ gx)); have n6_ := Aside0.mk ((by rw [hg]; exact Nat.ne_of_gt (blk_lt (g := gr) (o := .cells #[.int .i64 a0_0, .int .i64 a0_1, .int .i64 a0_2] 31 (0, 0)) (by (with_reducible repeat (first | refine blk_drewN ?_ _ | refine blk_drew ?_ | refine blk_alloc ?_ _)); exact BKr.out)) : gx ≠ gr)); have n7_ := Aside0.mk ((by rw [hg]; exact Nat.ne_of_lt (blk_lt (g := gk) (o := .cells #[.int .i64 a1] 3 (0, 0)) (by (with_reducible repeat (first | refine blk_drewN ?_ _ | refine blk_drew ?_ | refine blk_alloc ?_ _)); exact BKk.out)) : gk ≠ gx)); have n8_ := Aside0.mk ((by rw [hg]; exact Nat.ne_of_gt (blk_lt (g := gk) (o := .cells #[.int .i64 a1] 3 (0, 0)) (by (with_reducible repeat (first | refine blk_drewN ?_ _ | refine blk_drew ?_ | refine blk_alloc ?_ _)); exact BKk.out)) : gx ≠ gk)); have n9_ := Aside0.mk ((by rw [hg]; exact Nat.ne_of_lt (blk_lt (g := gq) (o := .cells #[.int .i64 0, .int .i64 0] 28 (0, 0)) (by (with_reducible repeat (first | refine blk_drewN ?_ _ | refine blk_drew ?_ | refine blk_alloc ?_ _)); exact BKq.out)) : gq ≠ gx)); have n10_ := Aside0.mk ((by rw [hg]; exact Nat.ne_of_gt (blk_lt (g := gq) (o := .cells #[.int .i64 0, .int .i64 0] 28 (0, 0)) (by (with_reducible repeat (first | refine blk_drewN ?_ _ | refine blk_drew ?_ | refine blk_alloc ?_ _)); exact BKq.out)) : gx ≠ gq)); have n11_ := Aside0.mk (hbox); have n12_ := Aside0.mk ((by rw [hg]; exact (below_size (by repeat (first | (with_reducible first | exact HB.out | apply below_alloc | apply pw_below_drewN | apply below_drew1 | refine below_set ?_ GEr.out | refine below_set ?_ GEk.out | refine below_set ?_ GEq.out) | exact HB.out))) : w.heap.size ≤ gx)); have n13_ := Aside0.mk (below_step (by repeat (first | (with_reducible first | exact HB.out | apply below_alloc | apply pw_below_drewN | apply below_drew1 | refine below_set ?_ GEr.out | refine below_set ?_ GEk.out | refine below_set ?_ GEq.out) | exact HB.out)) hb); (try clear BKr); (try clear BKk); (try clear BKq); (try clear HOlo); (try clear HOhi); (try clear NBr_x); (try clear NBx_r); (try clear NBk_x); (try clear NBx_k); (try clear NBq_x); (try clear NBx_q); (try clear BKx); (try clear GEx); (try clear HB); have BKr := n0_; have BKk := n1_; have BKq := n2_; have HOlo := n3_; have HOhi := n4_; have NBr_x := n5_; have NBx_r := n6_; have NBk_x := n7_; have NBx_k := n8_; have NBq_x := n9_; have NBx_q := n10_; have BKx := n11_; have GEx := n12_; have HB := n13_; clear n0_ n1_ n2_ n3_ n4_ n5_ n6_ n7_ n8_ n9_ n10_ n11_ n12_ n13_; clear hb hbox hg; obtain ⟨Alo, clo, elo⟩ := Kd.R_slice HOlo.out; subst elo; obtain ⟨Ahi, chi, ehi⟩ := Kd.R_slice HOhi.out; subst ehi; have hczx_0 : w7.cell? ⟨gx, 0, none⟩ = some (.slice none 0 0) := (blk_cell BKx.out 0).trans rfl; have hczx_1 : w7.cell? ⟨gx, 1, none⟩ = some (.slice none 0 0) := (blk_cell BKx.out 1).trans rfl; have hfzx_0 := blk_frozen BKx.out 0; have hfzx_1 := blk_frozen BKx.out 1))
  refine (rect_Nth.clone _ _ lo _ ?side1 (by omega) (by omega)).mono ?_; (case side1 => exact (Kd.R_reads' (by (with_reducible repeat (first | apply Kd.R_alloc | apply Kd.R_drewN | apply Kd.R_drew)); exact (Kd.R_mono (Kd.R_far (p := ⟨gx, 1, none⟩) (Kd.R_far (p := ⟨gx, 0, none⟩) (Kd.R_types HOlo.out BKx.out (by decide)) (fun _ hk => hk.2) (.slice Alo lo.length clo)) (fun _ hk => hk.2) (.slice Ahi hi.length chi)) (fun _ h_ => h_.1)))).2.2); rintro e w8 ⟨vb, rfl, ho0, hb⟩; have n0_ := Aside0.mk (Kd.R_below (by (with_reducible repeat (first | apply Kd.R_alloc | apply Kd.R_drewN | apply Kd.R_drew)); exact (Kd.R_mono (Kd.R_far (p := ⟨gx, 1, none⟩) (Kd.R_far (p := ⟨gx, 0, none⟩) (Kd.R_types HOlo.out BKx.out (by decide)) (fun _ hk => hk.2) (.slice Alo lo.length clo)) (fun _ hk => hk.2) (.slice Ahi hi.length chi)) (fun _ h_ => h_.1))) hb); have n1_ := Aside0.mk (Kd.R_below (by (with_reducible repeat (first | apply Kd.R_alloc | apply Kd.R_drewN | apply Kd.R_drew)); exact (Kd.R_mono (Kd.R_far (p := ⟨gx, 1, none⟩) (Kd.R_far (p := ⟨gx, 0, none⟩) (Kd.R_types HOhi.out BKx.out (by decide)) (fun _ hk => hk.2) (.slice Alo lo.length clo)) (fun _ hk => hk.2) (.slice Ahi hi.length chi)) (fun _ h_ => h_.1))) hb); have n2_ := Aside0.mk (blk_below (g := gr) (o := .cells #[.int .i64 a0_0, .int .i64 a0_1, .int .i64 a0_2] 31 (0, 0)) (by (with_reducible repeat (first | refine blk_drewN ?_ _ | refine blk_drew ?_ | refine blk_alloc ?_ _)); refine blk_far ?_ NBr_x.out _; (with_reducible repeat (first | refine blk_drewN ?_ _ | refine blk_drew ?_ | refine blk_alloc ?_ _)); refine blk_far ?_ NBr_x.out _; (with_reducible repeat (first | refine blk_drewN ?_ _ | refine blk_drew ?_ | refine blk_alloc ?_ _)); exact BKr.out) hb); have n3_ := Aside0.mk (blk_below (g := gk) (o := .cells #[.int .i64 a1] 3 (0, 0)) (by (with_reducible repeat (first | refine blk_drewN ?_ _ | refine blk_drew ?_ | refine blk_alloc ?_ _)); refine blk_far ?_ NBk_x.out _; (with_reducible repeat (first | refine blk_drewN ?_ _ | refine blk_drew ?_ | refine blk_alloc ?_ _)); refine blk_far ?_ NBk_x.out _; (with_reducible repeat (first | refine blk_drewN ?_ _ | refine blk_drew ?_ | refine blk_alloc ?_ _)); exact BKk.out) hb); have n4_ := Aside0.mk (blk_below (g := gq) (o := .cells #[.int .i64 0, .int .i64 0] 28 (0, 0)) (by (with_reducible repeat (first | refine blk_drewN ?_ _ | refine blk_drew ?_ | refine blk_alloc ?_ _)); refine blk_far ?_ NBq_x.out _; (with_reducible repeat (first | refine blk_drewN ?_ _ | refine blk_drew ?_ | refine blk_alloc ?_ _)); refine blk_far ?_ NBq_x.out _; (with_reducible repeat (first | refine blk_drewN ?_ _ | refine blk_drew ?_ | refine blk_alloc ?_ _)); exact BKq.out) hb); have n5_ := Aside0.mk (blk_below (g := gx) (o := .cells #[.slice Alo lo.length clo, .slice Ahi hi.length chi] 55 (0, 0)) (by (with_reducible repeat (first | refine blk_drewN ?_ _ | refine blk_drew ?_ | refine blk_alloc ?_ _)); refine blk_put (cs := #[.slice Alo lo.length clo, .slice none 0 0]) ?_ 1 _ rfl; (with_reducible repeat (first | refine blk_drewN ?_ _ | refine blk_drew ?_ | refine blk_alloc ?_ _)); refine blk_put (cs := #[.slice none 0 0, .slice none 0 0]) ?_ 0 _ rfl; (with_reducible repeat (first | refine blk_drewN ?_ _ | refine blk_drew ?_ | refine blk_alloc ?_ _)); exact BKx.out) hb); have n6_ := Aside0.mk (Kd.R_lower ho0 (below_size (by repeat (first | (with_reducible first | exact HB.out | apply below_alloc | apply pw_below_drewN | apply below_drew1 | refine below_set ?_ GEr.out | refine below_set ?_ GEk.out | refine below_set ?_ GEq.out | refine below_set ?_ GEx.out) | exact HB.out)))); have n7_ := Aside0.mk (below_step (by repeat (first | (with_reducible first | exact HB.out | apply below_alloc | apply pw_below_drewN | apply below_drew1 | refine below_set ?_ GEr.out | refine below_set ?_ GEk.out | refine below_set ?_ GEq.out | refine below_set ?_ GEx.out) | exact HB.out)) hb); (try clear HOlo); (try clear HOhi); (try clear BKr); (try clear BKk); (try clear BKq); (try clear BKx); (try clear HOb); (try clear HB); have HOlo := n0_; have HOhi := n1_; have BKr := n2_; have BKk := n3_; have BKq := n4_; have BKx := n5_; have HOb := n6_; have HB := n7_; clear n0_ n1_ n2_ n3_ n4_ n5_ n6_ n7_; (try clear hb); (try clear ho0); (try clear ho1); obtain ⟨adb, cb, eb⟩ := Kd.R_slice1 HOb.out (show 0 < lo.length by omega); subst eb; (try clear hczx_0); (try clear hczx_1); (try clear hfzx_0); (try clear hfzx_1)
  go_wp2_with (first | ((with_reducible refine gate_dst (N := 8) rfl ?_); refine box_event ?hg (N := 8) ?hd (cs := #[.slice none 0 0]) (t := 36) ?hr ?_; (case hd => rfl); (case hg => rfl); (case hr => first | (go_simp; done) | (go_simp; rfl)); intro gb hg w9 hbox hb; have n0_ := Aside0.mk (blk_below (g := gr) (o := .cells #[.int .i64 a0_0, .int .i64 a0_1, .int .i64 a0_2] 31 (0, 0)) (by (with_reducible repeat (first | refine blk_drewN ?_ _ | refine blk_drew ?_ | refine blk_alloc ?_ _)); exact BKr.out) hb); have n1_ := Aside0.mk (blk_below (g := gk) (o := .cells #[.int .i64 a1] 3 (0, 0)) (by (with_reducible repeat (first | refine blk_drewN ?_ _ | refine blk_drew ?_ | refine blk_alloc ?_ _)); exact BKk.out) hb); have n2_ := Aside0.mk (blk_below (g := gq) (o := .cells #[.int .i64 0, .int .i64 0] 28 (0, 0)) (by (with_reducible repeat (first | refine blk_drewN ?_ _ | refine blk_drew ?_ | refine blk_alloc ?_ _)); exact BKq.out) hb); have n3_ := Aside0.mk (blk_below (g := gx) (o := .cells #[.slice Alo lo.length clo, .slice Ahi hi.length chi] 55 (0, 0)) (by (with_reducible repeat (first | refine blk_drewN ?_ _ | refine blk_drew ?_ | refine blk_alloc ?_ _)); exact BKx.out) hb); have n4_ := Aside0.mk (Kd.R_below (by (with_reducible repeat (first | apply Kd.R_alloc | apply Kd.R_drewN | apply Kd.R_drew)); exact HOlo.out) hb); have n5_ := Aside0.mk (Kd.R_below (by (with_reducible repeat (first | apply Kd.R_alloc | apply Kd.R_drewN | apply Kd.R_drew)); exact HOhi.out) hb); have n6_ := Aside0.mk (Kd.R_below (by (with_reducible repeat (first | apply Kd.R_alloc | apply Kd.R_drewN | apply Kd.R_drew)); exact HOb.out) hb); have n7_ := Aside0.mk ((by rw [hg]; exact Nat.ne_of_lt (blk_lt (g := gr) (o := .cells #[.int .i64 a0_0, .int .i64 a0_1, .int .i64 a0_2] 31 (0, 0)) (by (with_reducible repeat (first | refine blk_drewN ?_ _ | refine blk_drew ?_ | refine blk_alloc ?_ _)); exact BKr.out)) : gr ≠ gb)); have n8_ := Aside0.mk ((by rw [hg]; exact Nat.ne_of_gt (blk_lt (g := gr) (o := .cells #[.int .i64 a0_0, .int .i64 a0_1, .int .i64 a0_2] 31 (0, 0)) (by (with_reducible repeat (first | refine blk_drewN ?_ _ | refine blk_drew ?_ | refine blk_alloc ?_ _)); exact BKr.out)) : gb ≠ gr)); have n9_ := Aside0.mk ((by rw [hg]; exact Nat.ne_of_lt (blk_lt (g := gk) (o := .cells #[.int .i64 a1] 3 (0, 0)) (by (with_reducible repeat (first | refine blk_drewN ?_ _ | refine blk_drew ?_ | refine blk_alloc ?_ _)); exact BKk.out)) : gk ≠ gb)); have n10_ := Aside0.mk ((by rw [hg]; exact Nat.ne_of_gt (blk_lt (g := gk) (o := .cells #[.int .i64 a1] 3 (0, 0)) (by (with_reducible repeat (first | refine blk_drewN ?_ _ | refine blk_drew ?_ | refine blk_alloc ?_ _)); exact BKk.out)) : gb ≠ gk)); have n11_ := Aside0.mk ((by rw [hg]; exact Nat.ne_of_lt (blk_lt (g := gq) (o := .cells #[.int .i64 0, .int .i64 0] 28 (0, 0)) (by (with_reducible repeat (first | refine blk_drewN ?_ _ | refine blk_drew ?_ | refine blk_alloc ?_ _)); exact BKq.out)) : gq ≠ gb)); have n12_ := Aside0.mk ((by rw [hg]; exact Nat.ne_of_gt (blk_lt (g := gq) (o := .cells #[.int .i64 0, .int .i64 0] 28 (0, 0)) (by (with_reducible repeat (first | refine blk_drewN ?_ _ | refine blk_drew ?_ | refine blk_alloc ?_ _)); exact BKq.out)) : gb ≠ gq)); have n13_ := Aside0.mk ((by rw [hg]; exact Nat.ne_of_lt (blk_lt (g := gx) (o := .cells #[.slice Alo lo.length clo, .slice Ahi hi.length chi] 55 (0, 0)) (by (with_reducible repeat (first | refine blk_drewN ?_ _ | refine blk_drew ?_ | refine blk_alloc ?_ _)); exact BKx.out)) : gx ≠ gb)); have n14_ := Aside0.mk ((by rw [hg]; exact Nat.ne_of_gt (blk_lt (g := gx) (o := .cells #[.slice Alo lo.length clo, .slice Ahi hi.length chi] 55 (0, 0)) (by (with_reducible repeat (first | refine blk_drewN ?_ _ | refine blk_drew ?_ | refine blk_alloc ?_ _)); exact BKx.out)) : gb ≠ gx)); have n15_ := Aside0.mk (hbox); have n16_ := Aside0.mk ((by rw [hg]; exact (below_size (by repeat (first | (with_reducible first | exact HB.out | apply below_alloc | apply pw_below_drewN | apply below_drew1 | refine below_set ?_ GEr.out | refine below_set ?_ GEk.out | refine below_set ?_ GEq.out | refine below_set ?_ GEx.out) | exact HB.out))) : w.heap.size ≤ gb)); have n17_ := Aside0.mk (below_step (by repeat (first | (with_reducible first | exact HB.out | apply below_alloc | apply pw_below_drewN | apply below_drew1 | refine below_set ?_ GEr.out | refine below_set ?_ GEk.out | refine below_set ?_ GEq.out | refine below_set ?_ GEx.out) | exact HB.out)) hb); (try clear BKr); (try clear BKk); (try clear BKq); (try clear BKx); (try clear HOlo); (try clear HOhi); (try clear HOb); (try clear NBr_b); (try clear NBb_r); (try clear NBk_b); (try clear NBb_k); (try clear NBq_b); (try clear NBb_q); (try clear NBx_b); (try clear NBb_x); (try clear BKb); (try clear GEb); (try clear HB); have BKr := n0_; have BKk := n1_; have BKq := n2_; have BKx := n3_; have HOlo := n4_; have HOhi := n5_; have HOb := n6_; have NBr_b := n7_; have NBb_r := n8_; have NBk_b := n9_; have NBb_k := n10_; have NBq_b := n11_; have NBb_q := n12_; have NBx_b := n13_; have NBb_x := n14_; have BKb := n15_; have GEb := n16_; have HB := n17_; clear n0_ n1_ n2_ n3_ n4_ n5_ n6_ n7_ n8_ n9_ n10_ n11_ n12_ n13_ n14_ n15_ n16_ n17_; clear hb hbox hg; have hczb_0 : w9.cell? ⟨gb, 0, none⟩ = some (.slice none 0 0) := (blk_cell BKb.out 0).trans rfl; have hfzb_0 := blk_frozen BKb.out 0; have hczx_0 : w9.cell? ⟨gx, 0, none⟩ = some (.slice Alo lo.length clo) := (blk_cell BKx.out 0).trans rfl; have hczx_1 : w9.cell? ⟨gx, 1, none⟩ = some (.slice Ahi hi.length chi) := (blk_cell BKx.out 1).trans rfl; have hfzx_0 := blk_frozen BKx.out 0; have hfzx_1 := blk_frozen BKx.out 1; have hNBr_b := NBr_b.out; have hNBb_r := NBb_r.out; have hNBk_b := NBk_b.out; have hNBb_k := NBb_k.out; have hNBq_b := NBq_b.out; have hNBb_q := NBb_q.out; have hNBx_b := NBx_b.out; have hNBb_x := NBb_x.out) | ((with_reducible refine gate_callee (f := 42) rfl ?_); refine goesL_ (some 29) rfl rfl Try.func42 (by kernel_rfl) rfl #[.agg #[.slice Alo lo.length clo, .slice Ahi hi.length chi]] rfl (by (try simp only [List.map_toArray, List.map_cons, List.map_nil]); first | done | rfl | (simp only [List.length_drop, List.length_take]; rfl)) ?_; (with_reducible refine (rect_box_widths.calls k _ _ lo _ _ hi ws _ ?side1 ?side2 ?side3 ?side4 A4).mono ?_); (case side1 => exact (Kd.R_reads' (by (with_reducible repeat (first | apply Kd.R_alloc | apply Kd.R_drewN | apply Kd.R_drew)); exact (Kd.R_mono (Kd.R_far (p := ⟨gb, 0, none⟩) (Kd.R_types HOlo.out BKb.out (by decide)) (fun _ hk => hk.2) (.slice (some adb) lo.length cb)) (fun _ h_ => h_.1)))).2.2); (case side2 => exact (Kd.R_reads' HOlo.out).2.1); (case side3 => exact (Kd.R_reads' (by (with_reducible repeat (first | apply Kd.R_alloc | apply Kd.R_drewN | apply Kd.R_drew)); exact (Kd.R_mono (Kd.R_far (p := ⟨gb, 0, none⟩) (Kd.R_types HOhi.out BKb.out (by decide)) (fun _ hk => hk.2) (.slice (some adb) lo.length cb)) (fun _ h_ => h_.1)))).2.2); (case side4 => exact (Kd.R_reads' HOhi.out).2.1); rintro e w10 ⟨vw, rfl, ho0, hb⟩; refine ⟨_, rfl, ?_⟩; have n0_ := Aside0.mk (Kd.R_below (by (with_reducible repeat (first | apply Kd.R_alloc | apply Kd.R_drewN | apply Kd.R_drew)); exact (Kd.R_mono (Kd.R_far (p := ⟨gb, 0, none⟩) (Kd.R_types HOlo.out BKb.out (by decide)) (fun _ hk => hk.2) (.slice (some adb) lo.length cb)) (fun _ h_ => h_.1))) hb); have n1_ := Aside0.mk (Kd.R_below (by (with_reducible repeat (first | apply Kd.R_alloc | apply Kd.R_drewN | apply Kd.R_drew)); exact (Kd.R_mono (Kd.R_far (p := ⟨gb, 0, none⟩) (Kd.R_types HOhi.out BKb.out (by decide)) (fun _ hk => hk.2) (.slice (some adb) lo.length cb)) (fun _ h_ => h_.1))) hb); have n2_ := Aside0.mk (Kd.R_below (by (with_reducible repeat (first | apply Kd.R_alloc | apply Kd.R_drewN | apply Kd.R_drew)); exact (Kd.R_mono (Kd.R_far (p := ⟨gb, 0, none⟩) (Kd.R_types HOb.out BKb.out (by decide)) (fun _ hk => hk.2) (.slice (some adb) lo.length cb)) (fun _ h_ => h_.1))) hb); have n3_ := Aside0.mk (blk_below (g := gr) (o := .cells #[.int .i64 a0_0, .int .i64 a0_1, .int .i64 a0_2] 31 (0, 0)) (by (with_reducible repeat (first | refine blk_drewN ?_ _ | refine blk_drew ?_ | refine blk_alloc ?_ _)); refine blk_far ?_ NBr_b.out _; (with_reducible repeat (first | refine blk_drewN ?_ _ | refine blk_drew ?_ | refine blk_alloc ?_ _)); exact BKr.out) hb); have n4_ := Aside0.mk (blk_below (g := gk) (o := .cells #[.int .i64 a1] 3 (0, 0)) (by (with_reducible repeat (first | refine blk_drewN ?_ _ | refine blk_drew ?_ | refine blk_alloc ?_ _)); refine blk_far ?_ NBk_b.out _; (with_reducible repeat (first | refine blk_drewN ?_ _ | refine blk_drew ?_ | refine blk_alloc ?_ _)); exact BKk.out) hb); have n5_ := Aside0.mk (blk_below (g := gq) (o := .cells #[.int .i64 0, .int .i64 0] 28 (0, 0)) (by (with_reducible repeat (first | refine blk_drewN ?_ _ | refine blk_drew ?_ | refine blk_alloc ?_ _)); refine blk_far ?_ NBq_b.out _; (with_reducible repeat (first | refine blk_drewN ?_ _ | refine blk_drew ?_ | refine blk_alloc ?_ _)); exact BKq.out) hb); have n6_ := Aside0.mk (blk_below (g := gx) (o := .cells #[.slice Alo lo.length clo, .slice Ahi hi.length chi] 55 (0, 0)) (by (with_reducible repeat (first | refine blk_drewN ?_ _ | refine blk_drew ?_ | refine blk_alloc ?_ _)); refine blk_far ?_ NBx_b.out _; (with_reducible repeat (first | refine blk_drewN ?_ _ | refine blk_drew ?_ | refine blk_alloc ?_ _)); exact BKx.out) hb); have n7_ := Aside0.mk (blk_below (g := gb) (o := .cells #[.slice (some adb) lo.length cb] 36 (0, 0)) (by (with_reducible repeat (first | refine blk_drewN ?_ _ | refine blk_drew ?_ | refine blk_alloc ?_ _)); refine blk_put (cs := #[.slice none 0 0]) ?_ 0 _ rfl; (with_reducible repeat (first | refine blk_drewN ?_ _ | refine blk_drew ?_ | refine blk_alloc ?_ _)); exact BKb.out) hb); have n8_ := Aside0.mk (Kd.R_lower ho0 (below_size (by repeat (first | (with_reducible first | exact HB.out | apply below_alloc | apply pw_below_drewN | apply below_drew1 | refine below_set ?_ GEr.out | refine below_set ?_ GEk.out | refine below_set ?_ GEq.out | refine below_set ?_ GEx.out | refine below_set ?_ GEb.out) | exact HB.out)))); have n9_ := Aside0.mk ((fun k_ hk_ => Nat.lt_of_lt_of_le (blk_lt (g := gk) (o := .cells #[.int .i64 a1] 3 (0, 0)) (by (with_reducible repeat (first | refine blk_drewN ?_ _ | refine blk_drew ?_ | refine blk_alloc ?_ _)); refine blk_far ?_ NBk_b.out _; (with_reducible repeat (first | refine blk_drewN ?_ _ | refine blk_drew ?_ | refine blk_alloc ?_ _)); exact BKk.out)) (rect_Nth.base ho0 k_ hk_) : ∀ k_, vw.ownBlock = some k_ → gk < k_)); have n10_ := Aside0.mk (below_step (by repeat (first | (with_reducible first | exact HB.out | apply below_alloc | apply pw_below_drewN | apply below_drew1 | refine below_set ?_ GEr.out | refine below_set ?_ GEk.out | refine below_set ?_ GEq.out | refine below_set ?_ GEx.out | refine below_set ?_ GEb.out) | exact HB.out)) hb); (try clear HOlo); (try clear HOhi); (try clear HOb); (try clear BKr); (try clear BKk); (try clear BKq); (try clear BKx); (try clear BKb); (try clear HOw); (try clear GWw); (try clear HB); have HOlo := n0_; have HOhi := n1_; have HOb := n2_; have BKr := n3_; have BKk := n4_; have BKq := n5_; have BKx := n6_; have BKb := n7_; have HOw := n8_; have GWw := n9_; have HB := n10_; clear n0_ n1_ n2_ n3_ n4_ n5_ n6_ n7_ n8_ n9_ n10_; (try clear hb); (try clear ho0); (try clear ho1); obtain ⟨adw, cw, ew⟩ := Kd.R_slice1 HOw.out (show 0 < ws.length by omega); subst ew; (try clear hczx_0); (try clear hczx_1); (try clear hfzx_0); (try clear hfzx_1); (try clear hczb_0); (try clear hfzb_0)) | (go_at_call 41; refine (rect_Nth.backward _ _ _ _).mono ?_; rintro e w11 ⟨rfl, rfl⟩))
  obtain ⟨g, cellsb, rfl, hgl, hgh⟩ := rect_Nth.row HOb.out
  obtain ⟨gw, cellsw, rfl, hwl2, hwh⟩ := rect_Nth.row HOw.out
  have hgk : gk < gw := GWw.out gw rfl
  have ty : ∀ {a b : Nat} {cs ds : Array Value} {s t : Nat}, w10.heap[a]? = some (.cells cs s (0, 0)) → w10.heap[b]? = some (.cells ds t (0, 0)) → s ≠ t → a ≠ b := by
    intro a b cs ds s t h1 h2 hn e
    subst e
    rw [h1] at h2
    injection h2 with h2
    injection h2 with _ h2
    exact hn h2
  have n1 : g ≠ gw := ty hgh hwh (by decide)
  have n2 : g ≠ gk := ty hgh BKk.out (by decide)
  have n3 : g ≠ gb := ty hgh BKb.out (by decide)
  have n4 : g ≠ gq := ty hgh BKq.out (by decide)
  have n5 : gw ≠ gb := ty hwh BKb.out (by decide)
  have n6 : gw ≠ gq := ty hwh BKq.out (by decide)
  have hkl := blk_lt BKk.out
  have hbase : w.heap.size ≤ g := rect_Nth.base HOb.out g rfl
  have HBl : Below w.heap.size w (w10.alloc (.cells #[.slice (some ⟨gw, 0, none⟩) lo.length cw] 63)) := below_alloc HB.out _
  have hBs : (w10.alloc (.cells #[.slice (some ⟨gw, 0, none⟩) lo.length cw] 63)).cell? ⟨w10.heap.size, 0, none⟩ = some (.slice (some ⟨gw, 0, none⟩) lo.length cw) := (blk_cell (heap_alloc_new w10 _) 0).trans rfl
  have hcw : ∀ j, j < lo.length → (w10.alloc (.cells #[.slice (some ⟨gw, 0, none⟩) lo.length cw] 63)).cell? ⟨gw, 0 + j, none⟩ = some (.int .i64 (rect_Nth.at_ ws j)) := by
    intro j hj
    obtain ⟨ad, e, h⟩ := Kd.at_int (Kd.R_reads' (Kd.R_alloc HOw.out (.cells #[.slice (some ⟨gw, 0, none⟩) lo.length cw] 63))).2.2 (j : Int) (by omega) (by omega)
    cases e
    rw [rect_Nth.rd_get] at h
    have ea : (⟨gw, 0, none⟩ : Addr).add (j : Int).toNat = ⟨gw, 0 + j, none⟩ := by
      rw [Int.toNat_natCast]
      cases j <;> simp [Addr.add]
    rw [ea] at h
    exact h
  have hws : ∀ x : Fin lo.length, 0 < rect_Nth.at_ ws x.1 := by
    intro x
    unfold rect_Nth.at_
    rw [List.getElem?_eq_getElem (by rw [hwl]; exact x.2)]
    exact hpos _ (List.getElem_mem _)
  clear hpos
  refine (wpIn_wide (n := 9)).1 (wpIn_rangeFunc_ownF (F := Fence.wide) (n := 9) rfl (by decide) (gf := 56) (lb := #[.pointer (some ⟨w10.heap.size, 0, none⟩)]) rfl trivial (enters_of Try.func56 (by kernel_rfl) rfl)
    (rect_Nth.stops Fence.wide (9 - 1) trivial rfl (by decide) w10.heap.size gw 0 lo.length cw (by omega) ws (by omega) _ (by simp) (by simp; omega) hBs hcw) (fun h k => rect_Nth.Kp.trans h k)
    (fun W l o o' hl h _ _ => ⟨World.putObj_heap_other (by simp at hl; omega), World.putObj_heap_other (by simp at hl; omega)⟩) (Below.refl _ _) (fun _ => rfl)
    (fun pre W => (W.heap[gk]? = some (.cells #[.int .i64 (rect_Nth.st ws (a1, lo) pre).1] 3 (0, 0)) ∧ W.heap[gb]? = some (.cells #[.slice (some ⟨g, 0, none⟩) lo.length cb] 36 (0, 0)) ∧ W.heap[gq]? = some (.cells #[.int .i64 0, .int .i64 0] 28 (0, 0)) ∧
      (Kd.int .u8).R 5 W w.heap.size (fun _ => True) (.slice (some ⟨g, 0, none⟩) lo.length cb) (rect_Nth.st ws (a1, lo) pre).2 ∧ (rect_Nth.st ws (a1, lo) pre).2.length = lo.length) ∧ Below w.heap.size w W)
    (fun _ _ _ => False)
    (OwnFrom.and (Own.from (fun s A B row hs hg hr => ⟨rect_Nth.heap_own hs.1 hg hr, rect_Nth.heap_own hs.2.1 hg hr, rect_Nth.heap_own hs.2.2.1 hg hr, rect_Nth.R_own hs.2.2.2.1 hg hr, hs.2.2.2.2⟩) _) (ownFrom_below (Nat.le_refl _) (below_size HBl)))
    (fun _ _ _ _ _ hs _ _ => hs)
    ⟨⟨blk_alloc BKk.out _, blk_alloc BKb.out _, blk_alloc BKq.out _, Kd.R_alloc HOb.out _, rfl⟩, HBl⟩
    (fun x => { tmps := #[.agg #[.int .i64 a0_0, .int .i64 a0_1, .int .i64 a0_2], .int .i64 a1, .pointer (some ⟨gr, 0, none⟩), .pointer (some ⟨gk, 0, none⟩), .pointer (some ⟨gq, 0, none⟩), .bool false, .pointer (some ⟨gx, 0, none⟩), .bool ok, .pointer (some ⟨gb, 0, none⟩), .int .i64 (x.1 : Int), .int .i64 (rect_Nth.at_ ws x.1), .int .i64 a1, .bool false, .bool false, .int .i64 a1, .agg #[.int .i64 a0_0, .int .i64 a0_1, .int .i64 a0_2], .int .i64 t, .bool false, .bool false, undef, .tuple #[.agg #[.slice Alo lo.length clo, .slice Ahi hi.length chi], .bool ok], .agg #[.int .i64 a0_0, .int .i64 a0_1, .int .i64 a0_2], .tuple #[.agg #[.slice Alo lo.length clo, .slice Ahi hi.length chi], .bool ok], .agg #[.slice Alo lo.length clo, .slice Ahi hi.length chi], .bool ok, .pointer (some ⟨gx, 0, none⟩), .slice Alo lo.length clo, .slice (some ⟨g, 0, none⟩) lo.length cb, .agg #[.slice Alo lo.length clo, .slice Ahi hi.length chi], .slice (some ⟨gw, 0, none⟩) lo.length cw, .func (.func 56) #[] #[.pointer (some ⟨w10.heap.size, 0, none⟩)], .int .i64 (x.1 : Int), .int .i64 (rect_Nth.at_ ws x.1), undef, undef, undef, undef, undef, undef, undef, undef, undef, undef, undef, undef, undef, undef, undef, undef, undef], defers := [] }) ?assign ?body ?done ?stop)
  case assign =>
    intro l x W K hK
    gi_wp2
    exact hK
  case body =>
    rintro l pre x W ⟨⟨hk, hb, hq, hR, hlen⟩, hB⟩ _
    have hz := hws x
    obtain ⟨s, hs⟩ : ∃ s, s = rect_Nth.st ws (a1, lo) pre := ⟨_, rfl⟩
    have hsn := rect_Nth.st_snoc ws (a1, lo) pre x
    rw [← hs] at hk hR hlen hsn
    clear hs
    have hxl : x.1 < s.2.length := by rw [hlen]; exact x.2
    have hck : W.cell? ⟨gk, 0, none⟩ = some (.int .i64 s.1) := (blk_cell hk 0).trans rfl
    have hfk := blk_frozen hk 0
    have hcb : W.cell? ⟨gb, 0, none⟩ = some (.slice (some ⟨g, 0, none⟩) lo.length cb) := (blk_cell hb 0).trans rfl
    obtain ⟨adx, ex, hcx⟩ := Kd.at_int (Kd.R_reads' hR).2.2 (x.1 : Int) (by omega) (by omega)
    cases ex
    rw [rect_Nth.rd_get] at hcx
    have ea : (⟨g, 0, none⟩ : Addr).add (x.1 : Int).toNat = ⟨g, x.1, none⟩ := by
      rw [Int.toNat_natCast]
      cases x.1 <;> simp [Addr.add]
    rw [ea] at hcx
    obtain ⟨g', cellsg, eg, hgl3, hgh3⟩ := rect_Nth.row hR
    cases eg
    have hfx := blk_frozen hgh3 x.1
    have hz0 : (rect_Nth.at_ ws x.1 = 0) = False := eq_false (by omega)
    have hp0 : (0 ≤ (x.1 : Int)) = True := eq_true (by omega)
    have hp1 : ((x.1 : Int) < (lo.length : Int)) = True := eq_true (by omega)
    have hlt2 : x.1 < lo.length := x.2
    have hnx := hsn
    unfold rect_Nth.step at hnx
    have HR1 := Kd.R_putn hR (x.1 : Int) ((rect_Nth.at_ s.2 x.1 + Int.tmod s.1 (rect_Nth.at_ ws x.1)) % 256)
    rw [Int.toNat_natCast] at HR1
    have hk1 : (W.setCell ⟨g, x.1, none⟩ (.int .u8 ((rect_Nth.at_ s.2 x.1 + Int.tmod s.1 (rect_Nth.at_ ws x.1)) % 256))).heap[gk]? = some (.cells #[.int .i64 s.1] 3 (0, 0)) := blk_far hk (fun e => n2 e.symm) _
    have hfin : ∀ {c : Act}, ownPostK (rect_Nth.Kp w10.heap.size gw) (fun pre W => (W.heap[gk]? = some (.cells #[.int .i64 (rect_Nth.st ws (a1, lo) pre).1] 3 (0, 0)) ∧ W.heap[gb]? = some (.cells #[.slice (some ⟨g, 0, none⟩) lo.length cb] 36 (0, 0)) ∧ W.heap[gq]? = some (.cells #[.int .i64 0, .int .i64 0] 28 (0, 0)) ∧
      (Kd.int .u8).R 5 W w.heap.size (fun _ => True) (.slice (some ⟨g, 0, none⟩) lo.length cb) (rect_Nth.st ws (a1, lo) pre).2 ∧ (rect_Nth.st ws (a1, lo) pre).2.length = lo.length) ∧ Below w.heap.size w W) (fun _ _ _ => False) (pre ++ [x]) W .normal c
      ((W.setCell ⟨g, x.1, none⟩ (.int .u8 ((rect_Nth.at_ s.2 x.1 + Int.tmod s.1 (rect_Nth.at_ ws x.1)) % 256))).setCell ⟨gk, 0, none⟩ (.int .i64 (wrap64 (Int.tdiv s.1 (rect_Nth.at_ ws x.1))))).drew := by
      intro c
      refine ⟨((KeepsOthers.setCell W _ _).trans (KeepsOthers.setCell _ _ _)).trans (KeepsOthers.drew _), ⟨?_, ?_⟩, ⟨?_, ?_, ?_, ?_, ?_⟩, ?_⟩
      · exact (Below.heap_setCell _ ⟨gk, 0, none⟩ _ _ (by show w10.heap.size ≠ gk; omega)).trans (Below.heap_setCell W ⟨g, x.1, none⟩ _ _ (by show w10.heap.size ≠ g; omega))
      · exact (Below.heap_setCell _ ⟨gk, 0, none⟩ _ _ (by show gw ≠ gk; omega)).trans (Below.heap_setCell W ⟨g, x.1, none⟩ _ _ (fun e => n1 e.symm))
      · rw [hnx]
        exact blk_drew (blk_put (cs := #[.int .i64 s.1]) hk1 0 _ rfl)
      · exact blk_drew (blk_far (blk_far hb (fun e => n3 e.symm) _) (fun e => NBk_b.out e.symm) _)
      · exact blk_drew (blk_far (blk_far hq (fun e => n4 e.symm) _) (fun e => NBk_q.out e.symm) _)
      · rw [hnx]
        exact Kd.R_drew (Kd.R_mono (Kd.R_far (p := ⟨gk, 0, none⟩) (Kd.R_types HR1 hk1 (by decide)) (fun _ h => h.2) _) (fun _ _ => trivial))
      · rw [hsn, rect_Nth.step_len]
        exact hlen
      · exact below_drew (below_set (below_set hB hbase) GEk.out)
    gi_wp2
    refine rect_Nth.region_round (F := Fence.wide) rfl (by kernel_rfl) l (by kernel_rfl) ?_
    refine wpAnyIn_take (i := 1) (v := ?_) rfl rfl (by kernel_rfl) (by kernel_rfl) (by kernel_rfl) (fun _ _ _ h => h) ⟨Or.inl ⟨by rfl, ?_⟩, fun _ => rfl⟩ ?_
    rotate_left
    · intro w'
      go_simp
      (try with_reducible rfl)
    refine wpAnyIn_take (i := 5) (v := ?_) rfl rfl (by kernel_rfl) (by kernel_rfl) (by kernel_rfl) (fun _ _ _ h => h) ⟨Or.inl ⟨by rfl, ?_⟩, fun _ => rfl⟩ ?_
    rotate_left
    · intro w'
      go_simp
      (try with_reducible rfl)
    refine wpAnyIn_ready (rs := [0, 4]) (by kernel_rfl) (by simp) ?_
    refine AllReadyIn.cons rfl (fun K hK => ?_) ?_
    · go_simp
      refine hK _ _ ?_
      clear hK K
      refine wpAnyIn_take (i := 2) (v := ?_) rfl rfl (by kernel_rfl) (by kernel_rfl) (by kernel_rfl) (fun _ _ _ h => h) ⟨Or.inl ⟨by rfl, ?_⟩, fun _ => rfl⟩ ?_
      rotate_left
      · intro w'
        go_simp
        (try with_reducible rfl)
      refine wpAnyIn_ready (rs := [3, 4]) (by kernel_rfl) (by simp) ?_
      refine AllReadyIn.cons rfl (fun K hK => ?_) ?_
      · go_simp
        refine hK _ _ ?_
        clear hK K
        refine wpAnyIn_ready (rs := [4]) (by kernel_rfl) (by simp) ?_
        refine AllReadyIn.cons rfl (fun K hK => ?_) ?_
        · go_simp
          refine hK _ _ ?_
          clear hK K
          refine wpAnyIn_ready (rs := [6]) (by kernel_rfl) (by simp) ?_
          refine AllReadyIn.cons rfl (fun K hK => ?_) ?_
          · go_simp
            refine hK _ _ ?_
            clear hK K
            refine wpAnyIn_ready (rs := [7]) (by kernel_rfl) (by simp) ?_
            refine AllReadyIn.cons rfl (fun K hK => ?_) ?_
            · go_simp
              refine hK _ _ ?_
              clear hK K
              refine wpAnyIn_ready (rs := [8]) (by kernel_rfl) (by simp) ?_
              refine AllReadyIn.cons rfl (fun K hK => ?_) ?_
              · go_simp
                refine hK _ _ ?_
                clear hK K
                refine wpAnyIn_take (i := 9) (v := ?_) rfl rfl (by kernel_rfl) (by kernel_rfl) (by kernel_rfl) (fun _ _ _ h => h) ⟨Or.inl ⟨by rfl, ?_⟩, fun _ => rfl⟩ ?_
                rotate_left
                · intro w'
                  go_simp
                  (try with_reducible rfl)
                refine wpAnyIn_ready (rs := [10]) (by kernel_rfl) (by simp) ?_
                refine AllReadyIn.cons rfl (fun K hK => ?_) ?_
                · go_simp
                  refine hK _ _ ?_
                  clear hK K
                  refine wpAnyIn_done (by kernel_rfl) ?_ _
                  gi_wp2
                  exact hfin
                exact AllReadyIn.nil
              exact AllReadyIn.nil
            exact AllReadyIn.nil
          exact AllReadyIn.nil
        exact AllReadyIn.nil
      refine AllReadyIn.cons rfl (fun K hK => ?_) ?_
      · go_simp
        refine hK _ _ ?_
        clear hK K
        refine wpAnyIn_ready (rs := [3, 6]) (by kernel_rfl) (by simp) ?_
        refine AllReadyIn.cons rfl (fun K hK => ?_) ?_
        · go_simp
          refine hK _ _ ?_
          clear hK K
          refine wpAnyIn_ready (rs := [6]) (by kernel_rfl) (by simp) ?_
          refine AllReadyIn.cons rfl (fun K hK => ?_) ?_
          · go_simp
            refine hK _ _ ?_
            clear hK K
            refine wpAnyIn_ready (rs := [7]) (by kernel_rfl) (by simp) ?_
            refine AllReadyIn.cons rfl (fun K hK => ?_) ?_
            · go_simp
              refine hK _ _ ?_
              clear hK K
              refine wpAnyIn_ready (rs := [8]) (by kernel_rfl) (by simp) ?_
              refine AllReadyIn.cons rfl (fun K hK => ?_) ?_
              · go_simp
                refine hK _ _ ?_
                clear hK K
                refine wpAnyIn_take (i := 9) (v := ?_) rfl rfl (by kernel_rfl) (by kernel_rfl) (by kernel_rfl) (fun _ _ _ h => h) ⟨Or.inl ⟨by rfl, ?_⟩, fun _ => rfl⟩ ?_
                rotate_left
                · intro w'
                  go_simp
                  (try with_reducible rfl)
                refine wpAnyIn_ready (rs := [10]) (by kernel_rfl) (by simp) ?_
                refine AllReadyIn.cons rfl (fun K hK => ?_) ?_
                · go_simp
                  refine hK _ _ ?_
                  clear hK K
                  refine wpAnyIn_done (by kernel_rfl) ?_ _
                  gi_wp2
                  exact hfin
                exact AllReadyIn.nil
              exact AllReadyIn.nil
            exact AllReadyIn.nil
          exact AllReadyIn.nil
        refine AllReadyIn.cons rfl (fun K hK => ?_) ?_
        · go_simp
          refine hK _ _ ?_
          clear hK K
          refine wpAnyIn_ready (rs := [3, 7]) (by kernel_rfl) (by simp) ?_
          refine AllReadyIn.cons rfl (fun K hK => ?_) ?_
          · go_simp
            refine hK _ _ ?_
            clear hK K
            refine wpAnyIn_ready (rs := [7]) (by kernel_rfl) (by simp) ?_
            refine AllReadyIn.cons rfl (fun K hK => ?_) ?_
            · go_simp
              refine hK _ _ ?_
              clear hK K
              refine wpAnyIn_ready (rs := [8]) (by kernel_rfl) (by simp) ?_
              refine AllReadyIn.cons rfl (fun K hK => ?_) ?_
              · go_simp
                refine hK _ _ ?_
                clear hK K
                refine wpAnyIn_take (i := 9) (v := ?_) rfl rfl (by kernel_rfl) (by kernel_rfl) (by kernel_rfl) (fun _ _ _ h => h) ⟨Or.inl ⟨by rfl, ?_⟩, fun _ => rfl⟩ ?_
                rotate_left
                · intro w'
                  go_simp
                  (try with_reducible rfl)
                refine wpAnyIn_ready (rs := [10]) (by kernel_rfl) (by simp) ?_
                refine AllReadyIn.cons rfl (fun K hK => ?_) ?_
                · go_simp
                  refine hK _ _ ?_
                  clear hK K
                  refine wpAnyIn_done (by kernel_rfl) ?_ _
                  gi_wp2
                  exact hfin
                exact AllReadyIn.nil
              exact AllReadyIn.nil
            exact AllReadyIn.nil
          refine AllReadyIn.cons rfl (fun K hK => ?_) ?_
          · go_simp
            refine hK _ _ ?_
            clear hK K
            refine wpAnyIn_ready (rs := [3]) (by kernel_rfl) (by simp) ?_
            refine AllReadyIn.cons rfl (fun K hK => ?_) ?_
            · go_simp
              refine hK _ _ ?_
              clear hK K
              refine wpAnyIn_ready (rs := [8]) (by kernel_rfl) (by simp) ?_
              refine AllReadyIn.cons rfl (fun K hK => ?_) ?_
              · go_simp
                refine hK _ _ ?_
                clear hK K
                refine wpAnyIn_take (i := 9) (v := ?_) rfl rfl (by kernel_rfl) (by kernel_rfl) (by kernel_rfl) (fun _ _ _ h => h) ⟨Or.inl ⟨by rfl, ?_⟩, fun _ => rfl⟩ ?_
                rotate_left
                · intro w'
                  go_simp
                  (try with_reducible rfl)
                refine wpAnyIn_ready (rs := [10]) (by kernel_rfl) (by simp) ?_
                refine AllReadyIn.cons rfl (fun K hK => ?_) ?_
                · go_simp
                  refine hK _ _ ?_
                  clear hK K
                  refine wpAnyIn_done (by kernel_rfl) ?_ _
                  gi_wp2
                  exact hfin
                exact AllReadyIn.nil
              exact AllReadyIn.nil
            exact AllReadyIn.nil
          exact AllReadyIn.nil
        exact AllReadyIn.nil
      exact AllReadyIn.nil
    refine AllReadyIn.cons rfl (fun K hK => ?_) ?_
    · go_simp
      refine hK _ _ ?_
      clear hK K
      refine wpAnyIn_ready (rs := [0, 6]) (by kernel_rfl) (by simp) ?_
      refine AllReadyIn.cons rfl (fun K hK => ?_) ?_
      · go_simp
        refine hK _ _ ?_
        clear hK K
        refine wpAnyIn_take (i := 2) (v := ?_) rfl rfl (by kernel_rfl) (by kernel_rfl) (by kernel_rfl) (fun _ _ _ h => h) ⟨Or.inl ⟨by rfl, ?_⟩, fun _ => rfl⟩ ?_
        rotate_left
        · intro w'
          go_simp
          (try with_reducible rfl)
        refine wpAnyIn_ready (rs := [3, 6]) (by kernel_rfl) (by simp) ?_
        refine AllReadyIn.cons rfl (fun K hK => ?_) ?_
        · go_simp
          refine hK _ _ ?_
          clear hK K
          refine wpAnyIn_ready (rs := [6]) (by kernel_rfl) (by simp) ?_
          refine AllReadyIn.cons rfl (fun K hK => ?_) ?_
          · go_simp
            refine hK _ _ ?_
            clear hK K
            refine wpAnyIn_ready (rs := [7]) (by kernel_rfl) (by simp) ?_
            refine AllReadyIn.cons rfl (fun K hK => ?_) ?_
            · go_simp
              refine hK _ _ ?_
              clear hK K
              refine wpAnyIn_ready (rs := [8]) (by kernel_rfl) (by simp) ?_
              refine AllReadyIn.cons rfl (fun K hK => ?_) ?_
              · go_simp
                refine hK _ _ ?_
                clear hK K
                refine wpAnyIn_take (i := 9) (v := ?_) rfl rfl (by kernel_rfl) (by kernel_rfl) (by kernel_rfl) (fun _ _ _ h => h) ⟨Or.inl ⟨by rfl, ?_⟩, fun _ => rfl⟩ ?_
                rotate_left
                · intro w'
                  go_simp
                  (try with_reducible rfl)
                refine wpAnyIn_ready (rs := [10]) (by kernel_rfl) (by simp) ?_
                refine AllReadyIn.cons rfl (fun K hK => ?_) ?_
                · go_simp
                  refine hK _ _ ?_
                  clear hK K
                  refine wpAnyIn_done (by kernel_rfl) ?_ _
                  gi_wp2
                  exact hfin
                exact AllReadyIn.nil
              exact AllReadyIn.nil
            exact AllReadyIn.nil
          exact AllReadyIn.nil
        refine AllReadyIn.cons rfl (fun K hK => ?_) ?_
        · go_simp
          refine hK _ _ ?_
          clear hK K
          refine wpAnyIn_ready (rs := [3, 7]) (by kernel_rfl) (by simp) ?_
          refine AllReadyIn.cons rfl (fun K hK => ?_) ?_
          · go_simp
            refine hK _ _ ?_
            clear hK K
            refine wpAnyIn_ready (rs := [7]) (by kernel_rfl) (by simp) ?_
            refine AllReadyIn.cons rfl (fun K hK => ?_) ?_
            · go_simp
              refine hK _ _ ?_
              clear hK K
              refine wpAnyIn_ready (rs := [8]) (by kernel_rfl) (by simp) ?_
              refine AllReadyIn.cons rfl (fun K hK => ?_) ?_
              · go_simp
                refine hK _ _ ?_
                clear hK K
                refine wpAnyIn_take (i := 9) (v := ?_) rfl rfl (by kernel_rfl) (by kernel_rfl) (by kernel_rfl) (fun _ _ _ h => h) ⟨Or.inl ⟨by rfl, ?_⟩, fun _ => rfl⟩ ?_
                rotate_left
                · intro w'
                  go_simp
                  (try with_reducible rfl)
                refine wpAnyIn_ready (rs := [10]) (by kernel_rfl) (by simp) ?_
                refine AllReadyIn.cons rfl (fun K hK => ?_) ?_
                · go_simp
                  refine hK _ _ ?_
                  clear hK K
                  refine wpAnyIn_done (by kernel_rfl) ?_ _
                  gi_wp2
                  exact hfin
                exact AllReadyIn.nil
              exact AllReadyIn.nil
            exact AllReadyIn.nil
          refine AllReadyIn.cons rfl (fun K hK => ?_) ?_
          · go_simp
            refine hK _ _ ?_
            clear hK K
            refine wpAnyIn_ready (rs := [3]) (by kernel_rfl) (by simp) ?_
            refine AllReadyIn.cons rfl (fun K hK => ?_) ?_
            · go_simp
              refine hK _ _ ?_
              clear hK K
              refine wpAnyIn_ready (rs := [8]) (by kernel_rfl) (by simp) ?_
              refine AllReadyIn.cons rfl (fun K hK => ?_) ?_
              · go_simp
                refine hK _ _ ?_
                clear hK K
                refine wpAnyIn_take (i := 9) (v := ?_) rfl rfl (by kernel_rfl) (by kernel_rfl) (by kernel_rfl) (fun _ _ _ h => h) ⟨Or.inl ⟨by rfl, ?_⟩, fun _ => rfl⟩ ?_
                rotate_left
                · intro w'
                  go_simp
                  (try with_reducible rfl)
                refine wpAnyIn_ready (rs := [10]) (by kernel_rfl) (by simp) ?_
                refine AllReadyIn.cons rfl (fun K hK => ?_) ?_
                · go_simp
                  refine hK _ _ ?_
                  clear hK K
                  refine wpAnyIn_done (by kernel_rfl) ?_ _
                  gi_wp2
                  exact hfin
                exact AllReadyIn.nil
              exact AllReadyIn.nil
            exact AllReadyIn.nil
          exact AllReadyIn.nil
        exact AllReadyIn.nil
      refine AllReadyIn.cons rfl (fun K hK => ?_) ?_
      · go_simp
        refine hK _ _ ?_
        clear hK K
        refine wpAnyIn_ready (rs := [0, 7]) (by kernel_rfl) (by simp) ?_
        refine AllReadyIn.cons rfl (fun K hK => ?_) ?_
        · go_simp
          refine hK _ _ ?_
          clear hK K
          refine wpAnyIn_take (i := 2) (v := ?_) rfl rfl (by kernel_rfl) (by kernel_rfl) (by kernel_rfl) (fun _ _ _ h => h) ⟨Or.inl ⟨by rfl, ?_⟩, fun _ => rfl⟩ ?_
          rotate_left
          · intro w'
            go_simp
            (try with_reducible rfl)
          refine wpAnyIn_ready (rs := [3, 7]) (by kernel_rfl) (by simp) ?_
          refine AllReadyIn.cons rfl (fun K hK => ?_) ?_
          · go_simp
            refine hK _ _ ?_
            clear hK K
            refine wpAnyIn_ready (rs := [7]) (by kernel_rfl) (by simp) ?_
            refine AllReadyIn.cons rfl (fun K hK => ?_) ?_
            · go_simp
              refine hK _ _ ?_
              clear hK K
              refine wpAnyIn_ready (rs := [8]) (by kernel_rfl) (by simp) ?_
              refine AllReadyIn.cons rfl (fun K hK => ?_) ?_
              · go_simp
                refine hK _ _ ?_
                clear hK K
                refine wpAnyIn_take (i := 9) (v := ?_) rfl rfl (by kernel_rfl) (by kernel_rfl) (by kernel_rfl) (fun _ _ _ h => h) ⟨Or.inl ⟨by rfl, ?_⟩, fun _ => rfl⟩ ?_
                rotate_left
                · intro w'
                  go_simp
                  (try with_reducible rfl)
                refine wpAnyIn_ready (rs := [10]) (by kernel_rfl) (by simp) ?_
                refine AllReadyIn.cons rfl (fun K hK => ?_) ?_
                · go_simp
                  refine hK _ _ ?_
                  clear hK K
                  refine wpAnyIn_done (by kernel_rfl) ?_ _
                  gi_wp2
                  exact hfin
                exact AllReadyIn.nil
              exact AllReadyIn.nil
            exact AllReadyIn.nil
          refine AllReadyIn.cons rfl (fun K hK => ?_) ?_
          · go_simp
            refine hK _ _ ?_
            clear hK K
            refine wpAnyIn_ready (rs := [3]) (by kernel_rfl) (by simp) ?_
            refine AllReadyIn.cons rfl (fun K hK => ?_) ?_
            · go_simp
              refine hK _ _ ?_
              clear hK K
              refine wpAnyIn_ready (rs := [8]) (by kernel_rfl) (by simp) ?_
              refine AllReadyIn.cons rfl (fun K hK => ?_) ?_
              · go_simp
                refine hK _ _ ?_
                clear hK K
                refine wpAnyIn_take (i := 9) (v := ?_) rfl rfl (by kernel_rfl) (by kernel_rfl) (by kernel_rfl) (fun _ _ _ h => h) ⟨Or.inl ⟨by rfl, ?_⟩, fun _ => rfl⟩ ?_
                rotate_left
                · intro w'
                  go_simp
                  (try with_reducible rfl)
                refine wpAnyIn_ready (rs := [10]) (by kernel_rfl) (by simp) ?_
                refine AllReadyIn.cons rfl (fun K hK => ?_) ?_
                · go_simp
                  refine hK _ _ ?_
                  clear hK K
                  refine wpAnyIn_done (by kernel_rfl) ?_ _
                  gi_wp2
                  exact hfin
                exact AllReadyIn.nil
              exact AllReadyIn.nil
            exact AllReadyIn.nil
          exact AllReadyIn.nil
        refine AllReadyIn.cons rfl (fun K hK => ?_) ?_
        · go_simp
          refine hK _ _ ?_
          clear hK K
          refine wpAnyIn_ready (rs := [0]) (by kernel_rfl) (by simp) ?_
          refine AllReadyIn.cons rfl (fun K hK => ?_) ?_
          · go_simp
            refine hK _ _ ?_
            clear hK K
            refine wpAnyIn_take (i := 2) (v := ?_) rfl rfl (by kernel_rfl) (by kernel_rfl) (by kernel_rfl) (fun _ _ _ h => h) ⟨Or.inl ⟨by rfl, ?_⟩, fun _ => rfl⟩ ?_
            rotate_left
            · intro w'
              go_simp
              (try with_reducible rfl)
            refine wpAnyIn_ready (rs := [3]) (by kernel_rfl) (by simp) ?_
            refine AllReadyIn.cons rfl (fun K hK => ?_) ?_
            · go_simp
              refine hK _ _ ?_
              clear hK K
              refine wpAnyIn_ready (rs := [8]) (by kernel_rfl) (by simp) ?_
              refine AllReadyIn.cons rfl (fun K hK => ?_) ?_
              · go_simp
                refine hK _ _ ?_
                clear hK K
                refine wpAnyIn_take (i := 9) (v := ?_) rfl rfl (by kernel_rfl) (by kernel_rfl) (by kernel_rfl) (fun _ _ _ h => h) ⟨Or.inl ⟨by rfl, ?_⟩, fun _ => rfl⟩ ?_
                rotate_left
                · intro w'
                  go_simp
                  (try with_reducible rfl)
                refine wpAnyIn_ready (rs := [10]) (by kernel_rfl) (by simp) ?_
                refine AllReadyIn.cons rfl (fun K hK => ?_) ?_
                · go_simp
                  refine hK _ _ ?_
                  clear hK K
                  refine wpAnyIn_done (by kernel_rfl) ?_ _
                  gi_wp2
                  exact hfin
                exact AllReadyIn.nil
              exact AllReadyIn.nil
            exact AllReadyIn.nil
          exact AllReadyIn.nil
        exact AllReadyIn.nil
      exact AllReadyIn.nil
    exact AllReadyIn.nil
  case done =>
    rintro D xs W hD hS ⟨⟨hk, hb, hq, hR, hlen⟩, hB⟩ hK
    obtain rfl := hS
    have e2 := rect_Nth.go_all ws lo.length (by omega) (a1, lo)
    unfold rect_Nth.st at hk hR hlen
    rw [e2] at hk hR hlen
    rw [hwl] at A5
    obtain ⟨bs, hbs⟩ : ∃ bs, bs = (rect_Nth.go ws lo.length (a1, lo)).2 := ⟨_, rfl⟩
    rw [← hbs] at hR hlen A5
    clear hbs e2 hk
    have hcb : W.cell? ⟨gb, 0, none⟩ = some (.slice (some ⟨g, 0, none⟩) bs.length cb) := by
      rw [hlen]
      exact (blk_cell hb 0).trans rfl
    have hcq0 : W.cell? ⟨gq, 0, none⟩ = some (.int .i64 0) := (blk_cell hq 0).trans rfl
    have hcq1 : W.cell? ⟨gq, 1, none⟩ = some (.int .i64 0) := (blk_cell hq 1).trans rfl
    have hfq0 := blk_frozen hq 0
    have hfq1 := blk_frozen hq 1
    have HC := Aside0.mk (Kd.R_reads' hR)
    have HQ := Aside0.mk hq
    have HB3 := Aside0.mk hB
    have HK := Aside0.mk hK
    have HD := Aside0.mk hD
    have HL := Aside0.mk hlen
    clear hb hq hR hB hK hD hlen hcw hBs hws HBl hwh hgh ty HOlo HOhi HOb HOw BKr BKk BKq BKx BKb
    go_wp2_with (go_at_call 18; refine (hex_Val.calls k _ _ bs r1 r2 r3 _ ?side1 ?side2 A5).mono ?_; (case side1 => exact HC.out.2.2); (case side2 => have h1 := HC.out.1; have h2 := HC.out.2.1; omega); rintro e w12 ⟨rfl, hb2⟩; have n0_ := Aside0.mk (blk_below HQ.out hb2); have n1_ := Aside0.mk (HB3.out.trans (hb2.mono HB3.out.size)); have n2_ := Aside0.mk ((hb2.block D (Array.getElem?_eq_some_iff.1 HK.out).1).trans HK.out); clear HQ HB3 HK hcq0 hcq1 hfq0 hfq1 hcb hb2; have hcq0 : w12.cell? ⟨gq, 0, none⟩ = some (.int .i64 0) := (blk_cell n0_.out 0).trans rfl; have hcq1 : w12.cell? ⟨gq, 1, none⟩ = some (.int .i64 0) := (blk_cell n0_.out 1).trans rfl; have hfq0 := blk_frozen n0_.out 0; have hfq1 := blk_frozen n0_.out 1)
    have nDq : D ≠ gq := by
      intro e
      subst e
      have h1 := n0_.out
      rw [n2_.out] at h1
      cases h1
    have hK2 : ((w12.setCell ⟨gq, 0, none⟩ (.int .i64 r1)).setCell ⟨gq, 1, none⟩ (.int .i64 r2)).heap[D]? = some (.deferred (some [])) := ((Below.heap_setCell _ ⟨gq, 1, none⟩ _ _ nDq).trans (Below.heap_setCell w12 ⟨gq, 0, none⟩ _ _ nDq)).trans n2_.out
    have hq2 : ((w12.setCell ⟨gq, 0, none⟩ (.int .i64 r1)).setCell ⟨gq, 1, none⟩ (.int .i64 r2)).heap[gq]? = some (.cells #[.int .i64 r1, .int .i64 r2] 28 (0, 0)) := blk_put (cs := #[.int .i64 r1, .int .i64 0]) (blk_put (cs := #[.int .i64 0, .int .i64 0]) n0_.out 0 _ rfl) 1 _ rfl
    have hDw : w.heap.size ≤ D := Nat.le_trans (below_size (below_alloc HB.out _)) HD.out
    refine ⟨by simp, .inl ⟨_, _, rfl, run_takeDeferred hK2, ?_⟩⟩
    refine ⟨_, results_ct rfl _ _ gq 28 #[.int .i64 r1, .int .i64 r2] (0, 0) _ rfl ((World.putObj_heap_other (fun e => nDq e.symm)).trans hq2) Try.underlying28 rfl (by kernel_rfl), rfl, ?_⟩
    exact (below_set (below_set n1_.out GEq.out) GEq.out).trans (belowK_b (w := w) (Nat.le_refl _) _ D _ _ hDw hK2 rfl rfl)
  case stop =>
    rintro D c pre W _ _ h _
    exact h.elim
def rect_Nth.okW (lo ws : List Int) : Bool := decide (ws.length = lo.length ∧ 1 ≤ ws.length ∧ ws.length ≤ 1000000000) && ws.all fun z => decide (0 < z)
def rect_Nth.f (k : Nat) (a0_0 : Int) (a0_1 : Int) (a0_2 : Int) (a1 : Int) : Option (Int × Int × Bool) :=
  if a1 < 0 then some (0, 0, false) else (rect_Size.f k a0_0 a0_1 a0_2).bind fun t => (if a1 ≥ t then some (0, 0, false) else (rect_of.f k a0_0 a0_1 a0_2).bind fun bt => (rect_box_widths.f k bt.1 bt.2.1).bind fun ws => (if rect_Nth.okW bt.1 ws = true then hex_Val.f k (rect_Nth.go ws ws.length (a1, bt.1)).2 else none))
theorem rect_Nth.mono : ∀ a0 a1 a2 a3 k, LeO (rect_Nth.f k a0 a1 a2 a3) (rect_Nth.f (k + 1) a0 a1 a2 a3) := by
  intro a0 a1 a2 a3 k
  unfold rect_Nth.f
  exact LeO.ite (LeO.refl _) (LeO.bind (rect_Size.mono _ _ _ _) (fun t => LeO.ite (LeO.refl _) (LeO.bind (rect_of.mono _ _ _ _) (fun bt => LeO.bind (rect_box_widths.mono _ _ _) (fun ws => LeO.ite (hex_Val.mono _ _) (LeO.refl _))))))
theorem rect_Nth.calls (k : Nat) (a0_0 : Int) (a0_1 : Int) (a0_2 : Int) (a1 : Int) (r1 : Int) (r2 : Int) (r3 : Bool) (w : World) (h : rect_Nth.f k a0_0 a0_1 a0_2 a1 = some (r1, r2, r3)) :
    Calls Try.prog 19 #[.agg #[.int .i64 a0_0, .int .i64 a0_1, .int .i64 a0_2], .int .i64 a1] w fun e w' => e = .returned (.tuple #[.agg #[.int .i64 r1, .int .i64 r2], .bool r3]) ∧ Below w.heap.size w w' := by
  unfold rect_Nth.f at h
  by_cases hneg : a1 < 0
  · rw [if_pos hneg] at h
    cases h
    exact rect_Nth.neg k a0_0 a0_1 a0_2 a1 hneg w
  · rw [if_neg hneg] at h
    obtain ⟨t, A1, h⟩ := Option.bind_eq_some_iff.mp h
    by_cases hge : a1 ≥ t
    · rw [if_pos hge] at h
      cases h
      exact rect_Nth.past k a0_0 a0_1 a0_2 a1 t hneg hge A1 w
    · rw [if_neg hge] at h
      obtain ⟨⟨lo, hi, ok⟩, A2, h⟩ := Option.bind_eq_some_iff.mp h
      obtain ⟨ws, A4, h⟩ := Option.bind_eq_some_iff.mp h
      by_cases hok : rect_Nth.okW lo ws = true
      · rw [if_pos hok] at h
        unfold rect_Nth.okW at hok
        rw [Bool.and_eq_true, decide_eq_true_iff, List.all_eq_true] at hok
        exact rect_Nth.within k a0_0 a0_1 a0_2 a1 t lo hi ws ok r1 r2 r3 hneg hge A1 A2 A4 hok.1.1 hok.1.2.1 hok.1.2.2 (fun z hz => of_decide_eq_true (hok.2 z hz)) h w
      · rw [if_neg hok] at h
        cases h

end Go.Proofs.Ytfhlddlhoockaaa.PIsx
