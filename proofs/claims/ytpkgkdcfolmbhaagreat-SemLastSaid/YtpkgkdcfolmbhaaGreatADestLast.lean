/- dest.Last: by the last one of some: a range over slices.Backward, by hand. -/
import Derived.Test.YtpkgkdcfolmbhaaGreatADestF
import Derived.RangeFuncNested
import Derived.RangeFuncBound
import Derived.RangeFuncCalls
import Derived.RangeFuncLeaves
import Derived.Shelf.Abstract
import Derived.Shelf.RegionOpen
import Derived.OwnWalkIn
import Derived.TacticsInMore
import Derived.LoopNIn
import Derived.LoopIn
import Derived.WalkKit
import Derived.Maps.OwnIn
set_option linter.all false
set_option maxRecDepth 100000
namespace Go.Abs.DLast
open Go.RowKit Go.Proofs Go.Abs.Tab Go.Abs.Dest
attribute [local go_sem] Oper.semAt_some
structure Aside0 (p : Prop) : Prop where mk :: (out : p)
theorem blk_cell {w : World} {g : Nat} {t : TypeId} {cs : Array Value} (h : w.heap[g]? = some (.cells cs t (0, 0))) (i : Nat) : w.cell? ⟨g, i, none⟩ = cs[i]? := by simp [World.cell?, h]
theorem blk_frozen {w : World} {g : Nat} {t : TypeId} {cs : Array Value} (h : w.heap[g]? = some (.cells cs t (0, 0))) (i : Nat) : w.frozen? ⟨g, i, none⟩ = false := by simp [World.frozen?, h]
theorem blk_put {w : World} {g : Nat} {t : TypeId} {cs : Array Value} (h : w.heap[g]? = some (.cells cs t (0, 0))) (i : Nat) (v : Value) {ds : Array Value} (hd : cs.setIfInBounds i v = ds) : (w.setCell ⟨g, i, none⟩ v).heap[g]? = some (.cells ds t (0, 0)) := by
  subst hd
  simp [World.setCell, Array.getElem?_modify, h]
/-- What has come when k rounds are over. -/
def uptoK {α : Type} (f : Nat → α) (k : Nat) : List α := (List.range k).map f
theorem uptoK_succ {α : Type} (f : Nat → α) (k : Nat) : uptoK f (k + 1) = uptoK f k ++ [f k] := by simp [uptoK, List.range_succ]
theorem uptoK_length {α : Type} (f : Nat → α) (k : Nat) : (uptoK f k).length = k := by simp [uptoK]
theorem backwardS (A : Option Addr) (n c : Nat) (w : World) :
    Calls Tryz.prog 57 #[.slice A n c] w fun e w' => e = .returned (.func (.func 106) #[] #[.pointer (some ⟨w.heap.size, 0, none⟩)]) ∧ w' = w.alloc (.cells #[.slice A n c] 24) := by
  go_enter Tryz.func57, Tryz.ntmps57
  go_wp2
  go_ret
  exact ⟨rfl, rfl⟩
/-- The box of the row lies as it lay, and the row too. -/
def KpB (Bs len : Nat) (A : Option Addr) (W W' : World) : Prop := W'.heap[Bs]? = W.heap[Bs]? ∧ (0 < len → ∀ ad, A = some ad → W'.heap[ad.block]? = W.heap[ad.block]?)
theorem KpB.trans {Bs len : Nat} {A : Option Addr} {X Y Z : World} (h : KpB Bs len A X Y) (k : KpB Bs len A Y Z) : KpB Bs len A X Z := ⟨k.1.trans h.1, fun h0 ad e => (k.2 h0 ad e).trans (h.2 h0 ad e)⟩
/-- A row's elements, at a world. -/
def rowAt (A : Option Addr) (len : Nat) (zs : Nat → Bf × Option Addr × Nat) (W : World) : Prop := ∀ j, j < len → ∃ ad, A = some ad ∧ W.cell? (ad.add (j * 4)) = some (.int .i64 (zs j).1.n) ∧ W.cell? ⟨(ad.add (j * 4)).block, (ad.add (j * 4)).off + 1, none⟩ = some (.int .i64 (zs j).1.lo) ∧ W.cell? ⟨(ad.add (j * 4)).block, (ad.add (j * 4)).off + 2, none⟩ = some (.int .i64 (zs j).1.hi) ∧ W.cell? ⟨(ad.add (j * 4)).block, (ad.add (j * 4)).off + 3, none⟩ = some (.slice (zs j).2.1 (zs j).1.to.length (zs j).2.2)
theorem add_block (ad : Addr) (k : Nat) : (ad.add k).block = ad.block := by
  cases k <;> cases ad <;> rfl
theorem rowAt.kept {A : Option Addr} {len : Nat} {l : Nat → Bf × Option Addr × Nat} {W W' : World} (h : rowAt A len l W) (hk : 0 < len → ∀ ad, A = some ad → W'.heap[ad.block]? = W.heap[ad.block]?) : rowAt A len l W' := by
  intro j hj
  obtain ⟨ad, e, h0, h1, h2, h3⟩ := h j hj
  have hb : ∀ p : Addr, p.block = ad.block → W'.cell? p = W.cell? p := fun p hp => World.cell?_of_block (by rw [hp]; exact hk (by omega) ad e)
  exact ⟨ad, e, (hb _ (add_block ad (j * 4))).trans h0, (hb ⟨(ad.add (j * 4)).block, (ad.add (j * 4)).off + 1, none⟩ (add_block _ _)).trans h1, (hb ⟨(ad.add (j * 4)).block, (ad.add (j * 4)).off + 2, none⟩ (add_block _ _)).trans h2, (hb ⟨(ad.add (j * 4)).block, (ad.add (j * 4)).off + 3, none⟩ (add_block _ _)).trans h3⟩
theorem cell_some_lt {W : World} {p : Addr} {v : Value} (h : W.cell? p = some v) : p.block < W.heap.size := by
  rcases Nat.lt_or_ge p.block W.heap.size with h2 | h2
  · exact h2
  · have : W.heap[p.block]? = none := Array.getElem?_eq_none h2
    unfold World.cell? at h
    rw [this] at h
    simp at h
theorem rowAt.lt {A : Option Addr} {len : Nat} {l : Nat → Bf × Option Addr × Nat} {W : World} (h : rowAt A len l W) (h0 : 0 < len) : ∀ ad, A = some ad → ad.block < W.heap.size := by
  intro ad e
  obtain ⟨ad', e', hc, _⟩ := h 0 h0
  rw [e] at e'
  cases e'
  have := cell_some_lt hc
  rwa [add_block] at this
def marks (Dl : List Nat) : List Deferred := Dl.map fun D => { target := .collected D, args := #[] }
/-- A function leaves over marks of loops without deferred calls. -/
theorem leaves_marks {F : Fence} {n : Nat} {P : Program} {fn : Func} {tmps : Array Value} {R : Ending → World → Prop} (Q : World → Prop) : ∀ (Dl : List Nat) (W : World), Dl.Nodup → (∀ D ∈ Dl, W.heap[D]? = some (.deferred (some []))) →
    (∀ D ∈ Dl, ∀ W, Q W → W.heap[D]? = some (.deferred (some [])) → Q (W.putObj D (.deferred none))) → Q W → (∀ W, Q W → LeavesIn F n P fn tmps R [] .returning W) → LeavesInM F n P fn tmps R (marks Dl) .returning W
  | [], W, _, _, _, h, hend => hend W h
  | D :: Dl, W, hn, hh, hs, h, hend => by
    have hD := hh D List.mem_cons_self
    refine ⟨by simp, .inl ⟨D, W.putObj D (.deferred none), rfl, run_takeDeferred hD, ?_⟩⟩
    refine leaves_marks Q Dl _ (List.nodup_cons.mp hn).2 (fun E hE => ?_) (fun E hE => hs E (List.mem_cons_of_mem _ hE)) (hs D List.mem_cons_self W h hD) hend
    have hne : E ≠ D := fun e => (List.nodup_cons.mp hn).1 (e ▸ hE)
    exact (World.putObj_heap_other hne).trans (hh E (List.mem_cons_of_mem _ hE))
theorem own_blk {W W' : World} {row : Option Nat} {g t : Nat} {cs : Array Value} {fr : Nat × Nat} (h : W.heap[g]? = some (.cells cs t fr)) (hg : W.grownBy W' row)
    (hr : ∀ r, row = some r → ∃ o : Obj, W.heap[r]? = some o ∧ o.isCells = false) : W'.heap[g]? = some (.cells cs t fr) := (grownBy_keeps_cells hg hr h rfl).trans h
set_option maxRecDepth 100000 in
set_option maxHeartbeats 4000000 in
theorem backB1 (F : Fence) (n : Nat) (hf : F.fn 106) (hro : F.round = none) (hn : 1 ≤ n) (l Bs len cap : Nat) (A : Option Addr) (zs : Nat → Bf × Option Addr × Nat) (hreach : len ≤ 1000000000) (J Jx : List (_root_.Fin len) → World → Prop)
    (hY : ∀ pre x W, J pre W → pre.length < len → YieldAt F (n - 1) Tryz.prog l #[.int .i64 ((x : _root_.Fin len).1 : Int), .agg #[.int .i64 (zs x.1).1.n, .int .i64 (zs x.1).1.lo, .int .i64 (zs x.1).1.hi, .slice (zs x.1).2.1 (zs x.1).1.to.length (zs x.1).2.2]] W fun e W' =>
      (e = .returned (.bool true) ∧ J (pre ++ [x]) W' ∧ KpB Bs len A W W') ∨ (e = .returned (.bool false) ∧ Jx (pre ++ [x]) W'))
    (W : World) (hBs : W.cell? ⟨Bs, 0, none⟩ = some (.slice A len cap)) (hc : rowAt A len zs W) (h0 : J [] W) :
    CallsIn F n Tryz.prog 106 #[.func (.yield l) #[] #[], .pointer (some ⟨Bs, 0, none⟩)] W fun e W' => (∃ v, e = .returned v) ∧
      ((∃ ys, (ys.map _root_.Fin.val = uptoK (fun j => len - 1 - j) len) ∧ J ys W') ∨ (∃ pre, (∃ k, k ≤ len ∧ pre.map _root_.Fin.val = uptoK (fun j => len - 1 - j) k) ∧ Jx pre W')) := by
  have hu := Tryz.underlying73
  refine callsIn_of_wp Tryz.func106 rfl hf ?_ hro
  simp only [Tryz.ntmps106, List.size_toArray, List.length_cons, List.length_nil, Nat.reduceAdd, Nat.reduceSub, Array.replicate_succ, Array.replicate_zero, List.push_toArray, List.append_toArray, List.nil_append, List.cons_append]
  gi_wp2
  gi_loopw [3] (fun i wr => ∃ k : Nat, ∃ x : Int, ∃ ys : List (_root_.Fin len), k ≤ len ∧ x = (len : Int) - 1 - k ∧ i = .int .i64 x ∧ ys.map _root_.Fin.val = uptoK (fun j => len - 1 - j) k ∧ J ys wr ∧ KpB Bs len A W wr)
    (fun i _ => (intOf i + 1).toNat)
  case atStart => exact ⟨0, (len : Int) - 1, [], Nat.zero_le _, by omega, rfl, rfl, h0, rfl, fun _ _ _ => rfl⟩
  case round =>
    obtain ⟨k, x, ys, hk, hx, rfl, hys, hJs, hnx⟩ := hrel
    have hBs' : wr.cell? ⟨Bs, 0, none⟩ = some (.slice A len cap) := (World.cell?_of_block (a := ⟨Bs, 0, none⟩) hnx.1).trans hBs
    by_cases hlt : k < len
    · obtain ⟨i, rfl⟩ := Int.eq_ofNat_of_zero_le (show 0 ≤ x by omega)
      obtain rfl : k = len - 1 - i := by omega
      have hi : len - 1 - (len - 1 - i) = i := by omega
      have hil : i < len := by omega
      clear hx
      have hyl : ys.length = len - 1 - i := by
        have := congrArg List.length hys
        rw [List.length_map, uptoK_length] at this
        exact this
      obtain ⟨fn, tmps, assign, body, hy, hR⟩ := hY ys (⟨i, hil⟩ : _root_.Fin len) wr hJs (by rw [hyl]; exact hlt)
      dsimp only at hy
      obtain ⟨ad, ead, hx0, hx1, hx2, hx3⟩ := (hc.kept hnx.2) i hil
      subst ead
      have hys2 : (ys ++ [(⟨i, hil⟩ : _root_.Fin len)]).map _root_.Fin.val = uptoK (fun j => len - 1 - j) (len - 1 - i + 1) := by
        rw [uptoK_succ, List.map_append, hys]
        simp only [hi, List.map_cons, List.map_nil]
      have HYS := Aside0.mk hys2
      have hd0 : decide ((i : Int) ≥ 0) = true := decide_eq_true (by omega)
      have hp0 : (0 ≤ (i : Int)) = True := eq_true (by omega)
      have hp1 : ((i : Int) < (len : Int)) = True := eq_true (by omega)
      clear hys2 hys hyl
      gi_wp2
      refine hR.mono ?_
      rintro e W3 (⟨rfl, hJ3, hk3⟩ | ⟨rfl, hJx3⟩)
      · gi_wp2
        go_roundw
        case rel => exact ⟨len - 1 - i + 1, (i : Int) - 1, _, by omega, by omega, rfl, HYS.out, hJ3, hnx.trans hk3⟩
        case measure => simp [intOf]
      · gi_wp2
        refine bodyPost_ret (results_none rfl _ _ _) rfl ?_
        exact ⟨⟨_, rfl⟩, .inr ⟨_, ⟨_, by omega, HYS.out⟩, hJx3⟩⟩
    · obtain rfl : k = len := by omega
      obtain rfl : x = -1 := by omega
      gi_wp2
      go_end0
      exact ⟨⟨_, rfl⟩, .inl ⟨_, hys, hJs⟩⟩
theorem backB_stops (F : Fence) (n : Nat) (hf : F.fn 106) (hro : F.round = none) (hn : 1 ≤ n) (Bs len cap : Nat) (A : Option Addr) (zs : Nat → Bf × Option Addr × Nat) (hreach : len ≤ 1000000000) (w : World) (hB : Bs < w.heap.size)
    (hBs : w.cell? ⟨Bs, 0, none⟩ = some (.slice A len cap)) (hc : rowAt A len zs w) :
    SeqStopsK F n Tryz.prog 106 #[.pointer (some ⟨Bs, 0, none⟩)] (fun x : _root_.Fin len => #[Value.int .i64 (x.1 : Int), .agg #[.int .i64 (zs x.1).1.n, .int .i64 (zs x.1).1.lo, .int .i64 (zs x.1).1.hi, .slice (zs x.1).2.1 (zs x.1).1.to.length (zs x.1).2.2]]) (KpB Bs len A)
      (fun ys => ys.map _root_.Fin.val = uptoK (fun j => len - 1 - j) len) (fun pre => ∃ k, k ≤ len ∧ pre.map _root_.Fin.val = uptoK (fun j => len - 1 - j) k) len w := fun l J Jx W hW _ _ hY h0 =>
  backB1 F n hf hro hn l Bs len cap A zs hreach J Jx hY W ((World.cell?_of_block (a := ⟨Bs, 0, none⟩) (hW.block _ hB)).trans hBs) (hc.kept (fun h0 ad e => hW.block _ (hc.lt h0 ad e))) h0
/-- By the last one of the first i. -/
def lastTo (l : Nat → Bf × Option Addr × Nat) (n v : Int) : Nat → Option (List Int)
  | 0 => none
  | i + 1 => (EB.to (l i).1 n v).or (lastTo l n v i)
theorem lastTo_skip (l : Nat → Bf × Option Addr × Nat) (n v : Int) (len : Nat) : ∀ k, k ≤ len → (∀ j, j < k → EB.to (l (len - 1 - j)).1 n v = none) → lastTo l n v len = lastTo l n v (len - k)
  | 0, _, _ => rfl
  | k + 1, hk, h => by
    rw [lastTo_skip l n v len k (by omega) (fun j hj => h j (by omega))]
    rw [show len - k = (len - (k + 1)) + 1 by omega]
    have h2 := h k (Nat.lt_succ_self k)
    rw [show len - 1 - k = len - (k + 1) by omega] at h2
    show (EB.to (l (len - (k + 1))).1 n v).or _ = _
    rw [h2]
    rfl
theorem mem_uptoK {α : Type} {f : Nat → α} {k j : Nat} (h : j < k) : f j ∈ uptoK f k := List.mem_map.mpr ⟨j, List.mem_range.mpr h, rfl⟩
theorem lastTo_none (l : Nat → Bf × Option Addr × Nat) (n v : Int) {len : Nat} {ys : List (_root_.Fin len)} (hy : ys.map _root_.Fin.val = uptoK (fun j => len - 1 - j) len) (h : ∀ x ∈ ys, EB.to (l x.1).1 n v = none) : lastTo l n v len = none := by
  rw [lastTo_skip l n v len len (Nat.le_refl _) (fun j hj => ?_), Nat.sub_self]
  · rfl
  · have hm : (fun j => len - 1 - j) j ∈ ys.map _root_.Fin.val := by rw [hy]; exact mem_uptoK hj
    obtain ⟨x, hx, e⟩ := List.mem_map.mp hm
    have := h x hx
    rw [e] at this
    exact this
theorem lastTo_some (l : Nat → Bf × Option Addr × Nat) (n v : Int) {len k : Nat} {p : List (_root_.Fin len)} {x : _root_.Fin len} {r : List Int} (hk : k ≤ len) (hy : (p ++ [x]).map _root_.Fin.val = uptoK (fun j => len - 1 - j) k) (h : ∀ x ∈ p, EB.to (l x.1).1 n v = none) (hx : EB.to (l x.1).1 n v = some r) :
    lastTo l n v len = some r := by
  have hl := congrArg List.length hy
  rw [List.length_map, List.length_append, List.length_singleton, uptoK_length] at hl
  subst hl
  rw [uptoK_succ, List.map_append] at hy
  obtain ⟨h1, h2⟩ := List.append_inj' hy rfl
  have h3 : x.1 = len - 1 - p.length := List.head_eq_of_cons_eq h2
  rw [lastTo_skip l n v len p.length (by omega) (fun j hj => ?_)]
  · rw [show len - p.length = (len - 1 - p.length) + 1 by omega, ← h3]
    show (EB.to (l x.1).1 n v).or _ = _
    rw [hx]
    rfl
  · have hm : (fun j => len - 1 - j) j ∈ p.map _root_.Fin.val := by rw [h1]; exact mem_uptoK hj
    obtain ⟨y, hy, e⟩ := List.mem_map.mp hm
    have := h y hy
    rw [e] at this
    exact this
theorem lastTo_last (l : List Bf) (sA : Nat → Option Addr) (sC : Nat → Nat) (n v : Int) : ∀ k, k ≤ l.length → lastTo (fun j => (l.getD j default, sA j, sC j)) n v k = EB.last (l.take k) n v
  | 0, _ => rfl
  | k + 1, hk => by
    have hk2 : k < l.length := by omega
    rw [List.take_succ_eq_append_getElem hk2, EB.last_snoc, ← lastTo_last l sA sC n v k (by omega), ← getB hk2]
    rfl
/-- What is read lies in cells. -/
theorem RV0.cellsOnly {w : World} {S : Nat → Prop} {a : AV} {v : Value} (h : RV0 w S a v) : RV0 w (fun b => S b ∧ b < w.heap.size ∧ ∃ o, w.heap[b]? = some o ∧ o.isCells = true) a v := by
  have key : ∀ {p : Addr} {u : Value}, w.cell? p = some u → p.block < w.heap.size ∧ ∃ o, w.heap[p.block]? = some o ∧ o.isCells = true := by
    intro p u hc
    unfold World.cell? at hc
    split at hc
    · rename_i ho
      exact ⟨(Array.getElem?_eq_some_iff.1 ho).1, _, ho, rfl⟩
    · cases hc
  induction h with
  | any v => exact .any v
  | gone => exact .gone
  | int k n => exact .int k n
  | lit b => exact .lit b
  | sb b => exact .sb b
  | str s => exact .str s
  | agg cs vs hl _ ih => exact .agg cs vs hl ih
  | tup cs vs hl _ ih => exact .tup cs vs hl ih
  | nil => exact .nil
  | sl sz n el A cap g hcap hmax hl hm _ ih =>
    refine .sl sz n el A cap g hcap hmax hl (fun i j hi hj => ?_) ih
    obtain ⟨ad, h1, h2, h3⟩ := hm i j hi hj
    refine ⟨ad, h1, ⟨h2, ?_⟩, h3⟩
    have := key h3
    rwa [add_block] at this
  | rptr cs ad g ho hm _ ih =>
    refine .rptr cs ad g ho (fun j hj => ?_) ih
    obtain ⟨h2, h3⟩ := hm j hj
    refine ⟨⟨h2, ?_⟩, h3⟩
    have := key h3
    rwa [add_block] at this
  | fn f cs vs hl _ ih => exact .fn f cs vs hl ih
  | iface t a v _ ih => exact .iface t a v ih
  | nilI => exact .nilI
  | nilF => exact .nilF
  | nilM => exact .nilM
  | nilP => exact .nilP
theorem RV0.slice {w : World} {S : Nat → Prop} {l : List Int} {v : Value} (h : RV0 w S (aI l) v) : ∃ A c, v = .slice A l.length c := by
  cases h with
  | sl sz n el A cap g hcap hmax hl hm hr => exact ⟨A, cap, rfl⟩
theorem RV0.int_inv {w : World} {S : Nat → Prop} {k : IntKind} {n : Int} {v : Value} (h : RV0 w S (.int k n) v) : v = .int k n := by cases h; rfl
/-- What one gives, whatever the world. -/
theorem to_at (b : Bf) (n v : Int) (A : Option Addr) (c : Nat) (W : World) (S : Nat → Prop) (hlt : ∀ k, S k → k < W.heap.size) (h : RV0 W S (aI b.to) (.slice A b.to.length c)) :
    Calls Tryz.prog 56 #[.agg #[.int .i64 b.n, .int .i64 b.lo, .int .i64 b.hi, .slice A b.to.length c], .agg #[.int .i64 n, .int .i64 v]] W fun e w' => ∃ A2 c2 S', e = .returned (.tuple #[.slice A2 ((EB.to b n v).getD []).length c2, .bool (EB.to b n v).isSome]) ∧ RV0 w' S' (aI ((EB.to b n v).getD [])) (.slice A2 ((EB.to b n v).getD []).length c2) ∧ (∀ k, S' k → (S k ∨ W.heap.size ≤ k) ∧ k < w'.heap.size ∧ ∃ o, w'.heap[k]? = some o ∧ o.isCells = true) ∧ Below W.heap.size W w' := by
  have hv : RVs0 W S [.agg (cBf b), aCode n v] [.agg #[.int .i64 b.n, .int .i64 b.lo, .int .i64 b.hi, .slice A b.to.length c], .agg #[.int .i64 n, .int .i64 v]] := by
    refine ⟨rfl, fun i a u h1 h2 => ?_⟩
    match i, h1, h2 with
    | 0, h1, h2 =>
      obtain rfl := Option.some.inj h1
      obtain rfl := Option.some.inj h2
      refine RV0.agg (cBf b) [.int .i64 b.n, .int .i64 b.lo, .int .i64 b.hi, .slice A b.to.length c] rfl fun i a u h1 h2 => ?_
      match i, h1, h2 with
      | 0, h1, h2 => obtain rfl := Option.some.inj h1; obtain rfl := Option.some.inj h2; exact .int _ _
      | 1, h1, h2 => obtain rfl := Option.some.inj h1; obtain rfl := Option.some.inj h2; exact .int _ _
      | 2, h1, h2 => obtain rfl := Option.some.inj h1; obtain rfl := Option.some.inj h2; exact .int _ _
      | 3, h1, h2 => obtain rfl := Option.some.inj h1; obtain rfl := Option.some.inj h2; exact h
    | 1, h1, h2 =>
      obtain rfl := Option.some.inj h1
      obtain rfl := Option.some.inj h2
      refine RV0.agg [.int .i64 n, .int .i64 v] [.int .i64 n, .int .i64 v] rfl fun i a u h1 h2 => ?_
      match i, h1, h2 with
      | 0, h1, h2 => obtain rfl := Option.some.inj h1; obtain rfl := Option.some.inj h2; exact .int _ _
      | 1, h1, h2 => obtain rfl := Option.some.inj h1; obtain rfl := Option.some.inj h2; exact .int _ _
  refine ((toB (b, n, v) trivial).2 W S _ hlt hv).mono fun e w' hpost => ?_
  obtain ⟨r, S', rfl, hres, _, hS, hb⟩ := hpost
  have hres : RV0 w' S' (.tup [aI ((EB.to b n v).getD []), .sb (EB.to b n v).isSome]) r := hres
  cases hres with
  | tup cs vs hl hvs =>
    match vs, hl, hvs with
    | [u1, u2], _, hvs =>
      have g1 := hvs 0 _ _ rfl rfl
      have g2 := hvs 1 _ _ rfl rfl
      obtain ⟨A2, c2, rfl⟩ := RV0.slice g1
      cases g2
      exact ⟨A2, c2, _, rfl, RV0.cellsOnly g1, fun k hk => ⟨(hS k hk.1).2, hk.2⟩, hb⟩
theorem results_cells2 {fn : Func} {p u : Tmp} {ty1 ty2 : TypeId} (h : fn.results = #[.cell p ty1, .cell u ty2]) (tmps : Array Value) (P : Program) (w : World) :
    (results fn tmps).run P w =
      ((asAddr (tmps.getD p undef)).run P w).andThen fun a w₁ => ((loadVar ty1 a).run P w₁).andThen fun v w₂ => ((asAddr (tmps.getD u undef)).run P w₂).andThen fun a2 w₃ => ((loadVar ty2 a2).run P w₃).andThen fun v2 w₄ => .ok (.tuple #[v, v2]) w₄ := by
  simp only [results, h]
  simp [Sem.run_bind, Result.andThen]
theorem below_grown0 {W W' : World} (hb : Below W.heap.size W W') : W.grownBy W' none := ⟨hb.os, hb.tape, hb.output, hb.size, fun k hk _ => hb.block k hk⟩
/-- The blocks of its own. -/
def LaB (w : World) (n v : Int) (A : Option Addr) (m c : Nat) (r2 : Bool) (W : World) : Prop :=
  W.heap[w.heap.size]? = some (.cells #[.int .i64 n, .int .i64 v] 56 (0, 0)) ∧ W.heap[w.heap.size + 1]? = some (.cells #[.slice A m c] 59 (0, 0)) ∧ W.heap[w.heap.size + 1 + 1]? = some (.cells #[.bool r2] 4 (0, 0)) ∧ Below w.heap.size w W
theorem LaB.grown {w X Y : World} {n v : Int} {A : Option Addr} {m c : Nat} {r2 : Bool} {row : Option Nat} {B : Nat} (hB : w.heap.size ≤ B) (h : LaB w n v A m c r2 X) (hg : X.grownBy Y row) (hr : ∀ r, row = some r → B ≤ r ∧ ∃ o : Obj, X.heap[r]? = some o ∧ o.isCells = false) : LaB w n v A m c r2 Y :=
  have hr2 : ∀ r, row = some r → ∃ o : Obj, X.heap[r]? = some o ∧ o.isCells = false := fun r e => (hr r e).2
  ⟨own_blk h.1 hg hr2, own_blk h.2.1 hg hr2, own_blk h.2.2.1 hg hr2, h.2.2.2.grown hg h.2.2.2.size (fun k e => Nat.le_trans hB (hr k e).1)⟩
theorem LaB.below {w X Y : World} {n v : Int} {A : Option Addr} {m c : Nat} {r2 : Bool} (h : LaB w n v A m c r2 X) (hb : Below X.heap.size X Y) : LaB w n v A m c r2 Y :=
  h.grown (Nat.le_refl _) (below_grown0 hb) (fun r e => by cases e)
def LaI (w : World) (B : Nat) (len : Nat) (zs : Nat → Bf × Option Addr × Nat) (n v : Int) (pre : List (_root_.Fin len)) (W : World) : Prop := (∀ x ∈ pre, EB.to (zs x.1).1 n v = none) ∧ B ≤ W.heap.size ∧ LaB w n v none 0 0 false W
/-- What is found, in cells that are written no more. -/
def Got (w : World) (S : Nat → Prop) (r : List Int) (A : Option Addr) (c : Nat) (W : World) : Prop := ∃ S1 : Nat → Prop, RV0 W S1 (aI r) (.slice A r.length c) ∧ ∀ k, S1 k → (S k ∨ w.heap.size ≤ k) ∧ k < W.heap.size ∧ ∃ o, W.heap[k]? = some o ∧ o.isCells = true
theorem Got.grown {w X Y : World} {S : Nat → Prop} {r : List Int} {A : Option Addr} {c : Nat} {row : Option Nat} (h : Got w S r A c X) (hg : X.grownBy Y row) (hr : ∀ r, row = some r → ∃ o : Obj, X.heap[r]? = some o ∧ o.isCells = false) : Got w S r A c Y := by
  obtain ⟨S1, h1, h2⟩ := h
  have hk : ∀ k, S1 k → Y.heap[k]? = X.heap[k]? := fun k hk => by
    obtain ⟨_, q1, o, q2, q3⟩ := h2 k hk
    refine hg.block k q1 (fun e => ?_)
    obtain ⟨o', q4, q5⟩ := hr k e.symm
    rw [q2] at q4
    cases q4
    rw [q3] at q5
    cases q5
  exact ⟨S1, h1.mono (fun _ q => q) hk, fun k q => ⟨(h2 k q).1, Nat.lt_of_lt_of_le (h2 k q).2.1 hg.size, by rw [hk k q]; exact (h2 k q).2.2⟩⟩
def LaX (w : World) (S : Nat → Prop) (len : Nat) (zs : Nat → Bf × Option Addr × Nat) (n v : Int) (c : Code) (pre : List (_root_.Fin len)) (W : World) : Prop :=
  c = .ret ∧ ∃ p x r A cp, pre = p ++ [x] ∧ (∀ y ∈ p, EB.to (zs y.1).1 n v = none) ∧ EB.to (zs x.1).1 n v = some r ∧ LaB w n v A r.length cp true W ∧ Got w S r A cp W
theorem to_none {b : Bf} {n v : Int} (hto : EB.to b n v = none) (A : Option Addr) (c : Nat) (W : World) (S : Nat → Prop) (hlt : ∀ k, S k → k < W.heap.size) (h : RV0 W S (aI b.to) (.slice A b.to.length c)) :
    Calls Tryz.prog 56 #[.agg #[.int .i64 b.n, .int .i64 b.lo, .int .i64 b.hi, .slice A b.to.length c], .agg #[.int .i64 n, .int .i64 v]] W fun e w' => ∃ A2 c2, e = .returned (.tuple #[.slice A2 0 c2, .bool false]) ∧ Below W.heap.size W w' :=
  (to_at b n v A c W S hlt h).mono fun e w' ⟨A2, c2, S', h1, h2, h3, h4⟩ => ⟨A2, c2, by rw [hto] at h1; exact h1, h4⟩
theorem to_some {b : Bf} {n v : Int} {r : List Int} (hto : EB.to b n v = some r) (A : Option Addr) (c : Nat) (W : World) (S : Nat → Prop) (hlt : ∀ k, S k → k < W.heap.size) (h : RV0 W S (aI b.to) (.slice A b.to.length c)) :
    Calls Tryz.prog 56 #[.agg #[.int .i64 b.n, .int .i64 b.lo, .int .i64 b.hi, .slice A b.to.length c], .agg #[.int .i64 n, .int .i64 v]] W fun e w' => ∃ A2 c2 S', e = .returned (.tuple #[.slice A2 r.length c2, .bool true]) ∧ RV0 w' S' (aI r) (.slice A2 r.length c2) ∧ (∀ k, S' k → (S k ∨ W.heap.size ≤ k) ∧ k < w'.heap.size ∧ ∃ o, w'.heap[k]? = some o ∧ o.isCells = true) ∧ Below W.heap.size W w' :=
  (to_at b n v A c W S hlt h).mono fun e w' ⟨A2, c2, S', h1, h2, h3, h4⟩ => by
    rw [hto] at h1 h2
    exact ⟨A2, c2, S', h1, h2, h3, h4⟩
set_option maxHeartbeats 8000000 in
theorem lastW (zs : Nat → Bf × Option Addr × Nat) (len : Nat) (hl : len < 1000000000) (n v : Int) (w : World) (S : Nat → Prop) (hlt : ∀ k, S k → k < w.heap.size) (A0 : Option Addr) (c0 : Nat) (hrow : rowAt A0 len zs w) (hS : ∀ j, j < len → RV0 w S (aI (zs j).1.to) (.slice (zs j).2.1 (zs j).1.to.length (zs j).2.2)) :
    Calls Tryz.prog 29 #[.slice A0 len c0, .agg #[.int .i64 n, .int .i64 v]] w fun e w' => ∃ u S', e = .returned u ∧ RV0 w' S' (.tup [aI ((lastTo zs n v len).getD []), .sb (lastTo zs n v len).isSome]) u ∧ (∀ k, S k → S' k) ∧ (∀ k, S' k → k < w'.heap.size ∧ (S k ∨ w.heap.size ≤ k)) ∧ Below w.heap.size w w' := by
  have HR0 := Aside0.mk hrow
  have HSS := Aside0.mk hS
  have HLT := Aside0.mk hlt
  have HL := Aside0.mk hl
  have HB := Aside0.mk (Below.refl w.heap.size w)
  have hu := Tryz.underlying73
  have hu2 := Tryz.underlying56
  clear hl hrow hS hlt
  refine callsIn_wide.1 (callsIn_of_wp_marks (F := Fence.wide) (n := 9) Tryz.func29 rfl trivial (wpIn_wide.2 ?_))
  simp only [Tryz.ntmps29, List.size_toArray, List.length_cons, List.length_nil, Nat.reduceAdd, Nat.reduceSub, Array.replicate_succ, Array.replicate_zero, List.push_toArray, List.append_toArray, List.nil_append, List.cons_append]
  go_wp2_with (go_at_call 57; refine (backwardS _ _ _ _).mono ?_; rintro e W2 ⟨rfl, rfl⟩)
  obtain ⟨W5, hW5⟩ : ∃ W5, W5 = (((w.alloc (.cells #[.int .i64 n, .int .i64 v] 56)).alloc (.cells #[.slice none 0 0] 59)).alloc (.cells #[.bool false] 4)).alloc (.cells #[.slice A0 len c0] 24) := ⟨_, rfl⟩
  rw [← hW5]
  have hsz5 : W5.heap.size = w.heap.size + 4 := by rw [hW5]; simp
  have hbel5 : Below w.heap.size w W5 := by rw [hW5]; exact (((((Below.refl _ w).alloc (Nat.le_refl _) _).alloc (by simp) _).alloc (by simp; omega) _).alloc (by simp; omega) _)
  have hb0 : W5.heap[w.heap.size]? = some (.cells #[.int .i64 n, .int .i64 v] 56 (0, 0)) := by
    rw [hW5]
    refine (Below.heap_alloc _ _ _ (by simp only [World.size_alloc]; omega)).trans ((Below.heap_alloc _ _ _ (by simp only [World.size_alloc]; omega)).trans ((Below.heap_alloc _ _ _ (by simp)).trans ?_))
    exact heap_alloc_new w _
  have hb1 : W5.heap[w.heap.size + 1]? = some (.cells #[.slice none 0 0] 59 (0, 0)) := by
    rw [hW5]
    refine (Below.heap_alloc _ _ _ (by simp)).trans ((Below.heap_alloc _ _ _ (by simp)).trans ?_)
    simpa using heap_alloc_new (w.alloc (.cells #[.int .i64 n, .int .i64 v] 56)) (.cells #[.slice none 0 0] 59)
  have hb2 : W5.heap[w.heap.size + 1 + 1]? = some (.cells #[.bool false] 4 (0, 0)) := by
    rw [hW5]
    refine (Below.heap_alloc _ _ _ (by simp)).trans ?_
    simpa using heap_alloc_new ((w.alloc (.cells #[.int .i64 n, .int .i64 v] 56)).alloc (.cells #[.slice none 0 0] 59)) (.cells #[.bool false] 4)
  have hb4 : W5.heap[w.heap.size + 1 + 1 + 1]? = some (.cells #[.slice A0 len c0] 24 (0, 0)) := by
    rw [hW5]
    simpa using heap_alloc_new (((w.alloc (.cells #[.int .i64 n, .int .i64 v] 56)).alloc (.cells #[.slice none 0 0] 59)).alloc (.cells #[.bool false] 4)) (.cells #[.slice A0 len c0] 24)
  have hr5 : rowAt A0 len zs W5 := HR0.out.kept (fun h0 ad e => hbel5.block _ (HR0.out.lt h0 ad e))
  clear hW5
  refine (wpIn_wide (n := 9)).1 (wpIn_rangeFunc_ownH (F := Fence.wide) (n := 9) rfl (by decide) (gf := 106) (lb := #[.pointer (some ⟨w.heap.size + 1 + 1 + 1, 0, none⟩)]) rfl trivial (enters_of Tryz.func106 (by kernel_rfl) rfl)
    (backB_stops Fence.wide (9 - 1) trivial rfl (by decide) (w.heap.size + 1 + 1 + 1) len c0 A0 zs (by have := HL.out; omega) W5 (by omega) ((blk_cell hb4 0).trans rfl) hr5) (fun h k => KpB.trans h k)
    (fun W l o o' hl h _ _ => ⟨World.putObj_heap_other (by omega), fun h0 ad e => World.putObj_heap_other (by have := hr5.lt h0 ad e; omega)⟩) (Below.refl _ _) (fun _ => rfl)
    (LaI w W5.heap.size len zs n v) (LaX w S len zs n v) (fun s X Y row hs hg hr => ⟨hs.1, Nat.le_trans hs.2.1 hg.size, hs.2.2.grown (by omega) hg hr⟩)
    (fun c s X Y row hs hg hr => by obtain ⟨e, p, x, r, A, cp, e1, e2, e3, e4, e5⟩ := hs; exact ⟨e, p, x, r, A, cp, e1, e2, e3, LaB.grown (B := W5.heap.size) (by omega) e4 hg hr, e5.grown hg (fun r e => (hr r e).2)⟩) ⟨fun x h => (List.not_mem_nil h).elim, Nat.le_refl _, hb0, hb1, hb2, hbel5⟩
    (fun y a' W => ∃ Bx, W5.heap.size ≤ Bx ∧ W.heap[Bx]? = some (.cells #[.int .i64 (zs y.1).1.n, .int .i64 (zs y.1).1.lo, .int .i64 (zs y.1).1.hi, .slice (zs y.1).2.1 (zs y.1).1.to.length (zs y.1).2.2] 73 (0, 0)) ∧ a' = { tmps := #[.slice A0 len c0, .agg #[.int .i64 n, .int .i64 v], undef, .pointer (some ⟨w.heap.size, 0, none⟩), .pointer (some ⟨w.heap.size + 1, 0, none⟩), .pointer (some ⟨w.heap.size + 1 + 1, 0, none⟩), undef, .pointer (some ⟨Bx, 0, none⟩), undef, undef, .slice A0 len c0, .func (.func 106) #[] #[.pointer (some ⟨w.heap.size + 1 + 1 + 1, 0, none⟩)], .int .i64 (y.1 : Int), .agg #[.int .i64 (zs y.1).1.n, .int .i64 (zs y.1).1.lo, .int .i64 (zs y.1).1.hi, .slice (zs y.1).2.1 (zs y.1).1.to.length (zs y.1).2.2], undef, undef, undef, undef, undef, undef, undef, undef], defers := [] })
    (fun y a' _ X Y row hs hg hr => by
      obtain ⟨Bx, h1, h2, h3⟩ := hs
      exact ⟨Bx, h1, own_blk h2 hg (fun r e => (hr r e).2), h3⟩) ?assign ?body ?done ?stop)
  case assign =>
    intro l pre y W K2 hI hK2
    have hsW : W5.heap.size ≤ W.heap.size := hI.2.1
    gi_wp2
    exact hK2 _ _ ((KeepsOthers.alloc _ _).from _) ⟨Below.heap_alloc _ _ _ (by omega), fun h0 ad e => Below.heap_alloc _ _ _ (by have := hr5.lt h0 ad e; omega)⟩ ⟨hI.1, by simp only [World.size_alloc]; omega, hI.2.2.below (Below.alloc (Below.refl _ _) (Nat.le_refl _) _)⟩ ⟨W.heap.size, hsW, heap_alloc_new W _, rfl⟩
  case body =>
    rintro l pre y a' W hl ⟨r, hr⟩ hI ⟨Bx, hBx, bX, rfl⟩ hlt
    have HI2 := Aside0.mk hI.1
    have HLB := Aside0.mk hI.2.2
    have hsW := hI.2.1
    have HSW := Aside0.mk hsW
    have hy0 : W.cell? ⟨Bx, 0, none⟩ = some (.int .i64 (zs y.1).1.n) := (blk_cell bX 0).trans rfl
    have hy1 : W.cell? ⟨Bx, 1, none⟩ = some (.int .i64 (zs y.1).1.lo) := (blk_cell bX 1).trans rfl
    have hy2 : W.cell? ⟨Bx, 2, none⟩ = some (.int .i64 (zs y.1).1.hi) := (blk_cell bX 2).trans rfl
    have hy3 : W.cell? ⟨Bx, 3, none⟩ = some (.slice (zs y.1).2.1 (zs y.1).1.to.length (zs y.1).2.2) := (blk_cell bX 3).trans rfl
    have hc0 : W.cell? ⟨w.heap.size, 0, none⟩ = some (.int .i64 n) := (blk_cell hI.2.2.1 0).trans rfl
    have hc1 : W.cell? ⟨w.heap.size, 1, none⟩ = some (.int .i64 v) := (blk_cell hI.2.2.1 1).trans rfl
    have hW2 : w.heap.size + 4 ≤ Bx := by omega
    have hSW : ∀ k, S k → k < W.heap.size := fun k hk => by have := HLT.out k hk; omega
    have hrv : RV0 W S (aI (zs y.1).1.to) (.slice (zs y.1).2.1 (zs y.1).1.to.length (zs y.1).2.2) := (HSS.out y.1 y.2).mono (fun _ q => q) (fun k hk => HLB.out.2.2.2.block k (HLT.out k hk))
    have HSWL := Aside0.mk hSW
    have HRV := Aside0.mk hrv
    have HWB := Aside0.mk (Array.getElem?_eq_some_iff.1 bX).1
    clear hI bX hr hl hlt hSW hrv
    have HSZ := Aside0.mk hsz5
    have HBLK := Aside0.mk (show w.heap.size + 4 ≤ W.heap.size by omega)
    clear hsW hsz5
    cases hto : EB.to (zs y.1).1 n v with
    | none =>
      have HTO := Aside0.mk hto
      gi_wp2_with ((refine ⟨trivial, ?_⟩; refine (CallsIn.inRound l (callsIn_wide.2 (to_none HTO.out _ _ _ S HSWL.out HRV.out))).mono ?_; rintro e w7 ⟨A2, c2, rfl, hb⟩))
      have hs7 := HBLK.out
      refine ⟨(KeepsOthers.of_grownBy (below_grown0 hb) (fun j o e ho => by cases e)).from _, ⟨hb.block _ (by omega), fun h0 ad e => hb.block _ (by have := hr5.lt h0 ad e; have := HSZ.out; omega)⟩, fun z hz => ?_, Nat.le_trans HSW.out hb.size, HLB.out.below hb⟩
      rcases List.mem_append.mp hz with hz | hz
      · exact HI2.out z hz
      · obtain rfl := List.mem_singleton.mp hz
        exact HTO.out
    | some r =>
      have HTO := Aside0.mk hto
      gi_wp2_with ((refine ⟨trivial, ?_⟩; refine (CallsIn.inRound l (callsIn_wide.2 (to_some HTO.out _ _ _ S HSWL.out HRV.out))).mono ?_; rintro e w7 ⟨A2, c2, S2, rfl, hgot, hgS, hb⟩; have HGOT := Aside0.mk hgot; have HGS := Aside0.mk hgS; have HLB7 := Aside0.mk (HLB.out.below hb); have HB7 := Aside0.mk hb; have h6 : w7.cell? ⟨w.heap.size + 1, 0, none⟩ = some (.slice none 0 0) := (blk_cell HLB7.out.2.1 0).trans rfl; have hf6 := blk_frozen HLB7.out.2.1 0; have h7 : w7.cell? ⟨w.heap.size + 1 + 1, 0, none⟩ = some (.bool false) := (blk_cell HLB7.out.2.2.1 0).trans rfl; have hf7 := blk_frozen HLB7.out.2.2.1 0; clear hb hgot hgS))
      obtain ⟨b0, b1, b2, b3⟩ := HLB7.out
      have hblk : ∀ k, S2 k → ((w7.setCell ⟨w.heap.size + 1, 0, none⟩ (.slice A2 r.length c2)).setCell ⟨w.heap.size + 1 + 1, 0, none⟩ (.bool true)).heap[k]? = w7.heap[k]? := fun k hk => by
        have h1 := (HGS.out k hk).1
        have h2 := HLT.out k
        have h3 := HBLK.out
        have h4 : k ≠ w.heap.size + 1 ∧ k ≠ w.heap.size + 1 + 1 := by
          rcases h1 with q | q
          · have := h2 q
            omega
          · omega
        exact (Below.heap_setCell _ _ _ _ (fun e => h4.2 (by first | exact e | exact e.symm))).trans (Below.heap_setCell _ _ _ _ (fun e => h4.1 (by first | exact e | exact e.symm)))
      refine ⟨((KeepsOthers.of_grownBy (below_grown0 HB7.out) (fun j o e ho => by cases e)).trans ((KeepsOthers.setCell _ _ _).trans (KeepsOthers.setCell _ _ _))).from _, rfl, pre, y, r, A2, c2, rfl, HI2.out, HTO.out, ?_, ?_⟩
      · refine ⟨(Below.heap_setCell _ _ _ _ ?_).trans ((Below.heap_setCell _ _ _ _ ?_).trans b0), (Below.heap_setCell _ _ _ _ ?_).trans (blk_put (cs := #[.slice none 0 0]) b1 0 _ rfl), blk_put (cs := #[.bool false]) ((Below.heap_setCell _ _ _ _ ?_).trans b2) 0 _ rfl, (b3.setCell (p := ⟨w.heap.size + 1, 0, none⟩) (by show w.heap.size ≤ w.heap.size + 1; omega) _).setCell (p := ⟨w.heap.size + 1 + 1, 0, none⟩) (by show w.heap.size ≤ w.heap.size + 1 + 1; omega) _⟩
        all_goals (dsimp only; omega)
      · refine ⟨S2, HGOT.out.mono (fun _ q => q) hblk, fun k hk => ⟨?_, ?_, ?_⟩⟩
        · have h3 := HBLK.out
          rcases (HGS.out k hk).1 with q | q
          · exact .inl q
          · exact .inr (by omega)
        · have := (HGS.out k hk).2.1
          simpa using this
        · rw [hblk k hk]
          exact (HGS.out k hk).2.2
  case done =>
    rintro D xs W hD hSx hI hK'
    have hv : lastTo zs n v len = none := lastTo_none zs n v hSx hI.1
    obtain ⟨b0, b1, b2, b3⟩ := hI.2.2
    have B0 := Aside0.mk b0
    have B1 := Aside0.mk b1
    have B2 := Aside0.mk b2
    have B3 := Aside0.mk b3
    have HV := Aside0.mk hv
    have HKD := Aside0.mk hK'
    have HDD := Aside0.mk (show w.heap.size + 4 ≤ D by omega)
    have h6 : W.cell? ⟨w.heap.size + 1, 0, none⟩ = some (.slice none 0 0) := (blk_cell b1 0).trans rfl
    have hf6 := blk_frozen b1 0
    have h7 : W.cell? ⟨w.heap.size + 1 + 1, 0, none⟩ = some (.bool false) := (blk_cell b2 0).trans rfl
    have hf7 := blk_frozen b2 0
    clear b0 b1 b2 b3 hI hSx hv hK' hb0 hb1 hb2
    go_wp2
    have hdd := HDD.out
    refine leaves_marks (fun W => LaB w n v none 0 0 false W) [D] _ (List.nodup_cons.mpr ⟨List.not_mem_nil, List.nodup_nil⟩) (fun E hE => ?_) (fun E hE Y hY hh => ?_) ?_ (fun Y hY => ?_)
    · obtain rfl := List.mem_singleton.mp hE
      exact (Below.heap_setCell _ _ _ _ (by dsimp only; omega)).trans ((Below.heap_setCell _ _ _ _ (by dsimp only; omega)).trans HKD.out)
    · obtain rfl := List.mem_singleton.mp hE
      exact hY.grown (B := w.heap.size) (Nat.le_refl _) (grownBy_putObj' Y E (.deferred none)) (fun r e => by cases e; exact ⟨by omega, _, hh, rfl⟩)
    · refine ⟨(Below.heap_setCell _ _ _ _ ?_).trans ((Below.heap_setCell _ _ _ _ ?_).trans B0.out), (Below.heap_setCell _ _ _ _ ?_).trans (blk_put (cs := #[.slice none 0 0]) B1.out 0 _ rfl), blk_put (cs := #[.bool false]) ((Below.heap_setCell _ _ _ _ ?_).trans B2.out) 0 _ rfl, (B3.out.setCell (p := ⟨w.heap.size + 1, 0, none⟩) (by show w.heap.size ≤ w.heap.size + 1; omega) _).setCell (p := ⟨w.heap.size + 1 + 1, 0, none⟩) (by show w.heap.size ≤ w.heap.size + 1 + 1; omega) _⟩
      all_goals (dsimp only; omega)
    · have c6 : Y.cell? ⟨w.heap.size + 1, 0, none⟩ = some (.slice none 0 0) := (blk_cell hY.2.1 0).trans rfl
      have c7 : Y.cell? ⟨w.heap.size + 1 + 1, 0, none⟩ = some (.bool false) := (blk_cell hY.2.2.1 0).trans rfl
      refine ⟨_, (results_cells2 (p := 4) (u := 5) (ty1 := 59) (ty2 := 4) rfl _ _ _).trans (by go_simp; (try rfl)), ?_⟩
      refine ⟨_, S, rfl, ?_, fun _ q => q, fun k q => ⟨Nat.lt_of_lt_of_le (HLT.out k q) hY.2.2.2.size, .inl q⟩, hY.2.2.2⟩
      rw [HV.out]
      refine RV0.tup [aI [], .sb false] [.slice none 0 0, .bool false] rfl fun i a u g1 g2 => ?_
      match i, g1, g2 with
      | 0, g1, g2 =>
        obtain rfl := Option.some.inj g1
        obtain rfl := Option.some.inj g2
        exact RV0.sl 1 0 _ none 0 (fun _ _ => .bool false) (Nat.le_refl _) (Nat.zero_le _) (fun i hi => absurd hi (Nat.not_lt_zero _)) (fun i j hi => absurd hi (Nat.not_lt_zero _)) (fun i j a hi => absurd hi (Nat.not_lt_zero _))
      | 1, g1, g2 =>
        obtain rfl := Option.some.inj g1
        obtain rfl := Option.some.inj g2
        exact .sb _
  case stop =>
    rintro D c pre W hD ⟨k, hk, hy⟩ ⟨rfl, p, x, r, A, cp, rfl, e1, e2, hLB, hG⟩ hK'
    have hv := lastTo_some zs n v hk hy e1 e2
    have hdd : w.heap.size + 4 ≤ D := by omega
    refine (wpIn_wide (n := 9)).2 ?_
    go_wp2
    refine leaves_marks (fun W => LaB w n v A r.length cp true W ∧ Got w S r A cp W) [D] _ (List.nodup_cons.mpr ⟨List.not_mem_nil, List.nodup_nil⟩) (fun E hE => ?_) (fun E hE Y hY hh => ?_) ?_ (fun Y hY => ?_)
    · obtain rfl := List.mem_singleton.mp hE
      exact hK'
    · obtain rfl := List.mem_singleton.mp hE
      exact ⟨hY.1.grown (B := w.heap.size) (Nat.le_refl _) (grownBy_putObj' Y E (.deferred none)) (fun r e => by cases e; exact ⟨by omega, _, hh, rfl⟩), hY.2.grown (grownBy_putObj' Y E (.deferred none)) (fun r e => by cases e; exact ⟨_, hh, rfl⟩)⟩
    · exact ⟨hLB, hG⟩
    · have c6 : Y.cell? ⟨w.heap.size + 1, 0, none⟩ = some (.slice A r.length cp) := (blk_cell hY.1.2.1 0).trans rfl
      have c7 : Y.cell? ⟨w.heap.size + 1 + 1, 0, none⟩ = some (.bool true) := (blk_cell hY.1.2.2.1 0).trans rfl
      refine ⟨_, (results_cells2 (p := 4) (u := 5) (ty1 := 59) (ty2 := 4) rfl _ _ _).trans (by go_simp; (try rfl)), ?_⟩
      obtain ⟨⟨_, _, _, hbY⟩, S1, hr1, hs1⟩ := hY
      refine ⟨_, fun k => S k ∨ S1 k, rfl, ?_, fun _ q => .inl q, fun k q => ?_, hbY⟩
      · rw [hv]
        refine RV0.tup [aI r, .sb true] [.slice A r.length cp, .bool true] rfl fun i a u g1 g2 => ?_
        match i, g1, g2 with
        | 0, g1, g2 =>
          obtain rfl := Option.some.inj g1
          obtain rfl := Option.some.inj g2
          exact hr1.mono (fun _ q => .inr q) (fun _ _ => rfl)
        | 1, g1, g2 =>
          obtain rfl := Option.some.inj g1
          obtain rfl := Option.some.inj g2
          exact .sb _
      · rcases q with q | q
        · exact ⟨Nat.lt_of_lt_of_le (HLT.out k q) hbY.size, .inl q⟩
        · exact ⟨(hs1 k q).2.1, (hs1 k q).1⟩
/-- dest.Last. -/
def SLast : Sp := ⟨List Bf × Int × Int, fun (l, n, v) => l.length < 1000000000, fun (l, n, v) => [aB l, aCode n v], fun (l, n, v) => rO (EB.last l n v)⟩
theorem add_off (ad : Addr) (i j : Nat) : ad.add (i * 4 + (j + 1)) = ⟨(ad.add (i * 4)).block, (ad.add (i * 4)).off + (j + 1), none⟩ := by
  rw [← add_add]
  rfl
theorem last : SpOK Tryz.prog 29 SLast := fun ⟨l, n, v⟩ hl => by
  refine ⟨⟨_, Tryz.func29, by decide +kernel, rfl⟩, fun w S vs hlt hv => ?_⟩
  obtain ⟨hvl, hv⟩ := hv
  match vs, hvl, hv with
  | [u1, u2], _, hv =>
    have g1 := hv 0 _ _ rfl rfl
    have g2 := hv 1 _ _ rfl rfl
    cases g2 with
    | agg cs ws hwl hws =>
    match ws, hwl, hws with
    | [x1, x2], _, hws =>
    have k1 := hws 0 _ _ rfl rfl
    have k2 := hws 1 _ _ rfl rfl
    cases k1
    cases k2
    cases g1 with
    | sl sz m el A cap g hcap hmax hel hm hr =>
    have hg : ∀ j, j < l.length → g j 0 = .int .i64 (l.getD j default).n ∧ g j 1 = .int .i64 (l.getD j default).lo ∧ g j 2 = .int .i64 (l.getD j default).hi ∧ ∃ sA sC, g j 3 = .slice sA (l.getD j default).to.length sC ∧ RV0 w S (aI (l.getD j default).to) (.slice sA (l.getD j default).to.length sC) := fun j hj => by
      have r0 := hr j 0 _ hj rfl
      have r1 := hr j 1 _ hj rfl
      have r2 := hr j 2 _ hj rfl
      have r3 := hr j 3 _ hj rfl
      have e0 : g j 0 = .int .i64 (l.getD j default).n := RV0.int_inv r0
      have e1 : g j 1 = .int .i64 (l.getD j default).lo := RV0.int_inv r1
      have e2 : g j 2 = .int .i64 (l.getD j default).hi := RV0.int_inv r2
      obtain ⟨sA, sC, e3⟩ := RV0.slice r3
      rw [e3] at r3
      exact ⟨e0, e1, e2, sA, sC, e3, r3⟩
    have hch : ∃ (sA : Nat → Option Addr) (sC : Nat → Nat), ∀ j, j < l.length → g j 3 = .slice (sA j) (l.getD j default).to.length (sC j) ∧ RV0 w S (aI (l.getD j default).to) (.slice (sA j) (l.getD j default).to.length (sC j)) := by
      refine ⟨fun j => match g j 3 with | .slice a _ _ => a | _ => none, fun j => match g j 3 with | .slice _ _ c => c | _ => 0, fun j hj => ?_⟩
      obtain ⟨_, _, _, sA, sC, e3, r3⟩ := hg j hj
      simp only [e3]
      exact ⟨trivial, r3⟩
    obtain ⟨sA, sC, hch⟩ := hch
    have hrow : rowAt A l.length (fun j => (l.getD j default, sA j, sC j)) w := fun j hj => by
      obtain ⟨e0, e1, e2, _⟩ := hg j hj
      obtain ⟨ad, rfl, _, q0⟩ := hm j 0 hj (by decide)
      obtain ⟨ad1, ha1, _, q1⟩ := hm j 1 hj (by decide)
      obtain ⟨ad2, ha2, _, q2⟩ := hm j 2 hj (by decide)
      obtain ⟨ad3, ha3, _, q3⟩ := hm j 3 hj (by decide)
      cases ha1
      cases ha2
      cases ha3
      rw [e0] at q0
      rw [e1, add_off ad j 0] at q1
      rw [e2, add_off ad j 1] at q2
      rw [(hch j hj).1, add_off ad j 2] at q3
      exact ⟨ad, rfl, q0, q1, q2, q3⟩
    have h := lastW (fun j => (l.getD j default, sA j, sC j)) l.length hl n v w S hlt A cap hrow (fun j hj => (hch j hj).2)
    rw [lastTo_last l sA sC n v l.length (Nat.le_refl _), List.take_length] at h
    refine h.mono fun e w' ⟨u, S', h1, h2, h3, h4, h5⟩ => ⟨u, S', h1, h2, h3, h4, h5⟩
end Go.Abs.DLast
