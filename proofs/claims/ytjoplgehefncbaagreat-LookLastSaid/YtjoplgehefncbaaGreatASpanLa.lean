/- span.Last: by the last one of some: a range over slices.Backward, by hand. -/
import Derived.Test.YtjoplgehefncbaaGreatASpanJ
set_option linter.all false
set_option maxRecDepth 100000
namespace Go.Abs.Span
open Go.RowKit Go.Proofs Go.Abs.Tab Go.Abs.Rc
attribute [local go_sem] Oper.semAt_some
def elS (l : List Spn) (i : Nat) : Spn := l.getD i default
def toSp (x : Spn) (n v : Int) (step : Bool) : Int × Bool := (((ES step).to x n v).getD 0, ((ES step).to x n v).isSome)
theorem to_any (x : Spn) (n v : Int) (step : Bool) (w : World) : Calls Tryz.prog 41 #[.agg #[.int .i64 x.n, .int .i64 x.lo, .int .i64 x.hi, .int .i64 x.to], .agg #[.int .i64 n, .int .i64 v], .bool step] w fun e w' => e = .returned (.tuple #[.int .i64 (toSp x n v step).1, .bool (toSp x n v step).2]) ∧ Below w.heap.size w w' := by
  refine ((toS (x, n, v, step) trivial).2 w (fun _ => False) [.agg #[.int .i64 x.n, .int .i64 x.lo, .int .i64 x.hi, .int .i64 x.to], .agg #[.int .i64 n, .int .i64 v], .bool step] (fun _ h => h.elim) ⟨rfl, fun i a u q1 q2 => ?_⟩).mono ?_
  · match i, q1, q2 with
    | 0, q1, q2 =>
      obtain rfl := Option.some.inj q1
      obtain rfl := Option.some.inj q2
      exact span_arg x
    | 1, q1, q2 =>
      obtain rfl := Option.some.inj q1
      obtain rfl := Option.some.inj q2
      refine .agg [.int .i64 n, .int .i64 v] [.int .i64 n, .int .i64 v] rfl fun j a u p1 p2 => ?_
      have hj : j < 2 := (List.getElem?_eq_some_iff.1 p1).1
      have hc : j = 0 ∨ j = 1 := by omega
      rcases hc with rfl | rfl
      all_goals
        obtain rfl := Option.some.inj p1
        obtain rfl := Option.some.inj p2
        exact .int _ _
    | 2, q1, q2 =>
      obtain rfl := Option.some.inj q1
      obtain rfl := Option.some.inj q2
      exact .lit _
  · rintro e w' ⟨r, S', rfl, hr, _, _, hb⟩
    refine ⟨?_, hb⟩
    obtain ⟨vs, rfl, hl, hv⟩ := rv_tup (.st _ _ hr : RV w' S' [] _ _)
    match vs, hl with
    | [a0, a1], _ =>
      have e0 := rv_int (hv 0 _ _ rfl rfl)
      have e1 := rv_sb (hv 1 _ _ rfl rfl)
      rw [e0, e1]
      rfl
attribute [local go_sem] Oper.semAt_some
/-- By the last one of the first i. -/
def lastTo (l : List Spn) (n v : Int) (step : Bool) : Nat → Int × Bool
  | 0 => (0, false)
  | i + 1 => if (toSp (elS l i) n v step).2 = true then ((toSp (elS l i) n v step).1, true) else lastTo l n v step i
/-- What has come when k rounds are over. -/
def uptoK {α : Type} (f : Nat → α) (k : Nat) : List α := (List.range k).map f
theorem uptoK_succ {α : Type} (f : Nat → α) (k : Nat) : uptoK f (k + 1) = uptoK f k ++ [f k] := by simp [uptoK, List.range_succ]
theorem uptoK_length {α : Type} (f : Nat → α) (k : Nat) : (uptoK f k).length = k := by simp [uptoK]
theorem backwardS (A : Option Addr) (n c : Nat) (w : World) :
    Calls Tryz.prog 40 #[.slice A n c] w fun e w' => e = .returned (.func (.func 75) #[] #[.pointer (some ⟨w.heap.size, 0, none⟩)]) ∧ w' = w.alloc (.cells #[.slice A n c] 23) := by
  go_enter Tryz.func40, Tryz.ntmps40
  go_wp2
  go_ret
  exact ⟨rfl, rfl⟩
/-- The box of the row lies as it lay, and the row too. -/
def KpB (Bs len : Nat) (A : Option Addr) (W W' : World) : Prop := W'.heap[Bs]? = W.heap[Bs]? ∧ (0 < len → ∀ ad, A = some ad → W'.heap[ad.block]? = W.heap[ad.block]?)
theorem KpB.trans {Bs len : Nat} {A : Option Addr} {X Y Z : World} (h : KpB Bs len A X Y) (k : KpB Bs len A Y Z) : KpB Bs len A X Z := ⟨k.1.trans h.1, fun h0 ad e => (k.2 h0 ad e).trans (h.2 h0 ad e)⟩
/-- A row's elements, at a world. -/
def rowAt (A : Option Addr) (len : Nat) (l : List Spn) (W : World) : Prop := ∀ j, j < len → ∃ ad, A = some ad ∧ W.cell? (ad.add (j * 4)) = some (.int .i64 (elS l j).n) ∧ W.cell? ⟨(ad.add (j * 4)).block, (ad.add (j * 4)).off + 1, none⟩ = some (.int .i64 (elS l j).lo) ∧ W.cell? ⟨(ad.add (j * 4)).block, (ad.add (j * 4)).off + 2, none⟩ = some (.int .i64 (elS l j).hi) ∧ W.cell? ⟨(ad.add (j * 4)).block, (ad.add (j * 4)).off + 3, none⟩ = some (.int .i64 (elS l j).to)
theorem rowAt.kept {A : Option Addr} {len : Nat} {l : List Spn} {W W' : World} (h : rowAt A len l W) (hk : 0 < len → ∀ ad, A = some ad → W'.heap[ad.block]? = W.heap[ad.block]?) : rowAt A len l W' := by
  intro j hj
  obtain ⟨ad, e, h0, h1, h2, h3⟩ := h j hj
  have hb : ∀ p : Addr, p.block = ad.block → W'.cell? p = W.cell? p := fun p hp => World.cell?_of_block (by rw [hp]; exact hk (by omega) ad e)
  exact ⟨ad, e, (hb _ (add_block ad (j * 4))).trans h0, (hb ⟨(ad.add (j * 4)).block, (ad.add (j * 4)).off + 1, none⟩ (add_block _ _)).trans h1, (hb ⟨(ad.add (j * 4)).block, (ad.add (j * 4)).off + 2, none⟩ (add_block _ _)).trans h2, (hb ⟨(ad.add (j * 4)).block, (ad.add (j * 4)).off + 3, none⟩ (add_block _ _)).trans h3⟩
theorem cell_some_lt {W : World} {p : Addr} {v : Value} (h : W.cell? p = some v) : p.block < W.heap.size := by
  rcases Nat.lt_or_ge p.block W.heap.size with h2 | h2
  · exact h2
  · have : W.heap[p.block]? = none := Array.getElem?_eq_none h2
    unfold World.cell? at h
    rw [this] at h
    simp at h
theorem rowAt.lt {A : Option Addr} {len : Nat} {l : List Spn} {W : World} (h : rowAt A len l W) (h0 : 0 < len) : ∀ ad, A = some ad → ad.block < W.heap.size := by
  intro ad e
  obtain ⟨ad', e', hc, _⟩ := h 0 h0
  rw [e] at e'
  cases e'
  have := cell_some_lt hc
  rwa [add_block] at this
set_option maxRecDepth 100000 in
set_option maxHeartbeats 4000000 in
theorem backS1 (F : Fence) (n : Nat) (hf : F.fn 75) (hro : F.round = none) (hn : 1 ≤ n) (l Bs len cap : Nat) (A : Option Addr) (zs : List Spn) (hreach : len ≤ 1000000000) (J Jx : List (_root_.Fin len) → World → Prop)
    (hY : ∀ pre x W, J pre W → pre.length < len → YieldAt F (n - 1) Tryz.prog l #[.int .i64 ((x : _root_.Fin len).1 : Int), .agg #[.int .i64 (elS zs x.1).n, .int .i64 (elS zs x.1).lo, .int .i64 (elS zs x.1).hi, .int .i64 (elS zs x.1).to]] W fun e W' =>
      (e = .returned (.bool true) ∧ J (pre ++ [x]) W' ∧ KpB Bs len A W W') ∨ (e = .returned (.bool false) ∧ Jx (pre ++ [x]) W'))
    (W : World) (hBs : W.cell? ⟨Bs, 0, none⟩ = some (.slice A len cap)) (hc : rowAt A len zs W) (h0 : J [] W) :
    CallsIn F n Tryz.prog 75 #[.func (.yield l) #[] #[], .pointer (some ⟨Bs, 0, none⟩)] W fun e W' => (∃ v, e = .returned v) ∧
      ((∃ ys, (ys.map _root_.Fin.val = uptoK (fun j => len - 1 - j) len) ∧ J ys W') ∨ (∃ pre, (∃ k, k ≤ len ∧ pre.map _root_.Fin.val = uptoK (fun j => len - 1 - j) k) ∧ Jx pre W')) := by
  have hu := Tryz.underlying72
  refine callsIn_of_wp Tryz.func75 rfl hf ?_ hro
  simp only [Tryz.ntmps75, List.size_toArray, List.length_cons, List.length_nil, Nat.reduceAdd, Nat.reduceSub, Array.replicate_succ, Array.replicate_zero, List.push_toArray, List.append_toArray, List.nil_append, List.cons_append]
  gi_wp2
  gi_loopw [3] (fun i wr => ∃ k : Nat, ∃ x : Int, ∃ ys : List (_root_.Fin len), k ≤ len ∧ x = (len : Int) - 1 - k ∧ i = .int .i64 x ∧ ys.map _root_.Fin.val = uptoK (fun j => len - 1 - j) k ∧ J ys wr ∧ KpB Bs len A W wr)
    (fun i _ => (intOf i + 1).toNat)
  case atStart => exact ⟨0, (len : Int) - 1, [], Nat.zero_le _, by omega, rfl, rfl, h0, rfl, fun _ _ _ => rfl⟩
  case round =>
    obtain ⟨k, x, ys, hk, hx, rfl, hys, hJs, hnx⟩ := hrel
    have hBs' : wr.cell? ⟨Bs, 0, none⟩ = some (.slice A len cap) := (World.cell?_of_block (a := ⟨Bs, 0, none⟩) hnx.1).trans hBs
    by_cases hlt : k < len
    · obtain ⟨i, rfl⟩ := Int.eq_ofNat_of_zero_le (show 0 ≤ x by omega)
      obtain rfl : k = len - 1 - i := by omega
      have hi : len - 1 - (len - 1 - i) = i := by omega
      have hil : i < len := by omega
      clear hx
      have hyl : ys.length = len - 1 - i := by
        have := congrArg List.length hys
        rw [List.length_map, uptoK_length] at this
        exact this
      obtain ⟨fn, tmps, assign, body, hy, hR⟩ := hY ys (⟨i, hil⟩ : _root_.Fin len) wr hJs (by rw [hyl]; exact hlt)
      dsimp only at hy
      obtain ⟨ad, ead, hx0, hx1, hx2, hx3⟩ := (hc.kept hnx.2) i hil
      subst ead
      have hys2 : (ys ++ [(⟨i, hil⟩ : _root_.Fin len)]).map _root_.Fin.val = uptoK (fun j => len - 1 - j) (len - 1 - i + 1) := by
        rw [uptoK_succ, List.map_append, hys]
        simp only [hi, List.map_cons, List.map_nil]
      have HYS := Aside0.mk hys2
      have hd0 : decide ((i : Int) ≥ 0) = true := decide_eq_true (by omega)
      have hp0 : (0 ≤ (i : Int)) = True := eq_true (by omega)
      have hp1 : ((i : Int) < (len : Int)) = True := eq_true (by omega)
      clear hys2 hys hyl
      gi_wp2
      refine hR.mono ?_
      rintro e W3 (⟨rfl, hJ3, hk3⟩ | ⟨rfl, hJx3⟩)
      · gi_wp2
        go_roundw
        case rel => exact ⟨len - 1 - i + 1, (i : Int) - 1, _, by omega, by omega, rfl, HYS.out, hJ3, hnx.trans hk3⟩
        case measure => simp [intOf]
      · gi_wp2
        refine bodyPost_ret (results_none rfl _ _ _) rfl ?_
        exact ⟨⟨_, rfl⟩, .inr ⟨_, ⟨_, by omega, HYS.out⟩, hJx3⟩⟩
    · obtain rfl : k = len := by omega
      obtain rfl : x = -1 := by omega
      gi_wp2
      go_end0
      exact ⟨⟨_, rfl⟩, .inl ⟨_, hys, hJs⟩⟩
theorem backS_stops (F : Fence) (n : Nat) (hf : F.fn 75) (hro : F.round = none) (hn : 1 ≤ n) (Bs len cap : Nat) (A : Option Addr) (zs : List Spn) (hreach : len ≤ 1000000000) (w : World) (hB : Bs < w.heap.size)
    (hBs : w.cell? ⟨Bs, 0, none⟩ = some (.slice A len cap)) (hc : rowAt A len zs w) :
    SeqStopsK F n Tryz.prog 75 #[.pointer (some ⟨Bs, 0, none⟩)] (fun x : _root_.Fin len => #[Value.int .i64 (x.1 : Int), .agg #[.int .i64 (elS zs x.1).n, .int .i64 (elS zs x.1).lo, .int .i64 (elS zs x.1).hi, .int .i64 (elS zs x.1).to]]) (KpB Bs len A)
      (fun ys => ys.map _root_.Fin.val = uptoK (fun j => len - 1 - j) len) (fun pre => ∃ k, k ≤ len ∧ pre.map _root_.Fin.val = uptoK (fun j => len - 1 - j) k) len w := fun l J Jx W hW _ _ hY h0 =>
  backS1 F n hf hro hn l Bs len cap A zs hreach J Jx hY W ((World.cell?_of_block (a := ⟨Bs, 0, none⟩) (hW.block _ hB)).trans hBs) (hc.kept (fun h0 ad e => hW.block _ (hc.lt h0 ad e))) h0
theorem lastTo_skip (l : List Spn) (n v : Int) (step : Bool) (len : Nat) : ∀ k, k ≤ len → (∀ j, j < k → (toSp (elS l (len - 1 - j)) n v step).2 = false) → lastTo l n v step len = lastTo l n v step (len - k)
  | 0, _, _ => rfl
  | k + 1, hk, h => by
    rw [lastTo_skip l n v step len k (by omega) (fun j hj => h j (by omega))]
    rw [show len - k = (len - (k + 1)) + 1 by omega]
    have h2 := h k (Nat.lt_succ_self k)
    rw [show len - 1 - k = len - (k + 1) by omega] at h2
    show (if (toSp (elS l (len - (k + 1))) n v step).2 = true then _ else _) = _
    rw [h2]
    rfl
theorem mem_uptoK {α : Type} {f : Nat → α} {k j : Nat} (h : j < k) : f j ∈ uptoK f k := List.mem_map.mpr ⟨j, List.mem_range.mpr h, rfl⟩
theorem lastTo_none (l : List Spn) (n v : Int) (step : Bool) {len : Nat} {ys : List (_root_.Fin len)} (hy : ys.map _root_.Fin.val = uptoK (fun j => len - 1 - j) len) (h : ∀ x ∈ ys, (toSp (elS l x.1) n v step).2 = false) : lastTo l n v step len = (0, false) := by
  rw [lastTo_skip l n v step len len (Nat.le_refl _) (fun j hj => ?_), Nat.sub_self]
  · rfl
  · have hm : (fun j => len - 1 - j) j ∈ ys.map _root_.Fin.val := by rw [hy]; exact mem_uptoK hj
    obtain ⟨x, hx, e⟩ := List.mem_map.mp hm
    have := h x hx
    rw [e] at this
    exact this
theorem lastTo_some (l : List Spn) (n v : Int) (step : Bool) {len k : Nat} {p : List (_root_.Fin len)} {x : _root_.Fin len} (hk : k ≤ len) (hy : (p ++ [x]).map _root_.Fin.val = uptoK (fun j => len - 1 - j) k) (h : ∀ x ∈ p, (toSp (elS l x.1) n v step).2 = false) (hx : (toSp (elS l x.1) n v step).2 = true) :
    lastTo l n v step len = ((toSp (elS l x.1) n v step).1, true) := by
  have hl := congrArg List.length hy
  rw [List.length_map, List.length_append, List.length_singleton, uptoK_length] at hl
  subst hl
  rw [uptoK_succ, List.map_append] at hy
  obtain ⟨h1, h2⟩ := List.append_inj' hy rfl
  have h3 : x.1 = len - 1 - p.length := List.head_eq_of_cons_eq h2
  rw [lastTo_skip l n v step len p.length (by omega) (fun j hj => ?_)]
  · rw [show len - p.length = (len - 1 - p.length) + 1 by omega, ← h3]
    show (if (toSp (elS l x.1) n v step).2 = true then _ else _) = _
    rw [if_pos hx]
  · have hm : (fun j => len - 1 - j) j ∈ p.map _root_.Fin.val := by rw [h1]; exact mem_uptoK hj
    obtain ⟨y, hy, e⟩ := List.mem_map.mp hm
    have := h y hy
    rw [e] at this
    exact this
theorem results_cells2 {fn : Func} {p u : Tmp} {ty1 ty2 : TypeId} (h : fn.results = #[.cell p ty1, .cell u ty2]) (tmps : Array Value) (P : Program) (w : World) :
    (results fn tmps).run P w =
      ((asAddr (tmps.getD p undef)).run P w).andThen fun a w₁ => ((loadVar ty1 a).run P w₁).andThen fun v w₂ => ((asAddr (tmps.getD u undef)).run P w₂).andThen fun a2 w₃ => ((loadVar ty2 a2).run P w₃).andThen fun v2 w₄ => .ok (.tuple #[v, v2]) w₄ := by
  simp only [results, h]
  simp [Sem.run_bind, Result.andThen]
theorem below_grown0 {W W' : World} (hb : Below W.heap.size W W') : W.grownBy W' none := ⟨hb.os, hb.tape, hb.output, hb.size, fun k hk _ => hb.block k hk⟩
/-- The blocks of span.Last's own. -/
def LaB (w : World) (n v : Int) (step : Bool) (r1 : Int) (r2 : Bool) (W : World) : Prop :=
  W.heap[w.heap.size]? = some (.cells #[.int .i64 n, .int .i64 v] 28 (0, 0)) ∧ W.heap[w.heap.size + 1]? = some (.cells #[.bool step] 4 (0, 0)) ∧ W.heap[w.heap.size + 1 + 1]? = some (.cells #[.int .i64 r1] 3 (0, 0)) ∧ W.heap[w.heap.size + 1 + 1 + 1]? = some (.cells #[.bool r2] 4 (0, 0)) ∧ Below w.heap.size w W
theorem LaB.grown {w X Y : World} {n v : Int} {step : Bool} {r1 : Int} {r2 : Bool} {row : Option Nat} {B : Nat} (hB : w.heap.size ≤ B) (h : LaB w n v step r1 r2 X) (hg : X.grownBy Y row) (hr : ∀ r, row = some r → B ≤ r ∧ ∃ o : Obj, X.heap[r]? = some o ∧ o.isCells = false) : LaB w n v step r1 r2 Y :=
  have hr2 : ∀ r, row = some r → ∃ o : Obj, X.heap[r]? = some o ∧ o.isCells = false := fun r e => (hr r e).2
  ⟨own_blk h.1 hg hr2, own_blk h.2.1 hg hr2, own_blk h.2.2.1 hg hr2, own_blk h.2.2.2.1 hg hr2, h.2.2.2.2.grown hg h.2.2.2.2.size (fun k e => Nat.le_trans hB (hr k e).1)⟩
theorem LaB.below {w X Y : World} {n v : Int} {step : Bool} {r1 : Int} {r2 : Bool} (h : LaB w n v step r1 r2 X) (hb : Below X.heap.size X Y) : LaB w n v step r1 r2 Y :=
  h.grown (Nat.le_refl _) (below_grown0 hb) (fun r e => by cases e)
def LaI (w : World) (B : Nat) (l0 : List Spn) (n v : Int) (step : Bool) (pre : List (_root_.Fin l0.length)) (W : World) : Prop := (∀ x ∈ pre, (toSp (elS l0 x.1) n v step).2 = false) ∧ B ≤ W.heap.size ∧ LaB w n v step 0 false W
def LaX (w : World) (l0 : List Spn) (n v : Int) (step : Bool) (c : Code) (pre : List (_root_.Fin l0.length)) (W : World) : Prop :=
  c = .ret ∧ ∃ p x, pre = p ++ [x] ∧ (∀ y ∈ p, (toSp (elS l0 y.1) n v step).2 = false) ∧ (toSp (elS l0 x.1) n v step).2 = true ∧ LaB w n v step (toSp (elS l0 x.1) n v step).1 true W
set_option maxRecDepth 100000 in
set_option maxHeartbeats 8000000 in
theorem lastWS (A0 : Option Addr) (c0 : Nat) (l0 : List Spn) (a1_0 : Int) (a1_1 : Int) (a2 : Bool) (r1 : Int) (r2 : Bool) (w : World) (hr0 : rowAt A0 l0.length l0 w) (hc0 : l0.length ≤ c0) (hl : l0.length < 1000000000) (h : lastTo l0 a1_0 a1_1 a2 l0.length = (r1, r2)) :
    Calls Tryz.prog 24 #[.slice A0 l0.length c0, .agg #[.int .i64 a1_0, .int .i64 a1_1], .bool a2] w fun e w' => e = .returned (.tuple #[.int .i64 r1, .bool r2]) ∧ Below w.heap.size w w' := by
  have HV := Aside0.mk h
  have HR0 := Aside0.mk hr0
  have HC0 := Aside0.mk hc0
  have HL := Aside0.mk hl
  have HB := Aside0.mk (Below.refl w.heap.size w)
  have hu := Tryz.underlying72
  have hu2 := Tryz.underlying28
  clear h hl hr0 hc0
  refine callsIn_wide.1 (callsIn_of_wp_marks (F := Fence.wide) (n := 9) Tryz.func24 rfl trivial (wpIn_wide.2 ?_))
  simp only [Tryz.ntmps24, List.size_toArray, List.length_cons, List.length_nil, Nat.reduceAdd, Nat.reduceSub, Array.replicate_succ, Array.replicate_zero, List.push_toArray, List.append_toArray, List.nil_append, List.cons_append]
  go_wp2_with (go_at_call 40; refine (backwardS _ _ _ _).mono ?_; rintro e W2 ⟨rfl, rfl⟩)
  obtain ⟨W5, hW5⟩ : ∃ W5, W5 = ((((w.alloc (.cells #[.int .i64 a1_0, .int .i64 a1_1] 28)).alloc (.cells #[.bool a2] 4)).alloc (.cells #[.int .i64 0] 3)).alloc (.cells #[.bool false] 4)).alloc (.cells #[.slice A0 l0.length c0] 23) := ⟨_, rfl⟩
  rw [← hW5]
  have hsz5 : W5.heap.size = w.heap.size + 5 := by rw [hW5]; simp
  have hbel5 : Below w.heap.size w W5 := by rw [hW5]; exact ((((((Below.refl _ w).alloc (Nat.le_refl _) _).alloc (by simp) _).alloc (by simp; omega) _).alloc (by simp; omega) _).alloc (by simp; omega) _)
  have hb0 : W5.heap[w.heap.size]? = some (.cells #[.int .i64 a1_0, .int .i64 a1_1] 28 (0, 0)) := by
    rw [hW5]
    refine (Below.heap_alloc _ _ _ (by simp only [World.size_alloc]; omega)).trans ((Below.heap_alloc _ _ _ (by simp only [World.size_alloc]; omega)).trans ((Below.heap_alloc _ _ _ (by simp only [World.size_alloc]; omega)).trans ((Below.heap_alloc _ _ _ (by simp)).trans ?_)))
    exact heap_alloc_new w _
  have hb1 : W5.heap[w.heap.size + 1]? = some (.cells #[.bool a2] 4 (0, 0)) := by
    rw [hW5]
    refine (Below.heap_alloc _ _ _ (by simp)).trans ((Below.heap_alloc _ _ _ (by simp)).trans ((Below.heap_alloc _ _ _ (by simp)).trans ?_))
    simpa using heap_alloc_new (w.alloc (.cells #[.int .i64 a1_0, .int .i64 a1_1] 28)) (.cells #[.bool a2] 4)
  have hb2 : W5.heap[w.heap.size + 1 + 1]? = some (.cells #[.int .i64 0] 3 (0, 0)) := by
    rw [hW5]
    refine (Below.heap_alloc _ _ _ (by simp)).trans ((Below.heap_alloc _ _ _ (by simp)).trans ?_)
    simpa using heap_alloc_new ((w.alloc (.cells #[.int .i64 a1_0, .int .i64 a1_1] 28)).alloc (.cells #[.bool a2] 4)) (.cells #[.int .i64 0] 3)
  have hb3 : W5.heap[w.heap.size + 1 + 1 + 1]? = some (.cells #[.bool false] 4 (0, 0)) := by
    rw [hW5]
    refine (Below.heap_alloc _ _ _ (by simp)).trans ?_
    simpa using heap_alloc_new (((w.alloc (.cells #[.int .i64 a1_0, .int .i64 a1_1] 28)).alloc (.cells #[.bool a2] 4)).alloc (.cells #[.int .i64 0] 3)) (.cells #[.bool false] 4)
  have hb4 : W5.heap[w.heap.size + 1 + 1 + 1 + 1]? = some (.cells #[.slice A0 l0.length c0] 23 (0, 0)) := by
    rw [hW5]
    simpa using heap_alloc_new ((((w.alloc (.cells #[.int .i64 a1_0, .int .i64 a1_1] 28)).alloc (.cells #[.bool a2] 4)).alloc (.cells #[.int .i64 0] 3)).alloc (.cells #[.bool false] 4)) (.cells #[.slice A0 l0.length c0] 23)
  have hr5 : rowAt A0 l0.length l0 W5 := HR0.out.kept (fun h0 ad e => hbel5.block _ (HR0.out.lt h0 ad e))
  clear hW5
  refine (wpIn_wide (n := 9)).1 (wpIn_rangeFunc_ownH (F := Fence.wide) (n := 9) rfl (by decide) (gf := 75) (lb := #[.pointer (some ⟨w.heap.size + 1 + 1 + 1 + 1, 0, none⟩)]) rfl trivial (enters_of Tryz.func75 (by kernel_rfl) rfl)
    (backS_stops Fence.wide (9 - 1) trivial rfl (by decide) (w.heap.size + 1 + 1 + 1 + 1) l0.length c0 A0 l0 (by have := HL.out; omega) W5 (by omega) ((blk_cell hb4 0).trans rfl) hr5) (fun h k => KpB.trans h k)
    (fun W l o o' hl h _ _ => ⟨World.putObj_heap_other (by omega), fun h0 ad e => World.putObj_heap_other (by have := hr5.lt h0 ad e; omega)⟩) (Below.refl _ _) (fun _ => rfl)
    (LaI w W5.heap.size l0 a1_0 a1_1 a2) (LaX w l0 a1_0 a1_1 a2) (fun s X Y row hs hg hr => ⟨hs.1, Nat.le_trans hs.2.1 hg.size, hs.2.2.grown (by omega) hg hr⟩)
    (fun c s X Y row hs hg hr => by obtain ⟨e, p, x, e1, e2, e3, e4⟩ := hs; exact ⟨e, p, x, e1, e2, e3, LaB.grown (B := W5.heap.size) (by omega) e4 hg hr⟩) ⟨fun x h => (List.not_mem_nil h).elim, Nat.le_refl _, hb0, hb1, hb2, hb3, hbel5⟩
    (fun y a' W => ∃ Bx, W5.heap.size ≤ Bx ∧ W.heap[Bx]? = some (.cells #[.int .i64 (elS l0 y.1).n, .int .i64 (elS l0 y.1).lo, .int .i64 (elS l0 y.1).hi, .int .i64 (elS l0 y.1).to] 72 (0, 0)) ∧ a' = { tmps := #[.slice A0 l0.length c0, .agg #[.int .i64 a1_0, .int .i64 a1_1], .bool a2, undef, .pointer (some ⟨w.heap.size, 0, none⟩), .pointer (some ⟨w.heap.size + 1, 0, none⟩), .pointer (some ⟨w.heap.size + 1 + 1, 0, none⟩), .pointer (some ⟨w.heap.size + 1 + 1 + 1, 0, none⟩), undef, .pointer (some ⟨Bx, 0, none⟩), undef, undef, .slice A0 l0.length c0, .func (.func 75) #[] #[.pointer (some ⟨w.heap.size + 1 + 1 + 1 + 1, 0, none⟩)], .int .i64 (y.1 : Int), .agg #[.int .i64 (elS l0 y.1).n, .int .i64 (elS l0 y.1).lo, .int .i64 (elS l0 y.1).hi, .int .i64 (elS l0 y.1).to], undef, undef, undef, undef, undef, undef, undef, undef, undef], defers := [] })
    (fun y a' _ X Y row hs hg hr => by
      obtain ⟨Bx, h1, h2, h3⟩ := hs
      exact ⟨Bx, h1, own_blk h2 hg (fun r e => (hr r e).2), h3⟩) ?assign ?body ?done ?stop)
  case assign =>
    intro l pre y W K2 hI hK2
    have hsW : W5.heap.size ≤ W.heap.size := hI.2.1
    gi_wp2
    exact hK2 _ _ ((KeepsOthers.alloc _ _).from _) ⟨Below.heap_alloc _ _ _ (by omega), fun h0 ad e => Below.heap_alloc _ _ _ (by have := hr5.lt h0 ad e; omega)⟩ ⟨hI.1, by simp only [World.size_alloc]; omega, hI.2.2.below (Below.alloc (Below.refl _ _) (Nat.le_refl _) _)⟩ ⟨W.heap.size, hsW, heap_alloc_new W _, rfl⟩
  case body =>
    rintro l pre y a' W hl ⟨r, hr⟩ hI ⟨Bx, hBx, bX, rfl⟩ hlt
    have HI2 := Aside0.mk hI.1
    have HLB := Aside0.mk hI.2.2
    have hsW := hI.2.1
    have HSW := Aside0.mk hsW
    have hy0 : W.cell? ⟨Bx, 0, none⟩ = some (.int .i64 (elS l0 y.1).n) := (blk_cell bX 0).trans rfl
    have hy1 : W.cell? ⟨Bx, 1, none⟩ = some (.int .i64 (elS l0 y.1).lo) := (blk_cell bX 1).trans rfl
    have hy2 : W.cell? ⟨Bx, 2, none⟩ = some (.int .i64 (elS l0 y.1).hi) := (blk_cell bX 2).trans rfl
    have hy3 : W.cell? ⟨Bx, 3, none⟩ = some (.int .i64 (elS l0 y.1).to) := (blk_cell bX 3).trans rfl
    have hc0 : W.cell? ⟨w.heap.size, 0, none⟩ = some (.int .i64 a1_0) := (blk_cell hI.2.2.1 0).trans rfl
    have hc1 : W.cell? ⟨w.heap.size, 1, none⟩ = some (.int .i64 a1_1) := (blk_cell hI.2.2.1 1).trans rfl
    have hst : W.cell? ⟨w.heap.size + 1, 0, none⟩ = some (.bool a2) := (blk_cell hI.2.2.2.1 0).trans rfl
    have hW2 : w.heap.size + 5 ≤ Bx := by omega
    have hWB := (Array.getElem?_eq_some_iff.1 bX).1
    clear hI bX hr hl hlt
    obtain ⟨x, hx⟩ : ∃ x, x = elS l0 y.1 := ⟨_, rfl⟩
    rw [← hx] at hy0 hy1 hy2 hy3 ⊢
    have HX := Aside0.mk hx
    have HWB := Aside0.mk hWB
    have HSZ := Aside0.mk hsz5
    have HBLK := Aside0.mk (show w.heap.size + 5 ≤ W.heap.size by omega)
    clear hx hWB hsW hsz5
    cases hto : (toSp x a1_0 a1_1 a2).2 with
    | false =>
      have HTO := Aside0.mk hto
      gi_wp2_with ((refine ⟨trivial, ?_⟩; refine (CallsIn.inRound l (callsIn_wide.2 (to_any x a1_0 a1_1 a2 _))).mono ?_; rintro e w7 ⟨rfl, hb⟩; rw [HTO.out]))
      have hs7 := HBLK.out
      refine ⟨(KeepsOthers.of_grownBy (below_grown0 hb) (fun j o e ho => by cases e)).from _, ⟨hb.block _ (by omega), fun h0 ad e => hb.block _ (by have := hr5.lt h0 ad e; have := HSZ.out; omega)⟩, fun z hz => ?_, Nat.le_trans HSW.out hb.size, HLB.out.below hb⟩
      rcases List.mem_append.mp hz with hz | hz
      · exact HI2.out z hz
      · obtain rfl := List.mem_singleton.mp hz
        rw [← HX.out]
        exact HTO.out
    | true =>
      have HTO := Aside0.mk hto
      gi_wp2_with ((refine ⟨trivial, ?_⟩; refine (CallsIn.inRound l (callsIn_wide.2 (to_any x a1_0 a1_1 a2 _))).mono ?_; rintro e w7 ⟨rfl, hb⟩; rw [HTO.out]; have HLB7 := Aside0.mk (HLB.out.below hb); have HB7 := Aside0.mk hb; have h6 : w7.cell? ⟨w.heap.size + 1 + 1, 0, none⟩ = some (.int .i64 0) := (blk_cell HLB7.out.2.2.1 0).trans rfl; have hf6 := blk_frozen HLB7.out.2.2.1 0; have h7 : w7.cell? ⟨w.heap.size + 1 + 1 + 1, 0, none⟩ = some (.bool false) := (blk_cell HLB7.out.2.2.2.1 0).trans rfl; have hf7 := blk_frozen HLB7.out.2.2.2.1 0; clear hb))
      obtain ⟨b0, b1, b2, b3, b4⟩ := HLB7.out
      refine ⟨((KeepsOthers.of_grownBy (below_grown0 HB7.out) (fun j o e ho => by cases e)).trans ((KeepsOthers.setCell _ _ _).trans (KeepsOthers.setCell _ _ _))).from _, rfl, pre, y, rfl, HI2.out, by rw [← HX.out]; exact HTO.out, ?_⟩
      rw [← HX.out]
      refine ⟨(Below.heap_setCell _ _ _ _ ?_).trans ((Below.heap_setCell _ _ _ _ ?_).trans b0), (Below.heap_setCell _ _ _ _ ?_).trans ((Below.heap_setCell _ _ _ _ ?_).trans b1), (Below.heap_setCell _ _ _ _ ?_).trans (blk_put (cs := #[.int .i64 0]) b2 0 _ rfl), blk_put (cs := #[.bool false]) ((Below.heap_setCell _ _ _ _ ?_).trans b3) 0 _ rfl, (b4.setCell (p := ⟨w.heap.size + 1 + 1, 0, none⟩) (by show w.heap.size ≤ w.heap.size + 1 + 1; omega) _).setCell (p := ⟨w.heap.size + 1 + 1 + 1, 0, none⟩) (by show w.heap.size ≤ w.heap.size + 1 + 1 + 1; omega) _⟩
      all_goals (dsimp only; omega)
  case done =>
    rintro D xs W hD hS hI hK'
    have hv : lastTo l0 a1_0 a1_1 a2 l0.length = (0, false) := lastTo_none l0 a1_0 a1_1 a2 hS hI.1
    have hrr := hv.symm.trans HV.out
    cases hrr
    obtain ⟨b0, b1, b2, b3, b4⟩ := hI.2.2
    have B0 := Aside0.mk b0
    have B1 := Aside0.mk b1
    have B2 := Aside0.mk b2
    have B3 := Aside0.mk b3
    have B4 := Aside0.mk b4
    have HKD := Aside0.mk hK'
    have HDD := Aside0.mk (show w.heap.size + 5 ≤ D by omega)
    have h6 : W.cell? ⟨w.heap.size + 1 + 1, 0, none⟩ = some (.int .i64 0) := (blk_cell b2 0).trans rfl
    have hf6 := blk_frozen b2 0
    have h7 : W.cell? ⟨w.heap.size + 1 + 1 + 1, 0, none⟩ = some (.bool false) := (blk_cell b3 0).trans rfl
    have hf7 := blk_frozen b3 0
    clear b0 b1 b2 b3 b4 hI hS hv hK' hb0 hb1 hb2 hb3 hb4
    go_wp2
    have hdd := HDD.out
    refine leaves_marks (fun W => LaB w a1_0 a1_1 a2 0 false W) [D] _ (List.nodup_cons.mpr ⟨List.not_mem_nil, List.nodup_nil⟩) (fun E hE => ?_) (fun E hE Y hY hh => ?_) ?_ (fun Y hY => ?_)
    · obtain rfl := List.mem_singleton.mp hE
      exact (Below.heap_setCell _ _ _ _ (by dsimp only; omega)).trans ((Below.heap_setCell _ _ _ _ (by dsimp only; omega)).trans HKD.out)
    · obtain rfl := List.mem_singleton.mp hE
      exact hY.grown (B := w.heap.size) (Nat.le_refl _) (grownBy_putObj' Y E (.deferred none)) (fun r e => by cases e; exact ⟨by omega, _, hh, rfl⟩)
    · refine ⟨(Below.heap_setCell _ _ _ _ ?_).trans ((Below.heap_setCell _ _ _ _ ?_).trans B0.out), (Below.heap_setCell _ _ _ _ ?_).trans ((Below.heap_setCell _ _ _ _ ?_).trans B1.out), (Below.heap_setCell _ _ _ _ ?_).trans (blk_put (cs := #[.int .i64 0]) B2.out 0 _ rfl), blk_put (cs := #[.bool false]) ((Below.heap_setCell _ _ _ _ ?_).trans B3.out) 0 _ rfl, (B4.out.setCell (p := ⟨w.heap.size + 1 + 1, 0, none⟩) (by show w.heap.size ≤ w.heap.size + 1 + 1; omega) _).setCell (p := ⟨w.heap.size + 1 + 1 + 1, 0, none⟩) (by show w.heap.size ≤ w.heap.size + 1 + 1 + 1; omega) _⟩
      all_goals (dsimp only; omega)
    · have c6 : Y.cell? ⟨w.heap.size + 1 + 1, 0, none⟩ = some (.int .i64 0) := (blk_cell hY.2.2.1 0).trans rfl
      have c7 : Y.cell? ⟨w.heap.size + 1 + 1 + 1, 0, none⟩ = some (.bool false) := (blk_cell hY.2.2.2.1 0).trans rfl
      exact ⟨_, (results_cells2 (p := 6) (u := 7) (ty1 := 3) (ty2 := 4) rfl _ _ _).trans (by go_simp; (try rfl)), rfl, hY.2.2.2.2⟩
  case stop =>
    rintro D c pre W hD ⟨k, hk, hy⟩ ⟨rfl, p, x, rfl, e1, e2, hLB⟩ hK'
    have hv := lastTo_some l0 a1_0 a1_1 a2 hk hy e1 e2
    have hrr := hv.symm.trans HV.out
    obtain ⟨rfl, rfl⟩ := Prod.mk.inj hrr
    have hdd : w.heap.size + 5 ≤ D := by omega
    refine (wpIn_wide (n := 9)).2 ?_
    go_wp2
    refine leaves_marks (fun W => LaB w a1_0 a1_1 a2 (toSp (elS l0 x.1) a1_0 a1_1 a2).1 true W) [D] _ (List.nodup_cons.mpr ⟨List.not_mem_nil, List.nodup_nil⟩) (fun E hE => ?_) (fun E hE Y hY hh => ?_) ?_ (fun Y hY => ?_)
    · obtain rfl := List.mem_singleton.mp hE
      exact hK'
    · obtain rfl := List.mem_singleton.mp hE
      exact hY.grown (B := w.heap.size) (Nat.le_refl _) (grownBy_putObj' Y E (.deferred none)) (fun r e => by cases e; exact ⟨by omega, _, hh, rfl⟩)
    · exact hLB
    · have c6 : Y.cell? ⟨w.heap.size + 1 + 1, 0, none⟩ = some (.int .i64 (toSp (elS l0 x.1) a1_0 a1_1 a2).1) := (blk_cell hY.2.2.1 0).trans rfl
      have c7 : Y.cell? ⟨w.heap.size + 1 + 1 + 1, 0, none⟩ = some (.bool true) := (blk_cell hY.2.2.2.1 0).trans rfl
      exact ⟨_, (results_cells2 (p := 6) (u := 7) (ty1 := 3) (ty2 := 4) rfl _ _ _).trans (by go_simp; (try rfl)), rfl, hY.2.2.2.2⟩
theorem lastTo_last (l : List Spn) (n v : Int) (st : Bool) : ∀ k, k ≤ l.length → lastTo l n v st k = ((((ES st).last (l.take k) n v).getD 0), ((ES st).last (l.take k) n v).isSome)
  | 0, _ => rfl
  | k + 1, hk => by
    have ih := lastTo_last l n v st k (by omega)
    rw [List.take_succ_eq_append_getElem (by omega : k < l.length), (ES st).last_snoc]
    show (if (toSp (elS l k) n v st).2 = true then ((toSp (elS l k) n v st).1, true) else lastTo l n v st k) = _
    rw [ih]
    have e : elS l k = l[k] := getB (by omega)
    rw [e]
    unfold toSp
    cases h : (ES st).to l[k] n v with
    | none => rfl
    | some a => rfl
def SLastSp : Sp := ⟨List Spn × Int × Int × Bool, fun (l, _) => l.length < 1000000000, fun (l, n, v, st) => [aS l, aCode n v, .lit st], fun (l, n, v, st) => rI ((ES st).last l n v)⟩
theorem lastS : SpOK Tryz.prog 24 SLastSp := fun ⟨l, n, v, st⟩ hl => by
  refine ⟨⟨_, Tryz.func24, rfl, rfl⟩, fun w S vs hlt hv => ?_⟩
  have hl : l.length < 1000000000 := hl
  obtain ⟨hlen, hv⟩ := hv
  match vs, hlen with
  | [v0, v1, v2], _ =>
    have r0 := hv 0 _ v0 rfl rfl
    have r1 := hv 1 _ v1 rfl rfl
    have r2 := hv 2 _ v2 rfl rfl
    obtain ⟨A, c, rfl, hc, hcells⟩ := spanCells hlt r0
    obtain rfl : v2 = .bool st := by cases r2; rfl
    obtain ⟨us, rfl, hul, huv⟩ := rv_agg (.st _ _ r1 : RV w S [] _ _)
    match us, hul with
    | [a0, a1], _ =>
      obtain rfl := rv_int (huv 0 _ _ rfl rfl)
      obtain rfl := rv_int (huv 1 _ _ rfl rfl)
      have hrow : rowAt A l.length l w := fun j hj => by
        obtain ⟨ad, e, _, h1, h2, h3, h4⟩ := hcells j hj
        exact ⟨ad, e, h1, h2, h3, h4⟩
      refine (lastWS A c l n v st _ _ w hrow hc hl (lastTo_last l n v st l.length (Nat.le_refl _))).mono ?_
      rintro e w' ⟨rfl, hb⟩
      refine ⟨_, S, rfl, ?_, fun b hb => hb, fun b hb2 => ⟨Nat.lt_of_lt_of_le (hlt b hb2) hb.size, .inl hb2⟩, hb⟩
      rw [List.take_length]
      refine .tup [.int .i64 (((ES st).last l n v).getD 0), .sb ((ES st).last l n v).isSome] [.int .i64 (((ES st).last l n v).getD 0), .bool ((ES st).last l n v).isSome] rfl fun j a u p1 p2 => ?_
      have hj : j < 2 := (List.getElem?_eq_some_iff.1 p1).1
      have hc : j = 0 ∨ j = 1 := by omega
      rcases hc with rfl | rfl
      · obtain rfl := Option.some.inj p1
        obtain rfl := Option.some.inj p2
        exact .int _ _
      · obtain rfl := Option.some.inj p1
        obtain rfl := Option.some.inj p2
        exact .sb _
end Go.Abs.Span
