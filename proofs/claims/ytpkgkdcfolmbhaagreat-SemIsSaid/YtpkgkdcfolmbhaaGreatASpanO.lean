/- span.over, by hand. -/
import Derived.Test.YtpkgkdcfolmbhaaGreatASpanL
import Derived.Test.YtpkgkdcfolmbhaaGreatAbsInsSpan
import Derived.Maps.OwnIn
import Derived.Deep.AppendLies
set_option linter.all false
set_option maxRecDepth 100000
namespace Go.Abs.Span
open Go.RowKit Go.Proofs Go.Abs.Tab Go.Abs.Rc
attribute [local go_sem] Oper.semAt_some
/-! ### Rows of spans of the call's own -/
def cV (y : Spn) : List Value := [.int .i64 y.n, .int .i64 y.lo, .int .i64 y.hi, .int .i64 y.to]
def SR (W : World) (base : Nat) (ok : Nat → Prop) (v : Value) (xs : List Spn) : Prop :=
  (∀ k, v.ownBlock = some k → ok k) ∧ ∃ inner, W.ownsRow base 83 4 v xs.length inner ∧ inner = xs.flatMap cV
theorem cV_len (xs : List Spn) : (xs.flatMap cV).length = xs.length * 4 := by
  induction xs with
  | nil => rfl
  | cons x xs ih => rw [List.flatMap_cons, List.length_append, ih, List.length_cons]; show 4 + _ = _; omega
theorem cV_get {xs : List Spn} : ∀ {i : Nat}, i < xs.length → ∀ j, j < 4 → (xs.flatMap cV)[i * 4 + j]? = (cV (xs.getD i default))[j]? := by
  induction xs with
  | nil => intro i h; cases h
  | cons x xs ih =>
    intro i h j hj
    rw [List.flatMap_cons]
    cases i with
    | zero =>
      rw [List.getElem?_append_left (by show _ < 4; omega), Nat.zero_mul, Nat.zero_add]
      rfl
    | succ i =>
      rw [List.getElem?_append_right (by show 4 ≤ _; omega)]
      rw [show (i + 1) * 4 + j - (cV x).length = i * 4 + j by show (i + 1) * 4 + j - 4 = _; omega]
      rw [ih (by simpa using h) j hj]
      rfl
theorem cV_one (xs : List Spn) : ∀ u ∈ xs.flatMap cV, u.oneCell' = true := by
  intro u hu
  obtain ⟨x, _, hx⟩ := List.mem_flatMap.1 hu
  simp only [cV, List.mem_cons, List.not_mem_nil, or_false] at hx
  rcases hx with rfl | rfl | rfl | rfl <;> rfl
section
variable {w W W' : World} {base : Nat} {ok ok' : Nat → Prop} {v : Value} {xs : List Spn} {row : Option Nat}
theorem blk_grown {w w1 : World} {g : Nat} {o : Obj} {row : Option Nat} (h : w.heap[g]? = some o) (hg : w.grownBy w1 row) (hne : some g ≠ row) : w1.heap[g]? = some o := (hg.block g (blk_lt h) hne).trans h
theorem below_then {w W w2 : World} (h : Below w.heap.size w W) (k : Below W.heap.size W w2) : Below w.heap.size w w2 := h.trans (k.mono h.size)
theorem own_base {w : World} {base : Nat} {e : TypeId} {size n : Nat} {v : Value} {xs : List Value} (h : w.ownsRow base e size v n xs) (k : Nat) (hk : v.ownBlock = some k) : base ≤ k := (h.lt k hk).1
theorem own_typed {w : World} {base : Nat} {e : TypeId} {size n : Nat} {v : Value} {xs : List Value} (h : w.ownsRow base e size v n xs) (k : Nat) (hk : v.ownBlock = some k) : ∃ cells, w.heap[k]? = some (.cells cells e (0, 0)) := by
  rcases h.2 with ⟨rfl, _⟩ | ⟨g, cap, cur, rfl, _, h2, _⟩
  · cases hk
  · obtain rfl := Option.some.inj hk
    exact ⟨_, h2⟩
theorem SR_nil (W : World) (base : Nat) (ok : Nat → Prop) : SR W base ok (.slice none 0 0) [] := ⟨fun k hk => (by simp [Value.ownBlock] at hk), [], World.ownsRow_nil _ _ _ _, rfl⟩
theorem SR_mono (h : SR W base ok v xs) (hok : ∀ k, ok k → ok' k) : SR W base ok' v xs := ⟨fun k hk => hok k (h.1 k hk), h.2⟩
theorem SR_bound (h : SR W base ok v xs) : SR W base (fun k => ok k ∧ base ≤ k ∧ k < W.heap.size ∧ ∃ cells, W.heap[k]? = some (.cells cells 83 (0, 0))) v xs := by
  obtain ⟨h0, inner, h1, h2⟩ := h
  exact ⟨fun k hk => ⟨h0 k hk, (h1.lt k hk).1, (h1.lt k hk).2, own_typed h1 k hk⟩, inner, h1, h2⟩
theorem SR_step (h : SR W base ok v xs) (hk : ∀ k, ok k → k < W.heap.size → W'.heap[k]? = W.heap[k]?) : SR W' base ok v xs := by
  obtain ⟨h0, inner, h1, h2⟩ := h
  refine ⟨h0, inner, ⟨h1.1, ?_⟩, h2⟩
  rcases h1.2 with q | ⟨g, cap, cur, rfl, q1, q2, q3⟩
  · exact .inl q
  · exact .inr ⟨g, cap, cur, rfl, q1, (hk g (h0 g rfl) (Array.getElem?_eq_some_iff.1 q2).1).trans q2, q3⟩
theorem SR_below (h : SR W base ok v xs) (hb : Below W.heap.size W W') : SR W' base ok v xs := SR_step h (fun k _ hk => hb.block k hk)
theorem SR_grown (h : SR W base ok v xs) (hg : W.grownBy W' row) (hok : ∀ k, ok k → some k ≠ row) : SR W' base ok v xs := SR_step h (fun k ho hk => hg.block k hk (hok k ho))
theorem SR_far (h : SR W base ok v xs) {p : Addr} (hok : ∀ k, ok k → k ≠ p.block) (u : Value) : SR (W.setCell p u) base ok v xs := SR_step h (fun k ho _ => Below.heap_setCell W p u k (hok k ho))
theorem SR_ne (h : SR W base ok v xs) {g t : Nat} {cells : Array Value} (hb : W.heap[g]? = some (.cells cells t (0, 0))) (ht : 83 ≠ t) : some g ≠ v.ownBlock := fun e => by
  obtain ⟨_, inner, h1, _⟩ := h
  obtain ⟨cs, hc⟩ := own_typed h1 g e.symm
  rw [hb] at hc
  cases hc
  exact ht rfl
theorem SR_types (h : SR W base ok v xs) {g t : Nat} {cells : Array Value} (hb : W.heap[g]? = some (.cells cells t (0, 0))) (ht : 83 ≠ t) : SR W base (fun k => ok k ∧ k ≠ g) v xs :=
  ⟨fun k hk => ⟨h.1 k hk, fun e => SR_ne h hb ht (e ▸ hk.symm)⟩, h.2⟩
theorem SR_away (h : SR W base ok v xs) {g : Nat} (hok : ∀ k, ok k → k ≠ g) : some g ≠ v.ownBlock := fun e => hok g (h.1 g e.symm) rfl
theorem SR_slice (h : SR W base ok v xs) : ∃ A c, v = .slice A xs.length c := by
  obtain ⟨_, inner, h1, _⟩ := h
  rcases h1.2 with ⟨rfl, h2⟩ | ⟨g, cap, cur, rfl, _⟩
  · exact ⟨none, 0, by rw [h2]⟩
  · exact ⟨_, _, rfl⟩
theorem SR_ent {S : Nat → Prop} (h : SR W base ok v xs) (hS : ∀ b, v.ownBlock = some b → ¬ S b) : Ent W S base [] v (.row 83 4 xs.length (els cSp xs)) := by
  obtain ⟨_, inner, h1, rfl⟩ := h
  refine ⟨⟨_, h1, fun i hi => ⟨rfl, rfl, fun j x hx => ?_⟩⟩, hS⟩
  have hj : j < 4 := (List.getElem?_eq_some_iff.1 hx).1
  rw [cV_get hi j hj]
  have hx2 : (cSp (xs.getD i default))[j]? = some x := hx
  have hc : j = 0 ∨ j = 1 ∨ j = 2 ∨ j = 3 := by omega
  rcases hc with rfl | rfl | rfl | rfl
  all_goals
    obtain rfl := Option.some.inj hx2
    exact ⟨_, rfl, .int _ _⟩
end
theorem fn_arg {W : World} {S : Nat → Prop} (f : FuncId) : RV0 W S (.fn f []) (.func (.func f) #[] #[]) := .fn f [] [] rfl (fun i a v h => by simp at h)
theorem span_arg {W : World} {S : Nat → Prop} (s : Spn) : RV0 W S (.agg (cSp s)) (.agg #[.int .i64 s.n, .int .i64 s.lo, .int .i64 s.hi, .int .i64 s.to]) := by
  refine .agg (cSp s) [.int .i64 s.n, .int .i64 s.lo, .int .i64 s.hi, .int .i64 s.to] rfl fun j a v p1 p2 => ?_
  have hj : j < 4 := (List.getElem?_eq_some_iff.1 p1).1
  have hc : j = 0 ∨ j = 1 ∨ j = 2 ∨ j = 3 := by omega
  rcases hc with rfl | rfl | rfl | rfl
  all_goals
    obtain rfl := Option.some.inj p1
    obtain rfl := Option.some.inj p2
    exact .int _ _
/-- Where it goes, at a row of the call's own. -/
theorem bin_any {W : World} {base : Nat} {ok : Nat → Prop} {v : Value} {xs : List Spn} (h : SR W base ok v xs) (s : Spn) (k : Nat) (ht : turns xs s k) :
    Calls Tryz.prog 50 #[v, .agg #[.int .i64 s.n, .int .i64 s.lo, .int .i64 s.hi, .int .i64 s.to], .func (.func 51) #[] #[]] W fun e w' => (∃ b, e = .returned (.tuple #[.int .i64 (k : Int), .bool b])) ∧ Below W.heap.size W w' := by
  have hown : ∀ b, v.ownBlock = some b → b < W.heap.size := fun b hb => by
    obtain ⟨_, inner, h1, _⟩ := h
    exact (h1.lt b hb).2
  refine ((bin (xs, s, k) ht).2 W (fun b => v.ownBlock = some b) [v, .agg #[.int .i64 s.n, .int .i64 s.lo, .int .i64 s.hi, .int .i64 s.to], .func (.func 51) #[] #[]] hown ⟨rfl, fun i a u q1 q2 => ?_⟩).mono ?_
  · match i, q1, q2 with
    | 0, q1, q2 =>
      obtain rfl := Option.some.inj q1
      obtain rfl := Option.some.inj q2
      exact row_sl (SR_ent (S := fun _ => False) h (fun _ _ h => h)) (fun _ hb => hb.elim) (fun _ hb => hb)
    | 1, q1, q2 =>
      obtain rfl := Option.some.inj q1
      obtain rfl := Option.some.inj q2
      exact span_arg s
    | 2, q1, q2 =>
      obtain rfl := Option.some.inj q1
      obtain rfl := Option.some.inj q2
      exact fn_arg _
  · rintro e w' ⟨r, S', rfl, hr, _, _, hb⟩
    refine ⟨?_, hb⟩
    obtain ⟨vs, rfl, hl, hv⟩ := rv_tup (.st _ _ hr : RV w' S' [] _ _)
    match vs, hl with
    | [a0, a1], _ =>
      have e0 := rv_int (hv 0 _ _ rfl rfl)
      have e1 := rv_sb (hv 1 _ _ rfl rfl)
      rw [e0, e1]
      exact ⟨_, rfl⟩
attribute [local go_sem] Oper.semAt_some
theorem leftS_len (x s : Spn) (step : Bool) : (leftS x s step).length ≤ 2 := by
  unfold leftS
  repeat' split
  all_goals simp
theorem gathered_len (s : Spn) (step : Bool) : ∀ l : List Spn, (l.flatMap fun x => leftS x s step).length ≤ 2 * l.length
  | [] => by simp
  | x :: l => by
    have := gathered_len s step l
    have := leftS_len x s step
    rw [List.flatMap_cons, List.length_append, List.length_cons]
    omega
def marks (Dl : List Nat) : List Deferred := Dl.map fun D => { target := .collected D, args := #[] }
/-- A function leaves over marks of loops without deferred calls. -/
theorem leaves_marks {F : Fence} {n : Nat} {P : Program} {fn : Func} {tmps : Array Value} {R : Ending → World → Prop} (Q : World → Prop) : ∀ (Dl : List Nat) (W : World), Dl.Nodup → (∀ D ∈ Dl, W.heap[D]? = some (.deferred (some []))) →
    (∀ D ∈ Dl, ∀ W, Q W → W.heap[D]? = some (.deferred (some [])) → Q (W.putObj D (.deferred none))) → Q W → (∀ W, Q W → LeavesIn F n P fn tmps R [] .returning W) → LeavesInM F n P fn tmps R (marks Dl) .returning W
  | [], W, _, _, _, h, hend => hend W h
  | D :: Dl, W, hn, hh, hs, h, hend => by
    have hD := hh D List.mem_cons_self
    refine ⟨by simp, .inl ⟨D, W.putObj D (.deferred none), rfl, run_takeDeferred hD, ?_⟩⟩
    refine leaves_marks Q Dl _ (List.nodup_cons.mp hn).2 (fun E hE => ?_) (fun E hE => hs E (List.mem_cons_of_mem _ hE)) (hs D List.mem_cons_self W h hD) hend
    have hne : E ≠ D := fun e => (List.nodup_cons.mp hn).1 (e ▸ hE)
    exact (World.putObj_heap_other hne).trans (hh E (List.mem_cons_of_mem _ hE))
theorem own_R {W W' : World} {base : Nat} {ok : Nat → Prop} {v : Value} {xs : List Spn} {row : Option Nat} (h : SR W base ok v xs) (hg : W.grownBy W' row)
    (hr : ∀ r, row = some r → ∃ o : Obj, W.heap[r]? = some o ∧ o.isCells = false) : SR W' base ok v xs :=
  SR_mono (SR_grown (SR_bound h) hg (fun k hk e => by
    obtain ⟨_, _, _, cells, hc⟩ := hk
    obtain ⟨o, ho, hn⟩ := hr k e.symm
    rw [hc] at ho
    cases ho
    exact absurd hn (by simp [Obj.isCells]))) (fun _ hk => hk.1)
theorem own_blk {W W' : World} {row : Option Nat} {g t : Nat} {cs : Array Value} {fr : Nat × Nat} (h : W.heap[g]? = some (.cells cs t fr)) (hg : W.grownBy W' row)
    (hr : ∀ r, row = some r → ∃ o : Obj, W.heap[r]? = some o ∧ o.isCells = false) : W'.heap[g]? = some (.cells cs t fr) := (grownBy_keeps_cells hg hr h rfl).trans h
/-- 'append', in a round. -/
theorem R_append_in {F : Fence} {nF : Nat} {ops : Array Oper} {rest : List Oper} {o : Oper} {a : Act} {Q : Exit → Act → World → Prop} {W : World} (base : Nat) (hgd : o.guard = none) (s x : Operand)
    (ho : o.op = .call { callee := .builtin .append, args := #[s, x], argTypes := #[23, 23] })
    (v : Value) (xs : List Spn) (p : Spn) (ok : Nat → Prop) (hs : a.eval s = v) (hx : a.eval x = .slice (some ⟨W.heap.size, 0, none⟩) 1 1) (hfresh : ∀ k, W.heap.size ≤ k → ok k)
    (HO : SR W base ok v xs) (hbase : base ≤ W.heap.size) (hl : (xs.length + 1) * 32 ≤ 140737488355328)
    (h : ∀ v1 w1, SR w1 base ok v1 (xs ++ [p]) → W.grownBy w1 v.ownBlock → (v1.ownBlock = v.ownBlock ∨ ∃ b, v1.ownBlock = some b ∧ W.heap.size ≤ b) → wpListIn F nF Tryz.prog ops Q rest (a.put o.dst v1) w1) :
    wpListIn F nF Tryz.prog ops Q (o :: rest) a (W.alloc (.cells (cV p).toArray 83)) := by
  obtain ⟨h0, inner, hown, hr⟩ := HO
  obtain ⟨i0, hi, hzz⟩ := Option.map_eq_some_iff.1 InsSpan.info_
  simp only [Prod.mk.injEq] at hzz
  obtain ⟨hz0, hz1, hz2⟩ := hzz
  have hone : ∀ u ∈ cV p, u.oneCell' = true := fun u hu => cV_one [p] u (by simpa using hu)
  refine wpListIn_append_own_at (w := W.alloc (.cells (cV p).toArray 83)) hgd s x 23 ho base 83 i0 (.agg #[.int .i64 0, .int .i64 0, .int .i64 0, .int .i64 0]) 4 32 Tryz.underlying23 hi hz0 hz1 hz2 rfl (by decide) v xs.length inner hs (hown.alloc _) ⟨W.heap.size, 0, none⟩ 1 1 (cV p) hx rfl
    (by simpa using World.news_of_block (cs := (cV p).toArray) (t := 83) (fr := (0, 0)) (heap_alloc_new W (.cells (cV p).toArray 83))) hone (by simp only [maxLen]; omega) hl (by simp; omega) ?_
  intro v1 w1 hown1 hg _ hat
  have hg1 := World.grownBy.trans (World.grownBy_alloc W (.cells (cV p).toArray 83) _) hg
  have hat1 : v1.ownBlock = v.ownBlock ∨ ∃ b, v1.ownBlock = some b ∧ W.heap.size ≤ b := by
    rcases hat with hat | hat
    · exact .inl hat
    · exact .inr ⟨_, hat, by simp⟩
  refine h v1 w1 ⟨fun k hk => ?_, inner ++ cV p, by rw [List.length_append]; exact hown1, by rw [hr, List.flatMap_append]; simp⟩ hg1 hat1
  rcases hat1 with q | ⟨b, q, hb⟩
  · exact h0 k (q ▸ hk)
  · rw [q] at hk
    obtain rfl := Option.some.inj hk
    exact hfresh _ hb
/-- slices.Insert of one, at a row of the call's own. -/
theorem ins_any {w0 W : World} (base i : Nat) (v : Value) (xs : List Spn) (p : Spn) (ok : Nat → Prop) (hi : i ≤ xs.length) (hfresh : ∀ k, W.heap.size ≤ k → ok k)
    (HO : SR W base ok v xs) (HB : Below base w0 W) (hl : xs.length < 4294967296) (hbase : base ≤ W.heap.size) :
    Calls Tryz.prog 136 #[v, .int .i64 (i : Int), .slice (some ⟨W.heap.size, 0, none⟩) 1 1] (W.alloc (.cells (cV p).toArray 83)) fun e w' => ∃ v1, e = .returned v1 ∧ SR w' base ok v1 (xs.take i ++ p :: xs.drop i) ∧ Below base w0 w' ∧ W.grownBy w' v.ownBlock := by
  obtain ⟨h0, inner, hown, hr⟩ := HO
  have hne : some W.heap.size ≠ v.ownBlock := fun e => Nat.lt_irrefl _ (hown.lt _ e.symm).2
  refine (InsSpan.ok.2.2 (W.alloc (.cells (cV p).toArray 83)) base v xs.length i W.heap.size 1 inner (cV p) (cV p).toArray hi (hown.alloc _) (by rw [hr]; exact cV_one xs) (heap_alloc_new W _) rfl hne rfl (fun u hu => cV_one [p] u (by simpa using hu)) (by simp; omega) hl).mono ?_
  rintro e w' ⟨v1, rfl, h1, h2, h3⟩
  have hg := World.grownBy.trans (World.grownBy_alloc W (.cells (cV p).toArray 83) _) h2
  refine ⟨v1, rfl, ⟨fun k hk => ?_, inner.take (i * 4) ++ (cV p ++ inner.drop (i * 4)), ?_, ?_⟩, HB.grown hg hbase (fun k hk => (hown.lt k hk).1), hg⟩
  · rcases h3 with q | q
    · exact h0 k (q ▸ hk)
    · rw [q] at hk
      obtain rfl := Option.some.inj hk
      exact hfresh _ (by simp)
  · rw [List.length_append, List.length_cons, List.length_take, List.length_drop, show min i xs.length + (xs.length - i + 1) = xs.length + 1 by omega]
    exact h1
  · rw [hr, List.flatMap_append, List.flatMap_cons]
    have key : ∀ (xs : List Spn) (i : Nat), (xs.flatMap cV).take (i * 4) = (xs.take i).flatMap cV ∧ (xs.flatMap cV).drop (i * 4) = (xs.drop i).flatMap cV := by
      intro xs
      induction xs with
      | nil => intro i; simp
      | cons x xs ih =>
        intro i
        cases i with
        | zero => simp
        | succ i =>
          have e : (i + 1) * 4 = (cV x).length + i * 4 := by show _ = 4 + _; omega
          rw [List.flatMap_cons, e, List.take_length_add_append, List.drop_length_add_append]
          simp [(ih i).1, (ih i).2]
    rw [(key xs i).1, (key xs i).2]
/-- What the loop over a span's parts keeps. -/
def OvI (ok : Nat → Prop) (gs go B : Nat) (w : World) (sv : Array Value) (acc : List Spn) (Dl : List Nat) (pre : List Spn) (W : World) : Prop :=
  B ≤ W.heap.size ∧ W.heap[gs]? = some (.cells sv 83 (0, 0)) ∧ (∃ v, W.heap[go]? = some (.cells #[v] 23 (0, 0)) ∧ SR W w.heap.size ok v (acc ++ pre)) ∧ (∀ D ∈ Dl, W.heap[D]? = some (.deferred (some []))) ∧ Below w.heap.size w W
theorem OvI.own {ok : Nat → Prop} {gs go B : Nat} {w : World} {sv : Array Value} {acc : List Spn} {Dl : List Nat} (hw : w.heap.size ≤ B) (hD : ∀ D ∈ Dl, D < B) : OwnFrom B (OvI ok gs go B w sv acc Dl) := by
  rintro pre X Y row ⟨h1, h2, ⟨v, h3, h4⟩, h5, h6⟩ hg hr
  have hr2 : ∀ r, row = some r → ∃ o : Obj, X.heap[r]? = some o ∧ o.isCells = false := fun r e => (hr r e).2
  refine ⟨Nat.le_trans h1 hg.size, own_blk h2 hg hr2, ⟨v, own_blk h3 hg hr2, own_R h4 hg hr2⟩, fun D hd => ?_, h6.grown hg (Nat.le_trans hw h1) (fun k e => Nat.le_trans hw (hr k e).1)⟩
  have := hD D hd
  exact (hg.block D (by omega) (fun e => by have := (hr D e.symm).1; omega)).trans (h5 D hd)
/-- A block that is no row of the gathered ones, and not their variable, lies as it lay behind the body. -/
theorem body_block {ok : Nat → Prop} {go k : Nat} {W w1 : World} {base : Nat} {v v1 : Value} {xs : List Spn} (hR : SR W base ok v xs) (hg : W.grownBy w1 v.ownBlock) (hk : k < W.heap.size) (hne : k ≠ go) (hok : ∀ j, ok j → j ≠ k) :
    (w1.setCell ⟨go, 0, none⟩ v1).heap[k]? = W.heap[k]? :=
  (Below.heap_setCell w1 ⟨go, 0, none⟩ v1 k hne).trans (hg.block k hk (SR_away hR hok))
theorem OvI.body {ok : Nat → Prop} {gs go B : Nat} {w : World} {sv : Array Value} {acc : List Spn} {Dl : List Nat} {pre : List Spn} {W w1 : World} {v v1 : Value} {y : Spn} (hok : ∀ k, ok k → k ≠ gs) (hsg : gs ≠ go) (hgo : w.heap.size ≤ go) (hwB : w.heap.size ≤ B) (hI : OvI ok gs go B w sv acc Dl pre W)
    (hv : W.heap[go]? = some (.cells #[v] 23 (0, 0))) (hR : SR W w.heap.size ok v (acc ++ pre))
    (hR1 : SR w1 w.heap.size ok v1 (acc ++ pre ++ [y])) (hg : W.grownBy w1 v.ownBlock) : OvI ok gs go B w sv acc Dl (pre ++ [y]) (w1.setCell ⟨go, 0, none⟩ v1) := by
  obtain ⟨h1, h2, _, h5, h6⟩ := hI
  have hgs : gs < W.heap.size := (Array.getElem?_eq_some_iff.1 h2).1
  have hgo1 := blk_grown hv hg (SR_ne hR hv (by decide))
  have hsz : (w1.setCell ⟨go, 0, none⟩ v1).heap.size = w1.heap.size := by unfold World.setCell; split <;> simp
  refine ⟨by rw [hsz]; exact Nat.le_trans h1 hg.size, (body_block hR hg hgs hsg hok).trans h2, ⟨v1, blk_put (cs := #[v]) hgo1 0 _ rfl, ?_⟩, fun D hd => ?_, ?_⟩
  · rw [← List.append_assoc]
    exact SR_mono (SR_far (p := ⟨go, 0, none⟩) (SR_types hR1 hgo1 (by decide)) (fun _ h => h.2) _) (fun _ h => h.1)
  · have hDl : D < W.heap.size := (Array.getElem?_eq_some_iff.1 (h5 D hd)).1
    have h9 := h5 D hd
    have e1 : D ≠ go := fun e => by
      rw [e, hv] at h9
      cases h9
    obtain ⟨_, inner, hown, _⟩ := hR
    refine (Below.heap_setCell w1 ⟨go, 0, none⟩ v1 D e1).trans ((hg.block D hDl (fun e => ?_)).trans h9)
    obtain ⟨cells, hc⟩ := own_typed hown D e.symm
    rw [hc] at h9
    cases h9
  · exact (h6.grown hg (Nat.le_trans hwB h1) (own_base hR.2.choose_spec.1)).setCell (p := ⟨go, 0, none⟩) hgo _
set_option maxRecDepth 100000 in
set_option maxHeartbeats 4000000 in
theorem overW (A0 : Option Addr) (c0 : Nat) (l0 : List Spn) (s0 s1 s2 s3 : Int) (step : Bool) (w : World) (hr0 : ∀ i, i < l0.length → ∃ ad, A0 = some ad ∧ ad.block < w.heap.size ∧ w.cell? (ad.add (i * 4)) = some (.int .i64 (l0.getD i default).n) ∧ w.cell? ⟨(ad.add (i * 4)).block, (ad.add (i * 4)).off + 1, none⟩ = some (.int .i64 (l0.getD i default).lo) ∧ w.cell? ⟨(ad.add (i * 4)).block, (ad.add (i * 4)).off + 2, none⟩ = some (.int .i64 (l0.getD i default).hi) ∧ w.cell? ⟨(ad.add (i * 4)).block, (ad.add (i * 4)).off + 3, none⟩ = some (.int .i64 (l0.getD i default).to)) (hc0 : l0.length ≤ c0) (fi : Nat) (hfi : turns (l0.flatMap fun x => leftS x ⟨s0, s1, s2, s3⟩ step) ⟨s0, s1, s2, s3⟩ fi) (hl : l0.length < 1073741824) (hs : smallS ⟨s0, s1, s2, s3⟩) (ha : ∀ x ∈ l0, smallS x) :
    Calls Tryz.prog 108 #[.slice A0 l0.length c0, .agg #[.int .i64 s0, .int .i64 s1, .int .i64 s2, .int .i64 s3], .bool step] w fun e w' => ∃ v0_ : Value, e = .returned (v0_) ∧ SR w' w.heap.size (fun _ => True) v0_ ((l0.flatMap fun x => leftS x ⟨s0, s1, s2, s3⟩ step).take fi ++ ⟨s0, s1, s2, s3⟩ :: (l0.flatMap fun x => leftS x ⟨s0, s1, s2, s3⟩ step).drop fi) ∧ Below w.heap.size w w' := by
  have HR0 := Aside0.mk hr0
  have HC0 := Aside0.mk hc0
  have HL := Aside0.mk hl
  have HS := Aside0.mk hs
  have HA := Aside0.mk ha
  have HFT := Aside0.mk hfi
  have HB := Aside0.mk (Below.refl w.heap.size w)
  have hu := Tryz.underlying83
  clear hr0 hc0 hl hs ha hfi
  refine callsIn_wide.1 (callsIn_of_wp_marks (F := Fence.wide) (n := 9) Tryz.func108 rfl trivial (wpIn_wide.2 ?_))
  simp only [Tryz.ntmps108, List.size_toArray, List.length_cons, List.length_nil, Nat.reduceAdd, Nat.reduceSub, Array.replicate_succ, Array.replicate_zero, List.push_toArray, List.append_toArray, List.nil_append, List.cons_append]
  go_wp2
  refine wp_loop_ghost_k (fun kq a w' => ∃ (i : Nat) (v u9 u10 u16 u17 u18 u19 u20 u21 u22 u23 u24 u25 u26 u27 u28 : Value) (Dl : List Nat), a = { tmps := #[.slice A0 l0.length c0, .agg #[.int .i64 s0, .int .i64 s1, .int .i64 s2, .int .i64 s3], .bool step, undef, .pointer (some ⟨w.heap.size, 0, none⟩), undef, .slice none 0 0, .pointer (some ⟨w.heap.size + 1, 0, none⟩), undef, u9, u10, undef, undef, .slice A0 l0.length c0, .int .i64 (l0.length : Int), .int .i64 (i : Nat), u16, u17, u18, u19, u20, u21, u22, u23, u24, u25, u26, u27, u28, undef, undef, undef, undef, undef, undef, undef, undef, undef, undef, undef], defers := marks Dl } ∧ Aside0 (i ≤ l0.length ∧ l0.length + 1 ≤ kq + i) ∧ Aside0 (w'.heap[w.heap.size]? = some (.cells #[.int .i64 s0, .int .i64 s1, .int .i64 s2, .int .i64 s3] 83 (0, 0))) ∧ Aside0 (w'.heap[w.heap.size + 1]? = some (.cells #[v] 23 (0, 0))) ∧ Aside0 (SR w' w.heap.size (fun k => k ≠ w.heap.size) v ((l0.take i).flatMap fun x => leftS x ⟨s0, s1, s2, s3⟩ step)) ∧ Aside0 (Below w.heap.size w w') ∧ Aside0 (Dl.Nodup ∧ ∀ D ∈ Dl, w.heap.size + 2 ≤ D ∧ w'.heap[D]? = some (.deferred (some [])))) (l0.length + 1) ?start ?round
  case start =>
    exact ⟨0, .slice none 0 0, undef, undef, undef, undef, undef, undef, undef, undef, undef, undef, undef, undef, undef, undef, undef, [], rfl, ⟨by omega⟩, ⟨(Below.heap_alloc _ _ _ (by simp)).trans (heap_alloc_new w _)⟩, ⟨by simpa using heap_alloc_new (w.alloc (.cells #[.int .i64 s0, .int .i64 s1, .int .i64 s2, .int .i64 s3] 83)) (.cells #[.slice none 0 0] 23)⟩, ⟨SR_nil _ _ _⟩, ⟨((Below.refl _ w).alloc (Nat.le_refl _) _).alloc (by simp) _⟩, ⟨List.nodup_nil, fun D h => by cases h⟩⟩
  case round =>
    rintro kq a wr ⟨i, v, u9, u10, u16, u17, u18, u19, u20, u21, u22, u23, u24, u25, u26, u27, u28, Dl, rfl, HI, BKs, BKo, HO, HB, HD⟩ J K hJ hK
    by_cases hi : i < l0.length
    · obtain ⟨ad, ead, hadl, hx0, hx1, hx2, hx3⟩ := HR0.out i hi
      subst ead
      have hcell : ∀ p : Addr, p.block = ad.block → wr.cell? p = w.cell? p := fun p hp => World.cell?_of_block (HB.out.block _ (by rw [hp]; exact hadl))
      replace hx0 := (hcell _ (Go.Abs.add_block ad (i * 4))).trans hx0
      replace hx1 := (hcell ⟨(ad.add (i * 4)).block, (ad.add (i * 4)).off + 1, none⟩ (Go.Abs.add_block ad (i * 4))).trans hx1
      replace hx2 := (hcell ⟨(ad.add (i * 4)).block, (ad.add (i * 4)).off + 2, none⟩ (Go.Abs.add_block ad (i * 4))).trans hx2
      replace hx3 := (hcell ⟨(ad.add (i * 4)).block, (ad.add (i * 4)).off + 3, none⟩ (Go.Abs.add_block ad (i * 4))).trans hx3
      clear hcell
      have hs0 : wr.cell? ⟨w.heap.size, 0, none⟩ = some (.int .i64 s0) := (blk_cell BKs.out 0).trans rfl
      have hs1 : wr.cell? ⟨w.heap.size, 1, none⟩ = some (.int .i64 s1) := (blk_cell BKs.out 1).trans rfl
      have hs2 : wr.cell? ⟨w.heap.size, 2, none⟩ = some (.int .i64 s2) := (blk_cell BKs.out 2).trans rfl
      have hs3 : wr.cell? ⟨w.heap.size, 3, none⟩ = some (.int .i64 s3) := (blk_cell BKs.out 3).trans rfl
      have hn1 : w.heap.size < wr.heap.size := (Array.getElem?_eq_some_iff.1 BKs.out).1
      have p0 : (0 ≤ (i : Int)) = True := eq_true (by omega)
      have p1 : ((i : Int) < (l0.length : Int)) = True := eq_true (by omega)
      have hxs : smallS ((l0.getD i default)) := by rw [getB hi]; exact HA.out _ (List.getElem_mem hi)
      have htk : ((l0.take (i + 1)).flatMap fun x => leftS x ⟨s0, s1, s2, s3⟩ step) = ((l0.take i).flatMap fun x => leftS x ⟨s0, s1, s2, s3⟩ step) ++ leftS ((l0.getD i default)) ⟨s0, s1, s2, s3⟩ step := by
        rw [List.take_succ_eq_append_getElem hi, List.flatMap_append, getB hi]
        simp
      have hacl := gathered_len ⟨s0, s1, s2, s3⟩ step (l0.take i)
      rw [List.length_take] at hacl
      have HTK := Aside0.mk htk
      clear htk
      generalize (l0.getD i default) = x at *
      have HXS := Aside0.mk hxs
      have HAL := Aside0.mk hacl
      clear hxs hacl
      go_wp2_with (go_at_call 135; refine (left_calls x ⟨s0, s1, s2, s3⟩ step _).mono ?_; rintro e W2 ⟨rfl, rfl⟩)
      obtain ⟨W5, hW5⟩ : ∃ W5, W5 = (((wr.alloc (.cells #[.int .i64 x.n, .int .i64 x.lo, .int .i64 x.hi, .int .i64 x.to] 83)).alloc (.cells #[.int .i64 x.n, .int .i64 x.lo, .int .i64 x.hi, .int .i64 x.to] 83)).alloc (.cells #[.int .i64 s0, .int .i64 s1, .int .i64 s2, .int .i64 s3] 83)).alloc (.cells #[.bool step] 4) := ⟨_, rfl⟩
      rw [← hW5]
      have hsz5 : W5.heap.size = wr.heap.size + 4 := by rw [hW5]; simp
      have hbel5 : Below wr.heap.size wr W5 := by rw [hW5]; exact (((((Below.refl _ wr).alloc (Nat.le_refl _) _).alloc (by simp) _).alloc (by simp; omega) _).alloc (by simp; omega) _)
      have ha5 : W5.heap[wr.heap.size + 1]? = some (.cells #[.int .i64 x.n, .int .i64 x.lo, .int .i64 x.hi, .int .i64 x.to] 83 (0, 0)) := by
        rw [hW5]
        refine (Below.heap_alloc _ _ _ (by simp)).trans ((Below.heap_alloc _ _ _ (by simp)).trans ?_)
        simpa using heap_alloc_new (wr.alloc (.cells #[.int .i64 x.n, .int .i64 x.lo, .int .i64 x.hi, .int .i64 x.to] 83)) (.cells #[.int .i64 x.n, .int .i64 x.lo, .int .i64 x.hi, .int .i64 x.to] 83)
      have hb5 : W5.heap[wr.heap.size + 1 + 1]? = some (.cells #[.int .i64 s0, .int .i64 s1, .int .i64 s2, .int .i64 s3] 83 (0, 0)) := by
        rw [hW5]
        refine (Below.heap_alloc _ _ _ (by simp)).trans ?_
        simpa using heap_alloc_new ((wr.alloc (.cells #[.int .i64 x.n, .int .i64 x.lo, .int .i64 x.hi, .int .i64 x.to] 83)).alloc (.cells #[.int .i64 x.n, .int .i64 x.lo, .int .i64 x.hi, .int .i64 x.to] 83)) (.cells #[.int .i64 s0, .int .i64 s1, .int .i64 s2, .int .i64 s3] 83)
      have hc5 : W5.heap[wr.heap.size + 1 + 2]? = some (.cells #[.bool step] 4 (0, 0)) := by
        rw [hW5]
        simpa using heap_alloc_new (((wr.alloc (.cells #[.int .i64 x.n, .int .i64 x.lo, .int .i64 x.hi, .int .i64 x.to] 83)).alloc (.cells #[.int .i64 x.n, .int .i64 x.lo, .int .i64 x.hi, .int .i64 x.to] 83)).alloc (.cells #[.int .i64 s0, .int .i64 s1, .int .i64 s2, .int .i64 s3] 83)) (.cells #[.bool step] 4)
      clear hW5 hx0 hx1 hx2 hx3 hs0 hs1 hs2 hs3
      obtain ⟨acc, hacc⟩ : ∃ acc, acc = ((l0.take i).flatMap fun x => leftS x ⟨s0, s1, s2, s3⟩ step) := ⟨_, rfl⟩
      rw [← hacc] at HO HTK HAL
      have HACC := Aside0.mk hacc
      clear hacc
      have hI0 : OvI (fun k => k ≠ w.heap.size ∧ k ≠ wr.heap.size + 1 ∧ k ≠ wr.heap.size + 1 + 1 ∧ k ≠ wr.heap.size + 1 + 2) w.heap.size (w.heap.size + 1) W5.heap.size w #[.int .i64 s0, .int .i64 s1, .int .i64 s2, .int .i64 s3] acc Dl [] W5 := by
        have hgl : w.heap.size + 1 < wr.heap.size := (Array.getElem?_eq_some_iff.1 BKo.out).1
        refine ⟨Nat.le_refl _, (hbel5.block _ hn1).trans BKs.out, ⟨v, (hbel5.block _ hgl).trans BKo.out, ?_⟩, fun D hd => (hbel5.block D (Array.getElem?_eq_some_iff.1 (HD.out.2 D hd).2).1).trans (HD.out.2 D hd).2, below_then HB.out hbel5⟩
        rw [List.append_nil]
        exact SR_mono (SR_below (SR_bound HO.out) hbel5) (fun k hk => ⟨hk.1, by have := hk.2.2.1; omega, by have := hk.2.2.1; omega, by have := hk.2.2.1; omega⟩)
      have hwB : w.heap.size ≤ W5.heap.size := by omega
      have hDB : ∀ D ∈ Dl, D < W5.heap.size := fun D hd => by have := (Array.getElem?_eq_some_iff.1 (HD.out.2 D hd).2).1; omega
      refine (wpIn_wide (n := 9)).1 (wpIn_rangeFunc_ownH (F := Fence.wide) (n := 9) rfl (by decide) (gf := 157) (lb := #[.pointer (some ⟨wr.heap.size + 1, 0, none⟩), .pointer (some ⟨wr.heap.size + 1 + 1, 0, none⟩), .pointer (some ⟨wr.heap.size + 1 + 2, 0, none⟩)]) rfl trivial (enters_of Tryz.func157 (by kernel_rfl) rfl)
        (left_stops 8 (by decide) _ _ _ x ⟨s0, s1, s2, s3⟩ step HXS.out HS.out W5 ha5 hb5 hc5) (fun h k => Kp3.trans h k)
        (fun W l o o' hl h _ _ => ⟨World.putObj_heap_other (by omega), World.putObj_heap_other (by omega), World.putObj_heap_other (by omega)⟩) (Below.refl _ _) (fun _ => rfl)
        (OvI (fun k => k ≠ w.heap.size ∧ k ≠ wr.heap.size + 1 ∧ k ≠ wr.heap.size + 1 + 1 ∧ k ≠ wr.heap.size + 1 + 2) w.heap.size (w.heap.size + 1) W5.heap.size w #[.int .i64 s0, .int .i64 s1, .int .i64 s2, .int .i64 s3] acc Dl) (fun _ _ _ => False) (OvI.own hwB hDB) (fun _ _ _ _ _ hs _ _ => hs) hI0
        (fun y a' W => ∃ Bx, W5.heap.size ≤ Bx ∧ W.heap[Bx]? = some (.cells #[.int .i64 y.n, .int .i64 y.lo, .int .i64 y.hi, .int .i64 y.to] 83 (0, 0)) ∧ a' = { tmps := #[.slice (some ad) l0.length c0, .agg #[.int .i64 s0, .int .i64 s1, .int .i64 s2, .int .i64 s3], .bool step, undef, .pointer (some ⟨w.heap.size, 0, none⟩), undef, .slice none 0 0, .pointer (some ⟨w.heap.size + 1, 0, none⟩), undef, .pointer (some ⟨wr.heap.size, 0, none⟩), .pointer (some ⟨Bx, 0, none⟩), undef, undef, .slice (some ad) l0.length c0, .int .i64 (l0.length : Int), .int .i64 (i : Nat), .bool true, .pointer (some (ad.add (i * 4))), .agg #[.int .i64 x.n, .int .i64 x.lo, .int .i64 x.hi, .int .i64 x.to], .agg #[.int .i64 x.n, .int .i64 x.lo, .int .i64 x.hi, .int .i64 x.to], .agg #[.int .i64 s0, .int .i64 s1, .int .i64 s2, .int .i64 s3], .bool step, .func (.func 157) #[] #[.pointer (some ⟨wr.heap.size + 1, 0, none⟩), .pointer (some ⟨wr.heap.size + 1 + 1, 0, none⟩), .pointer (some ⟨wr.heap.size + 1 + 2, 0, none⟩)], .agg #[.int .i64 y.n, .int .i64 y.lo, .int .i64 y.hi, .int .i64 y.to], u24, u25, u26, u27, u28, undef, undef, undef, undef, undef, undef, undef, undef, undef, undef, undef], defers := [] })
        (fun y a' _ X Y row hs hg hr => by
          obtain ⟨Bx, h1, h2, h3⟩ := hs
          exact ⟨Bx, h1, own_blk h2 hg (fun r e => (hr r e).2), h3⟩) ?assign ?body ?done ?stop)
      case assign =>
        intro l pre y W K2 hI hK2
        gi_wp2
        exact hK2 _ _ ((KeepsOthers.alloc _ _).from _) ⟨Below.heap_alloc _ _ _ (by have := hI.1; omega), Below.heap_alloc _ _ _ (by have := hI.1; omega), Below.heap_alloc _ _ _ (by have := hI.1; omega)⟩ (OvI.own hwB hDB pre W _ none hI (World.grownBy_alloc W _ _) (fun r e => by cases e)) ⟨W.heap.size, hI.1, heap_alloc_new W _, rfl⟩
      case body =>
        rintro l pre y a' W hl ⟨r, hr⟩ hI ⟨Bx, hBx, bX, rfl⟩ hlt
        have HI2 := Aside0.mk hI
        obtain ⟨h1, _, ⟨v', h3, h4⟩, _, h6⟩ := hI
        have hy0 : W.cell? ⟨Bx, 0, none⟩ = some (.int .i64 y.n) := (blk_cell bX 0).trans rfl
        have hy1 : W.cell? ⟨Bx, 1, none⟩ = some (.int .i64 y.lo) := (blk_cell bX 1).trans rfl
        have hy2 : W.cell? ⟨Bx, 2, none⟩ = some (.int .i64 y.hi) := (blk_cell bX 2).trans rfl
        have hy3 : W.cell? ⟨Bx, 3, none⟩ = some (.int .i64 y.to) := (blk_cell bX 3).trans rfl
        have hco : W.cell? ⟨w.heap.size + 1, 0, none⟩ = some v' := (blk_cell h3 0).trans rfl
        have H3 := Aside0.mk h3
        have H4 := Aside0.mk h4
        have H1 := Aside0.mk h1
        have HLT := Aside0.mk hlt
        clear h3 h4 h1 hlt h6 hr hl
        gi_wp2_with (gi_at_builtin; refine R_append_in w.heap.size rfl (.tmp 24) (.tmp 26) rfl v' (acc ++ pre) y (fun k => k ≠ w.heap.size ∧ k ≠ wr.heap.size + 1 ∧ k ≠ wr.heap.size + 1 + 1 ∧ k ≠ wr.heap.size + 1 + 2) rfl rfl (fun k hk => by have := H1.out; refine ⟨?_, ?_, ?_, ?_⟩ <;> omega) H4.out (by have := H1.out; omega) (by have := HAL.out; have := HLT.out; have := HL.out; rw [List.length_append]; omega) ?_; intro v1 w1 hR1 hg1 hat1; have hgo1 := blk_grown H3.out hg1 (SR_ne H4.out H3.out (by decide)); have hc1 := (blk_cell hgo1 0).trans rfl; have hf1 := blk_frozen hgo1 0; obtain ⟨Av, cv, ev⟩ := SR_slice hR1; subst ev; obtain ⟨m, hm⟩ : ∃ m, m = (acc ++ pre ++ [y]).length := ⟨_, rfl⟩; rw [← hm] at hR1 ⊢; clear hm; have HR1 := Aside0.mk hR1; have HG1 := Aside0.mk hg1; clear hR1 hg1 hat1 hgo1)
        have hz1 := H1.out
        refine ⟨((KeepsOthers.of_grownBy HG1.out (fun j o e ho => ?_)).trans (KeepsOthers.setCell _ _ _)).from _, ⟨body_block H4.out HG1.out (by omega) (by omega) (fun j h => h.2.1), body_block H4.out HG1.out (by omega) (by omega) (fun j h => h.2.2.1), body_block H4.out HG1.out (by omega) (by omega) (fun j h => h.2.2.2)⟩, OvI.body (fun k h => h.1) (by omega) (by omega) hwB HI2.out H3.out H4.out HR1.out HG1.out⟩
        · obtain ⟨_, inner, hown, _⟩ := H4.out
          obtain ⟨cells, hc⟩ := own_typed hown j e
          rw [hc] at ho
          cases ho
          rfl
      case done =>
        rintro D xs W hD hS hI hK'
        subst hS
        have HI2 := Aside0.mk hI
        have HK' := Aside0.mk hK'
        clear hI hK'
        have hgl : w.heap.size + 1 < wr.heap.size := (Array.getElem?_eq_some_iff.1 BKo.out).1
        have hl9 := HL.out
        go_wp2
        obtain ⟨h1, h2, ⟨v', h3, h4⟩, h5, h6⟩ := HI2.out
        refine Handed.intro (kq - 1) (by have := HI.out; omega) (hJ _ _ _ ⟨i + 1, v', _, _, _, _, _, _, _, _, _, _, _, _, _, _, _, D :: Dl, rfl, ⟨by have := HI.out; omega⟩, ⟨h2⟩, ⟨h3⟩, ⟨by rw [HTK.out]; exact SR_mono h4 (fun k h => h.1)⟩, ⟨h6⟩, ⟨List.nodup_cons.mpr ⟨fun hd => by have := hDB D hd; omega, HD.out.1⟩, fun E hE => ?_⟩⟩)
        rcases List.mem_cons.1 hE with rfl | hE
        · exact ⟨by omega, HK'.out⟩
        · exact ⟨(HD.out.2 E hE).1, h5 E hE⟩
      case stop =>
        rintro D c pre W _ _ h _
        exact h.elim
    · obtain rfl : i = l0.length := by have := HI.out; omega
      have hacl := gathered_len ⟨s0, s1, s2, s3⟩ step l0
      have ho := HO.out
      rw [List.take_length] at ho
      obtain ⟨acc, hacc⟩ : ∃ acc, acc = (l0.flatMap fun x => leftS x ⟨s0, s1, s2, s3⟩ step) := ⟨_, rfl⟩
      rw [← hacc] at ho hacl
      have hft := HFT.out
      rw [← hacc] at hft
      have hfi : fi ≤ acc.length := hft.2.1
      obtain ⟨Av, cv, ev⟩ := SR_slice ho
      subst ev
      have HFI := Aside0.mk hfi
      have HFE := Aside0.mk hft
      have HACC := Aside0.mk hacc
      have hl9 := HL.out
      have HAL := Aside0.mk (show acc.length < 2147483648 by omega)
      have HO := Aside0.mk ho
      clear hfi hft hacc hacl ho HFT
      have hs0 : wr.cell? ⟨w.heap.size, 0, none⟩ = some (.int .i64 s0) := (blk_cell BKs.out 0).trans rfl
      have hs1 : wr.cell? ⟨w.heap.size, 1, none⟩ = some (.int .i64 s1) := (blk_cell BKs.out 1).trans rfl
      have hs2 : wr.cell? ⟨w.heap.size, 2, none⟩ = some (.int .i64 s2) := (blk_cell BKs.out 2).trans rfl
      have hs3 : wr.cell? ⟨w.heap.size, 3, none⟩ = some (.int .i64 s3) := (blk_cell BKs.out 3).trans rfl
      have hco : wr.cell? ⟨w.heap.size + 1, 0, none⟩ = some (.slice Av acc.length cv) := (blk_cell BKo.out 0).trans rfl
      go_wp2_with (first | (go_at_call 50; refine (bin_any HO.out ⟨s0, s1, s2, s3⟩ fi HFE.out).mono ?_; rintro e W2 ⟨⟨bb, rfl⟩, hb2⟩; have n0_ := Aside0.mk ((hb2.block _ (Array.getElem?_eq_some_iff.1 BKs.out).1).trans BKs.out); have n1_ := Aside0.mk ((hb2.block _ (Array.getElem?_eq_some_iff.1 BKo.out).1).trans BKo.out); have n2_ := Aside0.mk (SR_below HO.out hb2); have n3_ := Aside0.mk (below_then HB.out hb2); have n4_ := Aside0.mk (And.intro HD.out.1 (fun D hd => And.intro (HD.out.2 D hd).1 ((hb2.block D (Array.getElem?_eq_some_iff.1 (HD.out.2 D hd).2).1).trans (HD.out.2 D hd).2))); clear BKs BKo HO HB HD hs0 hs1 hs2 hs3 hco hb2; have BKs := n0_; have BKo := n1_; have HO := n2_; have HB := n3_; have HD := n4_; clear n0_ n1_ n2_ n3_ n4_; have hs0 : W2.cell? ⟨w.heap.size, 0, none⟩ = some (.int .i64 s0) := (blk_cell BKs.out 0).trans rfl; have hs1 : W2.cell? ⟨w.heap.size, 1, none⟩ = some (.int .i64 s1) := (blk_cell BKs.out 1).trans rfl; have hs2 : W2.cell? ⟨w.heap.size, 2, none⟩ = some (.int .i64 s2) := (blk_cell BKs.out 2).trans rfl; have hs3 : W2.cell? ⟨w.heap.size, 3, none⟩ = some (.int .i64 s3) := (blk_cell BKs.out 3).trans rfl; have hco : W2.cell? ⟨w.heap.size + 1, 0, none⟩ = some (.slice Av acc.length cv) := (blk_cell BKo.out 0).trans rfl) | (go_at_call 136; refine (ins_any w.heap.size fi (.slice Av acc.length cv) acc ⟨s0, s1, s2, s3⟩ (fun k => k ≠ w.heap.size) HFI.out (fun k hk => by have := (Array.getElem?_eq_some_iff.1 BKs.out).1; omega) HO.out HB.out (by have := HAL.out; omega) HB.out.size).mono ?_; rintro e W3 ⟨v1, rfl, hR3, hB3, hg3⟩))
      have hD3 : ∀ D ∈ Dl, w.heap.size ≤ D ∧ W3.heap[D]? = some (.deferred (some [])) := fun D hd => by
        have h9 := (HD.out.2 D hd).2
        refine ⟨by have := (HD.out.2 D hd).1; omega, (hg3.block D (Array.getElem?_eq_some_iff.1 h9).1 (fun e => ?_)).trans h9⟩
        obtain ⟨_, inner, hown, _⟩ := HO.out
        obtain ⟨cells, hc⟩ := own_typed hown D e.symm
        rw [hc] at h9
        cases h9
      refine leaves_marks (fun W => SR W w.heap.size (fun _ => True) v1 ((l0.flatMap fun x => leftS x ⟨s0, s1, s2, s3⟩ step).take fi ++ ⟨s0, s1, s2, s3⟩ :: (l0.flatMap fun x => leftS x ⟨s0, s1, s2, s3⟩ step).drop fi) ∧ Below w.heap.size w W) Dl W3 HD.out.1 (fun D hd => (hD3 D hd).2) ?_ ?_ ?_
      · intro D hd W hW hh
        have hg := grownBy_putObj' W D (.deferred none)
        have hD0 := (hD3 D hd).1
        have hDl := (Array.getElem?_eq_some_iff.1 hh).1
        exact ⟨own_R hW.1 hg (fun r e => by cases e; exact ⟨_, hh, rfl⟩), hW.2.grown hg (by omega) (fun k e => by cases e; exact hD0)⟩
      · rw [← HACC.out]
        exact ⟨SR_mono hR3 (fun _ _ => trivial), hB3⟩
      · intro W hW
        exact ⟨v1, (results_tmp (t := 6) (show Tryz.f108.results = #[ResultVar.tmp 6] from rfl) _ _ _).trans rfl, v1, rfl, hW.1, hW.2⟩
end Go.Abs.Span
