-- made by xprint.py of this session
import Derived.Test.YtehknkgplldiiaaPIsx0
import Derived.Test.YtehknkgplldiiaaPIsx4
import Derived.Test.YtehknkgplldiiaaPIsx6
import Derived.Test.YtehknkgplldiiaaPIsx7
import Derived.RangeFuncNested
import Derived.RangeFuncBound
import Derived.RangeFuncCalls
import Derived.RangeFuncLeaves
import Derived.Shelf.Abstract
import Derived.Shelf.RegionOpen
import Derived.OwnWalkIn
import Derived.TacticsInMore
import Derived.LoopNIn
import Derived.LoopIn
import Derived.WalkKit
import Derived.Maps.OwnIn
namespace Go.Proofs.Ytehknkgplldiiaa.PIs
open Go.RowKit Go.Proofs.YtehknkgplldiiaaW.PrintWords Go.Proofs.YtehknkgplldiiaaW.PrintLast Go.Proofs.YtehknkgplldiiaaW.PrintMore
attribute [local go_sem] max2_int min2_int max_two min_two max_three min_three max_four min_four   -- for this text's walks alone
set_option linter.unusedVariables false
set_option linter.unusedSimpArgs false

/-! ### EXT span_over: function 27 -/
-- IMPORTS Derived.RangeFuncNested;Derived.RangeFuncBound;Derived.RangeFuncCalls;Derived.RangeFuncLeaves;Derived.Shelf.Abstract;Derived.Shelf.RegionOpen;Derived.OwnWalkIn;Derived.TacticsInMore;Derived.LoopNIn;Derived.LoopIn;Derived.WalkKit;Derived.Maps.OwnIn
/-! span.over: a table with one more, in order, not put together. -/
attribute [local go_sem] Oper.semAt_some
/-- What the others leave, and the new one at its place. -/
def overS (l : List S23) (s : S23) (step : Bool) : List S23 :=
  (l.flatMap fun x => leftS x s step).take (findS (l.flatMap fun x => leftS x s step) s) ++ s :: (l.flatMap fun x => leftS x s step).drop (findS (l.flatMap fun x => leftS x s step) s)
instance (x : S23) : Decidable (smallS x) := inferInstanceAs (Decidable (_ ∧ _ ∧ _))
def span_over.f (l0 : List S23) (a1_0 : Int) (a1_1 : Int) (a1_2 : Int) (a1_3 : Int) (a2 : Bool) : Option (List S23) :=
  if l0.length < 1073741824 ∧ smallS ⟨a1_0, a1_1, a1_2, a1_3⟩ ∧ l0.all (fun x => decide (smallS x)) = true then some (overS l0 ⟨a1_0, a1_1, a1_2, a1_3⟩ a2) else none
theorem leftS_len (x s : S23) (step : Bool) : (leftS x s step).length ≤ 2 := by
  unfold leftS
  repeat' split
  all_goals simp
theorem gathered_len (s : S23) (step : Bool) : ∀ l : List S23, (l.flatMap fun x => leftS x s step).length ≤ 2 * l.length
  | [] => by simp
  | x :: l => by
    have := gathered_len s step l
    have := leftS_len x s step
    rw [List.flatMap_cons, List.length_append, List.length_cons]
    omega
theorem elS_get {l : List S23} {i : Nat} (h : i < l.length) : elS l i = l[i] := by
  unfold elS rd_T23
  rw [Int.toNat_natCast, List.getD_eq_getElem?_getD, List.getElem?_eq_getElem h]
  rfl
theorem bsS_le (l : List S23) (t : S23) : ∀ (n i j : Nat), i ≤ j → bsS l t n i j ≤ j
  | 0, i, j, h => h
  | n + 1, i, j, h => by
    unfold bsS
    by_cases hij : i < j
    · rw [if_pos hij]
      split
      · exact bsS_le l t n _ _ (by omega)
      · exact Nat.le_trans (bsS_le l t n _ _ (by omega)) (by omega)
    · rw [if_neg hij]
      exact h
theorem findS_le (l : List S23) (t : S23) : findS l t ≤ l.length := bsS_le l t _ _ _ (Nat.zero_le _)
def marks (Dl : List Nat) : List Deferred := Dl.map fun D => { target := .collected D, args := #[] }
/-- A function leaves over marks of loops without deferred calls. -/
theorem leaves_marks {F : Fence} {n : Nat} {P : Program} {fn : Func} {tmps : Array Value} {R : Ending → World → Prop} (Q : World → Prop) : ∀ (Dl : List Nat) (W : World), Dl.Nodup → (∀ D ∈ Dl, W.heap[D]? = some (.deferred (some []))) →
    (∀ D ∈ Dl, ∀ W, Q W → W.heap[D]? = some (.deferred (some [])) → Q (W.putObj D (.deferred none))) → Q W → (∀ W, Q W → LeavesIn F n P fn tmps R [] .returning W) → LeavesInM F n P fn tmps R (marks Dl) .returning W
  | [], W, _, _, _, h, hend => hend W h
  | D :: Dl, W, hn, hh, hs, h, hend => by
    have hD := hh D List.mem_cons_self
    refine ⟨by simp, .inl ⟨D, W.putObj D (.deferred none), rfl, run_takeDeferred hD, ?_⟩⟩
    refine leaves_marks Q Dl _ (List.nodup_cons.mp hn).2 (fun E hE => ?_) (fun E hE => hs E (List.mem_cons_of_mem _ hE)) (hs D List.mem_cons_self W h hD) hend
    have hne : E ≠ D := fun e => (List.nodup_cons.mp hn).1 (e ▸ hE)
    exact (World.putObj_heap_other hne).trans (hh E (List.mem_cons_of_mem _ hE))
theorem own_R {α : Type} {d : Kd α} {e : Nat} {W W' : World} {base : Nat} {ok : Nat → Prop} {v : Value} {xs : List α} {row : Option Nat} (h : d.R e W base ok v xs) (hg : W.grownBy W' row)
    (hr : ∀ r, row = some r → ∃ o : Obj, W.heap[r]? = some o ∧ o.isCells = false) : d.R e W' base ok v xs :=
  Kd.R_mono (Kd.R_grown (Kd.R_bound h) hg (fun k hk e => by
    obtain ⟨_, _, _, q, _, cells, hc⟩ := hk
    obtain ⟨o, ho, hn⟩ := hr k e.symm
    rw [hc] at ho
    cases ho
    exact absurd hn (by simp [Obj.isCells]))) (fun _ hk => hk.1)
theorem own_blk {W W' : World} {row : Option Nat} {g t : Nat} {cs : Array Value} {fr : Nat × Nat} (h : W.heap[g]? = some (.cells cs t fr)) (hg : W.grownBy W' row)
    (hr : ∀ r, row = some r → ∃ o : Obj, W.heap[r]? = some o ∧ o.isCells = false) : W'.heap[g]? = some (.cells cs t fr) := (grownBy_keeps_cells hg hr h rfl).trans h
/-- 'append', in a round. -/
theorem R_append_in {α : Type} (d : Kd α) {F : Fence} {nF : Nat} {P : Program} {ops : Array Oper} {rest : List Oper} {o : Oper} {a : Act} {Q : Exit → Act → World → Prop} {W : World} (base : Nat) (hgd : o.guard = none) (s x : Operand) (t e : TypeId) (z : Value) (bytes : Nat)
    (ho : o.op = .call { callee := .builtin .append, args := #[s, x], argTypes := #[t, t] })
    (ht : P.underlying t = some (.slice e)) (hinfo : (P.info? e).map (fun i => (i.zero, i.size, i.bytes)) = some (some z, d.sz, bytes)) (hz : z.cells.size = d.sz) (hs0 : 0 < d.sz) (hb0 : 0 < bytes)
    (v : Value) (xs : List α) (p : α) (cs : List Value) (ok okp : Nat → Prop) (hs : a.eval s = v) (hx : a.eval x = .slice (some ⟨W.heap.size, 0, none⟩) 1 1) (hp : d.M W base okp p cs) (hokp : ∀ k, okp k → ok k ∧ some k ≠ v.ownBlock) (hfresh : ∀ k, W.heap.size ≤ k → ok k)
    (HO : d.R e W base ok v xs) (hbase : base ≤ W.heap.size) (hl : (xs.length + 1) * bytes ≤ 140737488355328)
    (h : ∀ v1 w1, d.R e w1 base ok v1 (xs ++ [p]) → W.grownBy w1 v.ownBlock → (v1.ownBlock = v.ownBlock ∨ ∃ b, v1.ownBlock = some b ∧ W.heap.size ≤ b) → wpListIn F nF P ops Q rest (a.put o.dst v1) w1) :
    wpListIn F nF P ops Q (o :: rest) a (W.alloc (.cells cs.toArray e)) := by
  obtain ⟨h0, inner, hown, hr⟩ := HO
  obtain ⟨i0, hi, hzz⟩ := Option.map_eq_some_iff.1 hinfo
  simp only [Prod.mk.injEq] at hzz
  obtain ⟨hz0, hz1, hz2⟩ := hzz
  have hlen : xs.length + 1 ≤ 140737488355328 := Nat.le_trans (Nat.le_mul_of_pos_right _ hb0) hl
  have hcl : cs.length = d.sz := d.K_len (d.K_of_M hp)
  refine wpListIn_append_own_at (w := W.alloc (.cells cs.toArray e)) hgd s x t ho base e i0 z d.sz bytes ht hi hz0 hz1 hz2 hz hs0 v xs.length inner hs (hown.alloc _) ⟨W.heap.size, 0, none⟩ 1 1 cs hx (by rw [hcl]; simp)
    (by simpa using World.news_of_block (cs := cs.toArray) (t := e) (fr := (0, 0)) (heap_alloc_new W (.cells cs.toArray e))) (d.K_one (d.K_of_M hp)) (by simp only [maxLen]; omega) hl (by simp; omega) ?_
  intro v1 w1 hown1 hg _ hat
  have hg1 := World.grownBy.trans (World.grownBy_alloc W (.cells cs.toArray e) _) hg
  have hat1 : v1.ownBlock = v.ownBlock ∨ ∃ b, v1.ownBlock = some b ∧ W.heap.size ≤ b := by
    rcases hat with hat | hat
    · exact .inl hat
    · exact .inr ⟨_, hat, by simp⟩
  exact h v1 w1 (Kd.R_appended h0 hr hp hokp hfresh hown1 hg1 hat1) hg1 hat1
/-- What the loop over a span's parts keeps. -/
def OvI (ok : Nat → Prop) (gs go B : Nat) (w : World) (sv : Array Value) (acc : List S23) (Dl : List Nat) (pre : List S23) (W : World) : Prop :=
  B ≤ W.heap.size ∧ W.heap[gs]? = some (.cells sv 23 (0, 0)) ∧ (∃ v, W.heap[go]? = some (.cells #[v] 26 (0, 0)) ∧ k23.R 23 W w.heap.size ok v (acc ++ pre)) ∧ (∀ D ∈ Dl, W.heap[D]? = some (.deferred (some []))) ∧ Below w.heap.size w W
theorem OvI.own {ok : Nat → Prop} {gs go B : Nat} {w : World} {sv : Array Value} {acc : List S23} {Dl : List Nat} (hw : w.heap.size ≤ B) (hD : ∀ D ∈ Dl, D < B) : OwnFrom B (OvI ok gs go B w sv acc Dl) := by
  rintro pre X Y row ⟨h1, h2, ⟨v, h3, h4⟩, h5, h6⟩ hg hr
  have hr2 : ∀ r, row = some r → ∃ o : Obj, X.heap[r]? = some o ∧ o.isCells = false := fun r e => (hr r e).2
  refine ⟨Nat.le_trans h1 hg.size, own_blk h2 hg hr2, ⟨v, own_blk h3 hg hr2, own_R h4 hg hr2⟩, fun D hd => ?_, h6.grown hg (Nat.le_trans hw h1) (fun k e => Nat.le_trans hw (hr k e).1)⟩
  have := hD D hd
  exact (hg.block D (by omega) (fun e => by have := (hr D e.symm).1; omega)).trans (h5 D hd)
/-- A block that is no row of the gathered ones, and not their variable, lies as it lay behind the body. -/
theorem body_block {ok : Nat → Prop} {go k : Nat} {W w1 : World} {base : Nat} {v v1 : Value} {xs : List S23} (hR : k23.R 23 W base ok v xs) (hg : W.grownBy w1 v.ownBlock) (hk : k < W.heap.size) (hne : k ≠ go) (hok : ∀ j, ok j → j ≠ k) :
    (w1.setCell ⟨go, 0, none⟩ v1).heap[k]? = W.heap[k]? :=
  (Below.heap_setCell w1 ⟨go, 0, none⟩ v1 k hne).trans (hg.block k hk (Kd.R_away hR hok))
theorem OvI.body {ok : Nat → Prop} {gs go B : Nat} {w : World} {sv : Array Value} {acc : List S23} {Dl : List Nat} {pre : List S23} {W w1 : World} {v v1 : Value} {y : S23} (hok : ∀ k, ok k → k ≠ gs) (hsg : gs ≠ go) (hgo : w.heap.size ≤ go) (hwB : w.heap.size ≤ B) (hI : OvI ok gs go B w sv acc Dl pre W)
    (hv : W.heap[go]? = some (.cells #[v] 26 (0, 0))) (hR : k23.R 23 W w.heap.size ok v (acc ++ pre))
    (hR1 : k23.R 23 w1 w.heap.size ok v1 (acc ++ pre ++ [y])) (hg : W.grownBy w1 v.ownBlock) : OvI ok gs go B w sv acc Dl (pre ++ [y]) (w1.setCell ⟨go, 0, none⟩ v1) := by
  obtain ⟨h1, h2, _, h5, h6⟩ := hI
  have hgs : gs < W.heap.size := (Array.getElem?_eq_some_iff.1 h2).1
  have hgo1 := blk_grown hv hg (Kd.R_ne hR hv (by decide))
  have hsz : (w1.setCell ⟨go, 0, none⟩ v1).heap.size = w1.heap.size := by unfold World.setCell; split <;> simp
  refine ⟨by rw [hsz]; exact Nat.le_trans h1 hg.size, (body_block hR hg hgs hsg hok).trans h2, ⟨v1, blk_put (cs := #[v]) hgo1 0 _ rfl, ?_⟩, fun D hd => ?_, ?_⟩
  · rw [← List.append_assoc]
    exact Kd.R_mono (Kd.R_far (p := ⟨go, 0, none⟩) (Kd.R_types hR1 hgo1 (by decide)) (fun _ h => h.2) _) (fun _ h => h.1)
  · have hDl : D < W.heap.size := (Array.getElem?_eq_some_iff.1 (h5 D hd)).1
    have h9 := h5 D hd
    have e1 : D ≠ go := fun e => by
      rw [e, hv] at h9
      cases h9
    obtain ⟨_, inner, hown, _⟩ := hR
    refine (Below.heap_setCell w1 ⟨go, 0, none⟩ v1 D e1).trans ((hg.block D hDl (fun e => ?_)).trans h9)
    obtain ⟨cells, hc⟩ := own_typed hown D e.symm
    rw [hc] at h9
    cases h9
  · exact (h6.grown hg (Nat.le_trans hwB h1) (own_base hR.2.choose_spec.1)).setCell (p := ⟨go, 0, none⟩) hgo _
set_option maxRecDepth 100000 in
set_option maxHeartbeats 4000000 in
theorem span_over.calls_ (A0 : Option Addr) (c0 : Nat) (l0 : List S23) (s0 s1 s2 s3 : Int) (step : Bool) (w : World) (hr0 : Kd.C k23 w A0 l0.length l0) (hc0 : l0.length ≤ c0) (hl : l0.length < 1073741824) (hs : smallS ⟨s0, s1, s2, s3⟩) (ha : ∀ x ∈ l0, smallS x) :
    Calls Try.prog 27 #[.slice A0 l0.length c0, .agg #[.int .i64 s0, .int .i64 s1, .int .i64 s2, .int .i64 s3], .bool step] w fun e w' => ∃ v0_ : Value, e = .returned (v0_) ∧ Kd.R k23 23 w' w.heap.size (fun _ => True) v0_ (overS l0 ⟨s0, s1, s2, s3⟩ step) ∧ Below w.heap.size w w' := by
  have HR0 := Aside0.mk hr0
  have HC0 := Aside0.mk hc0
  have HL := Aside0.mk hl
  have HS := Aside0.mk hs
  have HA := Aside0.mk ha
  have HB := Aside0.mk (Below.refl w.heap.size w)
  have hu := Try.underlying23
  clear hr0 hc0 hl hs ha
  refine callsIn_wide.1 (callsIn_of_wp_marks (F := Fence.wide) (n := 9) Try.func27 rfl trivial (wpIn_wide.2 ?_))
  simp only [Try.ntmps27, List.size_toArray, List.length_cons, List.length_nil, Nat.reduceAdd, Nat.reduceSub, Array.replicate_succ, Array.replicate_zero, List.push_toArray, List.append_toArray, List.nil_append, List.cons_append]
  go_wp2
  refine wp_loop_ghost_k (fun kq a w' => ∃ (i : Nat) (v u9 u10 u16 u17 u18 u19 u20 u21 u22 u23 u24 u25 u26 u27 u28 : Value) (Dl : List Nat), a = { tmps := #[.slice A0 l0.length c0, .agg #[.int .i64 s0, .int .i64 s1, .int .i64 s2, .int .i64 s3], .bool step, undef, .pointer (some ⟨w.heap.size, 0, none⟩), undef, .slice none 0 0, .pointer (some ⟨w.heap.size + 1, 0, none⟩), undef, u9, u10, undef, undef, .slice A0 l0.length c0, .int .i64 (l0.length : Int), .int .i64 (i : Nat), u16, u17, u18, u19, u20, u21, u22, u23, u24, u25, u26, u27, u28, undef, undef, undef, undef, undef, undef, undef, undef, undef, undef, undef], defers := marks Dl } ∧ Aside0 (i ≤ l0.length ∧ l0.length + 1 ≤ kq + i) ∧ Aside0 (w'.heap[w.heap.size]? = some (.cells #[.int .i64 s0, .int .i64 s1, .int .i64 s2, .int .i64 s3] 23 (0, 0))) ∧ Aside0 (w'.heap[w.heap.size + 1]? = some (.cells #[v] 26 (0, 0))) ∧ Aside0 (Kd.R k23 23 w' w.heap.size (fun k => k ≠ w.heap.size) v ((l0.take i).flatMap fun x => leftS x ⟨s0, s1, s2, s3⟩ step)) ∧ Aside0 (Below w.heap.size w w') ∧ Aside0 (Dl.Nodup ∧ ∀ D ∈ Dl, w.heap.size + 2 ≤ D ∧ w'.heap[D]? = some (.deferred (some [])))) (l0.length + 1) ?start ?round
  case start =>
    exact ⟨0, .slice none 0 0, undef, undef, undef, undef, undef, undef, undef, undef, undef, undef, undef, undef, undef, undef, undef, [], rfl, ⟨by omega⟩, ⟨(Below.heap_alloc _ _ _ (by simp)).trans (heap_alloc_new w _)⟩, ⟨by simpa using heap_alloc_new (w.alloc (.cells #[.int .i64 s0, .int .i64 s1, .int .i64 s2, .int .i64 s3] 23)) (.cells #[.slice none 0 0] 26)⟩, ⟨Kd.R_nil _ _ _ _ _⟩, ⟨((Below.refl _ w).alloc (Nat.le_refl _) _).alloc (by simp) _⟩, ⟨List.nodup_nil, fun D h => by cases h⟩⟩
  case round =>
    rintro kq a wr ⟨i, v, u9, u10, u16, u17, u18, u19, u20, u21, u22, u23, u24, u25, u26, u27, u28, Dl, rfl, HI, BKs, BKo, HO, HB, HD⟩ J K hJ hK
    by_cases hi : i < l0.length
    · obtain ⟨ad, ead, _⟩ := at_T23 (Kd.C_below HR0.out HB.out) (i : Int) (by omega) (by omega)
      subst ead
      obtain ⟨hx0, hx1, hx2, hx3⟩ := atc_T23 (Kd.C_below HR0.out HB.out) i hi
      have hs0 : wr.cell? ⟨w.heap.size, 0, none⟩ = some (.int .i64 s0) := (blk_cell BKs.out 0).trans rfl
      have hs1 : wr.cell? ⟨w.heap.size, 1, none⟩ = some (.int .i64 s1) := (blk_cell BKs.out 1).trans rfl
      have hs2 : wr.cell? ⟨w.heap.size, 2, none⟩ = some (.int .i64 s2) := (blk_cell BKs.out 2).trans rfl
      have hs3 : wr.cell? ⟨w.heap.size, 3, none⟩ = some (.int .i64 s3) := (blk_cell BKs.out 3).trans rfl
      have hn1 : w.heap.size < wr.heap.size := (Array.getElem?_eq_some_iff.1 BKs.out).1
      have p0 : (0 ≤ (i : Int)) = True := eq_true (by omega)
      have p1 : ((i : Int) < (l0.length : Int)) = True := eq_true (by omega)
      have hxs : smallS (elS l0 i) := by rw [elS_get hi]; exact HA.out _ (List.getElem_mem hi)
      have htk : ((l0.take (i + 1)).flatMap fun x => leftS x ⟨s0, s1, s2, s3⟩ step) = ((l0.take i).flatMap fun x => leftS x ⟨s0, s1, s2, s3⟩ step) ++ leftS (elS l0 i) ⟨s0, s1, s2, s3⟩ step := by
        rw [List.take_succ_eq_append_getElem hi, List.flatMap_append, elS_get hi]
        simp
      have hacl := gathered_len ⟨s0, s1, s2, s3⟩ step (l0.take i)
      rw [List.length_take] at hacl
      have HTK := Aside0.mk htk
      clear htk
      generalize elS l0 i = x at *
      have HXS := Aside0.mk hxs
      have HAL := Aside0.mk hacl
      clear hxs hacl
      go_wp2_with (go_at_call 38; refine (left_calls x ⟨s0, s1, s2, s3⟩ step _).mono ?_; rintro e W2 ⟨rfl, rfl⟩)
      obtain ⟨W5, hW5⟩ : ∃ W5, W5 = (((wr.alloc (.cells #[.int .i64 x.f0, .int .i64 x.f1, .int .i64 x.f2, .int .i64 x.f3] 23)).alloc (.cells #[.int .i64 x.f0, .int .i64 x.f1, .int .i64 x.f2, .int .i64 x.f3] 23)).alloc (.cells #[.int .i64 s0, .int .i64 s1, .int .i64 s2, .int .i64 s3] 23)).alloc (.cells #[.bool step] 4) := ⟨_, rfl⟩
      rw [← hW5]
      have hsz5 : W5.heap.size = wr.heap.size + 4 := by rw [hW5]; simp
      have hbel5 : Below wr.heap.size wr W5 := by rw [hW5]; exact (((((Below.refl _ wr).alloc (Nat.le_refl _) _).alloc (by simp) _).alloc (by simp; omega) _).alloc (by simp; omega) _)
      have ha5 : W5.heap[wr.heap.size + 1]? = some (.cells #[.int .i64 x.f0, .int .i64 x.f1, .int .i64 x.f2, .int .i64 x.f3] 23 (0, 0)) := by
        rw [hW5]
        refine (Below.heap_alloc _ _ _ (by simp)).trans ((Below.heap_alloc _ _ _ (by simp)).trans ?_)
        simpa using heap_alloc_new (wr.alloc (.cells #[.int .i64 x.f0, .int .i64 x.f1, .int .i64 x.f2, .int .i64 x.f3] 23)) (.cells #[.int .i64 x.f0, .int .i64 x.f1, .int .i64 x.f2, .int .i64 x.f3] 23)
      have hb5 : W5.heap[wr.heap.size + 1 + 1]? = some (.cells #[.int .i64 s0, .int .i64 s1, .int .i64 s2, .int .i64 s3] 23 (0, 0)) := by
        rw [hW5]
        refine (Below.heap_alloc _ _ _ (by simp)).trans ?_
        simpa using heap_alloc_new ((wr.alloc (.cells #[.int .i64 x.f0, .int .i64 x.f1, .int .i64 x.f2, .int .i64 x.f3] 23)).alloc (.cells #[.int .i64 x.f0, .int .i64 x.f1, .int .i64 x.f2, .int .i64 x.f3] 23)) (.cells #[.int .i64 s0, .int .i64 s1, .int .i64 s2, .int .i64 s3] 23)
      have hc5 : W5.heap[wr.heap.size + 1 + 2]? = some (.cells #[.bool step] 4 (0, 0)) := by
        rw [hW5]
        simpa using heap_alloc_new (((wr.alloc (.cells #[.int .i64 x.f0, .int .i64 x.f1, .int .i64 x.f2, .int .i64 x.f3] 23)).alloc (.cells #[.int .i64 x.f0, .int .i64 x.f1, .int .i64 x.f2, .int .i64 x.f3] 23)).alloc (.cells #[.int .i64 s0, .int .i64 s1, .int .i64 s2, .int .i64 s3] 23)) (.cells #[.bool step] 4)
      clear hW5 hx0 hx1 hx2 hx3 hs0 hs1 hs2 hs3
      obtain ⟨acc, hacc⟩ : ∃ acc, acc = ((l0.take i).flatMap fun x => leftS x ⟨s0, s1, s2, s3⟩ step) := ⟨_, rfl⟩
      rw [← hacc] at HO HTK HAL
      have HACC := Aside0.mk hacc
      clear hacc
      have hI0 : OvI (fun k => k ≠ w.heap.size ∧ k ≠ wr.heap.size + 1 ∧ k ≠ wr.heap.size + 1 + 1 ∧ k ≠ wr.heap.size + 1 + 2) w.heap.size (w.heap.size + 1) W5.heap.size w #[.int .i64 s0, .int .i64 s1, .int .i64 s2, .int .i64 s3] acc Dl [] W5 := by
        have hgl : w.heap.size + 1 < wr.heap.size := (Array.getElem?_eq_some_iff.1 BKo.out).1
        refine ⟨Nat.le_refl _, (hbel5.block _ hn1).trans BKs.out, ⟨v, (hbel5.block _ hgl).trans BKo.out, ?_⟩, fun D hd => (hbel5.block D (Array.getElem?_eq_some_iff.1 (HD.out.2 D hd).2).1).trans (HD.out.2 D hd).2, below_step HB.out hbel5⟩
        rw [List.append_nil]
        exact Kd.R_mono (Kd.R_below (Kd.R_bound HO.out) hbel5) (fun k hk => ⟨hk.1, by have := hk.2.2.1; omega, by have := hk.2.2.1; omega, by have := hk.2.2.1; omega⟩)
      have hwB : w.heap.size ≤ W5.heap.size := by omega
      have hDB : ∀ D ∈ Dl, D < W5.heap.size := fun D hd => by have := (Array.getElem?_eq_some_iff.1 (HD.out.2 D hd).2).1; omega
      refine (wpIn_wide (n := 9)).1 (wpIn_rangeFunc_ownH (F := Fence.wide) (n := 9) rfl (by decide) (gf := 45) (lb := #[.pointer (some ⟨wr.heap.size + 1, 0, none⟩), .pointer (some ⟨wr.heap.size + 1 + 1, 0, none⟩), .pointer (some ⟨wr.heap.size + 1 + 2, 0, none⟩)]) rfl trivial (enters_of Try.func45 (by kernel_rfl) rfl)
        (left_stops 8 (by decide) _ _ _ x ⟨s0, s1, s2, s3⟩ step HXS.out HS.out W5 ha5 hb5 hc5) (fun h k => Kp3.trans h k)
        (fun W l o o' hl h _ _ => ⟨World.putObj_heap_other (by omega), World.putObj_heap_other (by omega), World.putObj_heap_other (by omega)⟩) (Below.refl _ _) (fun _ => rfl)
        (OvI (fun k => k ≠ w.heap.size ∧ k ≠ wr.heap.size + 1 ∧ k ≠ wr.heap.size + 1 + 1 ∧ k ≠ wr.heap.size + 1 + 2) w.heap.size (w.heap.size + 1) W5.heap.size w #[.int .i64 s0, .int .i64 s1, .int .i64 s2, .int .i64 s3] acc Dl) (fun _ _ _ => False) (OvI.own hwB hDB) (fun _ _ _ _ _ hs _ _ => hs) hI0
        (fun y a' W => ∃ Bx, W5.heap.size ≤ Bx ∧ W.heap[Bx]? = some (.cells #[.int .i64 y.f0, .int .i64 y.f1, .int .i64 y.f2, .int .i64 y.f3] 23 (0, 0)) ∧ a' = { tmps := #[.slice (some ad) l0.length c0, .agg #[.int .i64 s0, .int .i64 s1, .int .i64 s2, .int .i64 s3], .bool step, undef, .pointer (some ⟨w.heap.size, 0, none⟩), undef, .slice none 0 0, .pointer (some ⟨w.heap.size + 1, 0, none⟩), undef, .pointer (some ⟨wr.heap.size, 0, none⟩), .pointer (some ⟨Bx, 0, none⟩), undef, undef, .slice (some ad) l0.length c0, .int .i64 (l0.length : Int), .int .i64 (i : Nat), .bool true, .pointer (some (ad.add (i * 4))), .agg #[.int .i64 x.f0, .int .i64 x.f1, .int .i64 x.f2, .int .i64 x.f3], .agg #[.int .i64 x.f0, .int .i64 x.f1, .int .i64 x.f2, .int .i64 x.f3], .agg #[.int .i64 s0, .int .i64 s1, .int .i64 s2, .int .i64 s3], .bool step, .func (.func 45) #[] #[.pointer (some ⟨wr.heap.size + 1, 0, none⟩), .pointer (some ⟨wr.heap.size + 1 + 1, 0, none⟩), .pointer (some ⟨wr.heap.size + 1 + 2, 0, none⟩)], .agg #[.int .i64 y.f0, .int .i64 y.f1, .int .i64 y.f2, .int .i64 y.f3], u24, u25, u26, u27, u28, undef, undef, undef, undef, undef, undef, undef, undef, undef, undef, undef], defers := [] })
        (fun y a' _ X Y row hs hg hr => by
          obtain ⟨Bx, h1, h2, h3⟩ := hs
          exact ⟨Bx, h1, own_blk h2 hg (fun r e => (hr r e).2), h3⟩) ?assign ?body ?done ?stop)
      case assign =>
        intro l pre y W K2 hI hK2
        gi_wp2
        exact hK2 _ _ ((KeepsOthers.alloc _ _).from _) ⟨Below.heap_alloc _ _ _ (by have := hI.1; omega), Below.heap_alloc _ _ _ (by have := hI.1; omega), Below.heap_alloc _ _ _ (by have := hI.1; omega)⟩ (OvI.own hwB hDB pre W _ none hI (World.grownBy_alloc W _ _) (fun r e => by cases e)) ⟨W.heap.size, hI.1, heap_alloc_new W _, rfl⟩
      case body =>
        rintro l pre y a' W hl ⟨r, hr⟩ hI ⟨Bx, hBx, bX, rfl⟩ hlt
        have HI2 := Aside0.mk hI
        obtain ⟨h1, _, ⟨v', h3, h4⟩, _, h6⟩ := hI
        have hy0 : W.cell? ⟨Bx, 0, none⟩ = some (.int .i64 y.f0) := (blk_cell bX 0).trans rfl
        have hy1 : W.cell? ⟨Bx, 1, none⟩ = some (.int .i64 y.f1) := (blk_cell bX 1).trans rfl
        have hy2 : W.cell? ⟨Bx, 2, none⟩ = some (.int .i64 y.f2) := (blk_cell bX 2).trans rfl
        have hy3 : W.cell? ⟨Bx, 3, none⟩ = some (.int .i64 y.f3) := (blk_cell bX 3).trans rfl
        have hco : W.cell? ⟨w.heap.size + 1, 0, none⟩ = some v' := (blk_cell h3 0).trans rfl
        have H3 := Aside0.mk h3
        have H4 := Aside0.mk h4
        have H1 := Aside0.mk h1
        have HLT := Aside0.mk hlt
        clear h3 h4 h1 hlt h6 hr hl
        gi_wp2_with (gi_at_builtin; refine R_append_in k23 w.heap.size rfl (.tmp 24) (.tmp 26) 26 23 (.agg #[.int .i64 0, .int .i64 0, .int .i64 0, .int .i64 0]) 32 rfl Try.underlying26 info23 rfl (by decide) (by decide) v' (acc ++ pre) y [.int .i64 y.f0, .int .i64 y.f1, .int .i64 y.f2, .int .i64 y.f3] (fun k => k ≠ w.heap.size ∧ k ≠ wr.heap.size + 1 ∧ k ≠ wr.heap.size + 1 + 1 ∧ k ≠ wr.heap.size + 1 + 2) (fun _ => False) rfl rfl (k23_mkM _ _ _ y) (fun _ h => h.elim) (fun k hk => by have := H1.out; refine ⟨?_, ?_, ?_, ?_⟩ <;> omega) H4.out (by have := H1.out; omega) (by have := HAL.out; have := HLT.out; have := HL.out; rw [List.length_append]; omega) ?_; intro v1 w1 hR1 hg1 hat1; have hgo1 := blk_grown H3.out hg1 (Kd.R_ne H4.out H3.out (by decide)); have hc1 := (blk_cell hgo1 0).trans rfl; have hf1 := blk_frozen hgo1 0; obtain ⟨Av, cv, ev⟩ := Kd.R_slice hR1; subst ev; obtain ⟨m, hm⟩ : ∃ m, m = (acc ++ pre ++ [y]).length := ⟨_, rfl⟩; rw [← hm] at hR1 ⊢; clear hm; have HR1 := Aside0.mk hR1; have HG1 := Aside0.mk hg1; clear hR1 hg1 hat1 hgo1)
        have hz1 := H1.out
        refine ⟨((KeepsOthers.of_grownBy HG1.out (fun j o e ho => ?_)).trans (KeepsOthers.setCell _ _ _)).from _, ⟨body_block H4.out HG1.out (by omega) (by omega) (fun j h => h.2.1), body_block H4.out HG1.out (by omega) (by omega) (fun j h => h.2.2.1), body_block H4.out HG1.out (by omega) (by omega) (fun j h => h.2.2.2)⟩, OvI.body (fun k h => h.1) (by omega) (by omega) hwB HI2.out H3.out H4.out HR1.out HG1.out⟩
        · obtain ⟨_, inner, hown, _⟩ := H4.out
          obtain ⟨cells, hc⟩ := own_typed hown j e
          rw [hc] at ho
          cases ho
          rfl
      case done =>
        rintro D xs W hD hS hI hK'
        subst hS
        have HI2 := Aside0.mk hI
        have HK' := Aside0.mk hK'
        clear hI hK'
        have hgl : w.heap.size + 1 < wr.heap.size := (Array.getElem?_eq_some_iff.1 BKo.out).1
        have hl9 := HL.out
        go_wp2
        obtain ⟨h1, h2, ⟨v', h3, h4⟩, h5, h6⟩ := HI2.out
        refine Handed.intro (kq - 1) (by have := HI.out; omega) (hJ _ _ _ ⟨i + 1, v', _, _, _, _, _, _, _, _, _, _, _, _, _, _, _, D :: Dl, rfl, ⟨by have := HI.out; omega⟩, ⟨h2⟩, ⟨h3⟩, ⟨by rw [HTK.out]; exact Kd.R_mono h4 (fun k h => h.1)⟩, ⟨h6⟩, ⟨List.nodup_cons.mpr ⟨fun hd => by have := hDB D hd; omega, HD.out.1⟩, fun E hE => ?_⟩⟩)
        rcases List.mem_cons.1 hE with rfl | hE
        · exact ⟨by omega, HK'.out⟩
        · exact ⟨(HD.out.2 E hE).1, h5 E hE⟩
      case stop =>
        rintro D c pre W _ _ h _
        exact h.elim
    · obtain rfl : i = l0.length := by have := HI.out; omega
      have hacl := gathered_len ⟨s0, s1, s2, s3⟩ step l0
      have ho := HO.out
      rw [List.take_length] at ho
      obtain ⟨acc, hacc⟩ : ∃ acc, acc = (l0.flatMap fun x => leftS x ⟨s0, s1, s2, s3⟩ step) := ⟨_, rfl⟩
      rw [← hacc] at ho hacl
      have hos : overS l0 ⟨s0, s1, s2, s3⟩ step = acc.take (findS acc ⟨s0, s1, s2, s3⟩) ++ ⟨s0, s1, s2, s3⟩ :: acc.drop (findS acc ⟨s0, s1, s2, s3⟩) := by unfold overS; rw [← hacc]
      obtain ⟨Av, cv, ev⟩ := Kd.R_slice ho
      subst ev
      have hfi := findS_le acc ⟨s0, s1, s2, s3⟩
      obtain ⟨fi, hfe⟩ : ∃ fi, fi = findS acc ⟨s0, s1, s2, s3⟩ := ⟨_, rfl⟩
      rw [← hfe] at hos hfi
      have HOS := Aside0.mk hos
      have HFI := Aside0.mk hfi
      have HFE := Aside0.mk hfe
      have hl9 := HL.out
      have HAL := Aside0.mk (show acc.length < 2147483648 by omega)
      have HO := Aside0.mk ho
      clear hos hfi hfe hacc hacl ho
      have hs0 : wr.cell? ⟨w.heap.size, 0, none⟩ = some (.int .i64 s0) := (blk_cell BKs.out 0).trans rfl
      have hs1 : wr.cell? ⟨w.heap.size, 1, none⟩ = some (.int .i64 s1) := (blk_cell BKs.out 1).trans rfl
      have hs2 : wr.cell? ⟨w.heap.size, 2, none⟩ = some (.int .i64 s2) := (blk_cell BKs.out 2).trans rfl
      have hs3 : wr.cell? ⟨w.heap.size, 3, none⟩ = some (.int .i64 s3) := (blk_cell BKs.out 3).trans rfl
      have hco : wr.cell? ⟨w.heap.size + 1, 0, none⟩ = some (.slice Av acc.length cv) := (blk_cell BKo.out 0).trans rfl
      go_wp2_with (first | (go_at_call 29; refine (slices_BSF_Span.calls Av cv acc ⟨s0, s1, s2, s3⟩ _ (Kd.R_reads' HO.out).2.2 (Kd.R_reads' HO.out).2.1 (by have := HAL.out; omega)).mono ?_; rintro e W2 ⟨rfl, hb2⟩; rw [← HFE.out]; have n0_ := Aside0.mk ((hb2.block _ (Array.getElem?_eq_some_iff.1 BKs.out).1).trans BKs.out); have n1_ := Aside0.mk ((hb2.block _ (Array.getElem?_eq_some_iff.1 BKo.out).1).trans BKo.out); have n2_ := Aside0.mk (Kd.R_below HO.out hb2); have n3_ := Aside0.mk (below_step HB.out hb2); have n4_ := Aside0.mk (And.intro HD.out.1 (fun D hd => And.intro (HD.out.2 D hd).1 ((hb2.block D (Array.getElem?_eq_some_iff.1 (HD.out.2 D hd).2).1).trans (HD.out.2 D hd).2))); clear BKs BKo HO HB HD hs0 hs1 hs2 hs3 hco hb2; have BKs := n0_; have BKo := n1_; have HO := n2_; have HB := n3_; have HD := n4_; clear n0_ n1_ n2_ n3_ n4_; have hs0 : W2.cell? ⟨w.heap.size, 0, none⟩ = some (.int .i64 s0) := (blk_cell BKs.out 0).trans rfl; have hs1 : W2.cell? ⟨w.heap.size, 1, none⟩ = some (.int .i64 s1) := (blk_cell BKs.out 1).trans rfl; have hs2 : W2.cell? ⟨w.heap.size, 2, none⟩ = some (.int .i64 s2) := (blk_cell BKs.out 2).trans rfl; have hs3 : W2.cell? ⟨w.heap.size, 3, none⟩ = some (.int .i64 s3) := (blk_cell BKs.out 3).trans rfl; have hco : W2.cell? ⟨w.heap.size + 1, 0, none⟩ = some (.slice Av acc.length cv) := (blk_cell BKo.out 0).trans rfl) | (go_at_call 39; refine (slices_Insert_Span.ins (w0 := w) (W := W2) w.heap.size fi (.slice Av acc.length cv) acc ⟨s0, s1, s2, s3⟩ [.int .i64 s0, .int .i64 s1, .int .i64 s2, .int .i64 s3] (fun k => k ≠ w.heap.size) (fun _ => False) HFI.out (k23_mkM _ _ _ ⟨s0, s1, s2, s3⟩) (fun _ h => h.elim) (fun k hk => by have := (Array.getElem?_eq_some_iff.1 BKs.out).1; omega) HO.out HB.out (below_size HB.out) (by have := HAL.out; omega)).mono ?_; rintro e W3 ⟨v1, rfl, hR3, hB3, hg3⟩))
      have hD3 : ∀ D ∈ Dl, w.heap.size ≤ D ∧ W3.heap[D]? = some (.deferred (some [])) := fun D hd => by
        have h9 := (HD.out.2 D hd).2
        refine ⟨by have := (HD.out.2 D hd).1; omega, (hg3.block D (Array.getElem?_eq_some_iff.1 h9).1 (fun e => ?_)).trans h9⟩
        obtain ⟨_, inner, hown, _⟩ := HO.out
        obtain ⟨cells, hc⟩ := own_typed hown D e.symm
        rw [hc] at h9
        cases h9
      refine leaves_marks (fun W => k23.R 23 W w.heap.size (fun _ => True) v1 (overS l0 ⟨s0, s1, s2, s3⟩ step) ∧ Below w.heap.size w W) Dl W3 HD.out.1 (fun D hd => (hD3 D hd).2) ?_ ?_ ?_
      · intro D hd W hW hh
        have hg := grownBy_putObj' W D (.deferred none)
        have hD0 := (hD3 D hd).1
        have hDl := (Array.getElem?_eq_some_iff.1 hh).1
        exact ⟨own_R hW.1 hg (fun r e => by cases e; exact ⟨_, hh, rfl⟩), hW.2.grown hg (by omega) (fun k e => by cases e; exact hD0)⟩
      · rw [HOS.out]
        exact ⟨Kd.R_mono hR3 (fun _ _ => trivial), hB3⟩
      · intro W hW
        exact ⟨v1, (results_tmp (t := 6) (show Try.f27.results = #[ResultVar.tmp 6] from rfl) _ _ _).trans rfl, v1, rfl, hW.1, hW.2⟩
theorem span_over.calls (A0 : Option Addr) (c0 : Nat) (l0 : List S23) (a1_0 : Int) (a1_1 : Int) (a1_2 : Int) (a1_3 : Int) (a2 : Bool) (r : List S23) (w : World) (hr0 : Kd.C k23 w A0 l0.length l0) (hc0 : l0.length ≤ c0) (h : span_over.f l0 a1_0 a1_1 a1_2 a1_3 a2 = some r) :
    Calls Try.prog 27 #[.slice A0 l0.length c0, .agg #[.int .i64 a1_0, .int .i64 a1_1, .int .i64 a1_2, .int .i64 a1_3], .bool a2] w fun e w' => ∃ v0_ : Value, e = .returned (v0_) ∧ Kd.R k23 23 w' w.heap.size (fun _ => True) v0_ r ∧ Below w.heap.size w w' := by
  unfold span_over.f at h
  by_cases hc : l0.length < 1073741824 ∧ smallS ⟨a1_0, a1_1, a1_2, a1_3⟩ ∧ l0.all (fun x => decide (smallS x)) = true
  case neg =>
    rw [if_neg hc] at h
    cases h
  rw [if_pos hc] at h
  obtain rfl := Option.some.inj h
  exact span_over.calls_ A0 c0 l0 a1_0 a1_1 a1_2 a1_3 a2 w hr0 hc0 hc.1 hc.2.1 (fun x hx => of_decide_eq_true (List.all_eq_true.mp hc.2.2 x hx))

end Go.Proofs.Ytehknkgplldiiaa.PIs
