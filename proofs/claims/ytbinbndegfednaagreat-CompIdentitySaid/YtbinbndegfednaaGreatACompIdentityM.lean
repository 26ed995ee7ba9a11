/- CompIdentity by the engine (layers 6, 9, 12, 20, 21, merged). -/
import Derived.Test.YtbinbndegfednaaGreatARectC
import Derived.OwnWalk
import Derived.Maps.AppendAt
import Derived.Test.YtbinbndegfednaaGreatAMatch
import Derived.Test.YtbinbndegfednaaGreatANum
import Derived.Test.YtbinbndegfednaaGreatACounts
import Derived.Test.YtbinbndegfednaaGreatATxt
import Derived.Test.YtbinbndegfednaaGreatATblOpen
import Derived.Test.YtbinbndegfednaaGreatAHxOpen
set_option linter.all false
set_option maxRecDepth 100000
namespace Go.Abs.Rc
open Go.RowKit Go.Proofs Go.Abs.Tab Go.Abs.Coll Go.Abs.Hx Go.Abs.Mt
attribute [local go_sem] Oper.semAt_some
def canR (l : List Rct) : List Rct := (cptR (sortR (l.filter okR))).filter fun x => !held (cptR (sortR (l.filter okR))) x
theorem rectCells {w : World} {S : Nat → Prop} {l : List Rct} {v : Value} (h : RV0 w S (aR l) v) : ∃ A c, v = .slice A l.length c ∧ l.length ≤ c ∧ ∀ i, i < l.length → ∃ ad, A = some ad ∧ S ad.block ∧ ∀ j x, (encR (l.getD i default))[j]? = some x → w.cell? (ad.add (i * 3 + j)) = some x := by
  generalize ha : aR l = a at h
  cases h with
  | sl sz n el A cap g hcap hmax hl hm hr =>
    unfold aR at ha
    injection ha with h1 h2 h3
    subst h1 h2 h3
    refine ⟨A, cap, rfl, hcap, fun i hi => ?_⟩
    obtain ⟨ad, e1, e2, _⟩ := hm i 0 hi (by omega)
    have hc : ∀ j, j < 3 → w.cell? (ad.add (i * 3 + j)) = some (g i j) := fun j hj => by
      obtain ⟨ad', q1, _, q3⟩ := hm i j hi hj
      rw [e1] at q1
      cases q1
      exact q3
    have r0 := hr i 0 _ hi rfl
    have r1 := hr i 1 _ hi rfl
    have r2 := hr i 2 _ hi rfl
    refine ⟨ad, e1, e2, fun j x hx => ?_⟩
    have hj : j < 3 := (List.getElem?_eq_some_iff.1 hx).1
    rw [hc j hj]
    have hj' : j = 0 ∨ j = 1 ∨ j = 2 := by omega
    clear hm hc hr
    rcases hj' with rfl | rfl | rfl
    all_goals obtain rfl := Option.some.inj hx
    · generalize g i 0 = y at r0; cases r0; rfl
    · generalize g i 1 = y at r1; cases r1; rfl
    · generalize g i 2 = y at r2; cases r2; rfl
  | _ => exact absurd ha (by unfold aR; intro h; cases h)
theorem saneC' (y : Rct) (w : World) : Calls Tryz.prog 76 #[.agg #[.int .i64 y.n, .int .i64 y.lo, .int .i64 y.hi]] w fun e w' => e = .returned (.bool (okR y)) ∧ Below w.heap.size w w' := by
  refine ((rectSane y trivial).2 w (fun _ => False) [.agg #[.int .i64 y.n, .int .i64 y.lo, .int .i64 y.hi]] (fun _ h => h.elim) ⟨rfl, fun i a v q1 q2 => ?_⟩).mono ?_
  · match i, q1, q2 with
    | 0, q1, q2 =>
      obtain rfl := Option.some.inj q1
      obtain rfl := Option.some.inj q2
      refine .agg (cR y) [.int .i64 y.n, .int .i64 y.lo, .int .i64 y.hi] rfl fun j a v p1 p2 => ?_
      have hj : j < 3 := (List.getElem?_eq_some_iff.1 p1).1
      have hc : j = 0 ∨ j = 1 ∨ j = 2 := by omega
      rcases hc with rfl | rfl | rfl
      all_goals
        obtain rfl := Option.some.inj p1
        obtain rfl := Option.some.inj p2
        exact .int _ _
  · rintro e w' ⟨v, S', rfl, hr, _, _, hb⟩
    cases hr
    exact ⟨rfl, hb⟩
theorem below_set {B : Nat} {a w : World} (h : Below B a w) {p : Addr} (hp : B ≤ p.block) (v : Value) : Below B a (w.setCell p v) := h.setCell hp v
theorem RO.below {w w' : World} {base : Nat} {v : Value} {l : List Rct} (h : RO w base v l) (hb : Below w.heap.size w w') : RO w' base v l :=
  h.kept (row := none) ⟨hb.os, hb.tape, hb.output, hb.size, fun k hk _ => hb.block k hk⟩ (by cases v.ownBlock <;> simp)
theorem newsB {w : World} {B : Nat} {ys : List Value} {t : TypeId} (hb : w.heap[B]? = some (.cells ys.toArray t (0, 0))) : ∀ j u, ys[j]? = some u → w.cell? ((⟨B, 0, none⟩ : Addr).add j) = some u := fun j u hu => by
  have h : w.cell? ⟨B, j, none⟩ = ys.toArray[j]? := blk_cell hb j
  have e : (⟨B, 0, none⟩ : Addr).add j = ⟨B, j, none⟩ := by
    unfold Addr.add
    split
    · rename_i h; subst h; rfl
    · simp
  rw [e, h]
  simpa using hu
section
variable {P : Program} {ops : Array Oper} {rest : List Oper} {o : Oper} {a : Act} {Q : Exit → Act → World → Prop}
theorem appCells {w0 W : World} (base : Nat) (hgd : o.guard = none) (s x : Operand) (t e : TypeId) (z : Value) (size bytes : Nat)
    (ho : o.op = .call { callee := .builtin .append, args := #[s, x], argTypes := #[t, t] })
    (ht : P.underlying t = some (.slice e)) (hinfo : (P.info? e).map (fun i => (i.zero, i.size, i.bytes)) = some (some z, size, bytes)) (hz : z.cells.size = size) (hs0 : 0 < size) (hb0 : 0 < bytes)
    (v : Value) (n : Nat) (xs ys : List Value) (hs : a.eval s = v) (hx : a.eval x = .slice (some ⟨W.heap.size, 0, none⟩) 1 1) (hys : ys.length = size) (h1 : ∀ u ∈ ys, u.oneCell' = true)
    (HO : W.ownsRow base e size v n xs) (HB : Below base w0 W) (hbase : base ≤ W.heap.size) (hl : (n + 1) * bytes ≤ 140737488355328)
    (h : ∀ v1 w1, w1.ownsRow base e size v1 (n + 1) (xs ++ ys) → Below base w0 w1 → W.grownBy w1 v.ownBlock → wpList P ops Q rest (a.put o.dst v1) w1) :
    wpList P ops Q (o :: rest) a (W.alloc (.cells ys.toArray e)) := by
  obtain ⟨i0, hi, hzz⟩ := Option.map_eq_some_iff.1 hinfo
  simp only [Prod.mk.injEq] at hzz
  obtain ⟨hz0, hz1, hz2⟩ := hzz
  have hlen : n + 1 ≤ 140737488355328 := Nat.le_trans (Nat.le_mul_of_pos_right _ hb0) hl
  have HOa : (W.alloc (.cells ys.toArray e)).ownsRow base e size v n xs := HO.kept (row := none) (World.grownBy_alloc W _ none) (by cases v.ownBlock <;> simp)
  refine wpList_append_own_at (W.alloc (.cells ys.toArray e)) hgd s x t ho base e i0 z size bytes ht hi hz0 hz1 hz2 hz hs0 v n xs hs HOa ⟨W.heap.size, 0, none⟩ 1 1 ys hx (by rw [hys]; simp)
    (newsB (heap_alloc_new W (.cells ys.toArray e))) h1 (by simp only [maxLen]; omega) hl (by simp; omega) ?_
  intro v1 w1 hown hg _ hat
  exact h v1 w1 hown ((HB.alloc hbase _).grown hg (by simp; omega) (fun k hk => (HO.lt k hk).1)) (World.grownBy.trans (World.grownBy_alloc W _ _) hg)
end
theorem own_ne {w : World} {base : Nat} {e t : TypeId} {size n g : Nat} {v : Value} {xs : List Value} {cs : Array Value} (h : w.ownsRow base e size v n xs) (hg : w.heap[g]? = some (.cells cs t (0, 0))) (hne : e ≠ t) : some g ≠ v.ownBlock := by
  rcases h.2 with ⟨rfl, _⟩ | ⟨g', cap, cur, rfl, _, hh, _⟩
  · simp [Value.ownBlock]
  · intro he
    have : g = g' := by simpa [Value.ownBlock] using he
    subst this
    rw [hg] at hh
    injection hh with hh
    injection hh with _ ht
    exact hne ht.symm
theorem RO.far {w : World} {base : Nat} {v : Value} {l : List Rct} {g : Nat} {cs : Array Value} (h : RO w base v l) (hg : w.heap[g]? = some (.cells cs 22 (0, 0))) (u : Value) : RO (w.setCell ⟨g, 0, none⟩ u) base v l := by
  have hne := own_ne h hg (by decide)
  exact h.kept (row := some g) ⟨rfl, rfl, rfl, by simp [World.setCell], fun k _ hk => Below.heap_setCell _ _ _ _ (fun e => hk (by simp [e]))⟩ (Or.inr (fun e => hne e.symm))
theorem RO.slice {w : World} {base : Nat} {v : Value} {l : List Rct} (h : RO w base v l) : ∃ A c, v = .slice A l.length c := by
  rcases R_row h with ⟨rfl, rfl⟩ | ⟨g, cap, rest, rfl, _⟩
  · exact ⟨none, 0, rfl⟩
  · exact ⟨_, cap, rfl⟩
theorem RowB.far {w : World} {g k : Nat} {l : List Rct} {rest : List Value} (h : RowB w g l rest) (hn : g ≠ k) (o : Value) : RowB (w.setCell ⟨k, 0, none⟩ o) g l rest := blk_far (p := ⟨k, 0, none⟩) h hn o
theorem below_KB {base g : Nat} {w a b : World} (h : Below base w a) (k : KB g a b) (hb : base ≤ g) (hs : base ≤ w.heap.size) : Below base w b :=
  ⟨k.os.trans h.os, k.tape.trans h.tape, k.output.trans h.output, Nat.le_trans h.size k.size, fun i hi => (k.block i (Nat.lt_of_lt_of_le hi (Nat.le_trans hs h.size)) (by omega)).trans (h.block i hi)⟩
theorem below_step {B : Nat} {a b c : World} (h : Below B a b) (k : Below b.heap.size b c) (hB : B ≤ a.heap.size := by first | exact Nat.le_refl _ | omega) : Below B a c := h.trans (k.mono (Nat.le_trans hB h.size))
theorem ok_good {r : Rct} (h : okR r = true) : goodR r = true := by
  have h1 := ok_len h
  have h2 := (of_decide_eq_true h).1
  unfold lo at h2
  rw [bytesC_len] at h2
  split at h2
  · rename_i h3
    have := (saneC_iff _ _).1 h3
    unfold goodR
    simp only [Bool.and_eq_true, decide_eq_true_eq]
    omega
  · omega
theorem filter_next {l : List Rct} {i : Nat} (h : i < l.length) : (l.take (i + 1)).filter okR = if okR l[i] = true then (l.take i).filter okR ++ [l[i]] else (l.take i).filter okR := by
  rw [filter_take_succ _ _ _ h]
  split <;> simp [*]
set_option maxHeartbeats 4000000 in
theorem delNil (g : Nat) (w : World) (hg : w.cell? ⟨g, 0, none⟩ = some (.slice none 0 0)) :
    Calls Tryz.prog 80 #[.slice none 0 0, .func (.func 82) #[] #[.pointer (some ⟨g, 0, none⟩)]] w fun e w' => e = .returned (.slice none 0 0) ∧ Below w.heap.size w w' := by
  have hlt := World.block_lt_of_cell? w _ hg
  have hidx : Calls Tryz.prog 122 #[.slice none 0 0, .func (.func 82) #[] #[.pointer (some ⟨g, 0, none⟩)]] w fun e w' => e = .returned (.int .i64 (-1)) ∧ Below w.heap.size w w' := by
    refine ((indexC ([], []) ⟨by show 0 < 4611686018427387904; omega, by show 0 < 4611686018427387904; omega⟩).2 w (fun k => k = g) [.slice none 0 0, .func (.func 82) #[] #[.pointer (some ⟨g, 0, none⟩)]] (fun b hb => by subst hb; exact hlt) ⟨rfl, fun i a v q1 q2 => ?_⟩).mono ?_
    · match i, q1, q2 with
      | 0, q1, q2 =>
        obtain rfl := Option.some.inj q1
        obtain rfl := Option.some.inj q2
        exact .sl 3 0 _ none 0 (fun _ _ => .bool false) (Nat.le_refl _) (Nat.zero_le _) (fun i hi => absurd hi (Nat.not_lt_zero _)) (fun i j hi => absurd hi (Nat.not_lt_zero _)) (fun i j a hi => absurd hi (Nat.not_lt_zero _))
      | 1, q1, q2 =>
        obtain rfl := Option.some.inj q1
        obtain rfl := Option.some.inj q2
        refine .fn _ [.rptr [aR []]] [.pointer (some ⟨g, 0, none⟩)] rfl fun j a v p1 p2 => ?_
        have hj : j < 1 := (List.getElem?_eq_some_iff.1 p1).1
        obtain rfl : j = 0 := by omega
        obtain rfl := Option.some.inj p1
        obtain rfl := Option.some.inj p2
        refine .rptr _ _ (fun _ => .slice none 0 0) rfl (fun j hj => ?_) (fun j a h1 => ?_)
        · obtain rfl : j = 0 := by simpa using hj
          exact ⟨rfl, hg⟩
        · have hj : j < 1 := (List.getElem?_eq_some_iff.1 h1).1
          obtain rfl : j = 0 := by omega
          obtain rfl := Option.some.inj h1
          exact .sl 3 0 _ none 0 (fun _ _ => .bool false) (Nat.le_refl _) (Nat.zero_le _) (fun i hi => absurd hi (Nat.not_lt_zero _)) (fun i j hi => absurd hi (Nat.not_lt_zero _)) (fun i j a hi => absurd hi (Nat.not_lt_zero _))
    · rintro e w' ⟨v, S', rfl, hr, _, _, hb⟩
      cases hr
      exact ⟨rfl, hb⟩
  have HI := Aside0.mk hidx
  clear hg hidx
  go_enter Tryz.func80, Tryz.ntmps80
  go_wp2_with (go_at_call 122; refine HI.out.mono ?_; rintro e w1 ⟨rfl, hb⟩; have HB := Aside0.mk hb; clear hb)
  go_ret
  exact ⟨rfl, HB.out⟩
set_option maxHeartbeats 8000000 in
theorem canonC (A0 : Option Addr) (c0 : Nat) (l0 : List Rct) (S : Nat → Prop) (w : World) (hS : ∀ b, S b → b < w.heap.size) (hv : RV0 w S (aR l0) (.slice A0 l0.length c0)) (hl : l0.length ≤ 1000000) :
    Calls Tryz.prog 51 #[.slice A0 l0.length c0] w fun e w' => ∃ v, e = .returned v ∧ RO w' w.heap.size v (canR l0) ∧ Below w.heap.size w w' := by
  have hu1 := Tryz.underlying22
  have hu2 := Tryz.underlying113
  have hmf : ∀ (fn : Go.Fn) (first cap : Array Value) (w : World), (Instr.makeFunc fn first cap).run Tryz.prog w = .ok (.func fn first cap) w := fun _ _ _ _ => rfl
  obtain ⟨A1, c1, e, hc, hcell⟩ := rectCells hv
  injection e with e1 e2 e3
  subst e1 e3
  have HL := Aside0.mk hl
  have HC := Aside0.mk hcell
  have HS := Aside0.mk hS
  clear hl hcell hc hS hv
  go_enter Tryz.func51, Tryz.ntmps51
  go_wp2
  go_loopg [8] (l0.length + 1) (fun kq v8 w' => ∃ (i : Nat) (v : Value), v8 = .int .i64 (i : Nat) ∧ Aside0 (i ≤ l0.length ∧ l0.length + 1 ≤ kq + i) ∧ Aside0 (w'.heap[w.heap.size]? = some (.cells #[v] 22 (0, 0))) ∧ Aside0 (RO w' w.heap.size v ((l0.take i).filter okR)) ∧ Aside0 (Below w.heap.size w w'))
  case atStart => exact ⟨0, .slice none 0 0, rfl, ⟨by omega⟩, ⟨heap_alloc_new _ _⟩, ⟨World.ownsRow_nil _ _ _ _⟩, ⟨below_alloc (Below.refl _ _) _⟩⟩
  case round =>
    obtain ⟨i, v, rfl, HI, BK, HO, HB⟩ := hrel
    cases gk with
    | zero => have := HI.out; omega
    | succ k1 =>
      by_cases hi : i < l0.length
      · obtain ⟨ad, ead, hsb, hcl⟩ := HC.out i hi
        subst ead
        have hw : ∀ p : Addr, p.block = ad.block → wr.cell? p = w.cell? p := fun p hp => World.cell?_of_block (by rw [hp]; exact HB.out.block _ (HS.out _ hsb))
        have hab : ∀ n, (ad.add n).block = ad.block := fun n => by unfold Addr.add; split <;> rfl
        have hao : (ad.add (i * 3)).off = ad.off + i * 3 := by unfold Addr.add; split <;> first | rfl | (rename_i h; omega)
        have hadd : ∀ j, 0 < j → (⟨(ad.add (i * 3)).block, (ad.add (i * 3)).off + j, none⟩ : Addr) = ad.add (i * 3 + j) := fun j hj => by
          rw [hab, hao]
          unfold Addr.add
          rw [if_neg (by omega), Nat.add_assoc]
        obtain ⟨y, hy⟩ : ∃ y, y = l0[i] := ⟨_, rfl⟩
        rw [getR hi, ← hy] at hcl
        have hx0 : wr.cell? (ad.add (i * 3)) = some (.int .i64 y.n) := (hw _ (hab _)).trans (hcl 0 _ rfl)
        have hx1 : wr.cell? ⟨(ad.add (i * 3)).block, (ad.add (i * 3)).off + 1, none⟩ = some (.int .i64 y.lo) := by rw [hadd 1 (by omega)]; exact (hw _ (hab _)).trans (hcl 1 _ rfl)
        have hx2 : wr.cell? ⟨(ad.add (i * 3)).block, (ad.add (i * 3)).off + 2, none⟩ = some (.int .i64 y.hi) := by rw [hadd 2 (by omega)]; exact (hw _ (hab _)).trans (hcl 2 _ rfl)
        have p0 : (0 ≤ (i : Int)) = True := eq_true (by omega)
        have p1 : ((i : Int) < (l0.length : Int)) = True := eq_true (by omega)
        have HLi := Aside0.mk hi
        have hnx := filter_next hi
        rw [← hy] at hnx
        have HNX := Aside0.mk hnx
        have hlf : ((l0.take i).filter okR).length ≤ i := by
          have := List.length_filter_le okR (l0.take i)
          rw [List.length_take] at this
          omega
        have HLF := Aside0.mk hlf
        clear hy hcl hw hadd hab hao hsb hnx hlf
        have HBN : Aside0 ((wr.alloc (.cells #[.int .i64 y.n, .int .i64 y.lo, .int .i64 y.hi] 113)).heap[wr.heap.size]? = some (.cells #[.int .i64 y.n, .int .i64 y.lo, .int .i64 y.hi] 113 (0, 0))) := ⟨heap_alloc_new _ _⟩
        have hsn := saneC' y
        cases ht : okR y with
        | true =>
          rw [ht] at hsn HNX
          have HSN := Aside0.mk hsn
          clear hsn
          go_wp2_with (first | (go_at_call 76; refine (HSN.out _).mono ?_; rintro e w1 ⟨rfl, hb⟩; have hbx := blk_below HBN.out hb; have b0 : w1.cell? ⟨wr.heap.size, 0, none⟩ = some (.int .i64 y.n) := (blk_cell hbx 0).trans rfl; have b1 : w1.cell? ⟨wr.heap.size, 1, none⟩ = some (.int .i64 y.lo) := (blk_cell hbx 1).trans rfl; have b2 : w1.cell? ⟨wr.heap.size, 2, none⟩ = some (.int .i64 y.hi) := (blk_cell hbx 2).trans rfl; have hgl := blk_below (blk_alloc BK.out _) hb; have g0 : w1.cell? ⟨w.heap.size, 0, none⟩ = some v := (blk_cell hgl 0).trans rfl; have BK1 := Aside0.mk hgl; have HO1 := Aside0.mk (RO.below (RO.below HO.out (below_alloc (Below.refl _ _) _)) hb); have HB1 := Aside0.mk (below_step (below_alloc HB.out _) hb); clear hb hbx hgl) | (at_builtin; refine appCells (w0 := w) w.heap.size rfl (.tmp 14) (.tmp 16) 22 113 (.agg #[(.int .i64 0), (.int .i64 0), (.int .i64 0)]) 3 24 rfl Tryz.underlying22 infoR rfl (by decide) (by decide) v ((l0.take i).filter okR).length (cellsR ((l0.take i).filter okR)) [.int .i64 y.n, .int .i64 y.lo, .int .i64 y.hi] rfl rfl rfl ?aP HO1.out HB1.out HB1.out.size ?aL ?_; (case aP => intro u hu; simp at hu; rcases hu with rfl | rfl | rfl <;> rfl); (case aL => have := HLF.out; have := HLi.out; have := HL.out; omega); intro v1 w9 ho hb hg; have ho' : RO w9 w.heap.size v1 ((l0.take i).filter okR ++ [y]) := (by unfold RO; rw [List.length_append, cellsR_app]; exact ho); obtain ⟨Aw, cw, ev1⟩ := RO.slice ho'; rw [List.length_append, List.length_singleton] at ev1; subst ev1; have hgl := (hg.block w.heap.size (blk_lt BK1.out) (own_ne HO1.out BK1.out (by decide))).trans BK1.out; have g0 : w9.cell? ⟨w.heap.size, 0, none⟩ = some v := (blk_cell hgl 0).trans rfl; have gf := blk_frozen hgl 0; have BK2 := Aside0.mk hgl; have HB2 := Aside0.mk hb; have HO2 := Aside0.mk ho'; clear hgl hb ho ho' hg))
          go_roundg k1
          case measure => have := HI.out; omega
          case rel => exact ⟨i + 1, _, (by first | rfl | (have := HL.out; have := HLi.out; congr 1; unfold wrap64; omega) | (have := HL.out; have := HLi.out; simp [wrap64]; omega)), ⟨by have := HI.out; have := HLi.out; omega⟩, ⟨blk_put BK2.out 0 _ rfl⟩, ⟨by rw [HNX.out, if_pos (by trivial)]; exact RO.far HO2.out BK2.out _⟩, ⟨below_set HB2.out (Nat.le_refl _) _⟩⟩
        | false =>
          rw [ht] at hsn HNX
          have HSN := Aside0.mk hsn
          clear hsn
          go_wp2_with (go_at_call 76; refine (HSN.out _).mono ?_; rintro e w1 ⟨rfl, hb⟩; have hbx := blk_below HBN.out hb; have b0 : w1.cell? ⟨wr.heap.size, 0, none⟩ = some (.int .i64 y.n) := (blk_cell hbx 0).trans rfl; have b1 : w1.cell? ⟨wr.heap.size, 1, none⟩ = some (.int .i64 y.lo) := (blk_cell hbx 1).trans rfl; have b2 : w1.cell? ⟨wr.heap.size, 2, none⟩ = some (.int .i64 y.hi) := (blk_cell hbx 2).trans rfl; have hgl := blk_below (blk_alloc BK.out _) hb; have g0 : w1.cell? ⟨w.heap.size, 0, none⟩ = some v := (blk_cell hgl 0).trans rfl; have BK1 := Aside0.mk hgl; have HO1 := Aside0.mk (RO.below (RO.below HO.out (below_alloc (Below.refl _ _) _)) hb); have HB1 := Aside0.mk (below_step (below_alloc HB.out _) hb); clear hb hbx hgl)
          go_roundg k1
          case measure => have := HI.out; omega
          case rel => exact ⟨i + 1, v, (by first | rfl | (have := HL.out; have := HLi.out; congr 1; unfold wrap64; omega) | (have := HL.out; have := HLi.out; simp [wrap64]; omega)), ⟨by have := HI.out; have := HLi.out; omega⟩, BK1, ⟨by rw [HNX.out, if_neg (by decide)]; exact HO1.out⟩, HB1⟩
      · obtain rfl : i = l0.length := by have := HI.out; omega
        have ho := HO.out
        rw [List.take_length] at ho
        clear HO
        have hgd : ∀ r ∈ l0.filter okR, goodR r = true := fun r hr => ok_good (List.mem_filter.1 hr).2
        have hfl : (l0.filter okR).length ≤ 1000000 := by
          have := List.length_filter_le okR l0
          have := HL.out
          omega
        have hcan : canR l0 = (cptR (sortR (l0.filter okR))).filter fun x => !held (cptR (sortR (l0.filter okR))) x := rfl
        generalize l0.filter okR = acc at *
        have HCAN := Aside0.mk hcan
        clear hcan
        rcases R_row ho with ⟨rfl, hn⟩ | ⟨g, cap, rest, rfl, hbg, hrow, hcap, hmax, hlen⟩
        · subst hn
          have hg0 : wr.cell? ⟨w.heap.size, 0, none⟩ = some (.slice none 0 0) := (blk_cell BK.out 0).trans rfl
          have hgf := blk_frozen BK.out 0
          have HR0 : Aside0 (canR l0 = []) := ⟨by
            rw [HCAN.out]
            have e : cptR (sortR []) = [] := by unfold sortR; rw [List.mergeSort_nil]; rfl
            rw [e]
            rfl⟩
          clear HCAN
          have HB3 : Aside0 (Below w.heap.size w wr) := HB
          have hS : ∀ W, Calls Tryz.prog 77 #[.slice none 0 0, .func (.func 78) #[] #[]] W fun e w' => e = .returned (.tuple #[]) ∧ w' = W := fun W => Go.Proofs.AnyF.slices_SortFunc_none Tryz.sortR none 0 _ W
          have hP : ∀ W, Calls Tryz.prog 79 #[.slice none 0 0] W fun e w' => e = .returned (.slice none 0 0) ∧ Below W.heap.size W w' := fun W => cpt0 none 0 0 (by decide) W
          have hQ : ∀ W, Calls Tryz.prog 81 #[.slice none 0 0] W fun e w' => e = .returned (.slice none 0 0) ∧ w' = W := fun W => Go.Proofs.AnyE.slices_Clone_nil Tryz.cloneR 0 0 W
          have hD : ∀ W, W.cell? ⟨w.heap.size, 0, none⟩ = some (.slice none 0 0) → Calls Tryz.prog 80 #[.slice none 0 0, .func (.func 82) #[] #[.pointer (some ⟨w.heap.size, 0, none⟩)]] W fun e w' => e = .returned (.slice none 0 0) ∧ Below W.heap.size W w' := fun W hW => delNil w.heap.size W hW
          have HSS := Aside0.mk hS
          have HP := Aside0.mk hP
          have HQ := Aside0.mk hQ
          have HD := Aside0.mk hD
          clear hS hP hQ hD ho hgd hfl
          go_wp2_with (first | (go_at_call 77; refine (HSS.out _).mono ?_; rintro e w1 ⟨rfl, rfl⟩) | (go_at_call 79; refine (HP.out _).mono ?_; rintro e w2 ⟨rfl, hb2⟩; have hbk := blk_below BK.out hb2; have hz0 : w2.cell? ⟨w.heap.size, 0, none⟩ = some (.slice none 0 0) := (blk_cell hbk 0).trans rfl; have hzf := blk_frozen hbk 0; have BK2 := Aside0.mk hbk; have HB2 := Aside0.mk (below_step HB3.out hb2); clear hbk hb2) | (go_at_call 81; refine (HQ.out _).mono ?_; rintro e w3 ⟨rfl, rfl⟩) | (go_at_call 80; refine (HD.out _ ((blk_cell (blk_put BK2.out 0 (.slice none 0 0) rfl) 0).trans rfl)).mono ?_; rintro e w4 ⟨rfl, hb4⟩; have HB4 := Aside0.mk (below_step (below_set HB2.out (Nat.le_refl _) (p := ⟨w.heap.size, 0, none⟩) (.slice none 0 0)) hb4); clear hb4))
          go_ret
          refine ⟨_, rfl, ?_, HB4.out⟩
          rw [HR0.out]
          exact World.ownsRow_nil _ _ _ _
        · have hsl : (sortR acc).length = acc.length := List.length_mergeSort acc
          have hcl : (cptR (sortR acc)).length ≤ acc.length := Nat.le_trans (cuR_len (sortR acc) (sortR acc).length) (Nat.le_of_eq hsl)
          have hcp : 2 ≤ 2 := Nat.le_refl _
          have hrl := cellsR_len acc
          obtain ⟨s, hs⟩ : ∃ s, cptR (sortR acc) = s := ⟨_, rfl⟩
          have hcan := HCAN.out
          rw [hs] at hcl hcan
          have hS := sortC g cap acc rest wr hrow hgd (by omega)
          have hP := fun W (hW : RowB W g (sortR acc) rest) => cptA g cap (sortR acc) rest W hW (by omega) (by omega)
          rw [hs, hsl] at hP
          have hgn : g ≠ w.heap.size := fun e => by
            have h1 := BK.out
            rw [← e, show wr.heap[g]? = _ from hrow] at h1
            injection h1 with h1
            injection h1 with _ h1
            exact absurd h1 (by decide)
          have HSS := Aside0.mk hS
          have HP := Aside0.mk hP
          have HNE := Aside0.mk hgn
          have HBG := Aside0.mk hbg
          have HLEN := Aside0.mk (show s.length ≤ cap ∧ s.length ≤ 1000000 ∧ cap ≤ maxLen by omega)
          have HCN := Aside0.mk hcan
          have hg0 : ∀ W, KB g wr W → W.cell? ⟨w.heap.size, 0, none⟩ = some (.slice (some ⟨g, 0, none⟩) acc.length cap) := fun W hW => (blk_cell (hW.blk BK.out (fun e => HNE.out e.symm)) 0).trans rfl
          have hg1 := hg0 wr (KB.refl g wr)
          have HG0 := Aside0.mk hg0
          have HB3 : Aside0 (Below w.heap.size w wr) := HB
          clear hS hP hgd hsl hcl hs hrow hgn hbg hg0 hcap hmax hlen HCAN hfl hcan ho hcp hrl
          go_wp2_with (first | (go_at_call 77; refine (HSS.out).mono ?_; rintro e w1 ⟨rfl, hrow1, hkb1⟩; have hg1 := HG0.out _ hkb1; have HRW1 := Aside0.mk hrow1; have HKB1 := Aside0.mk hkb1; clear hrow1 hkb1) | (go_at_call 79; refine (HP.out _ HRW1.out).mono ?_; rintro e w2 ⟨rfl, ⟨rest2, hrow2, hlen2⟩, hkb2⟩; have hbk := (HKB1.out.trans hkb2).blk BK.out (fun e => HNE.out e.symm); have hz0 : w2.cell? ⟨w.heap.size, 0, none⟩ = some (.slice (some ⟨g, 0, none⟩) acc.length cap) := (blk_cell hbk 0).trans rfl; have hzf := blk_frozen hbk 0; have BK2 := Aside0.mk hbk; have HRW2 := Aside0.mk hrow2; have HB2 := Aside0.mk (below_KB HB3.out (HKB1.out.trans hkb2) HBG.out (Nat.le_refl _)); clear hbk hrow2 hlen2 hkb2) | (go_at_call 81; refine (cloneA g cap s rest2 _ (RowB.far HRW2.out HNE.out _) (by have := HLEN.out; omega)).mono ?_; rintro e w4 ⟨gd, capd, rest4, rfl, hgd, hrow4, hl4, hm4, hn4, hb4⟩; have HRW4 := Aside0.mk hrow4; have HL4 := Aside0.mk (And.intro hl4 (And.intro hm4 hn4)); have HGD : Aside0 (w.heap.size ≤ gd ∧ g ≠ gd ∧ w.heap.size ≠ gd) := ⟨by have h1 := blk_lt (RowB.far HRW2.out HNE.out (.slice (some ⟨g, 0, none⟩) s.length cap)); have h2 := blk_lt (blk_put BK2.out 0 (.slice (some ⟨g, 0, none⟩) s.length cap) rfl); omega⟩; have BK4 := Aside0.mk (blk_below (blk_put BK2.out 0 (.slice (some ⟨g, 0, none⟩) s.length cap) rfl) hb4); have HRA4 := Aside0.mk (Below.row hb4 (RowB.far HRW2.out HNE.out (.slice (some ⟨g, 0, none⟩) s.length cap))); have HB4 := Aside0.mk (below_step (below_set HB2.out (Nat.le_refl _) (p := ⟨w.heap.size, 0, none⟩) (.slice (some ⟨g, 0, none⟩) s.length cap)) hb4); clear hgd hrow4 hl4 hm4 hn4 hb4) | (go_at_call 80; refine (delA g cap s rest2 w.heap.size gd capd s rest4 (held s) w4 HRA4.out HLEN.out.1 ⟨by have := HLEN.out; omega, HLEN.out.2.2⟩ ((blk_cell BK4.out 0).trans rfl) HRW4.out ⟨HL4.out.1, HL4.out.2.1⟩ (by have := HLEN.out; omega) HGD.out.2.1 HGD.out.2.2 (fun _ => rfl)).mono ?_; rintro e w5 ⟨rfl, ⟨rest5, hrow5, hlen5⟩, hkb5⟩; have HRW5 := Aside0.mk hrow5; have HLEN5 := Aside0.mk hlen5; have HB5 := Aside0.mk (below_KB HB4.out hkb5 HGD.out.1 (Nat.le_refl _)); clear hrow5 hlen5 hkb5))
          go_ret
          refine ⟨_, rfl, ?_, HB5.out⟩
          rw [HCN.out]
          refine row_R HRW5.out HGD.out.1 (Nat.le_trans (List.length_filter_le _ _) HL4.out.1) HL4.out.2.1 ?_
          have e1 := HL4.out.2.2
          have e2 := HLEN5.out
          rw [cellsR_len] at e1 ⊢
          omega
def SCanR : Sp := ⟨List Rct, fun l => l.length ≤ 1000000, fun l => [aR l], fun l => .row 113 3 (canR l).length (els cR (canR l))⟩
theorem rectCanon : SpOK Tryz.prog 51 SCanR := fun (l : List Rct) hl => by
  refine ⟨⟨_, Tryz.func51, rfl, rfl⟩, fun w S vs hS hv => ?_⟩
  obtain ⟨hl1, hv2⟩ := hv
  match vs, hl1, hv2 with
  | [v], hl1, hv2 =>
    have h0 := hv2 0 _ _ rfl rfl
    obtain ⟨A, c, rfl, _, _⟩ := rectCells h0
    refine (canonC A c l S w hS h0 hl).mono ?_
    rintro e w' ⟨v, rfl, ho, hb⟩
    refine ⟨v, S, rfl, ⟨⟨_, ho, fun i hi => ⟨rfl, rfl, fun j a hj => ?_⟩⟩, fun b hb2 hSb => ?_⟩, fun _ q => q, fun b q => ⟨Nat.lt_of_lt_of_le (hS b q) hb.size, .inl q⟩, hb⟩
    · obtain ⟨h1, h2, h3⟩ := cellsR_get (canR l) i hi
      have e : els cR (canR l) i = cR (canR l)[i] := by unfold els; rw [getR hi]
      rw [e] at hj
      have hj3 : j < 3 := (List.getElem?_eq_some_iff.1 hj).1
      have hc : j = 0 ∨ j = 1 ∨ j = 2 := by omega
      rcases hc with rfl | rfl | rfl
      · obtain rfl := Option.some.inj hj
        exact ⟨_, h1, .int _ _⟩
      · obtain rfl := Option.some.inj hj
        exact ⟨_, h2, .int _ _⟩
      · obtain rfl := Option.some.inj hj
        exact ⟨_, h3, .int _ _⟩
    · have := (ho.lt b hb2).1
      have := hS b hSb
      omega
end Go.Abs.Rc
set_option maxRecDepth 100000
namespace Go.Abs.Rc
open Go.RowKit Go.Proofs Go.Abs.Tab Go.Abs.Dest Go.Abs.Span Go.Abs.Coll Go.Abs.Hx Go.Abs.Mt
def sameRs (a b : List Rct) : Bool := decide (a.length = b.length) && (List.range a.length).all fun j => eqR (a.getD j default) (b.getD j default)
def SSameR : Sp := ⟨List Rct × List Rct, fun (a, _) => a.length < 9223372036854775807, fun (a, b) => [aR a, aR b], fun (a, b) => .st (.sb (sameRs a b))⟩
theorem sameRs_at (a b : List Rct) : sameRs a b = true ↔ a.length = b.length ∧ ∀ j, j < a.length → a.getD j default = b.getD j default := by
  unfold sameRs
  rw [Bool.and_eq_true, decide_eq_true_iff, List.all_eq_true]
  simp only [List.mem_range, eqR_iff]
theorem sameRs_iff (a b : List Rct) : sameRs a b = true ↔ a = b := by
  rw [sameRs_at]
  constructor
  · rintro ⟨h1, h2⟩
    refine List.ext_getElem h1 fun i hi hj => ?_
    have := h2 i hi
    rwa [getR hi, getR hj] at this
  · rintro rfl
    exact ⟨rfl, fun _ _ => rfl⟩
theorem sameRs_no {a b : List Rct} (h : ¬ (a.length = b.length ∧ ∀ j, j < a.length → a.getD j default = b.getD j default)) : sameRs a b = false := by
  rw [Bool.eq_false_iff, ne_eq, sameRs_at]
  exact h
theorem slEqualR : SpOK Tryz.prog 50 SSameR := fun ⟨a, b⟩ ha => by
  have hC := base
  have ha : a.length < 9223372036854775807 := ha
  ((refine Fn.ofF hC Tryz.func50 Tryz.ntmps50 rfl rfl rfl ?_); (repeat' first | (with_reducible exact trivial) | (with_reducible rfl) | (refine And.intro ?_ ?_) | (refine Need.mk ?_) | exact True.intro | (first | (refine ⟨_, Told.refl _, ?_, ?_⟩) | (refine ⟨⟨_, _⟩, Told.refl _, ?_, ?_⟩) | (refine ⟨⟨_, _, _⟩, Told.refl _, ?_, ?_⟩) | (refine ⟨⟨_, _, _, _⟩, Told.refl _, ?_, ?_⟩) | (refine ⟨⟨_, _, _, _, _⟩, Told.refl _, ?_, ?_⟩) | (refine ⟨(), Told.refl _, ?_, ?_⟩)) | (with_reducible intro _) | (refine fun (_ : Bool) => ?_)))
  · ((try dsimp only at *); (try simp only [decide_eq_true_eq, decide_eq_false_iff_not, beq_iff_eq, bne_iff_ne, beq_eq_false_iff_ne, bne_eq_false_iff_eq, ne_eq, Decidable.not_not, ge_iff_le, gt_iff_lt, Bool.not_eq_true', Bool.not_eq_false', Int.not_lt, Int.not_le, Nat.not_lt, Nat.not_le] at *))
    exact (sameRs_no fun h => by omega).symm
  refine AW.loop (I := fun k : Nat => ⟨26, [(0, aR a), (1, aR b), (12, .int .i64 a.length), (13, .int .i64 k)], []⟩) (fun k => k ≤ a.length ∧ ∀ j, j < k → a.getD j default = b.getD j default) (fun k => a.length - k) 0 ⟨Nat.zero_le _, fun j hj => by omega⟩ ?_ ?_
  · (repeat' first | (with_reducible exact trivial) | (with_reducible rfl) | (refine And.intro ?_ ?_) | (refine Need.mk ?_) | exact True.intro | (first | (refine ⟨_, Told.refl _, ?_, ?_⟩) | (refine ⟨⟨_, _⟩, Told.refl _, ?_, ?_⟩) | (refine ⟨⟨_, _, _⟩, Told.refl _, ?_, ?_⟩) | (refine ⟨⟨_, _, _, _⟩, Told.refl _, ?_, ?_⟩) | (refine ⟨⟨_, _, _, _, _⟩, Told.refl _, ?_, ?_⟩) | (refine ⟨(), Told.refl _, ?_, ?_⟩)) | (with_reducible intro _) | (refine fun (_ : Bool) => ?_)); rfl
  · intro k ⟨hk, he⟩
    ((refine AW.byF ‹_› ?_); (repeat' first | (with_reducible exact trivial) | (with_reducible rfl) | (refine And.intro ?_ ?_) | (refine Need.mk ?_) | exact True.intro | (first | (refine ⟨_, Told.refl _, ?_, ?_⟩) | (refine ⟨⟨_, _⟩, Told.refl _, ?_, ?_⟩) | (refine ⟨⟨_, _, _⟩, Told.refl _, ?_, ?_⟩) | (refine ⟨⟨_, _, _, _⟩, Told.refl _, ?_, ?_⟩) | (refine ⟨⟨_, _, _, _, _⟩, Told.refl _, ?_, ?_⟩) | (refine ⟨(), Told.refl _, ?_, ?_⟩)) | (with_reducible intro _) | (refine fun (_ : Bool) => ?_)))
    any_goals (intros; first | rfl | (((try dsimp only at *); (try simp only [decide_eq_true_eq, decide_eq_false_iff_not, beq_iff_eq, bne_iff_ne, beq_eq_false_iff_ne, bne_eq_false_iff_eq, ne_eq, Decidable.not_not, ge_iff_le, gt_iff_lt, Bool.not_eq_true', Bool.not_eq_false', Int.not_lt, Int.not_le, Nat.not_lt, Nat.not_le] at *)) <;> (try simp only [IntKind.wrap_i64] at *) <;> omega))
    · ((try dsimp only at *); (try simp only [decide_eq_true_eq, decide_eq_false_iff_not, beq_iff_eq, bne_iff_ne, beq_eq_false_iff_ne, bne_eq_false_iff_eq, ne_eq, Decidable.not_not, ge_iff_le, gt_iff_lt, Bool.not_eq_true', Bool.not_eq_false', Int.not_lt, Int.not_le, Nat.not_lt, Nat.not_le] at *))
      refine (sameRs_no fun h => ?_).symm
      have := h.2 k (by omega)
      simp_all [eqA, bval]
    · ((try dsimp only at *); (try simp only [decide_eq_true_eq, decide_eq_false_iff_not, beq_iff_eq, bne_iff_ne, beq_eq_false_iff_ne, bne_eq_false_iff_eq, ne_eq, Decidable.not_not, ge_iff_le, gt_iff_lt, Bool.not_eq_true', Bool.not_eq_false', Int.not_lt, Int.not_le, Nat.not_lt, Nat.not_le] at *))
      refine Exists.intro (k + 1) (And.intro ?_ (And.intro ?_ ?_))
      · refine ⟨by omega, fun j hj => ?_⟩
        by_cases e : j = k
        · subst e
          have : eqR (a.getD j default) (b.getD j default) = true := by simp_all [eqA, bval, eqR]
          exact (eqR_iff _ _).1 this
        · exact he j (by omega)
      · omega
      · (repeat' first | (with_reducible exact trivial) | (with_reducible rfl) | (refine And.intro ?_ ?_) | (refine Need.mk ?_) | exact True.intro | (first | (refine ⟨_, Told.refl _, ?_, ?_⟩) | (refine ⟨⟨_, _⟩, Told.refl _, ?_, ?_⟩) | (refine ⟨⟨_, _, _⟩, Told.refl _, ?_, ?_⟩) | (refine ⟨⟨_, _, _, _⟩, Told.refl _, ?_, ?_⟩) | (refine ⟨⟨_, _, _, _, _⟩, Told.refl _, ?_, ?_⟩) | (refine ⟨(), Told.refl _, ?_, ?_⟩)) | (with_reducible intro _) | (refine fun (_ : Bool) => ?_))
        (intros; first | rfl | (((try dsimp only at *); (try simp only [decide_eq_true_eq, decide_eq_false_iff_not, beq_iff_eq, bne_iff_ne, beq_eq_false_iff_ne, bne_eq_false_iff_eq, ne_eq, Decidable.not_not, ge_iff_le, gt_iff_lt, Bool.not_eq_true', Bool.not_eq_false', Int.not_lt, Int.not_le, Nat.not_lt, Nat.not_le] at *)) <;> (try simp only [IntKind.wrap_i64] at *) <;> omega))
    · ((try dsimp only at *); (try simp only [decide_eq_true_eq, decide_eq_false_iff_not, beq_iff_eq, bne_iff_ne, beq_eq_false_iff_ne, bne_eq_false_iff_eq, ne_eq, Decidable.not_not, ge_iff_le, gt_iff_lt, Bool.not_eq_true', Bool.not_eq_false', Int.not_lt, Int.not_le, Nat.not_lt, Nat.not_le] at *))
      obtain rfl : k = a.length := by omega
      exact ((sameRs_at a b).2 ⟨by omega, he⟩).symm
def saneT (t : Tbl) : Bool := decide (t.wmode = 0 ∨ t.wmode = 1) && (sameRs (canR t.spaces) t.spaces && ((ES true).canon t.cids && ((ES false).canon t.nots && EB.canon t.bfs)))
def SSaneT : Sp := ⟨Tbl, fun t => t.spaces.length ≤ 1000000 ∧ t.cids.length < 9223372036854775807 ∧ t.nots.length < 9223372036854775807 ∧ t.bfs.length < 9223372036854775807, fun t => [.agg (cT t)], fun t => .st (.sb (saneT t))⟩
theorem canR_len (l : List Rct) : (canR l).length ≤ l.length := by
  unfold canR
  refine Nat.le_trans (List.length_filter_le _ _) ?_
  refine Nat.le_trans (cuR_len _ _) ?_
  unfold sortR
  rw [List.length_mergeSort]
  exact List.length_filter_le _ _
set_option maxHeartbeats 4000000 in
theorem saneTC : SpOK Tryz.prog 29 SSaneT := fun (t : Tbl) ⟨h1, h2, h3, h4⟩ => by
  have hC : COK Tryz.prog (cfg [(51, SCanR), (50, SSameR), (52, SCanonS), (53, SCanon)]) := Ty.ty.cfg ⟨rectCanon, slEqualR, canon, canonB, trivial⟩
  have hl := canR_len t.spaces
  ((refine Fn.ofF hC Tryz.func29 Tryz.ntmps29 rfl rfl rfl ?_); (repeat' first | (with_reducible exact trivial) | (with_reducible rfl) | (refine And.intro ?_ ?_) | (refine Need.mk ?_) | exact True.intro | (first | (refine ⟨_, Told.refl _, ?_, ?_⟩) | (refine ⟨⟨_, _⟩, Told.refl _, ?_, ?_⟩) | (refine ⟨⟨_, _, _⟩, Told.refl _, ?_, ?_⟩) | (refine ⟨⟨_, _, _, _⟩, Told.refl _, ?_, ?_⟩) | (refine ⟨⟨_, _, _, _, _⟩, Told.refl _, ?_, ?_⟩) | (refine ⟨(), Told.refl _, ?_, ?_⟩)) | (with_reducible intro _) | (refine fun (_ : Bool) => ?_)))
  any_goals exact h1
  any_goals exact h2
  any_goals exact h3
  any_goals exact h4
  any_goals (show (canR t.spaces).length < 9223372036854775807; omega)
  all_goals unfold saneT
  all_goals simp_all
end Go.Abs.Rc
set_option maxRecDepth 100000
namespace Go.Abs.Lk
open Go.RowKit Go.Proofs Go.Abs.Tab Go.Abs.Dest Go.Abs.Span Go.Abs.Coll Go.Abs.Hx Go.Abs.Mt
def SUniL : Sp := ⟨Tbl × Int × Int, fun (t, n, v) => t.bfs.length < 4611686018427387904, fun (t, n, v) => [.agg (cT t), aCode n v], fun (t, n, v) => rO (EB.find t.bfs n v)⟩
theorem uniL : SpOK Tryz.prog 22 SUniL := fun ⟨t, n, v⟩ ht => by
  have hC : COK Tryz.prog (cfg [(41, SFind)]) := Ty.ty.cfg ⟨Dest.find, trivial⟩
  ((refine Fn.ofF hC Tryz.func22 Tryz.ntmps22 rfl rfl rfl ?_); (repeat' first | (with_reducible exact trivial) | (with_reducible rfl) | (refine And.intro ?_ ?_) | (refine Need.mk ?_) | exact True.intro | (first | (refine ⟨_, Told.refl _, ?_, ?_⟩) | (refine ⟨⟨_, _⟩, Told.refl _, ?_, ?_⟩) | (refine ⟨⟨_, _, _⟩, Told.refl _, ?_, ?_⟩) | (refine ⟨⟨_, _, _, _⟩, Told.refl _, ?_, ?_⟩) | (refine ⟨⟨_, _, _, _, _⟩, Told.refl _, ?_, ?_⟩) | (refine ⟨(), Told.refl _, ?_, ?_⟩)) | (with_reducible intro _) | (refine fun (_ : Bool) => ?_)))
  exact ht
structure Sg where
  p : Pc
  kind : Int
  cid : Int
  u : List Int
  has : Bool
instance : Inhabited Sg := ⟨⟨default, 0, 0, [], false⟩⟩
def cG (s : Sg) : List AV := [.int .i64 s.p.at_, .int .i64 s.p.n, .sb s.p.full, .int .i64 s.p.cn, .int .i64 s.p.cv, .int .i64 s.kind, .int .i64 s.cid, aI s.u, .sb s.has]
theorem cG_emb : Emb cG 9 := fun x => ⟨rfl, ⟨⟨rfl⟩, ⟨rfl⟩, ⟨rfl⟩, ⟨rfl⟩, ⟨rfl⟩, ⟨rfl⟩, ⟨rfl⟩, ⟨⟨rfl⟩, els_of ci_emb (n := 0) (fun _ _ => rfl)⟩, ⟨rfl⟩, trivial⟩, rfl⟩
abbrev aG (l : List Sg) : AV := aL cG 9 l
def sgOf (t : Tbl) (p : Pc) : Sg := if p.full = true then ⟨p, (numT t p.cn p.cv).2, (numT t p.cn p.cv).1, (EB.find t.bfs p.cn p.cv).getD [], (EB.find t.bfs p.cn p.cv).isSome⟩ else ⟨p, 0, 0, [], false⟩
def sgs (t : Tbl) (s : List Int) : List Sg := (allAt t.spaces s 0).map (sgOf t)
def smallT (t : Tbl) : Prop := t.spaces.length < 1000000000 ∧ t.cids.length < 1000000000 ∧ t.nots.length < 1000000000 ∧ t.bfs.length < 1000000000
def SLook : Sp := ⟨Tbl × List Int, fun (t, s) => smallT t ∧ s.length < 1000000000 ∧ B8 s, fun (t, s) => [.agg (cT t), a8 s], fun (t, s) => .row 83 9 (sgs t s).length (els cG (sgs t s))⟩
theorem getP {l : List Pc} {i : Nat} (h : i < l.length) : l.getD i default = l[i] := by simp [List.getD, h]
theorem map_next {t : Tbl} {L : List Pc} {k : Nat} (hk : k < L.length) : (L.take (k + 1)).map (sgOf t) = (L.take k).map (sgOf t) ++ [sgOf t (L.getD k default)] := by
  rw [List.take_succ_eq_append_getElem hk, List.map_append, getP hk]
  rfl
set_option maxHeartbeats 16000000 in
theorem look : SpOK Tryz.prog 34 SLook := fun ⟨t, s⟩ ⟨ht, hs, h8⟩ => by
  have hC : COK Tryz.prog (cfg [(31, SAll), (24, SNum), (22, SUniL)]) := Ty.ty.cfg ⟨all, num, uniL, trivial⟩
  obtain ⟨t1, t2, t3, t4⟩ := ht
  have hlen := allAt_len (l := t.spaces) (s := s) (s.length - 0) 0 rfl
  have t4' : t.bfs.length < 4611686018427387904 := by omega
  obtain ⟨L, hL⟩ : ∃ L, L = allAt t.spaces s 0 := ⟨_, rfl⟩
  rw [← hL] at hlen
  ((refine Fn.ofF hC Tryz.func34 Tryz.ntmps34 rfl rfl rfl ?_); (repeat' first | (with_reducible exact trivial) | (with_reducible rfl) | (refine And.intro ?_ ?_) | (refine Need.mk ?_) | exact True.intro | (first | (refine ⟨_, Told.refl _, ?_, ?_⟩) | (refine ⟨⟨_, _⟩, Told.refl _, ?_, ?_⟩) | (refine ⟨⟨_, _, _⟩, Told.refl _, ?_, ?_⟩) | (refine ⟨⟨_, _, _, _⟩, Told.refl _, ?_, ?_⟩) | (refine ⟨⟨_, _, _, _, _⟩, Told.refl _, ?_, ?_⟩) | (refine ⟨(), Told.refl _, ?_, ?_⟩)) | (with_reducible intro _) | (refine fun (_ : Bool) => ?_)))
  any_goals first | exact t1 | exact hs | exact h8
  refine AW.loop (I := fun k : Nat => ⟨46, [(2, .ptr 0 0), (5, .own 2), (12, .own 1), (13, .int .i64 L.length), (14, .int .i64 k)], [.box 33 (cT t), .row 53 5 L.length (els cP L), .row 83 9 ((L.take k).map (sgOf t)).length (els cG ((L.take k).map (sgOf t)))]⟩) (fun k => k ≤ L.length) (fun k => L.length - k) 0 (Nat.zero_le _) ?_ ?_
  · clear hlen
    subst hL
    (repeat' first | (with_reducible exact trivial) | (with_reducible rfl) | (refine And.intro ?_ ?_) | (refine Need.mk ?_) | exact True.intro | (first | (refine ⟨_, Told.refl _, ?_, ?_⟩) | (refine ⟨⟨_, _⟩, Told.refl _, ?_, ?_⟩) | (refine ⟨⟨_, _, _⟩, Told.refl _, ?_, ?_⟩) | (refine ⟨⟨_, _, _, _⟩, Told.refl _, ?_, ?_⟩) | (refine ⟨⟨_, _, _, _, _⟩, Told.refl _, ?_, ?_⟩) | (refine ⟨(), Told.refl _, ?_, ?_⟩)) | (with_reducible intro _) | (refine fun (_ : Bool) => ?_))
    all_goals first | rfl
  · intro k hk
    rcases Nat.lt_or_ge k L.length with hlt | hge
    · have hd : decide ((k : Int) < (L.length : Int)) = true := decide_eq_true (by omega)
      have hw := iw (n := (k : Int) + 1) (by omega) (by omega)
      have hnx := map_next (t := t) hlt
      have hml : ((L.take k).map (sgOf t)).length ≤ L.length := by rw [List.length_map, List.length_take]; omega
      ((refine AW.byF ‹_› ?_); (repeat' first | (with_reducible exact trivial) | (with_reducible rfl) | (refine And.intro ?_ ?_) | (refine Need.mk ?_) | exact True.intro | (first | (refine ⟨_, Told.refl _, ?_, ?_⟩) | (refine ⟨⟨_, _⟩, Told.refl _, ?_, ?_⟩) | (refine ⟨⟨_, _, _⟩, Told.refl _, ?_, ?_⟩) | (refine ⟨⟨_, _, _, _⟩, Told.refl _, ?_, ?_⟩) | (refine ⟨⟨_, _, _, _, _⟩, Told.refl _, ?_, ?_⟩) | (refine ⟨(), Told.refl _, ?_, ?_⟩)) | (with_reducible intro _) | (refine fun (_ : Bool) => ?_)))
      all_goals first | (exact absurd ‹decide ((k : Int) < (L.length : Int)) = false› (by rw [hd]; decide)) | skip
      any_goals (refine Exists.intro (k + 1) (And.intro ?_ (And.intro ?_ ?_)); all_goals (repeat' first | (with_reducible exact trivial) | (with_reducible rfl) | (refine And.intro ?_ ?_) | (refine Need.mk ?_) | exact True.intro | (first | (refine ⟨_, Told.refl _, ?_, ?_⟩) | (refine ⟨⟨_, _⟩, Told.refl _, ?_, ?_⟩) | (refine ⟨⟨_, _, _⟩, Told.refl _, ?_, ?_⟩) | (refine ⟨⟨_, _, _, _⟩, Told.refl _, ?_, ?_⟩) | (refine ⟨⟨_, _, _, _, _⟩, Told.refl _, ?_, ?_⟩) | (refine ⟨(), Told.refl _, ?_, ?_⟩)) | (with_reducible intro _) | (refine fun (_ : Bool) => ?_)))
      all_goals try simp only [Int.toNat_natCast] at *
      all_goals first
        | omega
        | exact t4'
        | (show (((L.take k).map (sgOf t)).length + 1) * 88 ≤ _; omega)
        | (rw [hw]; rfl)
        | (rw [hnx, List.length_append]; rfl)
        | (have q := ‹(L.getD k default).full = true›
           have hp : sgOf t (L.getD k default) = ⟨L.getD k default, (numT t (L.getD k default).cn (L.getD k default).cv).2, (numT t (L.getD k default).cn (L.getD k default).cv).1, (EB.find t.bfs (L.getD k default).cn (L.getD k default).cv).getD [], (EB.find t.bfs (L.getD k default).cn (L.getD k default).cv).isSome⟩ := if_pos q
           rename_i z hz
           rw [hnx, hp] at hz ⊢
           refine snoc_sub cG_emb rfl ?_ z hz
           refine ⟨⟨rfl⟩, ⟨rfl⟩, ⟨rfl⟩, ⟨rfl⟩, ⟨rfl⟩, ⟨rfl⟩, ⟨rfl⟩, ?_, ⟨rfl⟩, trivial⟩
           exact ⟨⟨rfl⟩, els_of ci_emb (n := 0) (fun _ _ => rfl)⟩)
        | (have q := ‹(L.getD k default).full = false›
           have hp : sgOf t (L.getD k default) = ⟨L.getD k default, 0, 0, [], false⟩ := if_neg (by rw [q]; decide)
           rename_i z hz
           rw [hnx, hp] at hz ⊢
           refine snoc_sub cG_emb rfl ?_ z hz
           exact ⟨⟨rfl⟩, ⟨rfl⟩, ⟨rfl⟩, ⟨rfl⟩, ⟨rfl⟩, ⟨rfl⟩, ⟨rfl⟩, ⟨rfl⟩, ⟨rfl⟩, trivial⟩)

    · obtain rfl : k = L.length := by omega
      have hd : decide ((L.length : Int) < (L.length : Int)) = false := decide_eq_false (by omega)
      have hr : (L.take L.length).map (sgOf t) = sgs t s := by rw [List.take_length, hL]; rfl
      ((refine AW.byF ‹_› ?_); (repeat' first | (with_reducible exact trivial) | (with_reducible rfl) | (refine And.intro ?_ ?_) | (refine Need.mk ?_) | exact True.intro | (first | (refine ⟨_, Told.refl _, ?_, ?_⟩) | (refine ⟨⟨_, _⟩, Told.refl _, ?_, ?_⟩) | (refine ⟨⟨_, _, _⟩, Told.refl _, ?_, ?_⟩) | (refine ⟨⟨_, _, _, _⟩, Told.refl _, ?_, ?_⟩) | (refine ⟨⟨_, _, _, _, _⟩, Told.refl _, ?_, ?_⟩) | (refine ⟨(), Told.refl _, ?_, ?_⟩)) | (with_reducible intro _) | (refine fun (_ : Bool) => ?_)))
      all_goals first | (exact absurd ‹decide ((L.length : Int) < (L.length : Int)) = true› (by rw [hd]; decide)) | skip
      all_goals rw [hr]
end Go.Abs.Lk
set_option maxRecDepth 100000
namespace Go.Abs.Ci
open Go.RowKit Go.Proofs Go.Abs.Tab Go.Abs.Dest Go.Abs.Span Go.Abs.Coll Go.Abs.Hx Go.Abs.Mt Go.Abs.Lk Go.Abs.Rc
def idR : Rct := ⟨2, 0, 65535⟩
def idS : Spn := ⟨2, 0, 65535, 0⟩
theorem okId : okR idR = true := by decide +kernel
theorem canId : canR [idR] = [idR] := by
  have h1 : [idR].filter okR = [idR] := by rw [List.filter_cons, okId]; rfl
  have h2 : sortR [idR] = [idR] := List.mergeSort_singleton _
  unfold canR
  have h3 : cptR [idR] = [idR] := rfl
  have h4 : held [idR] idR = false := by decide +kernel
  rw [h1, h2, h3, List.filter_cons, h4]
  rfl
theorem in1 (v : Int) : inR idR 1 v = false := by
  unfold inR
  have : ((1 : Int) == idR.n) = false := by decide
  rw [this]
  simp
theorem in2 {v : Int} (h : 0 ≤ v ∧ v < 65536) : inR idR 2 v = true := by
  have hs : saneC 2 v = true := (saneC_iff 2 v).2 (by omega)
  have h8 := bytesC_8 2 v
  have hl : (bytesC 2 v).length = 2 := by rw [bytesC_len, if_pos hs]; rfl
  have hf : fits idR (bytesC 2 v) = 2 := by
    unfold Hx.fits
    rw [if_pos okId, hl]
    refine fitTo_all fun j hj => ?_
    have hj : j < 2 := hj
    have hg := B8.get h8 j
    have c1 : (lo idR).getD j default = 0 := by
      have : j = 0 ∨ j = 1 := by omega
      rcases this with rfl | rfl <;> decide +kernel
    have c2 : (hi idR).getD j default = 255 := by
      have : j = 0 ∨ j = 1 := by omega
      rcases this with rfl | rfl <;> decide +kernel
    unfold inK
    rw [c1, c2]
    exact decide_eq_true hg
  unfold inR
  rw [okId, hs, hf]
  rfl
theorem val2 {b : List Int} (h8 : B8 b) (h : b.length = 2) : valN b = 2 ∧ valV b = b.getD 0 default * 256 + b.getD 1 default ∧ 0 ≤ valV b ∧ valV b < 65536 ∧ valOk b = true := by
  have ok : valOk b = true := decide_eq_true (by omega)
  have hv : valV b = b.getD 0 default * 256 + b.getD 1 default := by
    unfold valV
    rw [if_pos ok]
    match b, h with
    | [x, y], _ => simp [valI]
  have g0 := B8.get h8 0
  have g1 := B8.get h8 1
  refine ⟨?_, hv, by omega, by omega, ok⟩
  unfold valN
  rw [if_pos ok, h]
  rfl
theorem full1F {b : List Int} (h : b.length = 1) : fullB [idR] b = false := by
  have ok : valOk b = true := decide_eq_true (by omega)
  unfold fullB anyR valN
  rw [if_pos ok, h]
  simp [in1]
theorem full2T {b : List Int} (h8 : B8 b) (h : b.length = 2) : fullB [idR] b = true := by
  obtain ⟨h1, h2, h3, h4, h5⟩ := val2 h8 h
  unfold fullB anyR
  rw [h5, h1]
  simp [in2 ⟨h3, h4⟩]
theorem code2 {b : List Int} (h8 : B8 b) (h : 2 ≤ b.length) : code [idR] b = some 2 := by
  refine code_some (k := 1) (by omega) (fun j hj => ?_) ?_
  · obtain rfl : j = 0 := by omega
    exact full1F (by rw [List.length_take]; omega)
  · exact full2T (B8.take h8 _) (by rw [List.length_take]; omega)
theorem code1 {b : List Int} (h : b.length = 1) : code [idR] b = none := by
  refine code_none (fun j hj => ?_)
  obtain rfl : j = 0 := by omega
  exact full1F (by rw [List.length_take]; omega)
theorem next2 {b : List Int} (h8 : B8 b) (h : 2 ≤ b.length) : nextN [idR] b = 2 := by
  unfold nextN
  rw [code2 h8 h]
  rfl
theorem next1 {b : List Int} (h : b.length = 1) : nextN [idR] b = 1 := by
  have := next_rng (l := [idR]) (b := b) (by omega)
  omega
theorem idAt {s : List Int} (h8 : B8 s) : ∀ (f a : Nat), s.length - a ≤ f → (allAt [idR] s a).length = (s.length - a + 1) / 2 ∧ ∀ i, i < (s.length - a + 1) / 2 → (allAt [idR] s a).getD i default = pcAt [idR] s (a + 2 * i)
  | 0, a, h => by
    rw [allAt_end (by omega)]
    refine ⟨?_, fun i hi => ?_⟩
    · show 0 = _
      omega
    · omega
  | f + 1, a, h => by
    rcases Nat.lt_or_ge a s.length with q | q
    · rw [allAt_step q]
      by_cases q2 : a + 1 < s.length
      · have hn : stepN [idR] s a = 2 := by
          unfold stepN
          rw [next2 (B8.drop h8 a) (by rw [List.length_drop]; omega)]
          rfl
        rw [hn]
        obtain ⟨i1, i2⟩ := idAt h8 f (a + 2) (by omega)
        refine ⟨by rw [List.length_cons, i1]; omega, fun i hi => ?_⟩
        cases i with
        | zero => rfl
        | succ i =>
          rw [List.getD_cons_succ, i2 i (by omega)]
          congr 1
          omega
      · have hn : stepN [idR] s a = 1 := by
          unfold stepN
          rw [next1 (by rw [List.length_drop]; omega)]
          rfl
        rw [hn, allAt_end (l := [idR]) (a := a + 1) (by omega)]
        refine ⟨by show 1 = _; omega, fun i hi => ?_⟩
        obtain rfl : i = 0 := by omega
        rfl
    · rw [allAt_end (by omega)]
      refine ⟨?_, fun i hi => ?_⟩
      · show 0 = _
        omega
      · omega
theorem pc2 {s : List Int} (h8 : B8 s) {a : Nat} (h : a + 1 < s.length) : (pcAt [idR] s a).full = true ∧ (pcAt [idR] s a).cn = 2 ∧ (pcAt [idR] s a).cv = s.getD a default * 256 + s.getD (a + 1) default := by
  have hl : (s.drop a).length = s.length - a := List.length_drop
  have hc := code2 (B8.drop h8 a) (by omega)
  have hn : stepN [idR] s a = 2 := by
    unfold stepN
    rw [next2 (B8.drop h8 a) (by omega)]
    rfl
  have hp : pcAt [idR] s a = ⟨a, nextN [idR] (s.drop a), true, valN ((s.drop a).take 2), valV ((s.drop a).take 2)⟩ := by
    unfold pcAt
    rw [if_pos (by rw [hc]; rfl), hn]
  obtain ⟨v1, v2, _⟩ := val2 (b := (s.drop a).take 2) (B8.take (B8.drop h8 a) 2) (by rw [List.length_take]; omega)
  rw [hp]
  refine ⟨rfl, v1, ?_⟩
  show valV _ = _
  rw [v2]
  simp only [List.getD, List.getElem?_take, List.getElem?_drop]
  simp
theorem pc1 {s : List Int} {a : Nat} (h : a + 1 = s.length) : (pcAt [idR] s a).full = false := by
  have hc := code1 (b := s.drop a) (by rw [List.length_drop]; omega)
  unfold pcAt
  rw [if_neg (by rw [hc]; decide)]
theorem findI (n v : Int) : (ES true).find [idS] n v = if n = 2 ∧ 0 ≤ v ∧ v ≤ 65535 then some v else none := by
  have hc : (ES true).canon [idS] = true := by decide +kernel
  unfold En.find
  rw [if_pos hc]
  show (if (ES true).has idS n v then some ((ES true).val idS v) else none) = _
  have hh : (ES true).has idS n v ↔ (n = 2 ∧ 0 ≤ v ∧ v ≤ 65535) := by
    show ((2 : Int) = n ∧ (0 : Int) ≤ v ∧ v ≤ 65535) ↔ _
    exact ⟨fun ⟨a, b⟩ => ⟨a.symm, b⟩, fun ⟨a, b⟩ => ⟨a.symm, b⟩⟩
  by_cases h : n = 2 ∧ 0 ≤ v ∧ v ≤ 65535
  · rw [if_pos h, if_pos (hh.2 h)]
    congr 1
    show (0 : Int) + more true (v - 0) = v
    simp [more]
  · rw [if_neg h, if_neg (fun q => h (hh.1 q))]
theorem findN (n v : Int) : (ES false).find [] n v = none := by
  unfold En.find
  split <;> rfl
theorem findB0 (n v : Int) : EB.find [] n v = none := by
  unfold En.find
  split <;> rfl
theorem numI (w n v : Int) : numT (identT w) n v = if n = 2 ∧ 0 ≤ v ∧ v ≤ 65535 then (v, 1) else (0, 0) := by
  have h1 : (identT w).cids = [idS] := rfl
  have h2 : (identT w).nots = [] := rfl
  unfold numT
  rw [h1, h2, findI, findN]
  by_cases h : n = 2 ∧ 0 ≤ v ∧ v ≤ 65535
  · rw [if_pos h, if_pos h]
  · rw [if_neg h, if_neg h]
theorem saneI (w : Int) : saneT (identT w) = true := by
  have h0 : (identT w).spaces = [idR] := rfl
  have h1 : (identT w).cids = [idS] := rfl
  have h2 : (identT w).nots = [] := rfl
  have h3 : (identT w).bfs = [] := rfl
  have h4 : (identT w).wmode = modeT w := rfl
  unfold saneT
  rw [h0, h1, h2, h3, h4, canId, decide_eq_true (modeT_rng w), (sameRs_iff _ _).2 rfl]
  decide +kernel
theorem sgsI {w : Int} {s : List Int} (h8 : B8 s) : (sgs (identT w) s).length = (s.length + 1) / 2 ∧ ∀ i, i < (s.length + 1) / 2 →
    (2 * i + 1 < s.length → ((sgs (identT w) s).getD i default).p.full = true ∧ ((sgs (identT w) s).getD i default).cid = s.getD (2 * i) default * 256 + s.getD (2 * i + 1) default)
    ∧ (¬ 2 * i + 1 < s.length → ((sgs (identT w) s).getD i default).p.full = false) ∧ ((sgs (identT w) s).getD i default).has = false := by
  obtain ⟨l1, l2⟩ := idAt h8 s.length 0 (by omega)
  have hs : (identT w).spaces = [idR] := rfl
  unfold sgs
  rw [hs]
  refine ⟨by rw [List.length_map, l1]; rfl, fun i hi => ?_⟩
  have hil : i < (allAt [idR] s 0).length := by rw [l1]; omega
  have hg : ((allAt [idR] s 0).map (sgOf (identT w))).getD i default = sgOf (identT w) (pcAt [idR] s (2 * i)) := by
    have h1 := l2 i (by omega)
    rw [Nat.zero_add] at h1
    rw [← h1]
    simp [List.getD, hil]
  rw [hg]
  have hb : ∀ n v, EB.find (identT w).bfs n v = none := findB0
  refine ⟨fun q => ?_, fun q => ?_, ?_⟩
  · obtain ⟨p1, p2, p3⟩ := pc2 h8 q
    have g0 := B8.get h8 (2 * i)
    have g1 := B8.get h8 (2 * i + 1)
    unfold sgOf
    rw [if_pos p1, p2, p3, numI, if_pos (by omega)]
    exact ⟨p1, rfl⟩
  · have p1 := pc1 (s := s) (a := 2 * i) (by omega)
    unfold sgOf
    rw [if_neg (by rw [p1]; decide)]
    exact p1
  · unfold sgOf
    split
    · simp only [hb]
      rfl
    · rfl
end Go.Abs.Ci
set_option maxRecDepth 100000
namespace Go.Abs.Lk
open Go.RowKit Go.Proofs Go.Abs.Tab Go.Abs.Dest Go.Abs.Span Go.Abs.Coll Go.Abs.Hx Go.Abs.Mt Go.Abs.Utf Go.Abs.Txt
attribute [local go_sem] Oper.semAt_some
theorem decC {u : List Int} {v : Value} {S : Nat → Prop} {w : World} (hu : u.length ≤ 1000000000) (hS : ∀ b, S b → b < w.heap.size) (h : RV0 w S (aI u) v) : Calls Tryz.prog 27 #[v] w fun e w' => ∃ x S2, e = .returned x ∧ RV0 w' S2 (aI (decU u)) x ∧ (∀ b, S2 b → b < w'.heap.size) ∧ Below w.heap.size w w' := by
  refine ((dec16 u hu).2 w S [v] hS ⟨rfl, fun i a x h1 h2 => ?_⟩).mono ?_
  · match i, h1, h2 with
    | 0, h1, h2 =>
      obtain rfl := Option.some.inj h1
      obtain rfl := Option.some.inj h2
      exact h
  · rintro e w' ⟨x, S', rfl, hr, _, hs', hb⟩
    refine ⟨x, fun b => S' b ∨ x.ownBlock = some b, rfl, row_sl (ρ := []) hr (fun b q => .inl q) (fun b q => .inr q), fun b q => ?_, hb⟩
    rcases q with q | q
    · exact (hs' b q).1
    · obtain ⟨⟨inner, hown, _⟩, _⟩ := hr
      rcases hown.2 with ⟨rfl, _⟩ | ⟨g, cap, cur, rfl, hbg, hg, _⟩
      · cases q
      · simp [Value.ownBlock] at q
        subst q
        exact (Array.getElem?_eq_some_iff.1 hg).1
theorem txtC {u : List Int} {v : Value} {S : Nat → Prop} {w : World} (hu : u.length < 4398046511104) (hS : ∀ b, S b → b < w.heap.size) (h : RV0 w S (aI u) v) : Calls Tryz.prog 26 #[v] w fun e w' => e = .returned (.string (encB u)) ∧ Below w.heap.size w w' := by
  refine ((text u hu).2 w S [v] hS ⟨rfl, fun i a x h1 h2 => ?_⟩).mono ?_
  · match i, h1, h2 with
    | 0, h1, h2 =>
      obtain rfl := Option.some.inj h1
      obtain rfl := Option.some.inj h2
      exact h
  · rintro e w' ⟨x, S', rfl, hr, _, _, hb⟩
    cases hr
    exact ⟨rfl, hb⟩
def oneS (rp : Int) (s : Sg) : List Int := if s.has = true then decU s.u else [rp]
def encS (rp : Int) (l : List Sg) : List UInt8 := l.flatMap fun s => enc (oneS rp s)
def txtS (rp : Int) (l : List Sg) : ByteArray := ⟨(encS rp l).toArray⟩
theorem encS_len (rp : Int) : ∀ (l : List Sg), (∀ s ∈ l, s.u.length ≤ 1000000) → (encS rp l).length ≤ 4000004 * l.length
  | [], _ => by simp [encS]
  | s :: l, h => by
    have ih := encS_len rp l (fun x hx => h x (List.mem_cons_of_mem _ hx))
    have h1 := enc_len (oneS rp s)
    have h2 : (oneS rp s).length ≤ 1000001 := by
      unfold oneS
      have := decU_len s.u
      have := h s List.mem_cons_self
      split
      · omega
      · simp
    unfold encS at ih ⊢
    rw [List.flatMap_cons, List.length_append, List.length_cons]
    omega
theorem sgCells {w : World} {S : Nat → Prop} {l : List Sg} {v : Value} (h : RV0 w S (aG l) v) : ∃ A c, v = .slice A l.length c ∧ l.length ≤ c ∧ ∀ i, i < l.length → ∃ ad uv, A = some ad ∧ S ad.block ∧ RV0 w S (aI (l.getD i default).u) uv ∧ ∀ j x, ([.int .i64 (l.getD i default).p.at_, .int .i64 (l.getD i default).p.n, .bool (l.getD i default).p.full, .int .i64 (l.getD i default).p.cn, .int .i64 (l.getD i default).p.cv, .int .i64 (l.getD i default).kind, .int .i64 (l.getD i default).cid, uv, .bool (l.getD i default).has] : List Value)[j]? = some x → w.cell? (ad.add (i * 9 + j)) = some x := by
  generalize ha : aG l = a at h
  cases h with
  | sl sz n el A cap g hcap hmax hl hm hr =>
    unfold aG at ha
    injection ha with h1 h2 h3
    subst h1 h2 h3
    refine ⟨A, cap, rfl, hcap, fun i hi => ?_⟩
    obtain ⟨ad, e1, e2, _⟩ := hm i 0 hi (by omega)
    have hc : ∀ j, j < 9 → w.cell? (ad.add (i * 9 + j)) = some (g i j) := fun j hj => by
      obtain ⟨ad', q1, _, q3⟩ := hm i j hi hj
      rw [e1] at q1
      cases q1
      exact q3
    have r0 := hr i 0 _ hi rfl
    have r1 := hr i 1 _ hi rfl
    have r2 := hr i 2 _ hi rfl
    have r3 := hr i 3 _ hi rfl
    have r4 := hr i 4 _ hi rfl
    have r5 := hr i 5 _ hi rfl
    have r6 := hr i 6 _ hi rfl
    have r7 := hr i 7 _ hi rfl
    have r8 := hr i 8 _ hi rfl
    refine ⟨ad, g i 7, e1, e2, r7, fun j x hx => ?_⟩
    have hj : j < 9 := (List.getElem?_eq_some_iff.1 hx).1
    rw [hc j hj]
    have hj' : j = 0 ∨ j = 1 ∨ j = 2 ∨ j = 3 ∨ j = 4 ∨ j = 5 ∨ j = 6 ∨ j = 7 ∨ j = 8 := by omega
    clear hm hc hr
    rcases hj' with rfl | rfl | rfl | rfl | rfl | rfl | rfl | rfl | rfl
    all_goals obtain rfl := Option.some.inj hx
    · generalize g i 0 = y at r0; cases r0; rfl
    · generalize g i 1 = y at r1; cases r1; rfl
    · generalize g i 2 = y at r2; cases r2; rfl
    · generalize g i 3 = y at r3; cases r3; rfl
    · generalize g i 4 = y at r4; cases r4; rfl
    · generalize g i 5 = y at r5; cases r5; rfl
    · generalize g i 6 = y at r6; cases r6; rfl
    · rfl
    · generalize g i 8 = y at r8; cases r8; rfl
  | _ => exact absurd ha (by unfold aG; intro h; cases h)
theorem intRow1 {w : World} {b : Nat} {c : Nat} {x : Int} (hc : 1 ≤ c) (hm : c ≤ maxLen) (h : w.cell? ⟨b, 0, none⟩ = some (.int .i64 x)) : RV0 w (fun k => k = b) (aI [x]) (.slice (some ⟨b, 0, none⟩) 1 c) := by
  refine .sl 1 1 _ _ c (fun _ _ => .int .i64 x) hc hm (fun i hi => ⟨rfl, rfl⟩) (fun i j hi hj => ?_) (fun i j a hi h1 => ?_)
  · obtain rfl : i = 0 := by omega
    obtain rfl : j = 0 := by omega
    exact ⟨_, rfl, rfl, h⟩
  · obtain rfl : i = 0 := by omega
    cases j with
    | zero =>
      obtain rfl := Option.some.inj h1
      exact .int _ _
    | succ j => simp [els, ci] at h1
theorem b_alloc {B : Nat} {a w : World} (h : Below B a w) (hB : B ≤ a.heap.size) (o : Obj) : Below B a (w.alloc o) := h.alloc (Nat.le_trans hB h.size) o
theorem enc_one (rp : Int) (s : Sg) (h : s.u.length ≤ 1000000) : (encB (oneS rp s)).size ≤ 4000004 := by
  have h1 := enc_len (oneS rp s)
  have h2 : (oneS rp s).length ≤ 1000001 := by
    unfold oneS
    have := decU_len s.u
    split
    · omega
    · simp
  show (enc (oneS rp s)).toArray.size ≤ _
  rw [List.size_toArray]
  omega
theorem strCells_enc (l : List Int) : Lib.strCells (encB l) = Lib.byteCells (enc l) := rfl
theorem txtNew (rp : Int) (wr : World) (o1 : Obj) : Calls Tryz.prog 26 #[.slice (some ⟨wr.heap.size + 1, 0, none⟩) 1 1] ((wr.alloc o1).alloc (.cells #[.int .i64 rp] 3)) fun e w' => e = .returned (.string (encB [rp])) ∧ Below ((wr.alloc o1).alloc (.cells #[.int .i64 rp] 3)).heap.size ((wr.alloc o1).alloc (.cells #[.int .i64 rp] 3)) w' := by
  have hsz : (wr.alloc o1).heap.size = wr.heap.size + 1 := Array.size_push ..
  have hsz2 : ((wr.alloc o1).alloc (.cells #[.int .i64 rp] 3)).heap.size = wr.heap.size + 2 := (Array.size_push ..).trans (congrArg (· + 1) hsz)
  have hnew := heap_alloc_new (wr.alloc o1) (.cells #[.int .i64 rp] 3)
  rw [hsz] at hnew
  refine txtC (u := [rp]) (S := fun k => k = wr.heap.size + 1) (by show 1 < 4398046511104; omega) (fun b q => by rw [hsz2]; omega) (intRow1 (Nat.le_refl _) (by decide) ?_)
  unfold World.cell?
  rw [hnew]
  rfl
def STxtS : Sp := ⟨List Sg × Int, fun (l, rp) => l.length ≤ 1000000 ∧ ∀ s ∈ l, s.u.length ≤ 1000000, fun (l, rp) => [aG l, .int .i64 rp], fun (l, rp) => .st (.str (txtS rp l))⟩
end Go.Abs.Lk
set_option maxRecDepth 100000
namespace Go.Abs.Lk
open Go.RowKit Go.Proofs Go.Abs.Tab Go.Abs.Dest Go.Abs.Span Go.Abs.Coll Go.Abs.Hx Go.Abs.Mt Go.Abs.Utf Go.Abs.Txt
theorem aL_refl {α : Type} [Inhabited α] {f : α → List AV} {sz : Nat} (hf : Emb f sz) (l : List α) : sub0 (aL f sz l) (aL f sz l) := by
  show cond (Nat.beq sz sz) _ False
  rw [Nat.beq_refl]
  exact ⟨⟨rfl⟩, els_of hf (n := 0) (fun _ _ => rfl)⟩
theorem aL_lit {α : Type} [Inhabited α] {f : α → List AV} {sz : Nat} (hf : Emb f sz) (l : List α) : sub0 (aL f sz l) (.sl sz l.length (elt (l.map f))) := (lit_sub hf l).1
def SAwakeL : Sp := ⟨Unit, fun _ => True, fun _ => [], fun _ => .st (.lit true)⟩
def tL : Tbl := ⟨ByteArray.empty, 0, [⟨1, 0, 255⟩], [⟨1, 65, 66, 7⟩], [], [⟨1, 65, 65, [913]⟩]⟩
def SLookA (L : List Sg) : Sp := ⟨Unit, fun _ => True, fun _ => [.agg (cT tL), a8 [65, 66]], fun _ => .row 83 9 L.length (els cG L)⟩
theorem findS_nil (st : Bool) (n v : Int) : (ES st).find [] n v = none := by
  unfold En.find
  split <;> rfl
def SKinds : Sp := ⟨Tbl × Int × Int, fun _ => True, fun (t, n, v) => [.agg (cT t), aCode n v], fun _ => .st (.lit true)⟩
end Go.Abs.Lk
set_option maxRecDepth 100000
namespace Go.Abs.Lk
open Go.RowKit Go.Proofs Go.Abs.Tab Go.Abs.Dest Go.Abs.Span Go.Abs.Coll Go.Abs.Hx Go.Abs.Mt Go.Abs.Utf Go.Abs.Txt
theorem getG {l : List Sg} {i : Nat} (h : i < l.length) : l.getD i default = l[i] := by simp [List.getD, h]
theorem find_short {l : List Bf} {n v : Int} {a : List Int} (h : EB.find l n v = some a) : a.length ≤ 64 := by
  have hc : EB.canon l = true := by
    unfold En.find at h
    split at h
    · assumption
    · cases h
  have htab := (EB.canon_iff l).1 hc
  rw [EB.find_tab htab] at h
  obtain ⟨b, hb, ⟨h1, h2, h3⟩, rfl⟩ := Tb.get_mem _ h
  have r := rngB (htab.1 b hb)
  show (fur b.to (v - b.lo)).length ≤ 64
  rw [fur_len]
  omega
theorem sg_short (t : Tbl) (s : List Int) : ∀ x ∈ sgs t s, x.u.length ≤ 64 := by
  intro x hx
  obtain ⟨p, _, rfl⟩ := List.mem_map.1 hx
  unfold sgOf
  split
  · show ((EB.find t.bfs p.cn p.cv).getD []).length ≤ 64
    cases h : EB.find t.bfs p.cn p.cv with
    | none => exact Nat.zero_le _
    | some a => exact find_short h
  · exact Nat.zero_le _
theorem sgs_len (t : Tbl) (s : List Int) : (sgs t s).length ≤ s.length := by
  unfold sgs
  rw [List.length_map]
  exact allAt_len _ 0 rfl
theorem few_small {t : Tbl} (h : (!fewT t) = false) : smallT t := by
  have := (fewT_iff t).1 (by simpa using h)
  exact ⟨by omega, by omega, by omega, by omega⟩
theorem sgs_mode (t : Tbl) (name : ByteArray) (mode : Int) (s : List Int) : sgs ⟨name, mode, t.spaces, t.cids, t.nots, t.bfs⟩ s = sgs t s := rfl
def SModes : Sp := ⟨Tbl × List Int × ByteArray × Int, fun (t, s, nm, md) => B8 s, fun (t, s, nm, md) => [.agg (cT t), a8 s, .str nm, .int .i64 md], fun _ => .st (.lit true)⟩
end Go.Abs.Lk
set_option maxRecDepth 100000
namespace Go.Abs.Cp
open Go.RowKit Go.Proofs Go.Abs.Tab Go.Abs.Dest Go.Abs.Span Go.Abs.Coll Go.Abs.Hx Go.Abs.Mt Go.Abs.Lk Go.Abs.Rc Go.Abs.Utf Go.Abs.Txt
structure Fnt where
  enc : Tbl
  hasUni : Bool
  uni : Tbl
  hasColl : Bool
  coll : Tbl
def cFn (f : Fnt) : List AV := [.str f.enc.name, .int .i64 f.enc.wmode, aR f.enc.spaces, aS f.enc.cids, aS f.enc.nots, aB f.enc.bfs, .sb f.hasUni, .str f.uni.name, .int .i64 f.uni.wmode, aR f.uni.spaces, aS f.uni.cids, aS f.uni.nots, aB f.uni.bfs, .sb f.hasColl, .str f.coll.name, .int .i64 f.coll.wmode, aR f.coll.spaces, aS f.coll.cids, aS f.coll.nots, aB f.coll.bfs]
structure Chr where
  p : Pc
  cid : Int
  from_ : Int
  text : ByteArray
instance : Inhabited Chr := ⟨⟨default, 0, 0, ByteArray.empty⟩⟩
def cH (c : Chr) : List AV := [.int .i64 c.p.at_, .int .i64 c.p.n, .sb c.p.full, .int .i64 c.p.cn, .int .i64 c.p.cv, .int .i64 c.cid, .int .i64 c.from_, .str c.text]
theorem cH_emb : Emb cH 8 := fun x => ⟨rfl, ⟨⟨rfl⟩, ⟨rfl⟩, ⟨rfl⟩, ⟨rfl⟩, ⟨rfl⟩, ⟨rfl⟩, ⟨rfl⟩, ⟨rfl⟩, trivial⟩, rfl⟩
abbrev aH (l : List Chr) : AV := aL cH 8 l
inductive Tl where
  | u (t : Tbl)
  | c (t : Tbl)
  | n
instance : Inhabited Tl := ⟨.n⟩
def cTl : Tl → List AV
  | .u t => [.iface 123 (.agg (cT t))]
  | .c t => [.iface 124 (.agg (cT t))]
  | .n => [.iface 126 (.agg [])]
theorem cTl_emb : Emb cTl 1 := fun x => by
  cases x with
  | u t => exact ⟨rfl, ⟨(cT_emb t).2.1, trivial⟩, rfl⟩
  | c t => exact ⟨rfl, ⟨(cT_emb t).2.1, trivial⟩, rfl⟩
  | n => exact ⟨rfl, ⟨trivial, trivial⟩, rfl⟩
abbrev aTl (l : List Tl) : AV := aL cTl 1 l
/-! Whether a font may be. -/
def small (t : Tbl) : Prop := t.spaces.length ≤ 1000000 ∧ t.cids.length ≤ 1000000 ∧ t.nots.length ≤ 1000000 ∧ t.bfs.length ≤ 1000000
def saneF (f : Fnt) : Bool := saneT f.enc && ((!f.hasUni || saneT f.uni) && (!f.hasColl || saneT f.coll))
def SSaneF : Sp := ⟨Fnt, fun f => small f.enc ∧ small f.uni ∧ small f.coll, fun f => [.agg (cFn f)], fun f => .st (.sb (saneF f))⟩
set_option maxHeartbeats 4000000 in
theorem saneFC : SpOK Tryz.prog 10 SSaneF := fun (f : Fnt) ⟨⟨a1, a2, a3, a4⟩, ⟨b1, b2, b3, b4⟩, ⟨c1, c2, c3, c4⟩⟩ => by
  have hC : COK Tryz.prog (cfg [(29, SSaneT)]) := Ty.ty.cfg ⟨saneTC, trivial⟩
  ((refine Fn.ofF hC Tryz.func10 Tryz.ntmps10 rfl rfl rfl ?_); (repeat' first | (with_reducible exact trivial) | (with_reducible rfl) | (refine And.intro ?_ ?_) | (refine Need.mk ?_) | exact True.intro | (first | (refine ⟨_, Told.refl _, ?_, ?_⟩) | (refine ⟨⟨_, _⟩, Told.refl _, ?_, ?_⟩) | (refine ⟨⟨_, _, _⟩, Told.refl _, ?_, ?_⟩) | (refine ⟨⟨_, _, _, _⟩, Told.refl _, ?_, ?_⟩) | (refine ⟨⟨_, _, _, _, _⟩, Told.refl _, ?_, ?_⟩) | (refine ⟨(), Told.refl _, ?_, ?_⟩)) | (with_reducible intro _) | (refine fun (_ : Bool) => ?_)))
  any_goals omega
  all_goals unfold saneF
  all_goals simp_all
/-! What tells a text. -/
def tellO : Tl → Sg → Option ByteArray
  | .u t, x => (EB.find t.bfs x.p.cn x.p.cv).map fun a => encB (decU a)
  | .c t, x => if x.kind = 0 then none else (EB.find t.bfs 2 x.cid).map fun a => encB (decU a)
  | .n, _ => some (encB [65533])
def tellB (t : Tl) (x : Sg) : ByteArray := (tellO t x).getD ByteArray.empty
def fromT : Tl → Int
  | .u _ => 1
  | .c _ => 2
  | .n => 0
def STellU : Sp := ⟨Tbl × Sg, fun (t, x) => t.bfs.length ≤ 1000000, fun (t, x) => [.agg (cT t), .agg (cG x)], fun (t, x) => .st (.tup [.str (tellB (.u t) x), .sb (tellO (.u t) x).isSome])⟩
def STellC : Sp := ⟨Tbl × Sg, fun (t, x) => t.bfs.length ≤ 1000000, fun (t, x) => [.agg (cT t), .agg (cG x)], fun (t, x) => .st (.tup [.str (tellB (.c t) x), .sb (tellO (.c t) x).isSome])⟩
def STellN : Sp := ⟨Sg, fun _ => True, fun x => [.agg [], .agg (cG x)], fun x => .st (.tup [.str (tellB .n x), .sb (tellO .n x).isSome])⟩
def SFromU : Sp := ⟨Tbl, fun _ => True, fun t => [.agg (cT t)], fun _ => .st (.int .i64 1)⟩
def SFromC : Sp := ⟨Tbl, fun _ => True, fun t => [.agg (cT t)], fun _ => .st (.int .i64 2)⟩
def SFromN : Sp := ⟨Unit, fun _ => True, fun _ => [.agg []], fun _ => .st (.int .i64 0)⟩
theorem decU_nil : decU [] = [] := by decide +kernel
theorem encB_nil : encB [] = ByteArray.empty := rfl
theorem find_opt (l : List Bf) (n v : Int) : ((EB.find l n v).getD []).length ≤ 64 := by
  cases h : EB.find l n v with
  | none => exact Nat.zero_le _
  | some a => exact (find_rng h).1
theorem enc_opt (l : List Bf) (n v : Int) : encB (decU ((EB.find l n v).getD [])) = ((EB.find l n v).map fun a => encB (decU a)).getD ByteArray.empty := by
  cases h : EB.find l n v with
  | none => show encB (decU []) = ByteArray.empty; rw [decU_nil]; rfl
  | some a => rfl
theorem txt_opt (l : List Bf) (n v : Int) : txtO (EB.find l n v) = ((EB.find l n v).map fun a => encB (decU a)).getD ByteArray.empty := by
  cases h : EB.find l n v <;> rfl
theorem tellU : SpOK Tryz.prog 185 STellU := fun ⟨t, x⟩ ht => by
  have hC : COK Tryz.prog (cfg [(22, SUniL), (27, SDec), (26, SText)]) := Ty.ty.cfg ⟨uniL, dec16, text, trivial⟩
  have ht : t.bfs.length ≤ 1000000 := ht
  have hf := find_opt t.bfs x.p.cn x.p.cv
  have hd := decU_len ((EB.find t.bfs x.p.cn x.p.cv).getD [])
  ((refine Fn.ofF hC Tryz.func185 Tryz.ntmps185 rfl rfl rfl ?_); (repeat' first | (with_reducible exact trivial) | (with_reducible rfl) | (refine And.intro ?_ ?_) | (refine Need.mk ?_) | exact True.intro | (first | (refine ⟨_, Told.refl _, ?_, ?_⟩) | (refine ⟨⟨_, _⟩, Told.refl _, ?_, ?_⟩) | (refine ⟨⟨_, _, _⟩, Told.refl _, ?_, ?_⟩) | (refine ⟨⟨_, _, _, _⟩, Told.refl _, ?_, ?_⟩) | (refine ⟨⟨_, _, _, _, _⟩, Told.refl _, ?_, ?_⟩) | (refine ⟨(), Told.refl _, ?_, ?_⟩)) | (with_reducible intro _) | (refine fun (_ : Bool) => ?_)))
  · show t.bfs.length < 4611686018427387904
    omega
  · show ((EB.find t.bfs x.p.cn x.p.cv).getD []).length ≤ 1000000000
    omega
  · show (decU _).length < 4398046511104
    omega
  · exact enc_opt _ _ _
  · show _ = ((EB.find t.bfs x.p.cn x.p.cv).map _).isSome
    rw [Option.isSome_map]
theorem tellC : SpOK Tryz.prog 187 STellC := fun ⟨t, x⟩ ht => by
  have hC : COK Tryz.prog (cfg [(25, SCText)]) := Ty.ty.cfg ⟨ctext, trivial⟩
  have ht : t.bfs.length ≤ 1000000 := ht
  ((refine Fn.ofF hC Tryz.func187 Tryz.ntmps187 rfl rfl rfl ?_); (repeat' first | (with_reducible exact trivial) | (with_reducible rfl) | (refine And.intro ?_ ?_) | (refine Need.mk ?_) | exact True.intro | (first | (refine ⟨_, Told.refl _, ?_, ?_⟩) | (refine ⟨⟨_, _⟩, Told.refl _, ?_, ?_⟩) | (refine ⟨⟨_, _, _⟩, Told.refl _, ?_, ?_⟩) | (refine ⟨⟨_, _, _, _⟩, Told.refl _, ?_, ?_⟩) | (refine ⟨⟨_, _, _, _, _⟩, Told.refl _, ?_, ?_⟩) | (refine ⟨(), Told.refl _, ?_, ?_⟩)) | (with_reducible intro _) | (refine fun (_ : Bool) => ?_)))
  all_goals
    first
      | (have e : tellO (.c t) x = none := if_pos (by simpa using ‹(x.kind == 0) = true›)
         first
           | (unfold tellB; rw [e]; rfl)
           | (rw [e]; rfl))
      | (have e : tellO (.c t) x = (EB.find t.bfs 2 x.cid).map fun a => encB (decU a) := if_neg (by simpa using ‹(x.kind == 0) = false›)
         first
           | (show t.bfs.length < 4611686018427387904; omega)
           | (unfold tellB; rw [e]; exact txt_opt _ _ _)
           | (rw [e, Option.isSome_map]; done))
theorem tellN : SpOK Tryz.prog 189 STellN := fun (x : Sg) _ => by
  have hC : COK Tryz.prog (cfg [(26, SText)]) := Ty.ty.cfg ⟨text, trivial⟩
  ((refine Fn.ofF hC Tryz.func189 Tryz.ntmps189 rfl rfl rfl ?_); (repeat' first | (with_reducible exact trivial) | (with_reducible rfl) | (refine And.intro ?_ ?_) | (refine Need.mk ?_) | exact True.intro | (first | (refine ⟨_, Told.refl _, ?_, ?_⟩) | (refine ⟨⟨_, _⟩, Told.refl _, ?_, ?_⟩) | (refine ⟨⟨_, _, _⟩, Told.refl _, ?_, ?_⟩) | (refine ⟨⟨_, _, _, _⟩, Told.refl _, ?_, ?_⟩) | (refine ⟨⟨_, _, _, _, _⟩, Told.refl _, ?_, ?_⟩) | (refine ⟨(), Told.refl _, ?_, ?_⟩)) | (with_reducible intro _) | (refine fun (_ : Bool) => ?_)))
  refine Exists.intro [65533] (And.intro (Told.of (lit_sub ci_emb _)) (And.intro ?_ ?_))
  · show 1 < 4398046511104
    omega
  · (repeat' first | (with_reducible exact trivial) | (with_reducible rfl) | (refine And.intro ?_ ?_) | (refine Need.mk ?_) | exact True.intro | (first | (refine ⟨_, Told.refl _, ?_, ?_⟩) | (refine ⟨⟨_, _⟩, Told.refl _, ?_, ?_⟩) | (refine ⟨⟨_, _, _⟩, Told.refl _, ?_, ?_⟩) | (refine ⟨⟨_, _, _, _⟩, Told.refl _, ?_, ?_⟩) | (refine ⟨⟨_, _, _, _, _⟩, Told.refl _, ?_, ?_⟩) | (refine ⟨(), Told.refl _, ?_, ?_⟩)) | (with_reducible intro _) | (refine fun (_ : Bool) => ?_))
    all_goals rfl
theorem fromU : SpOK Tryz.prog 184 SFromU := fun t _ => by
  have hC := base
  ((refine Fn.ofF hC Tryz.func184 Tryz.ntmps184 rfl rfl rfl ?_); (repeat' first | (with_reducible exact trivial) | (with_reducible rfl) | (refine And.intro ?_ ?_) | (refine Need.mk ?_) | exact True.intro | (first | (refine ⟨_, Told.refl _, ?_, ?_⟩) | (refine ⟨⟨_, _⟩, Told.refl _, ?_, ?_⟩) | (refine ⟨⟨_, _, _⟩, Told.refl _, ?_, ?_⟩) | (refine ⟨⟨_, _, _, _⟩, Told.refl _, ?_, ?_⟩) | (refine ⟨⟨_, _, _, _, _⟩, Told.refl _, ?_, ?_⟩) | (refine ⟨(), Told.refl _, ?_, ?_⟩)) | (with_reducible intro _) | (refine fun (_ : Bool) => ?_)))
theorem fromC : SpOK Tryz.prog 186 SFromC := fun t _ => by
  have hC := base
  ((refine Fn.ofF hC Tryz.func186 Tryz.ntmps186 rfl rfl rfl ?_); (repeat' first | (with_reducible exact trivial) | (with_reducible rfl) | (refine And.intro ?_ ?_) | (refine Need.mk ?_) | exact True.intro | (first | (refine ⟨_, Told.refl _, ?_, ?_⟩) | (refine ⟨⟨_, _⟩, Told.refl _, ?_, ?_⟩) | (refine ⟨⟨_, _, _⟩, Told.refl _, ?_, ?_⟩) | (refine ⟨⟨_, _, _, _⟩, Told.refl _, ?_, ?_⟩) | (refine ⟨⟨_, _, _, _, _⟩, Told.refl _, ?_, ?_⟩) | (refine ⟨(), Told.refl _, ?_, ?_⟩)) | (with_reducible intro _) | (refine fun (_ : Bool) => ?_)))
theorem fromN : SpOK Tryz.prog 188 SFromN := fun t _ => by
  have hC := base
  ((refine Fn.ofF hC Tryz.func188 Tryz.ntmps188 rfl rfl rfl ?_); (repeat' first | (with_reducible exact trivial) | (with_reducible rfl) | (refine And.intro ?_ ?_) | (refine Need.mk ?_) | exact True.intro | (first | (refine ⟨_, Told.refl _, ?_, ?_⟩) | (refine ⟨⟨_, _⟩, Told.refl _, ?_, ?_⟩) | (refine ⟨⟨_, _, _⟩, Told.refl _, ?_, ?_⟩) | (refine ⟨⟨_, _, _, _⟩, Told.refl _, ?_, ?_⟩) | (refine ⟨⟨_, _, _, _, _⟩, Told.refl _, ?_, ?_⟩) | (refine ⟨(), Told.refl _, ?_, ?_⟩)) | (with_reducible intro _) | (refine fun (_ : Bool) => ?_)))
/-! All that may tell, in order. -/
def tls (f : Fnt) : List Tl := (if f.hasUni = true then [.u f.uni] else []) ++ ((if f.hasColl = true then [.c f.coll] else []) ++ [.n])
def STls : Sp := ⟨Fnt, fun _ => True, fun f => [.agg (cFn f)], fun f => .row 128 1 (tls f).length (els cTl (tls f))⟩
theorem tellers : SpOK Tryz.prog 33 STls := fun (f : Fnt) _ => by
  have hC := base
  have hu : ∀ b c, f.hasUni = b → f.hasColl = c → tls f = (if b = true then [.u f.uni] else []) ++ ((if c = true then [.c f.coll] else []) ++ [.n]) := fun b c e1 e2 => by unfold tls; rw [e1, e2]
  ((refine Fn.ofF hC Tryz.func33 Tryz.ntmps33 rfl rfl rfl ?_); (repeat' first | (with_reducible exact trivial) | (with_reducible rfl) | (refine And.intro ?_ ?_) | (refine Need.mk ?_) | exact True.intro | (first | (refine ⟨_, Told.refl _, ?_, ?_⟩) | (refine ⟨⟨_, _⟩, Told.refl _, ?_, ?_⟩) | (refine ⟨⟨_, _, _⟩, Told.refl _, ?_, ?_⟩) | (refine ⟨⟨_, _, _, _⟩, Told.refl _, ?_, ?_⟩) | (refine ⟨⟨_, _, _, _, _⟩, Told.refl _, ?_, ?_⟩) | (refine ⟨(), Told.refl _, ?_, ?_⟩)) | (with_reducible intro _) | (refine fun (_ : Bool) => ?_)))
  all_goals first | decide | skip
  all_goals
    first
      | (have e := hu _ _ ‹f.hasUni = true› ‹f.hasColl = true›
         first
           | (rw [e]; rfl)
           | (rename_i i hi
              rw [e] at hi ⊢
              have hi : i < 3 := hi
              have q : i = 0 ∨ i = 1 ∨ i = 2 := by omega
              rcases q with rfl | rfl | rfl
              · exact (cTl_emb (.u f.uni)).2.1
              · exact (cTl_emb (.c f.coll)).2.1
              · exact (cTl_emb .n).2.1))
      | (have e := hu _ _ ‹f.hasUni = true› ‹f.hasColl = false›
         first
           | (rw [e]; rfl)
           | (rename_i i hi
              rw [e] at hi ⊢
              have hi : i < 2 := hi
              have q : i = 0 ∨ i = 1 := by omega
              rcases q with rfl | rfl
              · exact (cTl_emb (.u f.uni)).2.1
              · exact (cTl_emb .n).2.1))
      | (have e := hu _ _ ‹f.hasUni = false› ‹f.hasColl = true›
         first
           | (rw [e]; rfl)
           | (rename_i i hi
              rw [e] at hi ⊢
              have hi : i < 2 := hi
              have q : i = 0 ∨ i = 1 := by omega
              rcases q with rfl | rfl
              · exact (cTl_emb (.c f.coll)).2.1
              · exact (cTl_emb .n).2.1))
      | (have e := hu _ _ ‹f.hasUni = false› ‹f.hasColl = false›
         first
           | (rw [e]; rfl)
           | (rename_i i hi
              rw [e] at hi ⊢
              have hi : i < 1 := hi
              obtain rfl : i = 0 := by omega
              exact (cTl_emb .n).2.1))
/-! Methods. -/
def methB (P : Program) (t : TypeId) (m : String) (g : FuncId) : Bool := match P.underlying t with
  | some (.struct _) => match P.info? t with
    | some i => match i.methods.find? (·.name == m) with
      | some mi => mi.path.isEmpty && (match mi.func with
        | some (g', false) => Nat.beq g' g
        | _ => false)
      | none => false
    | none => false
  | _ => false
theorem meth_ofB {P : Program} {t : TypeId} {m : String} {g : FuncId} (h : methB P t m g = true) : MethOK P t m g := by
  unfold methB at h
  split at h
  · rename_i fs hu
    split at h
    · rename_i i hi
      split at h
      · rename_i mi hm
        rw [Bool.and_eq_true] at h
        obtain ⟨h1, h2⟩ := h
        split at h2
        · rename_i g' hf
          obtain rfl := Nat.eq_of_beq_eq_true h2
          exact meth_of hu hi hm (by simpa using h1) hf (by unfold Made.depth; omega)
        · cases h2
      · cases h
    · cases h
  · cases h
def M : List (TypeId × String × FuncId) := [(123, "hornbook/comp.tell", 185), (124, "hornbook/comp.tell", 187), (126, "hornbook/comp.tell", 189), (123, "hornbook/comp.from", 184), (124, "hornbook/comp.from", 186), (126, "hornbook/comp.from", 188)]
theorem methsOK : MethsOK Tryz.prog M := ⟨meth_ofB (by kernel_rfl), meth_ofB (by kernel_rfl), meth_ofB (by kernel_rfl), meth_ofB (by kernel_rfl), meth_ofB (by kernel_rfl), meth_ofB (by kernel_rfl), trivial⟩
def CL : List (FuncId × Sp) := [(185, STellU), (187, STellC), (189, STellN), (184, SFromU), (186, SFromC), (188, SFromN)]
theorem callsOK : OKs Tryz.prog CL := ⟨tellU, tellC, tellN, fromU, fromC, fromN, trivial⟩
def firstT (x : Sg) : List Tl → ByteArray × Int
  | [] => (ByteArray.empty, 0)
  | t :: l => match tellO t x with
    | some b => (b, fromT t)
    | none => firstT x l
def charT (l : List Tl) (x : Sg) : Chr := ⟨x.p, x.cid, (firstT x (if x.p.full = true then l else l.drop (l.length - 1))).2, (firstT x (if x.p.full = true then l else l.drop (l.length - 1))).1⟩
end Go.Abs.Cp
set_option maxRecDepth 100000
namespace Go.Abs.Cp
open Go.RowKit Go.Proofs Go.Abs.Tab Go.Abs.Dest Go.Abs.Span Go.Abs.Coll Go.Abs.Hx Go.Abs.Mt Go.Abs.Lk Go.Abs.Rc Go.Abs.Utf Go.Abs.Txt
theorem lit_self {L : List Tl} : ∀ i, i < L.length → cond (ones (elt (L.map cTl) i)) (subs0 (elt (L.map cTl) i) (elt (L.map cTl) i)) False := fun i hi => by
  rw [elt_list L i hi, (cTl_emb _).1]
  exact (cTl_emb _).2.1

set_option maxHeartbeats 16000000 in
theorem char_ucn (x : Sg) (a b : Tbl) (ha : a.bfs.length ≤ 1000000) (hb : b.bfs.length ≤ 1000000) : Fn Tryz.prog 35 [.agg (cG x), .sl 1 3 (elt [[.iface 123 (.agg (cT a))], [.iface 124 (.agg (cT b))], [.iface 126 (.agg [])]])] (.st (.agg (cH (charT [.u a, .c b, .n] x)))) := by
  have hC : COK Tryz.prog (cfgM M CL) := Ty.ty.cfgM methsOK callsOK
  ((refine Fn.ofF hC Tryz.func35 Tryz.ntmps35 rfl rfl rfl ?_); (repeat' first | (with_reducible exact trivial) | (with_reducible rfl) | (refine And.intro ?_ ?_) | (refine Need.mk ?_) | exact True.intro | (first | (refine ⟨_, Told.refl _, ?_, ?_⟩) | (refine ⟨⟨_, _⟩, Told.refl _, ?_, ?_⟩) | (refine ⟨⟨_, _, _⟩, Told.refl _, ?_, ?_⟩) | (refine ⟨⟨_, _, _, _⟩, Told.refl _, ?_, ?_⟩) | (refine ⟨⟨_, _, _, _, _⟩, Told.refl _, ?_, ?_⟩) | (refine ⟨(), Told.refl _, ?_, ?_⟩)) | (with_reducible intro _) | (refine fun (_ : Bool) => ?_)))
  any_goals decide
  · have hf : x.p.full = false := by simpa using ‹(!x.p.full) = true›
    have hr : charT [.u a, .c b, .n] x = ⟨x.p, x.cid, 0, encB [65533]⟩ := by
      unfold charT
      rw [hf]
      rfl
    rw [hr]
    refine AW.loop (I := fun k : Nat => ⟨44, [(2, .ptr 0 0), (4, .ptr 1 0), (5, .ptr 2 0), (24, .sl 1 1 (elt [[.iface 126 (.agg [])]])), (25, .int .i64 1), (26, .int .i64 k)], [.box 83 (cG x), .box 55 [.int .i64 0, .int .i64 0, .lit false, .int .i64 0, .int .i64 0, .int .i64 0, .int .i64 0, .str ByteArray.empty], .box 55 (cH ⟨x.p, x.cid, 0, ByteArray.empty⟩)]⟩) (fun k => k = 0) (fun k => 1 - k) 0 rfl ?_ ?_
    · (repeat' first | (with_reducible exact trivial) | (with_reducible rfl) | (refine And.intro ?_ ?_) | (refine Need.mk ?_) | exact True.intro | (first | (refine ⟨_, Told.refl _, ?_, ?_⟩) | (refine ⟨⟨_, _⟩, Told.refl _, ?_, ?_⟩) | (refine ⟨⟨_, _, _⟩, Told.refl _, ?_, ?_⟩) | (refine ⟨⟨_, _, _, _⟩, Told.refl _, ?_, ?_⟩) | (refine ⟨⟨_, _, _, _, _⟩, Told.refl _, ?_, ?_⟩) | (refine ⟨(), Told.refl _, ?_, ?_⟩)) | (with_reducible intro _) | (refine fun (_ : Bool) => ?_))
      all_goals first
        | rfl
        | decide
        | (rename_i i hi
           have hi : i < 1 := hi
           have h0 : i = 0 := by omega
           subst h0
           have e9 : (IntKind.i64.wrap (((3 : Nat) : Int) - 1)).toNat = 2 := by decide
           show cond (ones [.iface 126 (.agg [])]) (subs0 [.iface 126 (.agg [])] (elt [[.iface 123 (.agg (cT a))], [.iface 124 (.agg (cT b))], [.iface 126 (.agg [])]] ((IntKind.i64.wrap (((3 : Nat) : Int) - 1)).toNat + 0))) False
           rw [e9]
           exact (cTl_emb .n).2.1)
    · rintro k rfl
      ((refine AW.byF ‹_› ?_); (repeat' first | (with_reducible exact trivial) | (with_reducible rfl) | (refine And.intro ?_ ?_) | (refine Need.mk ?_) | exact True.intro | (first | (refine ⟨_, Told.refl _, ?_, ?_⟩) | (refine ⟨⟨_, _⟩, Told.refl _, ?_, ?_⟩) | (refine ⟨⟨_, _, _⟩, Told.refl _, ?_, ?_⟩) | (refine ⟨⟨_, _, _, _⟩, Told.refl _, ?_, ?_⟩) | (refine ⟨⟨_, _, _, _, _⟩, Told.refl _, ?_, ?_⟩) | (refine ⟨(), Told.refl _, ?_, ?_⟩)) | (with_reducible intro _) | (refine fun (_ : Bool) => ?_)))
      all_goals first | decide | (exact absurd ‹decide (((0 : Nat) : Int) < 1) = false› (by decide)) | rfl

  · have hf : x.p.full = true := by simpa using ‹(!x.p.full) = false›
    have hr : charT [.u a, .c b, .n] x = ⟨x.p, x.cid, (firstT x [.u a, .c b, .n]).2, (firstT x [.u a, .c b, .n]).1⟩ := by
      unfold charT
      rw [if_pos hf]
    rw [hr]
    refine AW.loop (I := fun k : Nat => ⟨44, [(2, .ptr 0 0), (4, .ptr 1 0), (5, .ptr 2 0), (24, .sl 1 3 (elt [[.iface 123 (.agg (cT a))], [.iface 124 (.agg (cT b))], [.iface 126 (.agg [])]])), (25, .int .i64 3), (26, .int .i64 k)], [.box 83 (cG x), .box 55 [.int .i64 0, .int .i64 0, .lit false, .int .i64 0, .int .i64 0, .int .i64 0, .int .i64 0, .str ByteArray.empty], .box 55 (cH ⟨x.p, x.cid, 0, ByteArray.empty⟩)]⟩) (fun k => k < 3 ∧ firstT x [.u a, .c b, .n] = firstT x ([.u a, .c b, .n].drop k)) (fun k => 3 - k) 0 ⟨by decide, rfl⟩ ?_ ?_
    · (repeat' first | (with_reducible exact trivial) | (with_reducible rfl) | (refine And.intro ?_ ?_) | (refine Need.mk ?_) | exact True.intro | (first | (refine ⟨_, Told.refl _, ?_, ?_⟩) | (refine ⟨⟨_, _⟩, Told.refl _, ?_, ?_⟩) | (refine ⟨⟨_, _, _⟩, Told.refl _, ?_, ?_⟩) | (refine ⟨⟨_, _, _, _⟩, Told.refl _, ?_, ?_⟩) | (refine ⟨⟨_, _, _, _, _⟩, Told.refl _, ?_, ?_⟩) | (refine ⟨(), Told.refl _, ?_, ?_⟩)) | (with_reducible intro _) | (refine fun (_ : Bool) => ?_))
      all_goals first
        | rfl
        | decide
        | exact lit_self (L := [.u a, .c b, .n]) _ ‹_›
    · rintro k ⟨hk, hg⟩
      have hc : k = 0 ∨ k = 1 ∨ k = 2 := by omega
      rcases hc with rfl | rfl | rfl
      · -- round 0
        have g : firstT x ([.u a, .c b, .n].drop 0) = match tellO (.u a) x with
          | some b => (b, 1)
          | none => firstT x ([.u a, .c b, .n].drop 1) := rfl
        ((refine AW.byF ‹_› ?_); (repeat' first | (with_reducible exact trivial) | (with_reducible rfl) | (refine And.intro ?_ ?_) | (refine Need.mk ?_) | exact True.intro | (first | (refine ⟨_, Told.refl _, ?_, ?_⟩) | (refine ⟨⟨_, _⟩, Told.refl _, ?_, ?_⟩) | (refine ⟨⟨_, _, _⟩, Told.refl _, ?_, ?_⟩) | (refine ⟨⟨_, _, _, _⟩, Told.refl _, ?_, ?_⟩) | (refine ⟨⟨_, _, _, _, _⟩, Told.refl _, ?_, ?_⟩) | (refine ⟨(), Told.refl _, ?_, ?_⟩)) | (with_reducible intro _) | (refine fun (_ : Bool) => ?_)))
        all_goals first
          | decide
          | assumption
          | (exact absurd ‹decide (((0 : Nat) : Int) < 3) = false› (by decide))
          | skip
        any_goals (refine Exists.intro (1) (And.intro ?_ (And.intro ?_ ?_)); all_goals (repeat' first | (with_reducible exact trivial) | (with_reducible rfl) | (refine And.intro ?_ ?_) | (refine Need.mk ?_) | exact True.intro | (first | (refine ⟨_, Told.refl _, ?_, ?_⟩) | (refine ⟨⟨_, _⟩, Told.refl _, ?_, ?_⟩) | (refine ⟨⟨_, _, _⟩, Told.refl _, ?_, ?_⟩) | (refine ⟨⟨_, _, _, _⟩, Told.refl _, ?_, ?_⟩) | (refine ⟨⟨_, _, _, _, _⟩, Told.refl _, ?_, ?_⟩) | (refine ⟨(), Told.refl _, ?_, ?_⟩)) | (with_reducible intro _) | (refine fun (_ : Bool) => ?_)))
        all_goals first
          | decide
          | exact lit_self (L := [.u a, .c b, .n]) _ ‹_›
          | (have q := ‹(tellO (.u a) x).isSome = true›
             obtain ⟨u, hu⟩ := Option.isSome_iff_exists.1 q
             have e : firstT x [.u a, .c b, .n] = (u, 1) := by rw [hg, g, hu]
             first
               | (show (1 : Int) = (firstT x [.u a, .c b, .n]).2; rw [e]; done)
               | (show tellB (.u a) x = (firstT x [.u a, .c b, .n]).1; rw [e]; unfold tellB; rw [hu]; rfl))
          | (have q : tellO (.u a) x = none := by simpa using ‹(tellO (.u a) x).isSome = false›
             rw [hg, g, q]
             done)
          | (have e : firstT x [.u a, .c b, .n] = (encB [65533], 0) := hg
             first
               | (show (0 : Int) = (firstT x [.u a, .c b, .n]).2; rw [e]; done)
               | (show tellB .n x = (firstT x [.u a, .c b, .n]).1; rw [e]; rfl))
      · -- round 1
        have g : firstT x ([.u a, .c b, .n].drop 1) = match tellO (.c b) x with
          | some b => (b, 2)
          | none => firstT x ([.u a, .c b, .n].drop 2) := rfl
        ((refine AW.byF ‹_› ?_); (repeat' first | (with_reducible exact trivial) | (with_reducible rfl) | (refine And.intro ?_ ?_) | (refine Need.mk ?_) | exact True.intro | (first | (refine ⟨_, Told.refl _, ?_, ?_⟩) | (refine ⟨⟨_, _⟩, Told.refl _, ?_, ?_⟩) | (refine ⟨⟨_, _, _⟩, Told.refl _, ?_, ?_⟩) | (refine ⟨⟨_, _, _, _⟩, Told.refl _, ?_, ?_⟩) | (refine ⟨⟨_, _, _, _, _⟩, Told.refl _, ?_, ?_⟩) | (refine ⟨(), Told.refl _, ?_, ?_⟩)) | (with_reducible intro _) | (refine fun (_ : Bool) => ?_)))
        all_goals first
          | decide
          | assumption
          | (exact absurd ‹decide (((1 : Nat) : Int) < 3) = false› (by decide))
          | skip
        any_goals (refine Exists.intro (2) (And.intro ?_ (And.intro ?_ ?_)); all_goals (repeat' first | (with_reducible exact trivial) | (with_reducible rfl) | (refine And.intro ?_ ?_) | (refine Need.mk ?_) | exact True.intro | (first | (refine ⟨_, Told.refl _, ?_, ?_⟩) | (refine ⟨⟨_, _⟩, Told.refl _, ?_, ?_⟩) | (refine ⟨⟨_, _, _⟩, Told.refl _, ?_, ?_⟩) | (refine ⟨⟨_, _, _, _⟩, Told.refl _, ?_, ?_⟩) | (refine ⟨⟨_, _, _, _, _⟩, Told.refl _, ?_, ?_⟩) | (refine ⟨(), Told.refl _, ?_, ?_⟩)) | (with_reducible intro _) | (refine fun (_ : Bool) => ?_)))
        all_goals first
          | decide
          | exact lit_self (L := [.u a, .c b, .n]) _ ‹_›
          | (have q := ‹(tellO (.c b) x).isSome = true›
             obtain ⟨u, hu⟩ := Option.isSome_iff_exists.1 q
             have e : firstT x [.u a, .c b, .n] = (u, 2) := by rw [hg, g, hu]
             first
               | (show (2 : Int) = (firstT x [.u a, .c b, .n]).2; rw [e]; done)
               | (show tellB (.c b) x = (firstT x [.u a, .c b, .n]).1; rw [e]; unfold tellB; rw [hu]; rfl))
          | (have q : tellO (.c b) x = none := by simpa using ‹(tellO (.c b) x).isSome = false›
             rw [hg, g, q]
             done)
          | (have e : firstT x [.u a, .c b, .n] = (encB [65533], 0) := hg
             first
               | (show (0 : Int) = (firstT x [.u a, .c b, .n]).2; rw [e]; done)
               | (show tellB .n x = (firstT x [.u a, .c b, .n]).1; rw [e]; rfl))
      · -- round 2
        have g : firstT x ([.u a, .c b, .n].drop 2) = match tellO (.n) x with
          | some b => (b, 0)
          | none => firstT x ([.u a, .c b, .n].drop 3) := rfl
        ((refine AW.byF ‹_› ?_); (repeat' first | (with_reducible exact trivial) | (with_reducible rfl) | (refine And.intro ?_ ?_) | (refine Need.mk ?_) | exact True.intro | (first | (refine ⟨_, Told.refl _, ?_, ?_⟩) | (refine ⟨⟨_, _⟩, Told.refl _, ?_, ?_⟩) | (refine ⟨⟨_, _, _⟩, Told.refl _, ?_, ?_⟩) | (refine ⟨⟨_, _, _, _⟩, Told.refl _, ?_, ?_⟩) | (refine ⟨⟨_, _, _, _, _⟩, Told.refl _, ?_, ?_⟩) | (refine ⟨(), Told.refl _, ?_, ?_⟩)) | (with_reducible intro _) | (refine fun (_ : Bool) => ?_)))
        all_goals first
          | decide
          | assumption
          | (exact absurd ‹decide (((2 : Nat) : Int) < 3) = false› (by decide))
          | skip
        all_goals first
          | decide
          | exact lit_self (L := [.u a, .c b, .n]) _ ‹_›
          | (have q := ‹(tellO (.n) x).isSome = true›
             obtain ⟨u, hu⟩ := Option.isSome_iff_exists.1 q
             have e : firstT x [.u a, .c b, .n] = (u, 0) := by rw [hg, g, hu]
             first
               | (show (0 : Int) = (firstT x [.u a, .c b, .n]).2; rw [e]; done)
               | (show tellB (.n) x = (firstT x [.u a, .c b, .n]).1; rw [e]; unfold tellB; rw [hu]; rfl))
          | (have q : tellO (.n) x = none := by simpa using ‹(tellO (.n) x).isSome = false›
             rw [hg, g, q]
             done)
          | (have e : firstT x [.u a, .c b, .n] = (encB [65533], 0) := hg
             first
               | (show (0 : Int) = (firstT x [.u a, .c b, .n]).2; rw [e]; done)
               | (show tellB .n x = (firstT x [.u a, .c b, .n]).1; rw [e]; rfl))


set_option maxHeartbeats 16000000 in
theorem char_un (x : Sg) (a b : Tbl) (ha : a.bfs.length ≤ 1000000) (hb : b.bfs.length ≤ 1000000) : Fn Tryz.prog 35 [.agg (cG x), .sl 1 2 (elt [[.iface 123 (.agg (cT a))], [.iface 126 (.agg [])]])] (.st (.agg (cH (charT [.u a, .n] x)))) := by
  have hC : COK Tryz.prog (cfgM M CL) := Ty.ty.cfgM methsOK callsOK
  ((refine Fn.ofF hC Tryz.func35 Tryz.ntmps35 rfl rfl rfl ?_); (repeat' first | (with_reducible exact trivial) | (with_reducible rfl) | (refine And.intro ?_ ?_) | (refine Need.mk ?_) | exact True.intro | (first | (refine ⟨_, Told.refl _, ?_, ?_⟩) | (refine ⟨⟨_, _⟩, Told.refl _, ?_, ?_⟩) | (refine ⟨⟨_, _, _⟩, Told.refl _, ?_, ?_⟩) | (refine ⟨⟨_, _, _, _⟩, Told.refl _, ?_, ?_⟩) | (refine ⟨⟨_, _, _, _, _⟩, Told.refl _, ?_, ?_⟩) | (refine ⟨(), Told.refl _, ?_, ?_⟩)) | (with_reducible intro _) | (refine fun (_ : Bool) => ?_)))
  any_goals decide
  · have hf : x.p.full = false := by simpa using ‹(!x.p.full) = true›
    have hr : charT [.u a, .n] x = ⟨x.p, x.cid, 0, encB [65533]⟩ := by
      unfold charT
      rw [hf]
      rfl
    rw [hr]
    refine AW.loop (I := fun k : Nat => ⟨44, [(2, .ptr 0 0), (4, .ptr 1 0), (5, .ptr 2 0), (24, .sl 1 1 (elt [[.iface 126 (.agg [])]])), (25, .int .i64 1), (26, .int .i64 k)], [.box 83 (cG x), .box 55 [.int .i64 0, .int .i64 0, .lit false, .int .i64 0, .int .i64 0, .int .i64 0, .int .i64 0, .str ByteArray.empty], .box 55 (cH ⟨x.p, x.cid, 0, ByteArray.empty⟩)]⟩) (fun k => k = 0) (fun k => 1 - k) 0 rfl ?_ ?_
    · (repeat' first | (with_reducible exact trivial) | (with_reducible rfl) | (refine And.intro ?_ ?_) | (refine Need.mk ?_) | exact True.intro | (first | (refine ⟨_, Told.refl _, ?_, ?_⟩) | (refine ⟨⟨_, _⟩, Told.refl _, ?_, ?_⟩) | (refine ⟨⟨_, _, _⟩, Told.refl _, ?_, ?_⟩) | (refine ⟨⟨_, _, _, _⟩, Told.refl _, ?_, ?_⟩) | (refine ⟨⟨_, _, _, _, _⟩, Told.refl _, ?_, ?_⟩) | (refine ⟨(), Told.refl _, ?_, ?_⟩)) | (with_reducible intro _) | (refine fun (_ : Bool) => ?_))
      all_goals first
        | rfl
        | decide
        | (rename_i i hi
           have hi : i < 1 := hi
           have h0 : i = 0 := by omega
           subst h0
           have e9 : (IntKind.i64.wrap (((2 : Nat) : Int) - 1)).toNat = 1 := by decide
           show cond (ones [.iface 126 (.agg [])]) (subs0 [.iface 126 (.agg [])] (elt [[.iface 123 (.agg (cT a))], [.iface 126 (.agg [])]] ((IntKind.i64.wrap (((2 : Nat) : Int) - 1)).toNat + 0))) False
           rw [e9]
           exact (cTl_emb .n).2.1)
    · rintro k rfl
      ((refine AW.byF ‹_› ?_); (repeat' first | (with_reducible exact trivial) | (with_reducible rfl) | (refine And.intro ?_ ?_) | (refine Need.mk ?_) | exact True.intro | (first | (refine ⟨_, Told.refl _, ?_, ?_⟩) | (refine ⟨⟨_, _⟩, Told.refl _, ?_, ?_⟩) | (refine ⟨⟨_, _, _⟩, Told.refl _, ?_, ?_⟩) | (refine ⟨⟨_, _, _, _⟩, Told.refl _, ?_, ?_⟩) | (refine ⟨⟨_, _, _, _, _⟩, Told.refl _, ?_, ?_⟩) | (refine ⟨(), Told.refl _, ?_, ?_⟩)) | (with_reducible intro _) | (refine fun (_ : Bool) => ?_)))
      all_goals first | decide | (exact absurd ‹decide (((0 : Nat) : Int) < 1) = false› (by decide)) | rfl

  · have hf : x.p.full = true := by simpa using ‹(!x.p.full) = false›
    have hr : charT [.u a, .n] x = ⟨x.p, x.cid, (firstT x [.u a, .n]).2, (firstT x [.u a, .n]).1⟩ := by
      unfold charT
      rw [if_pos hf]
    rw [hr]
    refine AW.loop (I := fun k : Nat => ⟨44, [(2, .ptr 0 0), (4, .ptr 1 0), (5, .ptr 2 0), (24, .sl 1 2 (elt [[.iface 123 (.agg (cT a))], [.iface 126 (.agg [])]])), (25, .int .i64 2), (26, .int .i64 k)], [.box 83 (cG x), .box 55 [.int .i64 0, .int .i64 0, .lit false, .int .i64 0, .int .i64 0, .int .i64 0, .int .i64 0, .str ByteArray.empty], .box 55 (cH ⟨x.p, x.cid, 0, ByteArray.empty⟩)]⟩) (fun k => k < 2 ∧ firstT x [.u a, .n] = firstT x ([.u a, .n].drop k)) (fun k => 2 - k) 0 ⟨by decide, rfl⟩ ?_ ?_
    · (repeat' first | (with_reducible exact trivial) | (with_reducible rfl) | (refine And.intro ?_ ?_) | (refine Need.mk ?_) | exact True.intro | (first | (refine ⟨_, Told.refl _, ?_, ?_⟩) | (refine ⟨⟨_, _⟩, Told.refl _, ?_, ?_⟩) | (refine ⟨⟨_, _, _⟩, Told.refl _, ?_, ?_⟩) | (refine ⟨⟨_, _, _, _⟩, Told.refl _, ?_, ?_⟩) | (refine ⟨⟨_, _, _, _, _⟩, Told.refl _, ?_, ?_⟩) | (refine ⟨(), Told.refl _, ?_, ?_⟩)) | (with_reducible intro _) | (refine fun (_ : Bool) => ?_))
      all_goals first
        | rfl
        | decide
        | exact lit_self (L := [.u a, .n]) _ ‹_›
    · rintro k ⟨hk, hg⟩
      have hc : k = 0 ∨ k = 1 := by omega
      rcases hc with rfl | rfl
      · -- round 0
        have g : firstT x ([.u a, .n].drop 0) = match tellO (.u a) x with
          | some b => (b, 1)
          | none => firstT x ([.u a, .n].drop 1) := rfl
        ((refine AW.byF ‹_› ?_); (repeat' first | (with_reducible exact trivial) | (with_reducible rfl) | (refine And.intro ?_ ?_) | (refine Need.mk ?_) | exact True.intro | (first | (refine ⟨_, Told.refl _, ?_, ?_⟩) | (refine ⟨⟨_, _⟩, Told.refl _, ?_, ?_⟩) | (refine ⟨⟨_, _, _⟩, Told.refl _, ?_, ?_⟩) | (refine ⟨⟨_, _, _, _⟩, Told.refl _, ?_, ?_⟩) | (refine ⟨⟨_, _, _, _, _⟩, Told.refl _, ?_, ?_⟩) | (refine ⟨(), Told.refl _, ?_, ?_⟩)) | (with_reducible intro _) | (refine fun (_ : Bool) => ?_)))
        all_goals first
          | decide
          | assumption
          | (exact absurd ‹decide (((0 : Nat) : Int) < 2) = false› (by decide))
          | skip
        any_goals (refine Exists.intro (1) (And.intro ?_ (And.intro ?_ ?_)); all_goals (repeat' first | (with_reducible exact trivial) | (with_reducible rfl) | (refine And.intro ?_ ?_) | (refine Need.mk ?_) | exact True.intro | (first | (refine ⟨_, Told.refl _, ?_, ?_⟩) | (refine ⟨⟨_, _⟩, Told.refl _, ?_, ?_⟩) | (refine ⟨⟨_, _, _⟩, Told.refl _, ?_, ?_⟩) | (refine ⟨⟨_, _, _, _⟩, Told.refl _, ?_, ?_⟩) | (refine ⟨⟨_, _, _, _, _⟩, Told.refl _, ?_, ?_⟩) | (refine ⟨(), Told.refl _, ?_, ?_⟩)) | (with_reducible intro _) | (refine fun (_ : Bool) => ?_)))
        all_goals first
          | decide
          | exact lit_self (L := [.u a, .n]) _ ‹_›
          | (have q := ‹(tellO (.u a) x).isSome = true›
             obtain ⟨u, hu⟩ := Option.isSome_iff_exists.1 q
             have e : firstT x [.u a, .n] = (u, 1) := by rw [hg, g, hu]
             first
               | (show (1 : Int) = (firstT x [.u a, .n]).2; rw [e]; done)
               | (show tellB (.u a) x = (firstT x [.u a, .n]).1; rw [e]; unfold tellB; rw [hu]; rfl))
          | (have q : tellO (.u a) x = none := by simpa using ‹(tellO (.u a) x).isSome = false›
             rw [hg, g, q]
             done)
          | (have e : firstT x [.u a, .n] = (encB [65533], 0) := hg
             first
               | (show (0 : Int) = (firstT x [.u a, .n]).2; rw [e]; done)
               | (show tellB .n x = (firstT x [.u a, .n]).1; rw [e]; rfl))
      · -- round 1
        have g : firstT x ([.u a, .n].drop 1) = match tellO (.n) x with
          | some b => (b, 0)
          | none => firstT x ([.u a, .n].drop 2) := rfl
        ((refine AW.byF ‹_› ?_); (repeat' first | (with_reducible exact trivial) | (with_reducible rfl) | (refine And.intro ?_ ?_) | (refine Need.mk ?_) | exact True.intro | (first | (refine ⟨_, Told.refl _, ?_, ?_⟩) | (refine ⟨⟨_, _⟩, Told.refl _, ?_, ?_⟩) | (refine ⟨⟨_, _, _⟩, Told.refl _, ?_, ?_⟩) | (refine ⟨⟨_, _, _, _⟩, Told.refl _, ?_, ?_⟩) | (refine ⟨⟨_, _, _, _, _⟩, Told.refl _, ?_, ?_⟩) | (refine ⟨(), Told.refl _, ?_, ?_⟩)) | (with_reducible intro _) | (refine fun (_ : Bool) => ?_)))
        all_goals first
          | decide
          | assumption
          | (exact absurd ‹decide (((1 : Nat) : Int) < 2) = false› (by decide))
          | skip
        all_goals first
          | decide
          | exact lit_self (L := [.u a, .n]) _ ‹_›
          | (have q := ‹(tellO (.n) x).isSome = true›
             obtain ⟨u, hu⟩ := Option.isSome_iff_exists.1 q
             have e : firstT x [.u a, .n] = (u, 0) := by rw [hg, g, hu]
             first
               | (show (0 : Int) = (firstT x [.u a, .n]).2; rw [e]; done)
               | (show tellB (.n) x = (firstT x [.u a, .n]).1; rw [e]; unfold tellB; rw [hu]; rfl))
          | (have q : tellO (.n) x = none := by simpa using ‹(tellO (.n) x).isSome = false›
             rw [hg, g, q]
             done)
          | (have e : firstT x [.u a, .n] = (encB [65533], 0) := hg
             first
               | (show (0 : Int) = (firstT x [.u a, .n]).2; rw [e]; done)
               | (show tellB .n x = (firstT x [.u a, .n]).1; rw [e]; rfl))


set_option maxHeartbeats 16000000 in
theorem char_cn (x : Sg) (a b : Tbl) (ha : a.bfs.length ≤ 1000000) (hb : b.bfs.length ≤ 1000000) : Fn Tryz.prog 35 [.agg (cG x), .sl 1 2 (elt [[.iface 124 (.agg (cT b))], [.iface 126 (.agg [])]])] (.st (.agg (cH (charT [.c b, .n] x)))) := by
  have hC : COK Tryz.prog (cfgM M CL) := Ty.ty.cfgM methsOK callsOK
  ((refine Fn.ofF hC Tryz.func35 Tryz.ntmps35 rfl rfl rfl ?_); (repeat' first | (with_reducible exact trivial) | (with_reducible rfl) | (refine And.intro ?_ ?_) | (refine Need.mk ?_) | exact True.intro | (first | (refine ⟨_, Told.refl _, ?_, ?_⟩) | (refine ⟨⟨_, _⟩, Told.refl _, ?_, ?_⟩) | (refine ⟨⟨_, _, _⟩, Told.refl _, ?_, ?_⟩) | (refine ⟨⟨_, _, _, _⟩, Told.refl _, ?_, ?_⟩) | (refine ⟨⟨_, _, _, _, _⟩, Told.refl _, ?_, ?_⟩) | (refine ⟨(), Told.refl _, ?_, ?_⟩)) | (with_reducible intro _) | (refine fun (_ : Bool) => ?_)))
  any_goals decide
  · have hf : x.p.full = false := by simpa using ‹(!x.p.full) = true›
    have hr : charT [.c b, .n] x = ⟨x.p, x.cid, 0, encB [65533]⟩ := by
      unfold charT
      rw [hf]
      rfl
    rw [hr]
    refine AW.loop (I := fun k : Nat => ⟨44, [(2, .ptr 0 0), (4, .ptr 1 0), (5, .ptr 2 0), (24, .sl 1 1 (elt [[.iface 126 (.agg [])]])), (25, .int .i64 1), (26, .int .i64 k)], [.box 83 (cG x), .box 55 [.int .i64 0, .int .i64 0, .lit false, .int .i64 0, .int .i64 0, .int .i64 0, .int .i64 0, .str ByteArray.empty], .box 55 (cH ⟨x.p, x.cid, 0, ByteArray.empty⟩)]⟩) (fun k => k = 0) (fun k => 1 - k) 0 rfl ?_ ?_
    · (repeat' first | (with_reducible exact trivial) | (with_reducible rfl) | (refine And.intro ?_ ?_) | (refine Need.mk ?_) | exact True.intro | (first | (refine ⟨_, Told.refl _, ?_, ?_⟩) | (refine ⟨⟨_, _⟩, Told.refl _, ?_, ?_⟩) | (refine ⟨⟨_, _, _⟩, Told.refl _, ?_, ?_⟩) | (refine ⟨⟨_, _, _, _⟩, Told.refl _, ?_, ?_⟩) | (refine ⟨⟨_, _, _, _, _⟩, Told.refl _, ?_, ?_⟩) | (refine ⟨(), Told.refl _, ?_, ?_⟩)) | (with_reducible intro _) | (refine fun (_ : Bool) => ?_))
      all_goals first
        | rfl
        | decide
        | (rename_i i hi
           have hi : i < 1 := hi
           have h0 : i = 0 := by omega
           subst h0
           have e9 : (IntKind.i64.wrap (((2 : Nat) : Int) - 1)).toNat = 1 := by decide
           show cond (ones [.iface 126 (.agg [])]) (subs0 [.iface 126 (.agg [])] (elt [[.iface 124 (.agg (cT b))], [.iface 126 (.agg [])]] ((IntKind.i64.wrap (((2 : Nat) : Int) - 1)).toNat + 0))) False
           rw [e9]
           exact (cTl_emb .n).2.1)
    · rintro k rfl
      ((refine AW.byF ‹_› ?_); (repeat' first | (with_reducible exact trivial) | (with_reducible rfl) | (refine And.intro ?_ ?_) | (refine Need.mk ?_) | exact True.intro | (first | (refine ⟨_, Told.refl _, ?_, ?_⟩) | (refine ⟨⟨_, _⟩, Told.refl _, ?_, ?_⟩) | (refine ⟨⟨_, _, _⟩, Told.refl _, ?_, ?_⟩) | (refine ⟨⟨_, _, _, _⟩, Told.refl _, ?_, ?_⟩) | (refine ⟨⟨_, _, _, _, _⟩, Told.refl _, ?_, ?_⟩) | (refine ⟨(), Told.refl _, ?_, ?_⟩)) | (with_reducible intro _) | (refine fun (_ : Bool) => ?_)))
      all_goals first | decide | (exact absurd ‹decide (((0 : Nat) : Int) < 1) = false› (by decide)) | rfl

  · have hf : x.p.full = true := by simpa using ‹(!x.p.full) = false›
    have hr : charT [.c b, .n] x = ⟨x.p, x.cid, (firstT x [.c b, .n]).2, (firstT x [.c b, .n]).1⟩ := by
      unfold charT
      rw [if_pos hf]
    rw [hr]
    refine AW.loop (I := fun k : Nat => ⟨44, [(2, .ptr 0 0), (4, .ptr 1 0), (5, .ptr 2 0), (24, .sl 1 2 (elt [[.iface 124 (.agg (cT b))], [.iface 126 (.agg [])]])), (25, .int .i64 2), (26, .int .i64 k)], [.box 83 (cG x), .box 55 [.int .i64 0, .int .i64 0, .lit false, .int .i64 0, .int .i64 0, .int .i64 0, .int .i64 0, .str ByteArray.empty], .box 55 (cH ⟨x.p, x.cid, 0, ByteArray.empty⟩)]⟩) (fun k => k < 2 ∧ firstT x [.c b, .n] = firstT x ([.c b, .n].drop k)) (fun k => 2 - k) 0 ⟨by decide, rfl⟩ ?_ ?_
    · (repeat' first | (with_reducible exact trivial) | (with_reducible rfl) | (refine And.intro ?_ ?_) | (refine Need.mk ?_) | exact True.intro | (first | (refine ⟨_, Told.refl _, ?_, ?_⟩) | (refine ⟨⟨_, _⟩, Told.refl _, ?_, ?_⟩) | (refine ⟨⟨_, _, _⟩, Told.refl _, ?_, ?_⟩) | (refine ⟨⟨_, _, _, _⟩, Told.refl _, ?_, ?_⟩) | (refine ⟨⟨_, _, _, _, _⟩, Told.refl _, ?_, ?_⟩) | (refine ⟨(), Told.refl _, ?_, ?_⟩)) | (with_reducible intro _) | (refine fun (_ : Bool) => ?_))
      all_goals first
        | rfl
        | decide
        | exact lit_self (L := [.c b, .n]) _ ‹_›
    · rintro k ⟨hk, hg⟩
      have hc : k = 0 ∨ k = 1 := by omega
      rcases hc with rfl | rfl
      · -- round 0
        have g : firstT x ([.c b, .n].drop 0) = match tellO (.c b) x with
          | some b => (b, 2)
          | none => firstT x ([.c b, .n].drop 1) := rfl
        ((refine AW.byF ‹_› ?_); (repeat' first | (with_reducible exact trivial) | (with_reducible rfl) | (refine And.intro ?_ ?_) | (refine Need.mk ?_) | exact True.intro | (first | (refine ⟨_, Told.refl _, ?_, ?_⟩) | (refine ⟨⟨_, _⟩, Told.refl _, ?_, ?_⟩) | (refine ⟨⟨_, _, _⟩, Told.refl _, ?_, ?_⟩) | (refine ⟨⟨_, _, _, _⟩, Told.refl _, ?_, ?_⟩) | (refine ⟨⟨_, _, _, _, _⟩, Told.refl _, ?_, ?_⟩) | (refine ⟨(), Told.refl _, ?_, ?_⟩)) | (with_reducible intro _) | (refine fun (_ : Bool) => ?_)))
        all_goals first
          | decide
          | assumption
          | (exact absurd ‹decide (((0 : Nat) : Int) < 2) = false› (by decide))
          | skip
        any_goals (refine Exists.intro (1) (And.intro ?_ (And.intro ?_ ?_)); all_goals (repeat' first | (with_reducible exact trivial) | (with_reducible rfl) | (refine And.intro ?_ ?_) | (refine Need.mk ?_) | exact True.intro | (first | (refine ⟨_, Told.refl _, ?_, ?_⟩) | (refine ⟨⟨_, _⟩, Told.refl _, ?_, ?_⟩) | (refine ⟨⟨_, _, _⟩, Told.refl _, ?_, ?_⟩) | (refine ⟨⟨_, _, _, _⟩, Told.refl _, ?_, ?_⟩) | (refine ⟨⟨_, _, _, _, _⟩, Told.refl _, ?_, ?_⟩) | (refine ⟨(), Told.refl _, ?_, ?_⟩)) | (with_reducible intro _) | (refine fun (_ : Bool) => ?_)))
        all_goals first
          | decide
          | exact lit_self (L := [.c b, .n]) _ ‹_›
          | (have q := ‹(tellO (.c b) x).isSome = true›
             obtain ⟨u, hu⟩ := Option.isSome_iff_exists.1 q
             have e : firstT x [.c b, .n] = (u, 2) := by rw [hg, g, hu]
             first
               | (show (2 : Int) = (firstT x [.c b, .n]).2; rw [e]; done)
               | (show tellB (.c b) x = (firstT x [.c b, .n]).1; rw [e]; unfold tellB; rw [hu]; rfl))
          | (have q : tellO (.c b) x = none := by simpa using ‹(tellO (.c b) x).isSome = false›
             rw [hg, g, q]
             done)
          | (have e : firstT x [.c b, .n] = (encB [65533], 0) := hg
             first
               | (show (0 : Int) = (firstT x [.c b, .n]).2; rw [e]; done)
               | (show tellB .n x = (firstT x [.c b, .n]).1; rw [e]; rfl))
      · -- round 1
        have g : firstT x ([.c b, .n].drop 1) = match tellO (.n) x with
          | some b => (b, 0)
          | none => firstT x ([.c b, .n].drop 2) := rfl
        ((refine AW.byF ‹_› ?_); (repeat' first | (with_reducible exact trivial) | (with_reducible rfl) | (refine And.intro ?_ ?_) | (refine Need.mk ?_) | exact True.intro | (first | (refine ⟨_, Told.refl _, ?_, ?_⟩) | (refine ⟨⟨_, _⟩, Told.refl _, ?_, ?_⟩) | (refine ⟨⟨_, _, _⟩, Told.refl _, ?_, ?_⟩) | (refine ⟨⟨_, _, _, _⟩, Told.refl _, ?_, ?_⟩) | (refine ⟨⟨_, _, _, _, _⟩, Told.refl _, ?_, ?_⟩) | (refine ⟨(), Told.refl _, ?_, ?_⟩)) | (with_reducible intro _) | (refine fun (_ : Bool) => ?_)))
        all_goals first
          | decide
          | assumption
          | (exact absurd ‹decide (((1 : Nat) : Int) < 2) = false› (by decide))
          | skip
        all_goals first
          | decide
          | exact lit_self (L := [.c b, .n]) _ ‹_›
          | (have q := ‹(tellO (.n) x).isSome = true›
             obtain ⟨u, hu⟩ := Option.isSome_iff_exists.1 q
             have e : firstT x [.c b, .n] = (u, 0) := by rw [hg, g, hu]
             first
               | (show (0 : Int) = (firstT x [.c b, .n]).2; rw [e]; done)
               | (show tellB (.n) x = (firstT x [.c b, .n]).1; rw [e]; unfold tellB; rw [hu]; rfl))
          | (have q : tellO (.n) x = none := by simpa using ‹(tellO (.n) x).isSome = false›
             rw [hg, g, q]
             done)
          | (have e : firstT x [.c b, .n] = (encB [65533], 0) := hg
             first
               | (show (0 : Int) = (firstT x [.c b, .n]).2; rw [e]; done)
               | (show tellB .n x = (firstT x [.c b, .n]).1; rw [e]; rfl))


set_option maxHeartbeats 16000000 in
theorem char_n (x : Sg) (a b : Tbl) (ha : a.bfs.length ≤ 1000000) (hb : b.bfs.length ≤ 1000000) : Fn Tryz.prog 35 [.agg (cG x), .sl 1 1 (elt [[.iface 126 (.agg [])]])] (.st (.agg (cH (charT [.n] x)))) := by
  have hC : COK Tryz.prog (cfgM M CL) := Ty.ty.cfgM methsOK callsOK
  ((refine Fn.ofF hC Tryz.func35 Tryz.ntmps35 rfl rfl rfl ?_); (repeat' first | (with_reducible exact trivial) | (with_reducible rfl) | (refine And.intro ?_ ?_) | (refine Need.mk ?_) | exact True.intro | (first | (refine ⟨_, Told.refl _, ?_, ?_⟩) | (refine ⟨⟨_, _⟩, Told.refl _, ?_, ?_⟩) | (refine ⟨⟨_, _, _⟩, Told.refl _, ?_, ?_⟩) | (refine ⟨⟨_, _, _, _⟩, Told.refl _, ?_, ?_⟩) | (refine ⟨⟨_, _, _, _, _⟩, Told.refl _, ?_, ?_⟩) | (refine ⟨(), Told.refl _, ?_, ?_⟩)) | (with_reducible intro _) | (refine fun (_ : Bool) => ?_)))
  any_goals decide
  · have hf : x.p.full = false := by simpa using ‹(!x.p.full) = true›
    have hr : charT [.n] x = ⟨x.p, x.cid, 0, encB [65533]⟩ := by
      unfold charT
      rw [hf]
      rfl
    rw [hr]
    refine AW.loop (I := fun k : Nat => ⟨44, [(2, .ptr 0 0), (4, .ptr 1 0), (5, .ptr 2 0), (24, .sl 1 1 (elt [[.iface 126 (.agg [])]])), (25, .int .i64 1), (26, .int .i64 k)], [.box 83 (cG x), .box 55 [.int .i64 0, .int .i64 0, .lit false, .int .i64 0, .int .i64 0, .int .i64 0, .int .i64 0, .str ByteArray.empty], .box 55 (cH ⟨x.p, x.cid, 0, ByteArray.empty⟩)]⟩) (fun k => k = 0) (fun k => 1 - k) 0 rfl ?_ ?_
    · (repeat' first | (with_reducible exact trivial) | (with_reducible rfl) | (refine And.intro ?_ ?_) | (refine Need.mk ?_) | exact True.intro | (first | (refine ⟨_, Told.refl _, ?_, ?_⟩) | (refine ⟨⟨_, _⟩, Told.refl _, ?_, ?_⟩) | (refine ⟨⟨_, _, _⟩, Told.refl _, ?_, ?_⟩) | (refine ⟨⟨_, _, _, _⟩, Told.refl _, ?_, ?_⟩) | (refine ⟨⟨_, _, _, _, _⟩, Told.refl _, ?_, ?_⟩) | (refine ⟨(), Told.refl _, ?_, ?_⟩)) | (with_reducible intro _) | (refine fun (_ : Bool) => ?_))
      all_goals first
        | rfl
        | decide
        | (rename_i i hi
           have hi : i < 1 := hi
           have h0 : i = 0 := by omega
           subst h0
           have e9 : (IntKind.i64.wrap (((1 : Nat) : Int) - 1)).toNat = 0 := by decide
           show cond (ones [.iface 126 (.agg [])]) (subs0 [.iface 126 (.agg [])] (elt [[.iface 126 (.agg [])]] ((IntKind.i64.wrap (((1 : Nat) : Int) - 1)).toNat + 0))) False
           rw [e9]
           exact (cTl_emb .n).2.1)
    · rintro k rfl
      ((refine AW.byF ‹_› ?_); (repeat' first | (with_reducible exact trivial) | (with_reducible rfl) | (refine And.intro ?_ ?_) | (refine Need.mk ?_) | exact True.intro | (first | (refine ⟨_, Told.refl _, ?_, ?_⟩) | (refine ⟨⟨_, _⟩, Told.refl _, ?_, ?_⟩) | (refine ⟨⟨_, _, _⟩, Told.refl _, ?_, ?_⟩) | (refine ⟨⟨_, _, _, _⟩, Told.refl _, ?_, ?_⟩) | (refine ⟨⟨_, _, _, _, _⟩, Told.refl _, ?_, ?_⟩) | (refine ⟨(), Told.refl _, ?_, ?_⟩)) | (with_reducible intro _) | (refine fun (_ : Bool) => ?_)))
      all_goals first | decide | (exact absurd ‹decide (((0 : Nat) : Int) < 1) = false› (by decide)) | rfl

  · have hf : x.p.full = true := by simpa using ‹(!x.p.full) = false›
    have hr : charT [.n] x = ⟨x.p, x.cid, (firstT x [.n]).2, (firstT x [.n]).1⟩ := by
      unfold charT
      rw [if_pos hf]
    rw [hr]
    refine AW.loop (I := fun k : Nat => ⟨44, [(2, .ptr 0 0), (4, .ptr 1 0), (5, .ptr 2 0), (24, .sl 1 1 (elt [[.iface 126 (.agg [])]])), (25, .int .i64 1), (26, .int .i64 k)], [.box 83 (cG x), .box 55 [.int .i64 0, .int .i64 0, .lit false, .int .i64 0, .int .i64 0, .int .i64 0, .int .i64 0, .str ByteArray.empty], .box 55 (cH ⟨x.p, x.cid, 0, ByteArray.empty⟩)]⟩) (fun k => k < 1 ∧ firstT x [.n] = firstT x ([.n].drop k)) (fun k => 1 - k) 0 ⟨by decide, rfl⟩ ?_ ?_
    · (repeat' first | (with_reducible exact trivial) | (with_reducible rfl) | (refine And.intro ?_ ?_) | (refine Need.mk ?_) | exact True.intro | (first | (refine ⟨_, Told.refl _, ?_, ?_⟩) | (refine ⟨⟨_, _⟩, Told.refl _, ?_, ?_⟩) | (refine ⟨⟨_, _, _⟩, Told.refl _, ?_, ?_⟩) | (refine ⟨⟨_, _, _, _⟩, Told.refl _, ?_, ?_⟩) | (refine ⟨⟨_, _, _, _, _⟩, Told.refl _, ?_, ?_⟩) | (refine ⟨(), Told.refl _, ?_, ?_⟩)) | (with_reducible intro _) | (refine fun (_ : Bool) => ?_))
      all_goals first
        | rfl
        | decide
        | exact lit_self (L := [.n]) _ ‹_›
    · rintro k ⟨hk, hg⟩
      have hc : k = 0 := by omega
      subst hc
      · -- round 0
        have g : firstT x ([.n].drop 0) = match tellO (.n) x with
          | some b => (b, 0)
          | none => firstT x ([.n].drop 1) := rfl
        ((refine AW.byF ‹_› ?_); (repeat' first | (with_reducible exact trivial) | (with_reducible rfl) | (refine And.intro ?_ ?_) | (refine Need.mk ?_) | exact True.intro | (first | (refine ⟨_, Told.refl _, ?_, ?_⟩) | (refine ⟨⟨_, _⟩, Told.refl _, ?_, ?_⟩) | (refine ⟨⟨_, _, _⟩, Told.refl _, ?_, ?_⟩) | (refine ⟨⟨_, _, _, _⟩, Told.refl _, ?_, ?_⟩) | (refine ⟨⟨_, _, _, _, _⟩, Told.refl _, ?_, ?_⟩) | (refine ⟨(), Told.refl _, ?_, ?_⟩)) | (with_reducible intro _) | (refine fun (_ : Bool) => ?_)))
        all_goals first
          | decide
          | assumption
          | (exact absurd ‹decide (((0 : Nat) : Int) < 1) = false› (by decide))
          | skip
        all_goals first
          | decide
          | exact lit_self (L := [.n]) _ ‹_›
          | (have q := ‹(tellO (.n) x).isSome = true›
             obtain ⟨u, hu⟩ := Option.isSome_iff_exists.1 q
             have e : firstT x [.n] = (u, 0) := by rw [hg, g, hu]
             first
               | (show (0 : Int) = (firstT x [.n]).2; rw [e]; done)
               | (show tellB (.n) x = (firstT x [.n]).1; rw [e]; unfold tellB; rw [hu]; rfl))
          | (have q : tellO (.n) x = none := by simpa using ‹(tellO (.n) x).isSome = false›
             rw [hg, g, q]
             done)
          | (have e : firstT x [.n] = (encB [65533], 0) := hg
             first
               | (show (0 : Int) = (firstT x [.n]).2; rw [e]; done)
               | (show tellB .n x = (firstT x [.n]).1; rw [e]; rfl))

end Go.Abs.Cp
set_option maxRecDepth 100000
namespace Go.Abs.Cp
open Go.RowKit Go.Proofs Go.Abs.Tab Go.Abs.Dest Go.Abs.Span Go.Abs.Coll Go.Abs.Hx Go.Abs.Mt Go.Abs.Lk Go.Abs.Rc Go.Abs.Utf Go.Abs.Txt
theorem told_tl {x : Sg} {L : List Tl} {n : Nat} {el : Nat → List AV} (hn : n = L.length) (h : ∀ i, i < n → el i = cTl (L.getD i default)) : Told [.agg (cG x), .sl 1 n el] [.agg (cG x), aTl L] := by
  refine Told.of ⟨(cG_emb x).2.1, ⟨⟨hn.symm⟩, fun i hi => ?_⟩, trivial⟩
  rw [h i hi]
  show cond (ones (cTl (L.getD i default))) (subs0 (cTl (L.getD i default)) (cTl (L.getD i default))) False
  rw [(cTl_emb _).1]
  exact (cTl_emb _).2.1
def SChar : Sp := ⟨Sg × Fnt, fun (x, f) => small f.uni ∧ small f.coll, fun (x, f) => [.agg (cG x), aTl (tls f)], fun (x, f) => .st (.agg (cH (charT (tls f) x)))⟩
theorem charC : SpOK Tryz.prog 35 SChar := fun ⟨x, f⟩ ⟨⟨_, _, _, hu⟩, ⟨_, _, _, hc⟩⟩ => by
  show Fn Tryz.prog 35 [.agg (cG x), aTl (tls f)] (.st (.agg (cH (charT (tls f) x))))
  cases h1 : f.hasUni <;> cases h2 : f.hasColl
  · have e : tls f = [.n] := by unfold tls; rw [h1, h2]; rfl
    rw [e]
    refine (char_n x f.uni f.coll hu hc).told (told_tl rfl fun i hi => ?_)
    obtain rfl : i = 0 := by omega
    rfl
  · have e : tls f = [.c f.coll, .n] := by unfold tls; rw [h1, h2]; rfl
    rw [e]
    refine (char_cn x f.uni f.coll hu hc).told (told_tl rfl fun i hi => ?_)
    have q : i = 0 ∨ i = 1 := by omega
    rcases q with rfl | rfl <;> rfl
  · have e : tls f = [.u f.uni, .n] := by unfold tls; rw [h1, h2]; rfl
    rw [e]
    refine (char_un x f.uni f.coll hu hc).told (told_tl rfl fun i hi => ?_)
    have q : i = 0 ∨ i = 1 := by omega
    rcases q with rfl | rfl <;> rfl
  · have e : tls f = [.u f.uni, .c f.coll, .n] := by unfold tls; rw [h1, h2]; rfl
    rw [e]
    refine (char_ucn x f.uni f.coll hu hc).told (told_tl rfl fun i hi => ?_)
    have q : i = 0 ∨ i = 1 ∨ i = 2 := by omega
    rcases q with rfl | rfl | rfl <;> rfl
def chars (f : Fnt) (s : List Int) : List Chr := if saneF f = true then (sgs f.enc s).map (charT (tls f)) else []
theorem getH {l : List Chr} {i : Nat} (h : i < l.length) : l.getD i default = l[i] := by simp [List.getD, h]
theorem chars_len (f : Fnt) (s : List Int) : (chars f s).length ≤ s.length := by
  unfold chars
  split
  · rw [List.length_map]
    exact sgs_len _ _
  · exact Nat.zero_le _
def SAllF : Sp := ⟨Fnt × List Int, fun (f, s) => (small f.enc ∧ small f.uni ∧ small f.coll) ∧ s.length ≤ 1000000 ∧ B8 s, fun (f, s) => [.agg (cFn f), a8 s], fun (f, s) => .row 55 8 (chars f s).length (els cH (chars f s))⟩
theorem map_nextC {f : Sg → Chr} {L : List Sg} {k : Nat} (hk : k < L.length) : (L.take (k + 1)).map f = (L.take k).map f ++ [f (L.getD k default)] := by
  rw [List.take_succ_eq_append_getElem hk, List.map_append, getG hk]
  rfl
set_option maxHeartbeats 16000000 in
theorem compAll : SpOK Tryz.prog 15 SAllF := fun ⟨f, s⟩ ⟨⟨h1, h2, h3⟩, hl, h8⟩ => by
  have hC : COK Tryz.prog (cfg [(10, SSaneF), (33, STls), (34, SLook), (35, SChar)]) := Ty.ty.cfg ⟨saneFC, tellers, Lk.look, charC, trivial⟩
  obtain ⟨a1, a2, a3, a4⟩ := h1
  obtain ⟨b1, b2, b3, b4⟩ := h2
  obtain ⟨c1, c2, c3, c4⟩ := h3
  have hsm : smallT f.enc := ⟨by omega, by omega, by omega, by omega⟩
  have hsl := sgs_len f.enc s
  have hall : ∀ b, saneF f = b → chars f s = if b = true then (sgs f.enc s).map (charT (tls f)) else [] := fun b e => by unfold chars; rw [e]
  ((refine Fn.ofF hC Tryz.func15 Tryz.ntmps15 rfl rfl rfl ?_); (repeat' first | (with_reducible exact trivial) | (with_reducible rfl) | (refine And.intro ?_ ?_) | (refine Need.mk ?_) | exact True.intro | (first | (refine ⟨_, Told.refl _, ?_, ?_⟩) | (refine ⟨⟨_, _⟩, Told.refl _, ?_, ?_⟩) | (refine ⟨⟨_, _, _⟩, Told.refl _, ?_, ?_⟩) | (refine ⟨⟨_, _, _, _⟩, Told.refl _, ?_, ?_⟩) | (refine ⟨⟨_, _, _, _, _⟩, Told.refl _, ?_, ?_⟩) | (refine ⟨(), Told.refl _, ?_, ?_⟩)) | (with_reducible intro _) | (refine fun (_ : Bool) => ?_)))
  all_goals first | omega | exact hsm | exact h8 | skip
  · have e : chars f s = [] := if_neg (by simpa using ‹(!saneF f) = true›)
    rw [e]
    rfl
  have hs : saneF f = true := by simpa using ‹(!saneF f) = false›
  have e : chars f s = (sgs f.enc s).map (charT (tls f)) := if_pos hs
  refine AW.loop (I := fun k : Nat => ⟨31, [(5, aTl (tls f)), (6, .own 0), (17, .own 1), (18, .int .i64 (sgs f.enc s).length), (19, .int .i64 k)], [.row 55 8 (((sgs f.enc s).take k).map (charT (tls f))).length (els cH (((sgs f.enc s).take k).map (charT (tls f)))), .row 83 9 (sgs f.enc s).length (els cG (sgs f.enc s))]⟩) (fun k => k ≤ (sgs f.enc s).length) (fun k => (sgs f.enc s).length - k) 0 (Nat.zero_le _) ?_ ?_
  · (repeat' first | (with_reducible exact trivial) | (with_reducible rfl) | (refine And.intro ?_ ?_) | (refine Need.mk ?_) | exact True.intro | (first | (refine ⟨_, Told.refl _, ?_, ?_⟩) | (refine ⟨⟨_, _⟩, Told.refl _, ?_, ?_⟩) | (refine ⟨⟨_, _, _⟩, Told.refl _, ?_, ?_⟩) | (refine ⟨⟨_, _, _, _⟩, Told.refl _, ?_, ?_⟩) | (refine ⟨⟨_, _, _, _, _⟩, Told.refl _, ?_, ?_⟩) | (refine ⟨(), Told.refl _, ?_, ?_⟩)) | (with_reducible intro _) | (refine fun (_ : Bool) => ?_))
    all_goals first | rfl | exact els_of cTl_emb (n := 0) (fun _ _ => rfl) _ ‹_›
  · intro k hk
    rcases Nat.lt_or_ge k (sgs f.enc s).length with hlt | hge
    · have hd : decide ((k : Int) < ((sgs f.enc s).length : Int)) = true := decide_eq_true (by omega)
      have hw := iw (n := (k : Int) + 1) (by omega) (by omega)
      have hnx := map_nextC (f := charT (tls f)) hlt
      have hml : (((sgs f.enc s).take k).map (charT (tls f))).length ≤ (sgs f.enc s).length := by rw [List.length_map, List.length_take]; omega
      ((refine AW.byF ‹_› ?_); (repeat' first | (with_reducible exact trivial) | (with_reducible rfl) | (refine And.intro ?_ ?_) | (refine Need.mk ?_) | exact True.intro | (first | (refine ⟨_, Told.refl _, ?_, ?_⟩) | (refine ⟨⟨_, _⟩, Told.refl _, ?_, ?_⟩) | (refine ⟨⟨_, _, _⟩, Told.refl _, ?_, ?_⟩) | (refine ⟨⟨_, _, _, _⟩, Told.refl _, ?_, ?_⟩) | (refine ⟨⟨_, _, _, _, _⟩, Told.refl _, ?_, ?_⟩) | (refine ⟨(), Told.refl _, ?_, ?_⟩)) | (with_reducible intro _) | (refine fun (_ : Bool) => ?_)))
      all_goals first | (exact absurd ‹decide ((k : Int) < ((sgs f.enc s).length : Int)) = false› (by rw [hd]; decide)) | skip
      any_goals (refine Exists.intro (k + 1) (And.intro ?_ (And.intro ?_ ?_)); all_goals (repeat' first | (with_reducible exact trivial) | (with_reducible rfl) | (refine And.intro ?_ ?_) | (refine Need.mk ?_) | exact True.intro | (first | (refine ⟨_, Told.refl _, ?_, ?_⟩) | (refine ⟨⟨_, _⟩, Told.refl _, ?_, ?_⟩) | (refine ⟨⟨_, _, _⟩, Told.refl _, ?_, ?_⟩) | (refine ⟨⟨_, _, _, _⟩, Told.refl _, ?_, ?_⟩) | (refine ⟨⟨_, _, _, _, _⟩, Told.refl _, ?_, ?_⟩) | (refine ⟨(), Told.refl _, ?_, ?_⟩)) | (with_reducible intro _) | (refine fun (_ : Bool) => ?_)))
      all_goals try simp only [Int.toNat_natCast] at *
      all_goals first
        | omega
        | (show ((((sgs f.enc s).take k).map (charT (tls f))).length + 1) * 80 ≤ _; omega)
        | (rw [hw]; rfl)
        | (rw [hnx, List.length_append]; rfl)
        | (rename_i z hz
           rw [hnx] at hz ⊢
           exact els_of cH_emb (n := 0) (cat_snoc rfl) z hz)
        | exact els_of cTl_emb (n := 0) (fun _ _ => rfl) _ ‹_›
    · obtain rfl : k = (sgs f.enc s).length := by omega
      have hd : decide (((sgs f.enc s).length : Int) < ((sgs f.enc s).length : Int)) = false := decide_eq_false (by omega)
      ((refine AW.byF ‹_› ?_); (repeat' first | (with_reducible exact trivial) | (with_reducible rfl) | (refine And.intro ?_ ?_) | (refine Need.mk ?_) | exact True.intro | (first | (refine ⟨_, Told.refl _, ?_, ?_⟩) | (refine ⟨⟨_, _⟩, Told.refl _, ?_, ?_⟩) | (refine ⟨⟨_, _, _⟩, Told.refl _, ?_, ?_⟩) | (refine ⟨⟨_, _, _, _⟩, Told.refl _, ?_, ?_⟩) | (refine ⟨⟨_, _, _, _, _⟩, Told.refl _, ?_, ?_⟩) | (refine ⟨(), Told.refl _, ?_, ?_⟩)) | (with_reducible intro _) | (refine fun (_ : Bool) => ?_)))
      all_goals first | (exact absurd ‹decide (((sgs f.enc s).length : Int) < ((sgs f.enc s).length : Int)) = true› (by rw [hd]; decide)) | skip
      all_goals rw [e, List.take_length]
def SCidsF : Sp := ⟨Fnt × List Int, fun (f, s) => (small f.enc ∧ small f.uni ∧ small f.coll) ∧ s.length ≤ 1000000 ∧ B8 s, fun (f, s) => [.agg (cFn f), a8 s], fun (f, s) => .row 3 1 ((chars f s).map Chr.cid).length (els ci ((chars f s).map Chr.cid))⟩
theorem cid_next {L : List Chr} {k : Nat} (hk : k < L.length) : (L.take (k + 1)).map Chr.cid = (L.take k).map Chr.cid ++ [(L.getD k default).cid] := by
  rw [List.take_succ_eq_append_getElem hk, List.map_append, getH hk]
  rfl
set_option maxHeartbeats 16000000 in
theorem compCids : SpOK Tryz.prog 20 SCidsF := fun ⟨f, s⟩ ⟨⟨⟨a1, a2, a3, a4⟩, ⟨b1, b2, b3, b4⟩, ⟨c1, c2, c3, c4⟩⟩, hl, h8⟩ => by
  have hC : COK Tryz.prog (cfg [(15, SAllF)]) := Ty.ty.cfg ⟨compAll, trivial⟩
  have hcl := chars_len f s
  ((refine Fn.ofF hC Tryz.func20 Tryz.ntmps20 rfl rfl rfl ?_); (repeat' first | (with_reducible exact trivial) | (with_reducible rfl) | (refine And.intro ?_ ?_) | (refine Need.mk ?_) | exact True.intro | (first | (refine ⟨_, Told.refl _, ?_, ?_⟩) | (refine ⟨⟨_, _⟩, Told.refl _, ?_, ?_⟩) | (refine ⟨⟨_, _, _⟩, Told.refl _, ?_, ?_⟩) | (refine ⟨⟨_, _, _, _⟩, Told.refl _, ?_, ?_⟩) | (refine ⟨⟨_, _, _, _, _⟩, Told.refl _, ?_, ?_⟩) | (refine ⟨(), Told.refl _, ?_, ?_⟩)) | (with_reducible intro _) | (refine fun (_ : Bool) => ?_)))
  all_goals first | omega | exact h8 | skip
  refine AW.loop (I := fun k : Nat => ⟨23, [(5, .own 0), (10, .own 1), (11, .int .i64 (chars f s).length), (12, .int .i64 k)], [.row 3 1 (((chars f s).take k).map Chr.cid).length (els ci (((chars f s).take k).map Chr.cid)), .row 55 8 (chars f s).length (els cH (chars f s))]⟩) (fun k => k ≤ (chars f s).length) (fun k => (chars f s).length - k) 0 (Nat.zero_le _) ?_ ?_
  · (repeat' first | (with_reducible exact trivial) | (with_reducible rfl) | (refine And.intro ?_ ?_) | (refine Need.mk ?_) | exact True.intro | (first | (refine ⟨_, Told.refl _, ?_, ?_⟩) | (refine ⟨⟨_, _⟩, Told.refl _, ?_, ?_⟩) | (refine ⟨⟨_, _, _⟩, Told.refl _, ?_, ?_⟩) | (refine ⟨⟨_, _, _, _⟩, Told.refl _, ?_, ?_⟩) | (refine ⟨⟨_, _, _, _, _⟩, Told.refl _, ?_, ?_⟩) | (refine ⟨(), Told.refl _, ?_, ?_⟩)) | (with_reducible intro _) | (refine fun (_ : Bool) => ?_))
    all_goals first | rfl
  · intro k hk
    rcases Nat.lt_or_ge k (chars f s).length with hlt | hge
    · have hd : decide ((k : Int) < ((chars f s).length : Int)) = true := decide_eq_true (by omega)
      have hw := iw (n := (k : Int) + 1) (by omega) (by omega)
      have hnx := cid_next hlt
      have hml : (((chars f s).take k).map Chr.cid).length ≤ (chars f s).length := by rw [List.length_map, List.length_take]; omega
      ((refine AW.byF ‹_› ?_); (repeat' first | (with_reducible exact trivial) | (with_reducible rfl) | (refine And.intro ?_ ?_) | (refine Need.mk ?_) | exact True.intro | (first | (refine ⟨_, Told.refl _, ?_, ?_⟩) | (refine ⟨⟨_, _⟩, Told.refl _, ?_, ?_⟩) | (refine ⟨⟨_, _, _⟩, Told.refl _, ?_, ?_⟩) | (refine ⟨⟨_, _, _, _⟩, Told.refl _, ?_, ?_⟩) | (refine ⟨⟨_, _, _, _, _⟩, Told.refl _, ?_, ?_⟩) | (refine ⟨(), Told.refl _, ?_, ?_⟩)) | (with_reducible intro _) | (refine fun (_ : Bool) => ?_)))
      all_goals first | (exact absurd ‹decide ((k : Int) < ((chars f s).length : Int)) = false› (by rw [hd]; decide)) | skip
      any_goals (refine Exists.intro (k + 1) (And.intro ?_ (And.intro ?_ ?_)); all_goals (repeat' first | (with_reducible exact trivial) | (with_reducible rfl) | (refine And.intro ?_ ?_) | (refine Need.mk ?_) | exact True.intro | (first | (refine ⟨_, Told.refl _, ?_, ?_⟩) | (refine ⟨⟨_, _⟩, Told.refl _, ?_, ?_⟩) | (refine ⟨⟨_, _, _⟩, Told.refl _, ?_, ?_⟩) | (refine ⟨⟨_, _, _, _⟩, Told.refl _, ?_, ?_⟩) | (refine ⟨⟨_, _, _, _, _⟩, Told.refl _, ?_, ?_⟩) | (refine ⟨(), Told.refl _, ?_, ?_⟩)) | (with_reducible intro _) | (refine fun (_ : Bool) => ?_)))
      all_goals try simp only [Int.toNat_natCast] at *
      all_goals first
        | omega
        | (show ((((chars f s).take k).map Chr.cid).length + 1) * 8 ≤ _; omega)
        | (rw [hw]; rfl)
        | (rw [hnx, List.length_append]; rfl)
        | (rename_i z hz
           rw [hnx] at hz ⊢
           exact els_of ci_emb (n := 0) (cat_snoc rfl) z hz)
    · obtain rfl : k = (chars f s).length := by omega
      have hd : decide (((chars f s).length : Int) < ((chars f s).length : Int)) = false := decide_eq_false (by omega)
      ((refine AW.byF ‹_› ?_); (repeat' first | (with_reducible exact trivial) | (with_reducible rfl) | (refine And.intro ?_ ?_) | (refine Need.mk ?_) | exact True.intro | (first | (refine ⟨_, Told.refl _, ?_, ?_⟩) | (refine ⟨⟨_, _⟩, Told.refl _, ?_, ?_⟩) | (refine ⟨⟨_, _, _⟩, Told.refl _, ?_, ?_⟩) | (refine ⟨⟨_, _, _, _⟩, Told.refl _, ?_, ?_⟩) | (refine ⟨⟨_, _, _, _, _⟩, Told.refl _, ?_, ?_⟩) | (refine ⟨(), Told.refl _, ?_, ?_⟩)) | (with_reducible intro _) | (refine fun (_ : Bool) => ?_)))
      all_goals first | (exact absurd ‹decide (((chars f s).length : Int) < ((chars f s).length : Int)) = true› (by rw [hd]; decide)) | skip
      all_goals rw [List.take_length]
end Go.Abs.Cp
set_option maxRecDepth 100000
namespace Go.Abs.Cp
open Go.RowKit Go.Proofs Go.Abs.Tab Go.Abs.Dest Go.Abs.Span Go.Abs.Coll Go.Abs.Hx Go.Abs.Mt Go.Abs.Lk Go.Abs.Rc Go.Abs.Utf
open Go.Abs.Txt (isB_below)
attribute [local go_sem] Oper.semAt_some
def encT (l : List Chr) : List UInt8 := l.flatMap fun c => c.text.data.toList
def txtT (l : List Chr) : ByteArray := ⟨(encT l).toArray⟩
theorem encT_len : ∀ (l : List Chr), (∀ c ∈ l, c.text.size ≤ 10000000) → (encT l).length ≤ 10000000 * l.length
  | [], _ => by simp [encT]
  | c :: l, h => by
    have ih := encT_len l (fun x hx => h x (List.mem_cons_of_mem _ hx))
    have h1 : c.text.data.toList.length ≤ 10000000 := h c List.mem_cons_self
    unfold encT at ih ⊢
    rw [List.flatMap_cons, List.length_append, List.length_cons]
    omega
def encH (c : Chr) : List Value := [.int .i64 c.p.at_, .int .i64 c.p.n, .bool c.p.full, .int .i64 c.p.cn, .int .i64 c.p.cv, .int .i64 c.cid, .int .i64 c.from_, .string c.text]
theorem rowCells {w1 : World} {S1 : Nat → Prop} {base : Nat} {L : List Chr} {v : Value} (h : Res w1 S1 base (.row 55 8 L.length (els cH L)) v) : ∃ A c g, v = .slice A L.length c ∧ (0 < L.length → base ≤ g ∧ ∃ cs, w1.heap[g]? = some (.cells cs 55 (0, 0))) ∧ ∀ i, i < L.length → ∃ ad, A = some ad ∧ ad.block = g ∧ ∀ j x, (encH (L.getD i default))[j]? = some x → w1.cell? (ad.add (i * 8 + j)) = some x := by
  obtain ⟨⟨inner, ho, hi⟩, _⟩ := h
  have hc : ∀ i, i < L.length → ∀ j x, (encH (L.getD i default))[j]? = some x → inner[i * 8 + j]? = some x := fun i hil j x hx => by
    obtain ⟨_, _, h3⟩ := hi i hil
    have hj : j < 8 := (List.getElem?_eq_some_iff.1 hx).1
    have hj' : j = 0 ∨ j = 1 ∨ j = 2 ∨ j = 3 ∨ j = 4 ∨ j = 5 ∨ j = 6 ∨ j = 7 := by omega
    rcases hj' with rfl | rfl | rfl | rfl | rfl | rfl | rfl | rfl
    · obtain ⟨u, h4, h5⟩ := h3 0 _ rfl
      obtain rfl := Option.some.inj hx
      rw [h4]
      cases h5
      rfl
    · obtain ⟨u, h4, h5⟩ := h3 1 _ rfl
      obtain rfl := Option.some.inj hx
      rw [h4]
      cases h5
      rfl
    · obtain ⟨u, h4, h5⟩ := h3 2 _ rfl
      obtain rfl := Option.some.inj hx
      rw [h4]
      cases h5
      rfl
    · obtain ⟨u, h4, h5⟩ := h3 3 _ rfl
      obtain rfl := Option.some.inj hx
      rw [h4]
      cases h5
      rfl
    · obtain ⟨u, h4, h5⟩ := h3 4 _ rfl
      obtain rfl := Option.some.inj hx
      rw [h4]
      cases h5
      rfl
    · obtain ⟨u, h4, h5⟩ := h3 5 _ rfl
      obtain rfl := Option.some.inj hx
      rw [h4]
      cases h5
      rfl
    · obtain ⟨u, h4, h5⟩ := h3 6 _ rfl
      obtain rfl := Option.some.inj hx
      rw [h4]
      cases h5
      rfl
    · obtain ⟨u, h4, h5⟩ := h3 7 _ rfl
      obtain rfl := Option.some.inj hx
      rw [h4]
      cases h5
      rfl
  have hcell := fun (g : Nat) (h : v.ownBlock = some g) => ho.cells (g := g) h
  rcases ho.2 with ⟨rfl, hn⟩ | ⟨g, cap, cur, rfl, hbg, hg, _⟩
  · refine ⟨none, 0, 0, by rw [hn], fun q => by omega, fun i hil => by omega⟩
  · refine ⟨some ⟨g, 0, none⟩, cap, g, rfl, fun _ => ⟨hbg, cur, hg⟩, fun i hil => ⟨_, rfl, rfl, fun j x hx => ?_⟩⟩
    exact hcell g rfl _ _ (hc i hil j x hx)
theorem wpLoadF {P : Program} {ops : Array Oper} {rest : List Oper} {o : Oper} {a : Act} {Q : Exit → Act → World → Prop} {w : World} (hg : o.guard = none) (x : Operand) (t : TypeId) (hop : o.op = Op.load t x) (v u : Value) (hx : a.eval x = v) (hrun : (Instr.loadAt t v).run P w = .ok u w)
    (hK : wpList P ops Q rest (a.put o.dst u) w) : wpList P ops Q (o :: rest) a w := by
  refine wpList_plain hg fun K' hK' => ?_
  unfold Oper.wp
  simp only [execOp, hop, hx, Sem.run_bind, hrun, Result.andThen_ok, Sem.run_pure]
  exact hK' _ _ hK
theorem loadF (W : World) (b : Nat) (cs : List Value) (hl : cs.length = 20) (hb : W.heap[b]? = some (.cells cs.toArray 35 (0, 0))) : (Instr.loadAt 35 (.pointer (some ⟨b, 0, none⟩))).run Tryz.prog W = .ok (.agg cs.toArray) W := by
  obtain ⟨d, info, z, hd, hi, hsz, _, _, _, hT, _, _⟩ := base.ty 35 _ rfl
  have hag := TDok.agg hd hT
  have hz : info.size = 20 := hsz
  have hcell : ∀ (j : Nat) (x : Value), cs[j]? = some x → W.cell? ((⟨b, 0, none⟩ : Addr).add j) = some x := fun j x hx => by
    have e : (⟨b, 0, none⟩ : Addr).add j = ⟨b, j, none⟩ := by unfold Addr.add; split <;> simp_all
    rw [e, blk_cell hb]
    simpa using hx
  have hld := run_loadCells_list (P := Tryz.prog) W ⟨b, 0, none⟩ cs hcell
  rw [hl] at hld
  unfold Instr.loadAt loadVar
  simp only [Instr.sureAddr, Sem.run_bind, Sem.run_pure, Result.andThen_ok, run_isAgg hd, hag]
  show ((if (true : Bool) = true then _ else _ : Sem Value).run Tryz.prog W) = _
  simp only [if_true, Sem.run_bind, run_sizeOf hi, Result.andThen_ok, hz, hld, Sem.run_pure]
set_option maxHeartbeats 8000000 in
theorem compTextC (f : Fnt) (s : List Int) (S : Nat → Prop) (w : World) (cs : List Value) (hcs : cs.length = 20) (vs : Value) (hS : ∀ b, S b → b < w.heap.size) (hv : RVs0 w S [.agg (cFn f), a8 s] [.agg cs.toArray, vs]) (hp : SAllF.pre (f, s)) (ht : ∀ c ∈ chars f s, c.text.size ≤ 10000000) :
    Calls Tryz.prog 17 #[.agg cs.toArray, vs] w fun e w' => e = .returned (.string (txtT (chars f s))) ∧ Below w.heap.size w w' := by
  have hall : ∀ W, Below w.heap.size w W → Calls Tryz.prog 15 #[.agg cs.toArray, vs] W fun e w1 => ∃ A c g, e = .returned (.slice A (chars f s).length c) ∧ (0 < (chars f s).length → W.heap.size ≤ g ∧ ∃ cs, w1.heap[g]? = some (.cells cs 55 (0, 0))) ∧ (∀ i, i < (chars f s).length → ∃ ad, A = some ad ∧ ad.block = g ∧ ∀ j x, (encH ((chars f s).getD i default))[j]? = some x → w1.cell? (ad.add (i * 8 + j)) = some x) ∧ Below W.heap.size W w1 := fun W hW => by
    refine ((compAll (f, s) hp).2 W S [.agg cs.toArray, vs] (fun b hb => Nat.lt_of_lt_of_le (hS b hb) hW.size) ⟨hv.1, fun i a v h1 h2 => (hv.2 i a v h1 h2).mono (fun _ q => q) (fun b hb => hW.block b (hS b hb))⟩).mono ?_
    rintro e w1 ⟨v, S', rfl, hr, _, _, hb⟩
    obtain ⟨A, c, g, rfl, h1, h2⟩ := rowCells hr
    exact ⟨A, c, g, rfl, h1, h2, hb⟩
  obtain ⟨L, hL⟩ : ∃ L, L = chars f s := ⟨_, rfl⟩
  have hll : L.length ≤ 1000000 := by
    rw [hL]
    exact Nat.le_trans (chars_len f s) hp.2.1
  rw [← hL] at hall ht ⊢
  have hbx : ∀ W, (Instr.box 35 (.agg cs.toArray)).run Tryz.prog W = .ok (.pointer (some ⟨W.heap.size, 0, none⟩)) (W.alloc (.cells cs.toArray 35)) := fun W => rfl
  have hld : (Instr.loadAt 35 (.pointer (some ⟨w.heap.size, 0, none⟩))).run Tryz.prog ((w.alloc (.cells cs.toArray 35)).alloc (.cells #[.pointer none, .slice none 0 0] 93)) = .ok (.agg cs.toArray) ((w.alloc (.cells cs.toArray 35)).alloc (.cells #[.pointer none, .slice none 0 0] 93)) :=
    loadF _ _ cs hcs ((Below.heap_alloc _ _ _ (by simp)).trans (heap_alloc_new w _))
  have HA := Aside0.mk hall
  have HT := Aside0.mk ht
  have HL := Aside0.mk hll
  have HB0 := Aside0.mk (show Below w.heap.size w ((w.alloc (.cells cs.toArray 35)).alloc (.cells #[.pointer none, .slice none 0 0] 93)) from b_alloc (b_alloc (Below.refl _ _) (Nat.le_refl _) _) (Nat.le_refl _) _)
  have hfr := Lib.IsBuilderF.of (Lib.fresh_isBuilder 93 5 (w.alloc (.cells cs.toArray 35)))
  have hs1 : (w.alloc (.cells cs.toArray 35)).heap.size = w.heap.size + 1 := Array.size_push ..
  have hs2 : ((w.alloc (.cells cs.toArray 35)).alloc (.cells #[.pointer none, .slice none 0 0] 93)).heap.size = w.heap.size + 2 := (Array.size_push ..).trans (congrArg (· + 1) hs1)
  rw [hs1] at hfr
  have HF := Aside0.mk hfr
  have HS2 := Aside0.mk hs2
  clear hall ht hll hL hS hv hp hfr hs2 hcs
  go_enter Tryz.func17, Tryz.ntmps17
  go_wp2_with (first | (refine wpLoadF rfl (.tmp 2) 35 rfl _ _ rfl hld ?_) | (go_at_call 15; refine (HA.out _ HB0.out).mono ?_; rintro e w1 ⟨A, c0, g, rfl, hg1, hc1, hb1⟩; have HG1 := Aside0.mk hg1; have HC1 := Aside0.mk hc1; have HBW := Aside0.mk (HB0.out.trans (hb1.mono HB0.out.size)); have HO1 := Aside0.mk (isB_below HF.out hb1); clear hg1 hc1 hb1))
  clear hbx hld
  go_loopg [12] (L.length + 1) (fun kq v8 w' => ∃ (i : Nat), v8 = .int .i64 (i : Nat) ∧ Aside0 (i ≤ L.length ∧ L.length + 1 ≤ kq + i) ∧ Aside0 (Lib.IsBuilderF 93 5 (w.heap.size + 1) (w.heap.size + 1) (Lib.byteCells (encT (L.take i))) w') ∧ Aside0 (∀ cs, w1.heap[g]? = some (.cells cs 55 (0, 0)) → w'.heap[g]? = some (.cells cs 55 (0, 0))) ∧ Aside0 (Below w.heap.size w w'))
  case atStart => exact ⟨0, rfl, ⟨by omega⟩, HO1, ⟨fun _ h => h⟩, HBW⟩
  case round =>
    obtain ⟨i, rfl, HI, HO, HG, HB⟩ := hrel
    cases gk with
    | zero => have := HI.out; omega
    | succ k1 =>
      by_cases hi : i < L.length
      · have hlt : w.heap.size + 1 < wr.heap.size := HO.out.elim (fun h => h.lt) (fun h => h.lt)
        obtain ⟨ad, ead, hab, hcl⟩ := HC1.out i hi
        subst ead
        obtain ⟨hge, cs1, hcs1⟩ := HG1.out (by omega)
        have hgr := HG.out cs1 hcs1
        rw [HS2.out] at hge
        have hw : ∀ p : Addr, p.block = ad.block → wr.cell? p = w1.cell? p := fun p hp => World.cell?_of_block (by rw [hp, hab, hgr, hcs1])
        obtain ⟨sg, hsg⟩ : ∃ sg, sg = L.getD i default := ⟨_, rfl⟩
        rw [← hsg] at hcl
        have hab2 : ∀ n, (ad.add n).block = ad.block := fun n => by unfold Addr.add; split <;> rfl
        have hao : (ad.add (i * 8)).off = ad.off + i * 8 := by unfold Addr.add; split <;> first | rfl | (rename_i h; omega)
        have hadd : ∀ j, 0 < j → (⟨(ad.add (i * 8)).block, (ad.add (i * 8)).off + j, none⟩ : Addr) = ad.add (i * 8 + j) := fun j hj => by
          rw [hab2, hao]
          unfold Addr.add
          rw [if_neg (by omega), Nat.add_assoc]
        have hx0 : wr.cell? (ad.add (i * 8)) = some (.int .i64 sg.p.at_) := (hw _ (hab2 _)).trans (hcl 0 _ rfl)
        have hx1 : wr.cell? ⟨(ad.add (i * 8)).block, (ad.add (i * 8)).off + 1, none⟩ = some (.int .i64 sg.p.n) := by rw [hadd 1 (by omega)]; exact (hw _ (hab2 _)).trans (hcl 1 _ rfl)
        have hx2 : wr.cell? ⟨(ad.add (i * 8)).block, (ad.add (i * 8)).off + 2, none⟩ = some (.bool sg.p.full) := by rw [hadd 2 (by omega)]; exact (hw _ (hab2 _)).trans (hcl 2 _ rfl)
        have hx3 : wr.cell? ⟨(ad.add (i * 8)).block, (ad.add (i * 8)).off + 3, none⟩ = some (.int .i64 sg.p.cn) := by rw [hadd 3 (by omega)]; exact (hw _ (hab2 _)).trans (hcl 3 _ rfl)
        have hx4 : wr.cell? ⟨(ad.add (i * 8)).block, (ad.add (i * 8)).off + 4, none⟩ = some (.int .i64 sg.p.cv) := by rw [hadd 4 (by omega)]; exact (hw _ (hab2 _)).trans (hcl 4 _ rfl)
        have hx5 : wr.cell? ⟨(ad.add (i * 8)).block, (ad.add (i * 8)).off + 5, none⟩ = some (.int .i64 sg.cid) := by rw [hadd 5 (by omega)]; exact (hw _ (hab2 _)).trans (hcl 5 _ rfl)
        have hx6 : wr.cell? ⟨(ad.add (i * 8)).block, (ad.add (i * 8)).off + 6, none⟩ = some (.int .i64 sg.from_) := by rw [hadd 6 (by omega)]; exact (hw _ (hab2 _)).trans (hcl 6 _ rfl)
        have hx7 : wr.cell? ⟨(ad.add (i * 8)).block, (ad.add (i * 8)).off + 7, none⟩ = some (.string sg.text) := by rw [hadd 7 (by omega)]; exact (hw _ (hab2 _)).trans (hcl 7 _ rfl)
        have htk : encT (L.take (i + 1)) = encT (L.take i) ++ sg.text.data.toList := by
          rw [List.take_succ_eq_append_getElem hi, hsg]
          unfold encT
          rw [List.flatMap_append]
          simp [List.getD, hi]
        have hst : sg.text.size ≤ 10000000 := by
          rw [hsg, getH hi]
          exact HT.out _ (List.getElem_mem hi)
        have p0 : (0 ≤ (i : Int)) = True := eq_true (by omega)
        have p1 : ((i : Int) < (L.length : Int)) = True := eq_true (by omega)
        have hln := encT_len (L.take i) (fun x hx => HT.out x (List.mem_of_mem_take hx))
        rw [List.length_take] at hln
        have HLN := Aside0.mk (show (encT (L.take i)).length ≤ 10000000 * i by omega)
        have HTK := Aside0.mk htk
        have HLi := Aside0.mk hi
        have HST := Aside0.mk hst
        have HGE := Aside0.mk (And.intro hge hlt)
        have HBA := Aside0.mk (show ∀ o, Below w.heap.size w (wr.alloc o) from fun o => b_alloc HB.out (Nat.le_refl _) o)
        have HOA := Aside0.mk (show ∀ o, Lib.IsBuilderF 93 5 (w.heap.size + 1) (w.heap.size + 1) (Lib.byteCells (encT (L.take i))) (wr.alloc o) from fun o => HO.out.alloc o)
        have HGA := Aside0.mk (show ∀ o cs, w1.heap[g]? = some (.cells cs 55 (0, 0)) → (wr.alloc o).heap[g]? = some (.cells cs 55 (0, 0)) from fun o cs h => blk_alloc (HG.out cs h) o)
        clear htk hst hsg hcl hw hadd hab hao hln hgr hcs1 hge hlt hab2
        go_wp2_with (go_at_call 39; refine (Tryz.Builder_WriteString_k (w.heap.size + 1) (w.heap.size + 1) (Lib.byteCells (encT (L.take i))) sg.text _ (HOA.out _) (by rw [Lib.byteCells_length]; have := HL.out; have := HLN.out; have := HST.out; have := HLi.out; omega) (by have := HGE.out; simp; omega)).mono ?_; rintro e W1 ⟨rfl, h1, b1, k1_⟩)
        go_roundg k1
        case measure => have := HI.out; omega
        case rel => exact ⟨i + 1, (by first | rfl | (have := HL.out; have := HLi.out; congr 1; unfold wrap64; omega) | (have := HL.out; have := HLi.out; simp [wrap64]; omega)), ⟨by have := HI.out; have := HLi.out; omega⟩, ⟨by rw [HTK.out, Lib.byteCells_append]; exact Or.inr h1⟩, ⟨fun cs h => k1_ g _ (HGA.out _ cs h) (by intro q; have := Option.some.inj q; have := HGE.out; omega) (fun c fz q => by injection q with _ q; exact absurd q (by decide))⟩, ⟨(HBA.out _).trans (b1.mono (Nat.le_succ _))⟩⟩
      · obtain rfl : i = L.length := by have := HI.out; omega
        have ho := HO.out
        rw [List.take_length] at ho
        clear HO
        have HO := Aside0.mk ho
        clear ho
        go_wp2_with (go_at_call 40; refine (Tryz.Builder_String_any_k (w.heap.size + 1) (w.heap.size + 1) (encT L) _ HO.out (by have : w.heap.size + 1 < wr.heap.size := HO.out.elim (fun h => h.lt) (fun h => h.lt); omega)).mono ?_; rintro e W1 ⟨rfl, _, b1, _⟩)
        go_ret
        exact ⟨rfl, HB.out.trans (b1.mono (Nat.le_succ _))⟩
def STextF : Sp := ⟨Fnt × List Int, fun (f, s) => SAllF.pre (f, s) ∧ ∀ c ∈ chars f s, c.text.size ≤ 10000000, fun (f, s) => [.agg (cFn f), a8 s], fun (f, s) => .st (.str (txtT (chars f s)))⟩
theorem compText : SpOK Tryz.prog 17 STextF := fun ⟨f, s⟩ ⟨hp, ht⟩ => by
  refine ⟨⟨_, Tryz.func17, rfl, rfl⟩, fun w S vs hS hv => ?_⟩
  match vs, hv with
  | [v, u], hv =>
    have h0 := hv.2 0 _ _ rfl rfl
    obtain ⟨cs, rfl, hc⟩ := rv_agg (.st _ _ h0 : RV w S [] _ _)
    refine (compTextC f s S w cs hc.1 u hS hv hp ht).mono ?_
    rintro e w' ⟨rfl, hb⟩
    exact ⟨_, S, rfl, .str _, fun _ q => q, fun b q => ⟨Nat.lt_of_lt_of_le (hS b q) hb.size, .inl q⟩, hb⟩
end Go.Abs.Cp
set_option maxRecDepth 100000
namespace Go.Abs.Cp
open Go.RowKit Go.Proofs Go.Abs.Tab Go.Abs.Dest Go.Abs.Span Go.Abs.Coll Go.Abs.Hx Go.Abs.Mt Go.Abs.Lk Go.Abs.Rc Go.Abs.Utf Go.Abs.Ci
open Go.Abs.Txt (encB enc)
set_option maxHeartbeats 4000000 in
theorem table21 : SpOK Tryz.prog 23 STab := fun (t : Tbl) _ => by
  have hC := base
  ((refine Fn.ofF hC Tryz.func23 Tryz.ntmps23 rfl rfl rfl ?_); (repeat' first | (with_reducible exact trivial) | (with_reducible rfl) | (refine And.intro ?_ ?_) | (refine Need.mk ?_) | exact True.intro | (first | (refine ⟨_, Told.refl _, ?_, ?_⟩) | (refine ⟨⟨_, _⟩, Told.refl _, ?_, ?_⟩) | (refine ⟨⟨_, _, _⟩, Told.refl _, ?_, ?_⟩) | (refine ⟨⟨_, _, _, _⟩, Told.refl _, ?_, ?_⟩) | (refine ⟨⟨_, _, _, _, _⟩, Told.refl _, ?_, ?_⟩) | (refine ⟨(), Told.refl _, ?_, ?_⟩)) | (with_reducible intro _) | (refine fun (_ : Bool) => ?_)))
def SComps : Sp := ⟨Fnt, fun _ => True, fun f => [.agg (cFn f)], fun f => .st (.agg (cFn f))⟩
set_option maxHeartbeats 16000000 in
theorem comps : SpOK Tryz.prog 11 SComps := fun (f : Fnt) _ => by
  have hC : COK Tryz.prog (cfg [(23, STab)]) := Ty.ty.cfg ⟨table21, trivial⟩
  ((refine Fn.ofF hC Tryz.func11 Tryz.ntmps11 rfl rfl rfl ?_); (repeat' first | (with_reducible exact trivial) | (with_reducible rfl) | (refine And.intro ?_ ?_) | (refine Need.mk ?_) | exact True.intro | (first | (refine ⟨_, Told.refl _, ?_, ?_⟩) | (refine ⟨⟨_, _⟩, Told.refl _, ?_, ?_⟩) | (refine ⟨⟨_, _, _⟩, Told.refl _, ?_, ?_⟩) | (refine ⟨⟨_, _, _, _⟩, Told.refl _, ?_, ?_⟩) | (refine ⟨⟨_, _, _, _, _⟩, Told.refl _, ?_, ?_⟩) | (refine ⟨(), Told.refl _, ?_, ?_⟩)) | (with_reducible intro _) | (refine fun (_ : Bool) => ?_)))
def fewF (f : Fnt) : Bool := fewT f.enc && (fewT f.uni && fewT f.coll)
def SFewF : Sp := ⟨Fnt, fun _ => True, fun f => [.agg (cFn f)], fun f => .st (.sb (fewF f))⟩
theorem fewFC : SpOK Tryz.prog 9 SFewF := fun (f : Fnt) _ => by
  have hC : COK Tryz.prog (cfg [(28, SFewT)]) := Ty.ty.cfg ⟨rfewT, trivial⟩
  ((refine Fn.ofF hC Tryz.func9 Tryz.ntmps9 rfl rfl rfl ?_); (repeat' first | (with_reducible exact trivial) | (with_reducible rfl) | (refine And.intro ?_ ?_) | (refine Need.mk ?_) | exact True.intro | (first | (refine ⟨_, Told.refl _, ?_, ?_⟩) | (refine ⟨⟨_, _⟩, Told.refl _, ?_, ?_⟩) | (refine ⟨⟨_, _, _⟩, Told.refl _, ?_, ?_⟩) | (refine ⟨⟨_, _, _, _⟩, Told.refl _, ?_, ?_⟩) | (refine ⟨⟨_, _, _, _, _⟩, Told.refl _, ?_, ?_⟩) | (refine ⟨(), Told.refl _, ?_, ?_⟩)) | (with_reducible intro _) | (refine fun (_ : Bool) => ?_)))
  all_goals
    unfold fewF
    simp_all
theorem few_sm {t : Tbl} (h : fewT t = true) : small t := by
  obtain ⟨⟨_, a, b, c⟩, d, _⟩ := (fewT_iff t).1 h
  exact ⟨by omega, by omega, by omega, by omega⟩
theorem fewF_sm {f : Fnt} (h : (!fewF f) = false) : small f.enc ∧ small f.uni ∧ small f.coll := by
  have h : fewF f = true := by simpa using h
  unfold fewF at h
  rw [Bool.and_eq_true, Bool.and_eq_true] at h
  exact ⟨few_sm h.1, few_sm h.2.1, few_sm h.2.2⟩
/-- No text is long. -/
theorem encB_size (l : List Int) : (encB l).size ≤ 4 * l.length := by
  show (enc l).toArray.size ≤ _
  rw [List.size_toArray]
  exact Txt.enc_len l
theorem tell_short (t : Tl) (x : Sg) : (tellB t x).size ≤ 256 := by
  have h0 : ByteArray.empty.size = 0 := rfl
  have hd : ∀ (l : List Bf) (n v : Int), (((EB.find l n v).map fun a => encB (decU a)).getD ByteArray.empty).size ≤ 256 := fun l n v => by
    cases h : EB.find l n v with
    | none => exact Nat.zero_le _
    | some a =>
      have h1 := encB_size (decU a)
      have h2 := decU_len a
      have h3 := (find_rng h).1
      show (encB (decU a)).size ≤ 256
      omega
  cases t with
  | u t => exact hd _ _ _
  | c t =>
    show ((if x.kind = 0 then none else (EB.find t.bfs 2 x.cid).map fun a => encB (decU a)).getD ByteArray.empty).size ≤ 256
    split
    · exact Nat.zero_le _
    · exact hd _ _ _
  | n =>
    have := encB_size [65533]
    show (encB [65533]).size ≤ 256
    simp at this
    omega
theorem first_short (x : Sg) : ∀ (l : List Tl), (firstT x l).1.size ≤ 256
  | [] => Nat.zero_le _
  | t :: l => by
    have ih := first_short x l
    have h1 := tell_short t x
    unfold tellB at h1
    unfold firstT
    cases h : tellO t x with
    | none => exact ih
    | some b => rw [h] at h1; exact h1
theorem chars_short (f : Fnt) (s : List Int) : ∀ c ∈ chars f s, c.text.size ≤ 10000000 := fun c hc => by
  unfold chars at hc
  split at hc
  · obtain ⟨x, _, rfl⟩ := List.mem_map.1 hc
    have := first_short x (if x.p.full = true then tls f else (tls f).drop ((tls f).length - 1))
    show (firstT x _).1.size ≤ _
    omega
  · cases hc
def fA : Fnt := ⟨identT 0, false, ⟨ByteArray.empty, 0, [], [], [], []⟩, true, ⟨ByteArray.empty, 0, [], [], [], [⟨2, 5, 5, [65]⟩]⟩⟩
theorem canR_nil : canR [] = [] := by
  have h := canR_len []
  cases hc : canR [] with
  | nil => rfl
  | cons x l => rw [hc] at h; simp at h
theorem saneA : saneF fA = true := by
  have h2 : saneT ⟨ByteArray.empty, 0, [], [], [], [⟨2, 5, 5, [65]⟩]⟩ = true := by
    unfold saneT
    dsimp only
    rw [canR_nil]
    decide +kernel
  unfold saneF
  show (saneT (identT 0) && ((!false || _) && (!true || saneT ⟨ByteArray.empty, 0, [], [], [], [⟨2, 5, 5, [65]⟩]⟩))) = true
  rw [saneI, h2]
  rfl
theorem charsA (s : List Int) : chars fA s = (sgs (identT 0) s).map (charT (tls fA)) := if_pos saneA
theorem awakeC : (chars fA [0, 5, 0, 6]).map Chr.cid = [5, 6] := by
  rw [charsA]
  decide +kernel
theorem awake1 : encT (chars fA [0, 5]) = [65] := by
  rw [charsA]
  decide +kernel
theorem awake2 : encT (chars fA [0, 6]) = [239, 191, 189] := by
  rw [charsA]
  decide +kernel
theorem preA {s : List Int} (h : s.length ≤ 1000000) (h8 : B8 s) : SAllF.pre (fA, s) := ⟨⟨⟨by decide, by decide, by decide, by decide⟩, ⟨by decide, by decide, by decide, by decide⟩, ⟨by decide, by decide, by decide, by decide⟩⟩, h, h8⟩
theorem litA : subs0 (cFn fA) [.str (identT 0).name, .int .i64 (identT 0).wmode, aR (identT 0).spaces, aS (identT 0).cids, aS (identT 0).nots, aB (identT 0).bfs, .lit false, .str ByteArray.empty, .int .i64 0, .nil, .nil, .nil, .nil, .lit true, .str ByteArray.empty, .int .i64 0, .nil, .nil, .nil, .sl 4 1 (elt [[.int .i64 2, .int .i64 5, .int .i64 5, .sl 1 1 (elt [[.int .i64 65]])]])] := by
  refine ⟨⟨rfl⟩, ⟨rfl⟩, ⟨⟨rfl⟩, els_of cR_emb (n := 0) (fun _ _ => rfl)⟩, ⟨⟨rfl⟩, els_of cSp_emb (n := 0) (fun _ _ => rfl)⟩, ⟨⟨rfl⟩, els_of cSp_emb (n := 0) (fun _ _ => rfl)⟩, ⟨⟨rfl⟩, els_of cBf_emb (n := 0) (fun _ _ => rfl)⟩, ⟨rfl⟩, ⟨rfl⟩, ⟨rfl⟩, ⟨rfl⟩, ⟨rfl⟩, ⟨rfl⟩, ⟨rfl⟩, ⟨rfl⟩, ⟨rfl⟩, ⟨rfl⟩, ⟨rfl⟩, ⟨rfl⟩, ⟨rfl⟩, ⟨⟨rfl⟩, fun i hi => ?_⟩, trivial⟩
  have hi : i < 1 := hi
  obtain rfl : i = 0 := by omega
  exact ⟨⟨rfl⟩, ⟨rfl⟩, ⟨rfl⟩, (lit_sub ci_emb [65]).1, trivial⟩
def SAwakeP : Sp := ⟨Unit, fun _ => True, fun _ => [], fun _ => .st (.lit true)⟩
set_option maxHeartbeats 16000000 in
theorem awake21 : SpOK Tryz.prog 8 SAwakeP := fun _ _ => by
  have hC : COK Tryz.prog (cfg [(30, SIdent), (20, SCidsF), (17, STextF), (10, SSaneF)]) := Ty.ty.cfg ⟨ident, compCids, compText, saneFC, trivial⟩
  ((refine Fn.ofF hC Tryz.func8 Tryz.ntmps8 rfl rfl rfl ?_); (repeat' first | (with_reducible exact trivial) | (with_reducible rfl) | (refine And.intro ?_ ?_) | (refine Need.mk ?_) | exact True.intro | (first | (refine ⟨_, Told.refl _, ?_, ?_⟩) | (refine ⟨⟨_, _⟩, Told.refl _, ?_, ?_⟩) | (refine ⟨⟨_, _, _⟩, Told.refl _, ?_, ?_⟩) | (refine ⟨⟨_, _, _, _⟩, Told.refl _, ?_, ?_⟩) | (refine ⟨⟨_, _, _, _, _⟩, Told.refl _, ?_, ?_⟩) | (refine ⟨(), Told.refl _, ?_, ?_⟩)) | (with_reducible intro _) | (refine fun (_ : Bool) => ?_)))
  have b1 : B8 [0, 5, 0, 6] := fun x hx => by simp at hx; omega
  have b2 : B8 [0, 5] := fun x hx => by simp at hx; omega
  have b3 : B8 [0, 6] := fun x hx => by simp at hx; omega
  have et1 : txtT (chars fA [0, 5]) = ⟨#[65]⟩ := by unfold txtT; rw [awake1]
  have et2 : txtT (chars fA [0, 6]) = ⟨#[239, 191, 189]⟩ := by unfold txtT; rw [awake2]
  have hp := preA (s := []) (by decide) (fun x hx => by cases hx)
  refine Exists.intro (fA, [0, 5, 0, 6]) (And.intro (Told.of ⟨litA, (lit_sub c8_emb [0, 5, 0, 6]).1, trivial⟩) (And.intro (preA (by decide) b1) ?_))
  (repeat' first | (with_reducible exact trivial) | (with_reducible rfl) | (refine And.intro ?_ ?_) | (refine Need.mk ?_) | exact True.intro | (first | (refine ⟨_, Told.refl _, ?_, ?_⟩) | (refine ⟨⟨_, _⟩, Told.refl _, ?_, ?_⟩) | (refine ⟨⟨_, _, _⟩, Told.refl _, ?_, ?_⟩) | (refine ⟨⟨_, _, _, _⟩, Told.refl _, ?_, ?_⟩) | (refine ⟨⟨_, _, _, _, _⟩, Told.refl _, ?_, ?_⟩) | (refine ⟨(), Told.refl _, ?_, ?_⟩)) | (with_reducible intro _) | (refine fun (_ : Bool) => ?_))
  refine Exists.intro (fA, [0, 5]) (And.intro (Told.of ⟨litA, (lit_sub c8_emb [0, 5]).1, trivial⟩) (And.intro ⟨preA (by decide) b2, chars_short _ _⟩ ?_))
  (repeat' first | (with_reducible exact trivial) | (with_reducible rfl) | (refine And.intro ?_ ?_) | (refine Need.mk ?_) | exact True.intro | (first | (refine ⟨_, Told.refl _, ?_, ?_⟩) | (refine ⟨⟨_, _⟩, Told.refl _, ?_, ?_⟩) | (refine ⟨⟨_, _, _⟩, Told.refl _, ?_, ?_⟩) | (refine ⟨⟨_, _, _, _⟩, Told.refl _, ?_, ?_⟩) | (refine ⟨⟨_, _, _, _, _⟩, Told.refl _, ?_, ?_⟩) | (refine ⟨(), Told.refl _, ?_, ?_⟩)) | (with_reducible intro _) | (refine fun (_ : Bool) => ?_))
  all_goals (try rw [awakeC] at *)
  all_goals first
    | decide
    | (exfalso; simp [et1] at *; done)
    | (exfalso; revert ‹_ = false›; rw [awakeC]; decide)
    | skip
  all_goals
    refine Exists.intro fA (And.intro (Told.of ⟨litA, trivial⟩) (And.intro hp.1 ?_))
    (repeat' first | (with_reducible exact trivial) | (with_reducible rfl) | (refine And.intro ?_ ?_) | (refine Need.mk ?_) | exact True.intro | (first | (refine ⟨_, Told.refl _, ?_, ?_⟩) | (refine ⟨⟨_, _⟩, Told.refl _, ?_, ?_⟩) | (refine ⟨⟨_, _, _⟩, Told.refl _, ?_, ?_⟩) | (refine ⟨⟨_, _, _, _⟩, Told.refl _, ?_, ?_⟩) | (refine ⟨⟨_, _, _, _, _⟩, Told.refl _, ?_, ?_⟩) | (refine ⟨(), Told.refl _, ?_, ?_⟩)) | (with_reducible intro _) | (refine fun (_ : Bool) => ?_))
  all_goals first
    | (exact absurd ‹saneF fA = false› (by rw [saneA]; decide))
    | (refine Exists.intro (fA, [0, 6]) (And.intro (Told.of ⟨litA, (lit_sub c8_emb [0, 6]).1, trivial⟩) (And.intro ⟨preA (by decide) b3, chars_short _ _⟩ ?_))
       (repeat' first | (with_reducible exact trivial) | (with_reducible rfl) | (refine And.intro ?_ ?_) | (refine Need.mk ?_) | exact True.intro | (first | (refine ⟨_, Told.refl _, ?_, ?_⟩) | (refine ⟨⟨_, _⟩, Told.refl _, ?_, ?_⟩) | (refine ⟨⟨_, _, _⟩, Told.refl _, ?_, ?_⟩) | (refine ⟨⟨_, _, _, _⟩, Told.refl _, ?_, ?_⟩) | (refine ⟨⟨_, _, _, _, _⟩, Told.refl _, ?_, ?_⟩) | (refine ⟨(), Told.refl _, ?_, ?_⟩)) | (with_reducible intro _) | (refine fun (_ : Bool) => ?_))
       rw [et2]
       exact beq_self_eq_true _)
end Go.Abs.Cp
set_option maxRecDepth 100000
namespace Go.Abs.Cp
open Go.RowKit Go.Proofs Go.Abs.Dest Go.Abs.Span Go.Abs.Coll Go.Abs.Hx
def wfFn (f : Fnt) : Prop := wfT f.enc ∧ True ∧ wfT f.uni ∧ True ∧ wfT f.coll
theorem opBoolF : OpA Tryz.prog 4 (fun b : Bool => [.sb b]) (fun _ => True) := OpA.bool Tryz.underlying4
theorem opFnt : OpA Tryz.prog 28 cFn wfFn :=
  OpA.iso (OpA.struct (n := 6 + (1 + (6 + (1 + 6)))) Tryz.underlying28 (OpAF.cons opTbl rfl (by kernel_rfl) (OpAF.cons opBoolF rfl (by kernel_rfl) (OpAF.cons opTbl rfl (by kernel_rfl) (OpAF.cons opBoolF rfl (by kernel_rfl) (OpAF.one opTbl rfl (by kernel_rfl)))))) (by kernel_rfl)) (fun a => ⟨a.1, a.2.1, a.2.2.1, a.2.2.2.1, a.2.2.2.2⟩) (fun _ => rfl) (fun _ h => h)
end Go.Abs.Cp
set_option maxRecDepth 100000
namespace Go.Abs.Cp
open Go.RowKit Go.Proofs Go.Abs.Tab Go.Abs.Dest Go.Abs.Span Go.Abs.Coll Go.Abs.Hx Go.Abs.Mt Go.Abs.Lk Go.Abs.Rc Go.Abs.Utf Go.Abs.Ci
open Go.Abs.Txt (encB enc)
def SLawF : Sp := ⟨Fnt × List Int, fun (f, s) => B8 s, fun (f, s) => [.agg (cFn f), a8 s], fun _ => .st (.lit true)⟩
def T0 : Tbl := ⟨ByteArray.empty, 0, [], [], [], []⟩
def bare (f : Fnt) : Fnt := ⟨f.enc, false, T0, false, T0⟩
theorem map_getC (F : Sg → Chr) {X : List Sg} {i : Nat} (h : i < X.length) : (X.map F).getD i default = F (X.getD i default) := by simp [List.getD, h]
theorem repl_bytes : encB [65533] = ⟨#[239, 191, 189]⟩ := by decide +kernel
theorem fewF_s {f : Fnt} {s : List Int} (h : (!fewF f) = false) (hl : s.length ≤ 1000000) (h8 : B8 s) : SAllF.pre (f, s) := ⟨fewF_sm h, hl, h8⟩
set_option maxHeartbeats 16000000 in
theorem compBare : SpOK Tryz.prog 7 SLawF := fun ⟨f, s⟩ h8 => by
  have hC : COK Tryz.prog (cfg [(8, SAwakeP), (9, SFewF), (11, SComps), (10, SSaneF), (15, SAllF), (23, STab)]) := Ty.ty.cfg ⟨awake21, fewFC, comps, saneFC, compAll, table21, trivial⟩
  have h8 : B8 s := h8
  ((refine Fn.ofF hC Tryz.func7 Tryz.ntmps7 rfl rfl rfl ?_); (repeat' first | (with_reducible exact trivial) | (with_reducible rfl) | (refine And.intro ?_ ?_) | (refine Need.mk ?_) | exact True.intro | (first | (refine ⟨_, Told.refl _, ?_, ?_⟩) | (refine ⟨⟨_, _⟩, Told.refl _, ?_, ?_⟩) | (refine ⟨⟨_, _, _⟩, Told.refl _, ?_, ?_⟩) | (refine ⟨⟨_, _, _, _⟩, Told.refl _, ?_, ?_⟩) | (refine ⟨⟨_, _, _, _, _⟩, Told.refl _, ?_, ?_⟩) | (refine ⟨(), Told.refl _, ?_, ?_⟩)) | (with_reducible intro _) | (refine fun (_ : Bool) => ?_)))
  all_goals (try obtain ⟨⟨a1, a2, a3, a4⟩, ⟨b1, b2, b3, b4⟩, ⟨c1, c2, c3, c4⟩⟩ := fewF_sm ‹(!fewF f) = false›)
  all_goals (try have hsl := of_decide_eq_false ‹decide ((s.length : Int) > 60) = false›)
  all_goals first | omega | exact h8 | skip
  have hs : saneF f = true := by simpa using ‹(!saneF f) = false›
  have he : saneT f.enc = true := by
    unfold saneF at hs
    rw [Bool.and_eq_true] at hs
    exact hs.1
  have hg : saneF (bare f) = true := by
    show (saneT f.enc && ((!false || _) && (!false || _))) = true
    rw [he]
    rfl
  have ha : chars f s = (sgs f.enc s).map (charT (tls f)) := if_pos hs
  have hb : chars (bare f) s = (sgs f.enc s).map (charT [.n]) := if_pos hg
  have hxl := sgs_len f.enc s
  obtain ⟨X, hX⟩ : ∃ X, X = sgs f.enc s := ⟨_, rfl⟩
  rw [← hX] at ha hb hxl
  refine Exists.intro (bare f, s) (And.intro (Told.of ⟨?_, ⟨⟨rfl⟩, els_of c8_emb (n := 0) (fun _ _ => rfl)⟩, trivial⟩) (And.intro ⟨⟨⟨a1, a2, a3, a4⟩, ⟨Nat.zero_le _, Nat.zero_le _, Nat.zero_le _, Nat.zero_le _⟩, ⟨Nat.zero_le _, Nat.zero_le _, Nat.zero_le _, Nat.zero_le _⟩⟩, by omega, h8⟩ ?_))
  · exact ⟨⟨rfl⟩, ⟨rfl⟩, ⟨⟨rfl⟩, els_of cR_emb (n := 0) (fun _ _ => rfl)⟩, ⟨⟨rfl⟩, els_of cSp_emb (n := 0) (fun _ _ => rfl)⟩, ⟨⟨rfl⟩, els_of cSp_emb (n := 0) (fun _ _ => rfl)⟩, ⟨⟨rfl⟩, els_of cBf_emb (n := 0) (fun _ _ => rfl)⟩, ⟨rfl⟩, ⟨rfl⟩, ⟨rfl⟩, ⟨rfl⟩, ⟨rfl⟩, ⟨rfl⟩, ⟨rfl⟩, ⟨rfl⟩, ⟨rfl⟩, ⟨rfl⟩, ⟨rfl⟩, ⟨rfl⟩, ⟨rfl⟩, ⟨rfl⟩, trivial⟩
  (repeat' first | (with_reducible exact trivial) | (with_reducible rfl) | (refine And.intro ?_ ?_) | (refine Need.mk ?_) | exact True.intro | (first | (refine ⟨_, Told.refl _, ?_, ?_⟩) | (refine ⟨⟨_, _⟩, Told.refl _, ?_, ?_⟩) | (refine ⟨⟨_, _, _⟩, Told.refl _, ?_, ?_⟩) | (refine ⟨⟨_, _, _, _⟩, Told.refl _, ?_, ?_⟩) | (refine ⟨⟨_, _, _, _, _⟩, Told.refl _, ?_, ?_⟩) | (refine ⟨(), Told.refl _, ?_, ?_⟩)) | (with_reducible intro _) | (refine fun (_ : Bool) => ?_))
  · exfalso
    simp [ha, hb] at *
  refine AW.loop (I := fun k : Nat => ⟨89, [(5, .lit true), (7, .own 0), (8, .own 1), (9, .int .i64 k)], [.row 55 8 (chars f s).length (els cH (chars f s)), .row 55 8 (chars (bare f) s).length (els cH (chars (bare f) s))]⟩) (fun k => k ≤ X.length) (fun k => X.length - k) 0 (Nat.zero_le _) ?_ ?_
  · (repeat' first | (with_reducible exact trivial) | (with_reducible rfl) | (refine And.intro ?_ ?_) | (refine Need.mk ?_) | exact True.intro | (first | (refine ⟨_, Told.refl _, ?_, ?_⟩) | (refine ⟨⟨_, _⟩, Told.refl _, ?_, ?_⟩) | (refine ⟨⟨_, _, _⟩, Told.refl _, ?_, ?_⟩) | (refine ⟨⟨_, _, _, _⟩, Told.refl _, ?_, ?_⟩) | (refine ⟨⟨_, _, _, _, _⟩, Told.refl _, ?_, ?_⟩) | (refine ⟨(), Told.refl _, ?_, ?_⟩)) | (with_reducible intro _) | (refine fun (_ : Bool) => ?_))
    all_goals rfl
  · have hal : (chars f s).length = X.length := by rw [ha, List.length_map]
    have hbl : (chars (bare f) s).length = X.length := by rw [hb, List.length_map]
    intro k hk
    rcases Nat.lt_or_ge k X.length with hlt | hge
    · have hd : decide ((k : Int) < ((chars f s).length : Int)) = true := decide_eq_true (by omega)
      have hw := iw (n := (k : Int) + 1) (by omega) (by omega)
      have g1 : (chars f s).getD k default = charT (tls f) (X.getD k default) := by rw [ha]; exact map_getC _ hlt
      have g2 : (chars (bare f) s).getD k default = ⟨(X.getD k default).p, (X.getD k default).cid, 0, ⟨#[239, 191, 189]⟩⟩ := by
        rw [hb, map_getC _ hlt, ← repl_bytes]
        unfold charT
        cases (X.getD k default).p.full <;> rfl
      ((refine AW.byF ‹_› ?_); (repeat' first | (with_reducible exact trivial) | (with_reducible rfl) | (refine And.intro ?_ ?_) | (refine Need.mk ?_) | exact True.intro | (first | (refine ⟨_, Told.refl _, ?_, ?_⟩) | (refine ⟨⟨_, _⟩, Told.refl _, ?_, ?_⟩) | (refine ⟨⟨_, _, _⟩, Told.refl _, ?_, ?_⟩) | (refine ⟨⟨_, _, _, _⟩, Told.refl _, ?_, ?_⟩) | (refine ⟨⟨_, _, _, _, _⟩, Told.refl _, ?_, ?_⟩) | (refine ⟨(), Told.refl _, ?_, ?_⟩)) | (with_reducible intro _) | (refine fun (_ : Bool) => ?_)))
      all_goals first | (exact absurd ‹decide ((k : Int) < ((chars f s).length : Int)) = false› (by rw [hd]; decide)) | skip
      any_goals (refine Exists.intro (k + 1) (And.intro ?_ (And.intro ?_ ?_)); all_goals (repeat' first | (with_reducible exact trivial) | (with_reducible rfl) | (refine And.intro ?_ ?_) | (refine Need.mk ?_) | exact True.intro | (first | (refine ⟨_, Told.refl _, ?_, ?_⟩) | (refine ⟨⟨_, _⟩, Told.refl _, ?_, ?_⟩) | (refine ⟨⟨_, _, _⟩, Told.refl _, ?_, ?_⟩) | (refine ⟨⟨_, _, _, _⟩, Told.refl _, ?_, ?_⟩) | (refine ⟨⟨_, _, _, _, _⟩, Told.refl _, ?_, ?_⟩) | (refine ⟨(), Told.refl _, ?_, ?_⟩)) | (with_reducible intro _) | (refine fun (_ : Bool) => ?_)))
      all_goals (try simp only [Int.toNat_natCast, g1, g2] at *)
      all_goals first
        | omega
        | (rw [hw]; rfl)
        | (exfalso; simp [eqA, bval, charT] at *; done)
    · obtain rfl : k = X.length := by omega
      have hd : decide ((X.length : Int) < ((chars f s).length : Int)) = false := decide_eq_false (by omega)
      ((refine AW.byF ‹_› ?_); (repeat' first | (with_reducible exact trivial) | (with_reducible rfl) | (refine And.intro ?_ ?_) | (refine Need.mk ?_) | exact True.intro | (first | (refine ⟨_, Told.refl _, ?_, ?_⟩) | (refine ⟨⟨_, _⟩, Told.refl _, ?_, ?_⟩) | (refine ⟨⟨_, _, _⟩, Told.refl _, ?_, ?_⟩) | (refine ⟨⟨_, _, _, _⟩, Told.refl _, ?_, ?_⟩) | (refine ⟨⟨_, _, _, _, _⟩, Told.refl _, ?_, ?_⟩) | (refine ⟨(), Told.refl _, ?_, ?_⟩)) | (with_reducible intro _) | (refine fun (_ : Bool) => ?_)))
      all_goals first | (exact absurd ‹decide ((X.length : Int) < ((chars f s).length : Int)) = true› (by rw [hd]; decide)) | skip
end Go.Abs.Cp
set_option maxRecDepth 100000
namespace Go.Abs.Cp
open Go.RowKit Go.Proofs Go.Abs.Tab Go.Abs.Dest Go.Abs.Span Go.Abs.Coll Go.Abs.Hx Go.Abs.Mt Go.Abs.Lk Go.Abs.Rc Go.Abs.Utf Go.Abs.Ci
open Go.Abs.Txt (encB enc)
/-- What a full piece shows. -/
def showF (f : Fnt) (n v : Int) : ByteArray × Int :=
  if f.hasUni = true ∧ (EB.find f.uni.bfs n v).isSome = true then (encB (decU ((EB.find f.uni.bfs n v).getD [])), 1)
  else if f.hasColl = true ∧ (numT f.enc n v).2 ≠ 0 ∧ (EB.find f.coll.bfs 2 (numT f.enc n v).1).isSome = true then (txtO (EB.find f.coll.bfs 2 (numT f.enc n v).1), 2)
  else (⟨#[239, 191, 189]⟩, 0)
theorem char_full (f : Fnt) (p : Pc) (hp : p.full = true) : charT (tls f) (sgOf f.enc p) = ⟨p, (numT f.enc p.cn p.cv).1, (showF f p.cn p.cv).2, (showF f p.cn p.cv).1⟩ := by
  have hx : sgOf f.enc p = ⟨p, (numT f.enc p.cn p.cv).2, (numT f.enc p.cn p.cv).1, (EB.find f.enc.bfs p.cn p.cv).getD [], (EB.find f.enc.bfs p.cn p.cv).isSome⟩ := if_pos hp
  have hf : firstT (sgOf f.enc p) (tls f) = showF f p.cn p.cv := by
    rw [hx]
    have nn : ∀ x : Sg, firstT x [.n] = (⟨#[239, 191, 189]⟩, 0) := fun x => by
      show (encB [65533], (0 : Int)) = _
      rw [repl_bytes]
    have nc : ∀ b : Tbl, firstT ⟨p, (numT f.enc p.cn p.cv).2, (numT f.enc p.cn p.cv).1, (EB.find f.enc.bfs p.cn p.cv).getD [], (EB.find f.enc.bfs p.cn p.cv).isSome⟩ [.c b, .n] = if (numT f.enc p.cn p.cv).2 ≠ 0 ∧ (EB.find b.bfs 2 (numT f.enc p.cn p.cv).1).isSome = true then (txtO (EB.find b.bfs 2 (numT f.enc p.cn p.cv).1), 2) else (⟨#[239, 191, 189]⟩, 0) := fun b => by
      rw [← nn ⟨p, (numT f.enc p.cn p.cv).2, (numT f.enc p.cn p.cv).1, (EB.find f.enc.bfs p.cn p.cv).getD [], (EB.find f.enc.bfs p.cn p.cv).isSome⟩]
      show (match (if (numT f.enc p.cn p.cv).2 = 0 then none else (EB.find b.bfs 2 (numT f.enc p.cn p.cv).1).map fun a => encB (decU a)) with
        | some y => (y, (2 : Int))
        | none => firstT _ [.n]) = _
      by_cases h : (numT f.enc p.cn p.cv).2 = 0
      · rw [if_pos h, if_neg (fun q => q.1 h)]
      · rw [if_neg h]
        cases hb : EB.find b.bfs 2 (numT f.enc p.cn p.cv).1 with
        | none => rw [if_neg (fun q => by cases q.2)]; rfl
        | some a => rw [if_pos ⟨h, rfl⟩]; rfl
    have un : ∀ (t : Tbl) (l : List Tl), firstT ⟨p, (numT f.enc p.cn p.cv).2, (numT f.enc p.cn p.cv).1, (EB.find f.enc.bfs p.cn p.cv).getD [], (EB.find f.enc.bfs p.cn p.cv).isSome⟩ (.u t :: l) = if (EB.find t.bfs p.cn p.cv).isSome = true then (encB (decU ((EB.find t.bfs p.cn p.cv).getD [])), 1) else firstT ⟨p, (numT f.enc p.cn p.cv).2, (numT f.enc p.cn p.cv).1, (EB.find f.enc.bfs p.cn p.cv).getD [], (EB.find f.enc.bfs p.cn p.cv).isSome⟩ l := fun t l => by
      show (match ((EB.find t.bfs p.cn p.cv).map fun a => encB (decU a)) with
        | some y => (y, (1 : Int))
        | none => firstT _ l) = _
      cases hb : EB.find t.bfs p.cn p.cv with
      | none => rw [if_neg (by simp)]; rfl
      | some a => simp
    unfold showF tls
    cases h1 : f.hasUni <;> cases h2 : f.hasColl
    · show firstT _ [.n] = _
      rw [nn, if_neg (fun q => by cases q.1), if_neg (fun q => by cases q.1)]
    · show firstT _ [.c f.coll, .n] = _
      rw [nc]
      simp
    · show firstT _ [.u f.uni, .n] = _
      rw [un, nn]
      simp
    · show firstT _ [.u f.uni, .c f.coll, .n] = _
      rw [un, nc]
      simp
  unfold charT
  have hpx : (sgOf f.enc p).p = p := by rw [hx]
  have hcx : (sgOf f.enc p).cid = (numT f.enc p.cn p.cv).1 := by rw [hx]
  rw [hpx, if_pos hp, hf, hcx]
set_option maxHeartbeats 16000000 in
theorem compFirst : SpOK Tryz.prog 4 SLawF := fun ⟨f, s⟩ h8 => by
  have hC : COK Tryz.prog (cfg [(8, SAwakeP), (9, SFewF), (11, SComps), (10, SSaneF), (15, SAllF), (23, STab), (22, SUniL), (24, SNum), (25, SCText), (27, SDec), (26, Txt.SText)]) := Ty.ty.cfg ⟨awake21, fewFC, comps, saneFC, compAll, table21, uniL, num, ctext, dec16, Txt.text, trivial⟩
  have h8 : B8 s := h8
  ((refine Fn.ofF hC Tryz.func4 Tryz.ntmps4 rfl rfl rfl ?_); (repeat' first | (with_reducible exact trivial) | (with_reducible rfl) | (refine And.intro ?_ ?_) | (refine Need.mk ?_) | exact True.intro | (first | (refine ⟨_, Told.refl _, ?_, ?_⟩) | (refine ⟨⟨_, _⟩, Told.refl _, ?_, ?_⟩) | (refine ⟨⟨_, _, _⟩, Told.refl _, ?_, ?_⟩) | (refine ⟨⟨_, _, _, _⟩, Told.refl _, ?_, ?_⟩) | (refine ⟨⟨_, _, _, _, _⟩, Told.refl _, ?_, ?_⟩) | (refine ⟨(), Told.refl _, ?_, ?_⟩)) | (with_reducible intro _) | (refine fun (_ : Bool) => ?_)))
  all_goals (try obtain ⟨⟨a1, a2, a3, a4⟩, ⟨b1, b2, b3, b4⟩, ⟨c1, c2, c3, c4⟩⟩ := fewF_sm ‹(!fewF f) = false›)
  all_goals (try have hsl := of_decide_eq_false ‹decide ((s.length : Int) > 60) = false›)
  all_goals first | omega | exact h8 | skip
  have hs : saneF f = true := by simpa using ‹(!saneF f) = false›
  have ha : chars f s = (sgs f.enc s).map (charT (tls f)) := if_pos hs
  have hxl := sgs_len f.enc s
  have hal : (chars f s).length = (sgs f.enc s).length := by rw [ha, List.length_map]
  refine AW.loop (I := fun k : Nat => ⟨127, [(2, .ptr 1 0), (5, .lit true), (6, .own 0), (7, .int .i64 k)], [.row 55 8 (chars f s).length (els cH (chars f s)), .box 28 (cFn f)]⟩) (fun k => k ≤ (chars f s).length) (fun k => (chars f s).length - k) 0 (Nat.zero_le _) ?_ ?_
  · (repeat' first | (with_reducible exact trivial) | (with_reducible rfl) | (refine And.intro ?_ ?_) | (refine Need.mk ?_) | exact True.intro | (first | (refine ⟨_, Told.refl _, ?_, ?_⟩) | (refine ⟨⟨_, _⟩, Told.refl _, ?_, ?_⟩) | (refine ⟨⟨_, _, _⟩, Told.refl _, ?_, ?_⟩) | (refine ⟨⟨_, _, _, _⟩, Told.refl _, ?_, ?_⟩) | (refine ⟨⟨_, _, _, _, _⟩, Told.refl _, ?_, ?_⟩) | (refine ⟨(), Told.refl _, ?_, ?_⟩)) | (with_reducible intro _) | (refine fun (_ : Bool) => ?_))
    all_goals rfl
  · intro k hk
    rcases Nat.lt_or_ge k (chars f s).length with hlt | hge
    · have hd : decide ((k : Int) < ((chars f s).length : Int)) = true := decide_eq_true (by omega)
      have hw := iw (n := (k : Int) + 1) (by omega) (by omega)
      obtain ⟨c, hc⟩ : ∃ c, c = (chars f s).getD k default := ⟨_, rfl⟩
      have hcf : c.p.full = true → c = ⟨c.p, (numT f.enc c.p.cn c.p.cv).1, (showF f c.p.cn c.p.cv).2, (showF f c.p.cn c.p.cv).1⟩ := fun h => by
        have hk2 : k < (sgs f.enc s).length := by omega
        have h1 : c = charT (tls f) ((sgs f.enc s).getD k default) := by rw [hc, ha]; exact map_getC _ hk2
        have hk3 : k < (allAt f.enc.spaces s 0).length := by
          unfold sgs at hk2
          rw [List.length_map] at hk2
          exact hk2
        have h2 : (sgs f.enc s).getD k default = sgOf f.enc ((allAt f.enc.spaces s 0).getD k default) := by
          unfold sgs
          simp [List.getD, hk3]
        rw [h2] at h1
        have h3 : c.p = (allAt f.enc.spaces s 0).getD k default := by
          rw [h1]
          unfold charT sgOf
          split <;> rfl
        rw [← h3] at h1
        exact h1.trans (char_full f c.p h)
      ((refine AW.byF ‹_› ?_); (repeat' first | (with_reducible exact trivial) | (with_reducible rfl) | (refine And.intro ?_ ?_) | (refine Need.mk ?_) | exact True.intro | (first | (refine ⟨_, Told.refl _, ?_, ?_⟩) | (refine ⟨⟨_, _⟩, Told.refl _, ?_, ?_⟩) | (refine ⟨⟨_, _, _⟩, Told.refl _, ?_, ?_⟩) | (refine ⟨⟨_, _, _, _⟩, Told.refl _, ?_, ?_⟩) | (refine ⟨⟨_, _, _, _, _⟩, Told.refl _, ?_, ?_⟩) | (refine ⟨(), Told.refl _, ?_, ?_⟩)) | (with_reducible intro _) | (refine fun (_ : Bool) => ?_)))
      all_goals first | (exact absurd ‹decide ((k : Int) < ((chars f s).length : Int)) = false› (by rw [hd]; decide)) | skip
      all_goals (try simp only [Int.toNat_natCast, ← hc] at *)
      any_goals (refine Exists.intro (k + 1) (And.intro ?_ (And.intro ?_ ?_)); all_goals (repeat' first | (with_reducible exact trivial) | (with_reducible rfl) | (refine And.intro ?_ ?_) | (refine Need.mk ?_) | exact True.intro | (first | (refine ⟨_, Told.refl _, ?_, ?_⟩) | (refine ⟨⟨_, _⟩, Told.refl _, ?_, ?_⟩) | (refine ⟨⟨_, _, _⟩, Told.refl _, ?_, ?_⟩) | (refine ⟨⟨_, _, _, _⟩, Told.refl _, ?_, ?_⟩) | (refine ⟨⟨_, _, _, _, _⟩, Told.refl _, ?_, ?_⟩) | (refine ⟨(), Told.refl _, ?_, ?_⟩)) | (with_reducible intro _) | (refine fun (_ : Bool) => ?_)))
      all_goals first
        | omega
        | (rw [hw]; rfl)
        | (show f.uni.bfs.length < 4611686018427387904; omega)
        | (show f.coll.bfs.length < 4611686018427387904; omega)
        | (show ((EB.find f.uni.bfs c.p.cn c.p.cv).getD []).length ≤ 1000000000; have := find_opt f.uni.bfs c.p.cn c.p.cv; omega)
        | (show (decU ((EB.find f.uni.bfs c.p.cn c.p.cv).getD [])).length < 4398046511104; have := find_opt f.uni.bfs c.p.cn c.p.cv; have := decU_len ((EB.find f.uni.bfs c.p.cn c.p.cv).getD []); omega)
        | (exfalso
           have hp : c.p.full = true := by simpa using ‹(!c.p.full) = false›
           have e := hcf hp
           have ht := congrArg Chr.text e
           have hr := congrArg Chr.from_ e
           have hi := congrArg Chr.cid e
           clear e hcf
           unfold showF at ht hr
           simp_all
           done)
    · obtain rfl : k = (chars f s).length := by omega
      have hd : decide (((chars f s).length : Int) < ((chars f s).length : Int)) = false := decide_eq_false (by omega)
      ((refine AW.byF ‹_› ?_); (repeat' first | (with_reducible exact trivial) | (with_reducible rfl) | (refine And.intro ?_ ?_) | (refine Need.mk ?_) | exact True.intro | (first | (refine ⟨_, Told.refl _, ?_, ?_⟩) | (refine ⟨⟨_, _⟩, Told.refl _, ?_, ?_⟩) | (refine ⟨⟨_, _, _⟩, Told.refl _, ?_, ?_⟩) | (refine ⟨⟨_, _, _, _⟩, Told.refl _, ?_, ?_⟩) | (refine ⟨⟨_, _, _, _, _⟩, Told.refl _, ?_, ?_⟩) | (refine ⟨(), Told.refl _, ?_, ?_⟩)) | (with_reducible intro _) | (refine fun (_ : Bool) => ?_)))
      all_goals first | (exact absurd ‹decide (((chars f s).length : Int) < ((chars f s).length : Int)) = true› (by rw [hd]; decide)) | skip
end Go.Abs.Cp
set_option maxRecDepth 100000
namespace Go.Abs.Cp
open Go.RowKit Go.Proofs Go.Abs.Tab Go.Abs.Dest Go.Abs.Span Go.Abs.Coll Go.Abs.Hx Go.Abs.Mt Go.Abs.Lk Go.Abs.Rc Go.Abs.Utf Go.Abs.Ci
open Go.Abs.Txt (encB enc)
def lo16 (c : Int) : Int := IntKind.i64.wrap ((BitVec.ofInt IntKind.i64.bits c &&& BitVec.ofInt IntKind.i64.bits 65535).toNat : Int)
theorem lo16_rng (c : Int) : 0 ≤ lo16 c ∧ lo16 c < 65536 := by
  have hm : lo16 c = c % 65536 := and_low 16 (by decide) c
  omega
def hiB (c : Int) : Int := IntKind.u8.wrap (c.fdiv (2 ^ min (Int.toNat 8) IntKind.i64.bits))
def loB (c : Int) : Int := IntKind.u8.wrap (IntKind.i64.wrap ((BitVec.ofInt IntKind.i64.bits c &&& BitVec.ofInt IntKind.i64.bits 255).toNat : Int))
theorem hiB_eq {c : Int} (h : 0 ≤ c ∧ c < 65536) : hiB c = c / 256 := by
  unfold hiB
  rw [show (2 : Int) ^ min (Int.toNat 8) IntKind.i64.bits = 256 from rfl, Int.fdiv_eq_ediv_of_nonneg _ (by decide), IntKind.wrap_u8]
  omega
theorem loB_eq (c : Int) : loB c = c % 256 := by
  unfold loB
  have hm : IntKind.i64.wrap ((BitVec.ofInt IntKind.i64.bits c &&& BitVec.ofInt IntKind.i64.bits 255).toNat : Int) = c % 256 := and_low 8 (by decide) c
  rw [hm, IntKind.wrap_u8]
  omega
def two (x : Int) : List Int := [hiB (lo16 x), loB (lo16 x)]
def bytesL (l : List Int) : List Int := l.flatMap two
theorem bytesL_len : ∀ l : List Int, (bytesL l).length = 2 * l.length
  | [] => rfl
  | x :: l => by
    have := bytesL_len l
    unfold bytesL at this ⊢
    rw [List.flatMap_cons, List.length_append, List.length_cons, this]
    show 2 + _ = _
    omega
theorem bytesL_8 (l : List Int) : B8 (bytesL l) := fun x hx => by
  unfold bytesL at hx
  obtain ⟨y, _, hy⟩ := List.mem_flatMap.1 hx
  have hr := lo16_rng y
  unfold two at hy
  rw [hiB_eq hr, loB_eq] at hy
  simp at hy
  rcases hy with rfl | rfl <;> omega
theorem bytesL_get : ∀ (l : List Int) (i : Nat), i < l.length → (bytesL l).getD (2 * i) default * 256 + (bytesL l).getD (2 * i + 1) default = lo16 (l.getD i default)
  | [], i, h => by simp at h
  | x :: l, 0, h => by
    have hr := lo16_rng x
    show hiB (lo16 x) * 256 + loB (lo16 x) = lo16 x
    rw [hiB_eq hr, loB_eq]
    omega
  | x :: l, i + 1, h => by
    have ih := bytesL_get l i (by simpa using h)
    have e : bytesL (x :: l) = hiB (lo16 x) :: loB (lo16 x) :: bytesL l := rfl
    rw [e, show 2 * (i + 1) = 2 * i + 1 + 1 by omega]
    simpa [List.getD] using ih
theorem bytesL_next {l : List Int} {k : Nat} (hk : k < l.length) : bytesL (l.take (k + 1)) = bytesL (l.take k) ++ two (l.getD k default) := by
  unfold bytesL
  rw [List.take_succ_eq_append_getElem hk, List.flatMap_append]
  simp [List.getD, hk]
/-- A number's text. -/
def tx (t : Tbl) (c : Int) : ByteArray := if (EB.find t.bfs 2 c).isSome = true then txtO (EB.find t.bfs 2 c) else ⟨#[239, 191, 189]⟩
def wantL (t : Tbl) (l : List Int) : List UInt8 := l.flatMap fun x => (tx t (lo16 x)).data.toList
def want (t : Tbl) (l : List Int) : ByteArray := ⟨(wantL t l).toArray⟩
theorem want_next {t : Tbl} {l : List Int} {k : Nat} (hk : k < l.length) : want t (l.take (k + 1)) = want t (l.take k) ++ tx t (lo16 (l.getD k default)) := by
  have e : wantL t (l.take (k + 1)) = wantL t (l.take k) ++ (tx t (lo16 (l.getD k default))).data.toList := by
    unfold wantL
    rw [List.take_succ_eq_append_getElem hk, List.flatMap_append]
    simp [List.getD, hk]
  unfold want
  rw [e]
  apply ByteArray.ext
  simp
theorem tx_size (t : Tbl) (c : Int) : (tx t c).size ≤ 256 := by
  unfold tx
  split
  · cases h : EB.find t.bfs 2 c with
    | none => exact Nat.zero_le _
    | some a =>
      have h1 := encB_size (decU a)
      have h2 := decU_len a
      have h3 := (find_rng h).1
      show (encB (decU a)).size ≤ 256
      omega
  · decide
theorem want_size (t : Tbl) : ∀ l : List Int, (want t l).size ≤ 256 * l.length
  | [] => Nat.zero_le _
  | x :: l => by
    have ih := want_size t l
    have h := tx_size t (lo16 x)
    have e : (want t (x :: l)).size = (tx t (lo16 x)).size + (want t l).size := by
      show (wantL t (x :: l)).toArray.size = (tx t (lo16 x)).data.size + (wantL t l).toArray.size
      unfold wantL
      rw [List.flatMap_cons]
      simp
    rw [e, List.length_cons]
    omega
def idF (w : Int) (t : Tbl) : Fnt := ⟨identT w, false, T0, true, t⟩
theorem sgI {w : Int} {s : List Int} (h8 : B8 s) {i : Nat} (hi : 2 * i + 1 < s.length) : ∃ p : Pc, p.full = true ∧ p.cn = 2 ∧ p.cv = s.getD (2 * i) default * 256 + s.getD (2 * i + 1) default ∧ (sgs (identT w) s).getD i default = sgOf (identT w) p := by
  obtain ⟨l1, l2⟩ := idAt h8 s.length 0 (by omega)
  have hs : (identT w).spaces = [idR] := rfl
  have hil : i < (allAt [idR] s 0).length := by rw [l1]; omega
  have h1 := l2 i (by omega)
  rw [Nat.zero_add] at h1
  obtain ⟨p1, p2, p3⟩ := pc2 h8 hi
  refine ⟨_, p1, p2, p3, ?_⟩
  unfold sgs
  rw [hs, ← h1]
  simp [List.getD, hil]
theorem idChars {w : Int} {t : Tbl} {l : List Int} (ht : saneT t = true) : (chars (idF w t) (bytesL l)).length = l.length ∧ ∀ i, i < l.length → ((chars (idF w t) (bytesL l)).getD i default).cid = lo16 (l.getD i default) ∧ ((chars (idF w t) (bytesL l)).getD i default).text = tx t (lo16 (l.getD i default)) := by
  have hs : saneF (idF w t) = true := by
    show (saneT (identT w) && ((!false || _) && (!true || saneT t))) = true
    rw [saneI, ht]
    rfl
  have hc : chars (idF w t) (bytesL l) = (sgs (identT w) (bytesL l)).map (charT (tls (idF w t))) := if_pos hs
  have h8 := bytesL_8 l
  have hn := (sgsI (w := w) h8).1
  have hbl := bytesL_len l
  have hlen : (sgs (identT w) (bytesL l)).length = l.length := by rw [hn]; omega
  rw [hc]
  refine ⟨by rw [List.length_map, hlen], fun i hi => ?_⟩
  rw [map_getC _ (by omega)]
  obtain ⟨p, p1, p2, p3, p4⟩ := sgI (w := w) h8 (i := i) (by omega)
  have hv := bytesL_get l i hi
  have hr := lo16_rng (l.getD i default)
  rw [p4, show identT w = (idF w t).enc from rfl, char_full (idF w t) p p1]
  have hnum : numT (idF w t).enc p.cn p.cv = (lo16 (l.getD i default), 1) := by
    show numT (identT w) p.cn p.cv = _
    rw [numI, p2, p3, hv, if_pos (by omega)]
  rw [hnum]
  refine ⟨rfl, ?_⟩
  show (showF (idF w t) p.cn p.cv).1 = _
  unfold showF tx
  rw [hnum]
  have e1 : ¬ ((idF w t).hasUni = true ∧ (EB.find (idF w t).uni.bfs p.cn p.cv).isSome = true) := fun q => by cases q.1
  rw [if_neg e1]
  show (if true = true ∧ (1 : Int) ≠ 0 ∧ (EB.find t.bfs 2 (lo16 (l.getD i default))).isSome = true then (txtO (EB.find t.bfs 2 (lo16 (l.getD i default))), (2 : Int)) else (⟨#[239, 191, 189]⟩, 0)).1 = _
  by_cases h : (EB.find t.bfs 2 (lo16 (l.getD i default))).isSome = true
  · rw [if_pos h, if_pos ⟨rfl, by decide, h⟩]
  · rw [if_neg h, if_neg (fun q => h q.2.2)]
theorem idText {w : Int} {t : Tbl} {l : List Int} (ht : saneT t = true) : txtT (chars (idF w t) (bytesL l)) = want t l := by
  obtain ⟨h1, h2⟩ := idChars (w := w) (l := l) ht
  have e : encT (chars (idF w t) (bytesL l)) = wantL t l := by
    have e2 : (chars (idF w t) (bytesL l)).map Chr.text = l.map fun x => tx t (lo16 x) := by
      refine List.ext_getElem (by rw [List.length_map, List.length_map, h1]) fun i hi hj => ?_
      rw [List.length_map] at hi hj
      rw [List.getElem_map, List.getElem_map, ← getH hi, (h2 i hj).2]
      simp [List.getD, hj]
    unfold encT wantL
    have e3 : ∀ L : List Chr, (L.flatMap fun c => c.text.data.toList) = (L.map Chr.text).flatMap fun b => b.data.toList := fun L => by rw [List.flatMap_map]
    rw [e3, e2, List.flatMap_map]
  unfold txtT want
  rw [e]
theorem cFn_self2 (f : Fnt) : subs0 (cFn f) (cFn f) := ⟨⟨rfl⟩, ⟨rfl⟩, ⟨⟨rfl⟩, els_of cR_emb (n := 0) (fun _ _ => rfl)⟩, ⟨⟨rfl⟩, els_of cSp_emb (n := 0) (fun _ _ => rfl)⟩, ⟨⟨rfl⟩, els_of cSp_emb (n := 0) (fun _ _ => rfl)⟩, ⟨⟨rfl⟩, els_of cBf_emb (n := 0) (fun _ _ => rfl)⟩, ⟨rfl⟩, ⟨rfl⟩, ⟨rfl⟩, ⟨⟨rfl⟩, els_of cR_emb (n := 0) (fun _ _ => rfl)⟩, ⟨⟨rfl⟩, els_of cSp_emb (n := 0) (fun _ _ => rfl)⟩, ⟨⟨rfl⟩, els_of cSp_emb (n := 0) (fun _ _ => rfl)⟩, ⟨⟨rfl⟩, els_of cBf_emb (n := 0) (fun _ _ => rfl)⟩, ⟨rfl⟩, ⟨rfl⟩, ⟨rfl⟩, ⟨⟨rfl⟩, els_of cR_emb (n := 0) (fun _ _ => rfl)⟩, ⟨⟨rfl⟩, els_of cSp_emb (n := 0) (fun _ _ => rfl)⟩, ⟨⟨rfl⟩, els_of cSp_emb (n := 0) (fun _ _ => rfl)⟩, ⟨⟨rfl⟩, els_of cBf_emb (n := 0) (fun _ _ => rfl)⟩, trivial⟩
theorem cat_two {L : List Int} {a b : Int} {n : Nat} (hn : n = L.length) : ∀ i, i < (L ++ [a, b]).length → catEl n (els c8 L) (elt [[.int .u8 a], [.int .u8 b]]) i = c8 ((L ++ [a, b]).getD i default) := fun i hi => by
  have h := cat_app (f := c8) (l := L) (m := [a, b]) hn i hi
  rw [← h]
  rw [List.length_append] at hi
  have hi : i < L.length + 2 := hi
  unfold catEl
  cases hb : Nat.blt i n with
  | true => rfl
  | false =>
    have hge : ¬ i < n := fun q => by rw [show Nat.blt i n = true from Nat.ble_eq_true_of_le q] at hb; cases hb
    exact elt_list (f := c8) [a, b] (i - n) (by show i - n < 2; omega)
theorem tx_yes {t : Tbl} {c : Int} (h : (EB.find t.bfs 2 c).isSome = true) : tx t c = txtO (EB.find t.bfs 2 c) := if_pos h
theorem tx_no {t : Tbl} {c : Int} (h : (EB.find t.bfs 2 c).isSome = false) : tx t c = ⟨#[239, 191, 189]⟩ := if_neg (by rw [h]; decide)
def SIdentL : Sp := ⟨Tbl × List Int × Int, fun _ => True, fun (t, l, w) => [.agg (cT t), aI l, .int .i64 w], fun _ => .st (.lit true)⟩
set_option maxHeartbeats 16000000 in
theorem compIdentity : SpOK Tryz.prog 5 SIdentL := fun ⟨t, l, w⟩ _ => by
  have hC : COK Tryz.prog (cfg [(8, SAwakeP), (28, SFewT), (23, STab), (29, SSaneT), (30, SIdent), (25, SCText), (20, SCidsF), (17, STextF)]) := Ty.ty.cfg ⟨awake21, rfewT, table21, saneTC, ident, ctext, compCids, compText, trivial⟩
  ((refine Fn.ofF hC Tryz.func5 Tryz.ntmps5 rfl rfl rfl ?_); (repeat' first | (with_reducible exact trivial) | (with_reducible rfl) | (refine And.intro ?_ ?_) | (refine Need.mk ?_) | exact True.intro | (first | (refine ⟨_, Told.refl _, ?_, ?_⟩) | (refine ⟨⟨_, _⟩, Told.refl _, ?_, ?_⟩) | (refine ⟨⟨_, _, _⟩, Told.refl _, ?_, ?_⟩) | (refine ⟨⟨_, _, _, _⟩, Told.refl _, ?_, ?_⟩) | (refine ⟨⟨_, _, _, _, _⟩, Told.refl _, ?_, ?_⟩) | (refine ⟨(), Told.refl _, ?_, ?_⟩)) | (with_reducible intro _) | (refine fun (_ : Bool) => ?_)))
  all_goals (try obtain ⟨a1, a2, a3, a4⟩ := few_sm (by simpa using ‹(!fewT t) = false›))
  all_goals (try have hsl := of_decide_eq_false ‹decide ((l.length : Int) > 30) = false›)
  all_goals first | omega | skip
  have hs : saneT t = true := by simpa using ‹(!saneT t) = false›
  obtain ⟨q1, q2⟩ := idChars (w := w) (l := l) hs
  have q3 := idText (w := w) (l := l) hs
  have hbl := bytesL_len l
  have hb8 := bytesL_8 l
  (repeat' first | (with_reducible exact trivial) | (with_reducible rfl) | (refine And.intro ?_ ?_) | (refine Need.mk ?_) | exact True.intro | (first | (refine ⟨_, Told.refl _, ?_, ?_⟩) | (refine ⟨⟨_, _⟩, Told.refl _, ?_, ?_⟩) | (refine ⟨⟨_, _, _⟩, Told.refl _, ?_, ?_⟩) | (refine ⟨⟨_, _, _, _⟩, Told.refl _, ?_, ?_⟩) | (refine ⟨⟨_, _, _, _, _⟩, Told.refl _, ?_, ?_⟩) | (refine ⟨(), Told.refl _, ?_, ?_⟩)) | (with_reducible intro _) | (refine fun (_ : Bool) => ?_))
  refine AW.loop (I := fun k : Nat => ⟨102, [(1, aI l), (3, .ptr 0 0), (7, .lit true), (8, .ptr 1 0), (9, .own 2), (10, .str (want t (l.take k))), (11, .int .i64 k)], [.box 26 (cT t), .box 35 (cFn (idF w t)), .row 5 1 (bytesL (l.take k)).length (els c8 (bytesL (l.take k)))]⟩) (fun k => k ≤ l.length) (fun k => l.length - k) 0 (Nat.zero_le _) ?_ ?_
  · (repeat' first | (with_reducible exact trivial) | (with_reducible rfl) | (refine And.intro ?_ ?_) | (refine Need.mk ?_) | exact True.intro | (first | (refine ⟨_, Told.refl _, ?_, ?_⟩) | (refine ⟨⟨_, _⟩, Told.refl _, ?_, ?_⟩) | (refine ⟨⟨_, _, _⟩, Told.refl _, ?_, ?_⟩) | (refine ⟨⟨_, _, _, _⟩, Told.refl _, ?_, ?_⟩) | (refine ⟨⟨_, _, _, _, _⟩, Told.refl _, ?_, ?_⟩) | (refine ⟨(), Told.refl _, ?_, ?_⟩)) | (with_reducible intro _) | (refine fun (_ : Bool) => ?_))
    all_goals first | rfl | exact els_of cR_emb (n := 0) (fun _ _ => rfl) _ ‹_› | exact els_of cSp_emb (n := 0) (fun _ _ => rfl) _ ‹_› | exact els_of cBf_emb (n := 0) (fun _ _ => rfl) _ ‹_›
  · intro k hk
    rcases Nat.lt_or_ge k l.length with hlt | hge
    · have hd : decide ((k : Int) < (l.length : Int)) = true := decide_eq_true (by omega)
      have hw := iw (n := (k : Int) + 1) (by omega) (by omega)
      have hnx := bytesL_next hlt
      have hwx := want_next (t := t) hlt
      have hz := want_size t (l.take k)
      have hz2 := tx_size t (lo16 (l.getD k default))
      have hbk := bytesL_len (l.take k)
      rw [List.length_take] at hz hbk
      have hraw : IntKind.i64.wrap ((BitVec.ofInt IntKind.i64.bits (l.getD k default) &&& BitVec.ofInt IntKind.i64.bits 65535).toNat : Int) = lo16 (l.getD k default) := rfl
      obtain ⟨x, hx⟩ : ∃ x, x = l.getD k default := ⟨_, rfl⟩
      ((refine AW.byF ‹_› ?_); (repeat' first | (with_reducible exact trivial) | (with_reducible rfl) | (refine And.intro ?_ ?_) | (refine Need.mk ?_) | exact True.intro | (first | (refine ⟨_, Told.refl _, ?_, ?_⟩) | (refine ⟨⟨_, _⟩, Told.refl _, ?_, ?_⟩) | (refine ⟨⟨_, _, _⟩, Told.refl _, ?_, ?_⟩) | (refine ⟨⟨_, _, _, _⟩, Told.refl _, ?_, ?_⟩) | (refine ⟨⟨_, _, _, _, _⟩, Told.refl _, ?_, ?_⟩) | (refine ⟨(), Told.refl _, ?_, ?_⟩)) | (with_reducible intro _) | (refine fun (_ : Bool) => ?_)))
      all_goals first | (exact absurd ‹decide ((k : Int) < (l.length : Int)) = false› (by rw [hd]; decide)) | skip
      all_goals (try simp only [Int.toNat_natCast, hraw] at *)
      any_goals (refine Exists.intro (k + 1) (And.intro ?_ (And.intro ?_ ?_)); all_goals (repeat' first | (with_reducible exact trivial) | (with_reducible rfl) | (refine And.intro ?_ ?_) | (refine Need.mk ?_) | exact True.intro | (first | (refine ⟨_, Told.refl _, ?_, ?_⟩) | (refine ⟨⟨_, _⟩, Told.refl _, ?_, ?_⟩) | (refine ⟨⟨_, _, _⟩, Told.refl _, ?_, ?_⟩) | (refine ⟨⟨_, _, _, _⟩, Told.refl _, ?_, ?_⟩) | (refine ⟨⟨_, _, _, _, _⟩, Told.refl _, ?_, ?_⟩) | (refine ⟨(), Told.refl _, ?_, ?_⟩)) | (with_reducible intro _) | (refine fun (_ : Bool) => ?_)))
      all_goals (try simp only [Int.toNat_natCast, hraw] at *)
      all_goals first
        | omega
        | (rw [hw]; rfl)
        | (show t.bfs.length < 4611686018427387904; omega)
        | (show ((bytesL (l.take k)).length + 2) * 1 ≤ _; omega)
        | (rw [hnx, List.length_append]; rfl)
        | (rename_i z hz
           rw [hnx] at hz ⊢
           exact els_of c8_emb (n := 0) (cat_two rfl) z hz)
        | (have e := tx_yes (t := t) (c := lo16 (l.getD k default)) (by simpa using ‹(!(EB.find t.bfs 2 (lo16 (l.getD k default))).isSome) = false›)
           first
             | (rw [hwx, e]; done)
             | (rw [e] at hz2; omega))
        | (have e := tx_no (t := t) (c := lo16 (l.getD k default)) (by simpa using ‹(!(EB.find t.bfs 2 (lo16 (l.getD k default))).isSome) = true›)
           first
             | (rw [hwx, e]; done)
             | (rw [e] at hz2; omega))
       
    · obtain rfl : k = l.length := by omega
      have hd : decide ((l.length : Int) < (l.length : Int)) = false := decide_eq_false (by omega)
      rw [List.take_length]
      ((refine AW.byF ‹_› ?_); (repeat' first | (with_reducible exact trivial) | (with_reducible rfl) | (refine And.intro ?_ ?_) | (refine Need.mk ?_) | exact True.intro | (first | (refine ⟨_, Told.refl _, ?_, ?_⟩) | (refine ⟨⟨_, _⟩, Told.refl _, ?_, ?_⟩) | (refine ⟨⟨_, _, _⟩, Told.refl _, ?_, ?_⟩) | (refine ⟨⟨_, _, _, _⟩, Told.refl _, ?_, ?_⟩) | (refine ⟨⟨_, _, _, _, _⟩, Told.refl _, ?_, ?_⟩) | (refine ⟨(), Told.refl _, ?_, ?_⟩)) | (with_reducible intro _) | (refine fun (_ : Bool) => ?_)))
      all_goals first | (exact absurd ‹decide ((l.length : Int) < (l.length : Int)) = true› (by rw [hd]; decide)) | skip
      all_goals first
        | omega
        | exact hb8
        | exact Nat.zero_le _
        | exact chars_short _ _ _ ‹_›
        | (show 1 ≤ 1000000; decide)
        | exact a1
        | exact a2
        | exact a3
        | exact a4
        | skip
      all_goals have hcl : ((chars (idF w t) (bytesL l)).map Chr.cid).length = l.length := by rw [List.length_map, q1]
      all_goals first
        | (exact absurd ‹((((chars (idF w t) (bytesL l)).map Chr.cid).length : Int) != (l.length : Int)) = true› (by rw [hcl]; simp))
        | (exact absurd ‹(!((txtT (chars (idF w t) (bytesL l))).toList == (want t l).toList)) = true› (by rw [q3]; simp))
        | skip
      refine AW.loop (I := fun k : Nat => ⟨102, [(1, aI l), (7, .lit true), (15, .own 0), (16, .int .i64 k)], [.row 3 1 ((chars (idF w t) (bytesL l)).map Chr.cid).length (els ci ((chars (idF w t) (bytesL l)).map Chr.cid))]⟩) (fun k => k ≤ l.length) (fun k => l.length - k) 0 (Nat.zero_le _) ?_ ?_
      · (repeat' first | (with_reducible exact trivial) | (with_reducible rfl) | (refine And.intro ?_ ?_) | (refine Need.mk ?_) | exact True.intro | (first | (refine ⟨_, Told.refl _, ?_, ?_⟩) | (refine ⟨⟨_, _⟩, Told.refl _, ?_, ?_⟩) | (refine ⟨⟨_, _, _⟩, Told.refl _, ?_, ?_⟩) | (refine ⟨⟨_, _, _, _⟩, Told.refl _, ?_, ?_⟩) | (refine ⟨⟨_, _, _, _, _⟩, Told.refl _, ?_, ?_⟩) | (refine ⟨(), Told.refl _, ?_, ?_⟩)) | (with_reducible intro _) | (refine fun (_ : Bool) => ?_))
        all_goals rfl
      · intro k hk
        rcases Nat.lt_or_ge k l.length with hlt | hge
        · have hd : decide ((k : Int) < (l.length : Int)) = true := decide_eq_true (by omega)
          have hw := iw (n := (k : Int) + 1) (by omega) (by omega)
          have hraw : IntKind.i64.wrap ((BitVec.ofInt IntKind.i64.bits (l.getD k default) &&& BitVec.ofInt IntKind.i64.bits 65535).toNat : Int) = lo16 (l.getD k default) := rfl
          have g : ((chars (idF w t) (bytesL l)).map Chr.cid).getD k default = lo16 (l.getD k default) := by
            have hk2 : k < (chars (idF w t) (bytesL l)).length := by omega
            rw [← (q2 k hlt).1]
            simp [List.getD, hk2]
          ((refine AW.byF ‹_› ?_); (repeat' first | (with_reducible exact trivial) | (with_reducible rfl) | (refine And.intro ?_ ?_) | (refine Need.mk ?_) | exact True.intro | (first | (refine ⟨_, Told.refl _, ?_, ?_⟩) | (refine ⟨⟨_, _⟩, Told.refl _, ?_, ?_⟩) | (refine ⟨⟨_, _, _⟩, Told.refl _, ?_, ?_⟩) | (refine ⟨⟨_, _, _, _⟩, Told.refl _, ?_, ?_⟩) | (refine ⟨⟨_, _, _, _, _⟩, Told.refl _, ?_, ?_⟩) | (refine ⟨(), Told.refl _, ?_, ?_⟩)) | (with_reducible intro _) | (refine fun (_ : Bool) => ?_)))
          all_goals first | (exact absurd ‹decide ((k : Int) < (l.length : Int)) = false› (by rw [hd]; decide)) | skip
          all_goals (try simp only [Int.toNat_natCast, hraw, g] at *)
          any_goals (refine Exists.intro (k + 1) (And.intro ?_ (And.intro ?_ ?_)); all_goals (repeat' first | (with_reducible exact trivial) | (with_reducible rfl) | (refine And.intro ?_ ?_) | (refine Need.mk ?_) | exact True.intro | (first | (refine ⟨_, Told.refl _, ?_, ?_⟩) | (refine ⟨⟨_, _⟩, Told.refl _, ?_, ?_⟩) | (refine ⟨⟨_, _, _⟩, Told.refl _, ?_, ?_⟩) | (refine ⟨⟨_, _, _, _⟩, Told.refl _, ?_, ?_⟩) | (refine ⟨⟨_, _, _, _, _⟩, Told.refl _, ?_, ?_⟩) | (refine ⟨(), Told.refl _, ?_, ?_⟩)) | (with_reducible intro _) | (refine fun (_ : Bool) => ?_)))
          all_goals first
            | omega
            | (rw [hw]; rfl)
            | (exfalso; simp at *; done)
           
        · obtain rfl : k = l.length := by omega
          have hd : decide ((l.length : Int) < (l.length : Int)) = false := decide_eq_false (by omega)
          ((refine AW.byF ‹_› ?_); (repeat' first | (with_reducible exact trivial) | (with_reducible rfl) | (refine And.intro ?_ ?_) | (refine Need.mk ?_) | exact True.intro | (first | (refine ⟨_, Told.refl _, ?_, ?_⟩) | (refine ⟨⟨_, _⟩, Told.refl _, ?_, ?_⟩) | (refine ⟨⟨_, _, _⟩, Told.refl _, ?_, ?_⟩) | (refine ⟨⟨_, _, _, _⟩, Told.refl _, ?_, ?_⟩) | (refine ⟨⟨_, _, _, _, _⟩, Told.refl _, ?_, ?_⟩) | (refine ⟨(), Told.refl _, ?_, ?_⟩)) | (with_reducible intro _) | (refine fun (_ : Bool) => ?_)))
          all_goals first | (exact absurd ‹decide ((l.length : Int) < (l.length : Int)) = true› (by rw [hd]; decide)) | skip
end Go.Abs.Cp
