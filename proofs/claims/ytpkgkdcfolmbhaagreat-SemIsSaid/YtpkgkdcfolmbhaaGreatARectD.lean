/- rect.Canon, whole. -/
import Derived.Test.YtpkgkdcfolmbhaaGreatARectC
import Derived.OwnWalk
import Derived.Maps.AppendAt
set_option linter.all false
set_option maxRecDepth 100000
namespace Go.Abs.Rc
open Go.RowKit Go.Proofs Go.Abs.Tab Go.Abs.Coll Go.Abs.Hx Go.Abs.Mt
attribute [local go_sem] Oper.semAt_some
def canR (l : List Rct) : List Rct := (cptR (sortR (l.filter okR))).filter fun x => !held (cptR (sortR (l.filter okR))) x
theorem rectCells {w : World} {S : Nat → Prop} {l : List Rct} {v : Value} (h : RV0 w S (aR l) v) : ∃ A c, v = .slice A l.length c ∧ l.length ≤ c ∧ ∀ i, i < l.length → ∃ ad, A = some ad ∧ S ad.block ∧ ∀ j x, (encR (l.getD i default))[j]? = some x → w.cell? (ad.add (i * 3 + j)) = some x := by
  generalize ha : aR l = a at h
  cases h with
  | sl sz n el A cap g hcap hmax hl hm hr =>
    unfold aR at ha
    injection ha with h1 h2 h3
    subst h1 h2 h3
    refine ⟨A, cap, rfl, hcap, fun i hi => ?_⟩
    obtain ⟨ad, e1, e2, _⟩ := hm i 0 hi (by omega)
    have hc : ∀ j, j < 3 → w.cell? (ad.add (i * 3 + j)) = some (g i j) := fun j hj => by
      obtain ⟨ad', q1, _, q3⟩ := hm i j hi hj
      rw [e1] at q1
      cases q1
      exact q3
    have r0 := hr i 0 _ hi rfl
    have r1 := hr i 1 _ hi rfl
    have r2 := hr i 2 _ hi rfl
    refine ⟨ad, e1, e2, fun j x hx => ?_⟩
    have hj : j < 3 := (List.getElem?_eq_some_iff.1 hx).1
    rw [hc j hj]
    have hj' : j = 0 ∨ j = 1 ∨ j = 2 := by omega
    clear hm hc hr
    rcases hj' with rfl | rfl | rfl
    all_goals obtain rfl := Option.some.inj hx
    · generalize g i 0 = y at r0; cases r0; rfl
    · generalize g i 1 = y at r1; cases r1; rfl
    · generalize g i 2 = y at r2; cases r2; rfl
  | _ => exact absurd ha (by unfold aR; intro h; cases h)
theorem saneC' (y : Rct) (w : World) : Calls Tryz.prog 58 #[.agg #[.int .i64 y.n, .int .i64 y.lo, .int .i64 y.hi]] w fun e w' => e = .returned (.bool (okR y)) ∧ Below w.heap.size w w' := by
  refine ((rectSane y trivial).2 w (fun _ => False) [.agg #[.int .i64 y.n, .int .i64 y.lo, .int .i64 y.hi]] (fun _ h => h.elim) ⟨rfl, fun i a v q1 q2 => ?_⟩).mono ?_
  · match i, q1, q2 with
    | 0, q1, q2 =>
      obtain rfl := Option.some.inj q1
      obtain rfl := Option.some.inj q2
      refine .agg (cR y) [.int .i64 y.n, .int .i64 y.lo, .int .i64 y.hi] rfl fun j a v p1 p2 => ?_
      have hj : j < 3 := (List.getElem?_eq_some_iff.1 p1).1
      have hc : j = 0 ∨ j = 1 ∨ j = 2 := by omega
      rcases hc with rfl | rfl | rfl
      all_goals
        obtain rfl := Option.some.inj p1
        obtain rfl := Option.some.inj p2
        exact .int _ _
  · rintro e w' ⟨v, S', rfl, hr, _, _, hb⟩
    cases hr
    exact ⟨rfl, hb⟩
theorem below_set {B : Nat} {a w : World} (h : Below B a w) {p : Addr} (hp : B ≤ p.block) (v : Value) : Below B a (w.setCell p v) := h.setCell hp v
theorem RO.below {w w' : World} {base : Nat} {v : Value} {l : List Rct} (h : RO w base v l) (hb : Below w.heap.size w w') : RO w' base v l :=
  h.kept (row := none) ⟨hb.os, hb.tape, hb.output, hb.size, fun k hk _ => hb.block k hk⟩ (by cases v.ownBlock <;> simp)
theorem newsB {w : World} {B : Nat} {ys : List Value} {t : TypeId} (hb : w.heap[B]? = some (.cells ys.toArray t (0, 0))) : ∀ j u, ys[j]? = some u → w.cell? ((⟨B, 0, none⟩ : Addr).add j) = some u := fun j u hu => by
  have h : w.cell? ⟨B, j, none⟩ = ys.toArray[j]? := blk_cell hb j
  have e : (⟨B, 0, none⟩ : Addr).add j = ⟨B, j, none⟩ := by
    unfold Addr.add
    split
    · rename_i h; subst h; rfl
    · simp
  rw [e, h]
  simpa using hu
section
variable {P : Program} {ops : Array Oper} {rest : List Oper} {o : Oper} {a : Act} {Q : Exit → Act → World → Prop}
theorem appCells {w0 W : World} (base : Nat) (hgd : o.guard = none) (s x : Operand) (t e : TypeId) (z : Value) (size bytes : Nat)
    (ho : o.op = .call { callee := .builtin .append, args := #[s, x], argTypes := #[t, t] })
    (ht : P.underlying t = some (.slice e)) (hinfo : (P.info? e).map (fun i => (i.zero, i.size, i.bytes)) = some (some z, size, bytes)) (hz : z.cells.size = size) (hs0 : 0 < size) (hb0 : 0 < bytes)
    (v : Value) (n : Nat) (xs ys : List Value) (hs : a.eval s = v) (hx : a.eval x = .slice (some ⟨W.heap.size, 0, none⟩) 1 1) (hys : ys.length = size) (h1 : ∀ u ∈ ys, u.oneCell' = true)
    (HO : W.ownsRow base e size v n xs) (HB : Below base w0 W) (hbase : base ≤ W.heap.size) (hl : (n + 1) * bytes ≤ 140737488355328)
    (h : ∀ v1 w1, w1.ownsRow base e size v1 (n + 1) (xs ++ ys) → Below base w0 w1 → W.grownBy w1 v.ownBlock → wpList P ops Q rest (a.put o.dst v1) w1) :
    wpList P ops Q (o :: rest) a (W.alloc (.cells ys.toArray e)) := by
  obtain ⟨i0, hi, hzz⟩ := Option.map_eq_some_iff.1 hinfo
  simp only [Prod.mk.injEq] at hzz
  obtain ⟨hz0, hz1, hz2⟩ := hzz
  have hlen : n + 1 ≤ 140737488355328 := Nat.le_trans (Nat.le_mul_of_pos_right _ hb0) hl
  have HOa : (W.alloc (.cells ys.toArray e)).ownsRow base e size v n xs := HO.kept (row := none) (World.grownBy_alloc W _ none) (by cases v.ownBlock <;> simp)
  refine wpList_append_own_at (W.alloc (.cells ys.toArray e)) hgd s x t ho base e i0 z size bytes ht hi hz0 hz1 hz2 hz hs0 v n xs hs HOa ⟨W.heap.size, 0, none⟩ 1 1 ys hx (by rw [hys]; simp)
    (newsB (heap_alloc_new W (.cells ys.toArray e))) h1 (by simp only [maxLen]; omega) hl (by simp; omega) ?_
  intro v1 w1 hown hg _ hat
  exact h v1 w1 hown ((HB.alloc hbase _).grown hg (by simp; omega) (fun k hk => (HO.lt k hk).1)) (World.grownBy.trans (World.grownBy_alloc W _ _) hg)
end
theorem own_ne {w : World} {base : Nat} {e t : TypeId} {size n g : Nat} {v : Value} {xs : List Value} {cs : Array Value} (h : w.ownsRow base e size v n xs) (hg : w.heap[g]? = some (.cells cs t (0, 0))) (hne : e ≠ t) : some g ≠ v.ownBlock := by
  rcases h.2 with ⟨rfl, _⟩ | ⟨g', cap, cur, rfl, _, hh, _⟩
  · simp [Value.ownBlock]
  · intro he
    have : g = g' := by simpa [Value.ownBlock] using he
    subst this
    rw [hg] at hh
    injection hh with hh
    injection hh with _ ht
    exact hne ht.symm
theorem RO.far {w : World} {base : Nat} {v : Value} {l : List Rct} {g : Nat} {cs : Array Value} (h : RO w base v l) (hg : w.heap[g]? = some (.cells cs 22 (0, 0))) (u : Value) : RO (w.setCell ⟨g, 0, none⟩ u) base v l := by
  have hne := own_ne h hg (by decide)
  exact h.kept (row := some g) ⟨rfl, rfl, rfl, by simp [World.setCell], fun k _ hk => Below.heap_setCell _ _ _ _ (fun e => hk (by simp [e]))⟩ (Or.inr (fun e => hne e.symm))
theorem RO.slice {w : World} {base : Nat} {v : Value} {l : List Rct} (h : RO w base v l) : ∃ A c, v = .slice A l.length c := by
  rcases R_row h with ⟨rfl, rfl⟩ | ⟨g, cap, rest, rfl, _⟩
  · exact ⟨none, 0, rfl⟩
  · exact ⟨_, cap, rfl⟩
theorem RowB.far {w : World} {g k : Nat} {l : List Rct} {rest : List Value} (h : RowB w g l rest) (hn : g ≠ k) (o : Value) : RowB (w.setCell ⟨k, 0, none⟩ o) g l rest := blk_far (p := ⟨k, 0, none⟩) h hn o
theorem below_KB {base g : Nat} {w a b : World} (h : Below base w a) (k : KB g a b) (hb : base ≤ g) (hs : base ≤ w.heap.size) : Below base w b :=
  ⟨k.os.trans h.os, k.tape.trans h.tape, k.output.trans h.output, Nat.le_trans h.size k.size, fun i hi => (k.block i (Nat.lt_of_lt_of_le hi (Nat.le_trans hs h.size)) (by omega)).trans (h.block i hi)⟩
theorem below_step {B : Nat} {a b c : World} (h : Below B a b) (k : Below b.heap.size b c) (hB : B ≤ a.heap.size := by first | exact Nat.le_refl _ | omega) : Below B a c := h.trans (k.mono (Nat.le_trans hB h.size))
theorem ok_good {r : Rct} (h : okR r = true) : goodR r = true := by
  have h1 := ok_len h
  have h2 := (of_decide_eq_true h).1
  unfold lo at h2
  rw [bytesC_len] at h2
  split at h2
  · rename_i h3
    have := (saneC_iff _ _).1 h3
    unfold goodR
    simp only [Bool.and_eq_true, decide_eq_true_eq]
    omega
  · omega
theorem filter_next {l : List Rct} {i : Nat} (h : i < l.length) : (l.take (i + 1)).filter okR = if okR l[i] = true then (l.take i).filter okR ++ [l[i]] else (l.take i).filter okR := by
  rw [filter_take_succ _ _ _ h]
  split <;> simp [*]
set_option maxHeartbeats 4000000 in
theorem delNil (g : Nat) (w : World) (hg : w.cell? ⟨g, 0, none⟩ = some (.slice none 0 0)) :
    Calls Tryz.prog 78 #[.slice none 0 0, .func (.func 80) #[] #[.pointer (some ⟨g, 0, none⟩)]] w fun e w' => e = .returned (.slice none 0 0) ∧ Below w.heap.size w w' := by
  have hlt := World.block_lt_of_cell? w _ hg
  have hidx : Calls Tryz.prog 117 #[.slice none 0 0, .func (.func 80) #[] #[.pointer (some ⟨g, 0, none⟩)]] w fun e w' => e = .returned (.int .i64 (-1)) ∧ Below w.heap.size w w' := by
    refine ((indexC ([], []) ⟨by show 0 < 4611686018427387904; omega, by show 0 < 4611686018427387904; omega⟩).2 w (fun k => k = g) [.slice none 0 0, .func (.func 80) #[] #[.pointer (some ⟨g, 0, none⟩)]] (fun b hb => by subst hb; exact hlt) ⟨rfl, fun i a v q1 q2 => ?_⟩).mono ?_
    · match i, q1, q2 with
      | 0, q1, q2 =>
        obtain rfl := Option.some.inj q1
        obtain rfl := Option.some.inj q2
        exact .sl 3 0 _ none 0 (fun _ _ => .bool false) (Nat.le_refl _) (Nat.zero_le _) (fun i hi => absurd hi (Nat.not_lt_zero _)) (fun i j hi => absurd hi (Nat.not_lt_zero _)) (fun i j a hi => absurd hi (Nat.not_lt_zero _))
      | 1, q1, q2 =>
        obtain rfl := Option.some.inj q1
        obtain rfl := Option.some.inj q2
        refine .fn _ [.rptr [aR []]] [.pointer (some ⟨g, 0, none⟩)] rfl fun j a v p1 p2 => ?_
        have hj : j < 1 := (List.getElem?_eq_some_iff.1 p1).1
        obtain rfl : j = 0 := by omega
        obtain rfl := Option.some.inj p1
        obtain rfl := Option.some.inj p2
        refine .rptr _ _ (fun _ => .slice none 0 0) rfl (fun j hj => ?_) (fun j a h1 => ?_)
        · obtain rfl : j = 0 := by simpa using hj
          exact ⟨rfl, hg⟩
        · have hj : j < 1 := (List.getElem?_eq_some_iff.1 h1).1
          obtain rfl : j = 0 := by omega
          obtain rfl := Option.some.inj h1
          exact .sl 3 0 _ none 0 (fun _ _ => .bool false) (Nat.le_refl _) (Nat.zero_le _) (fun i hi => absurd hi (Nat.not_lt_zero _)) (fun i j hi => absurd hi (Nat.not_lt_zero _)) (fun i j a hi => absurd hi (Nat.not_lt_zero _))
    · rintro e w' ⟨v, S', rfl, hr, _, _, hb⟩
      cases hr
      exact ⟨rfl, hb⟩
  have HI := Aside0.mk hidx
  clear hg hidx
  go_enter Tryz.func78, Tryz.ntmps78
  go_wp2_with (go_at_call 117; refine HI.out.mono ?_; rintro e w1 ⟨rfl, hb⟩; have HB := Aside0.mk hb; clear hb)
  go_ret
  exact ⟨rfl, HB.out⟩
set_option maxHeartbeats 8000000 in
theorem canonC (A0 : Option Addr) (c0 : Nat) (l0 : List Rct) (S : Nat → Prop) (w : World) (hS : ∀ b, S b → b < w.heap.size) (hv : RV0 w S (aR l0) (.slice A0 l0.length c0)) (hl : l0.length ≤ 1000000) :
    Calls Tryz.prog 39 #[.slice A0 l0.length c0] w fun e w' => ∃ v, e = .returned v ∧ RO w' w.heap.size v (canR l0) ∧ Below w.heap.size w w' := by
  have hu1 := Tryz.underlying22
  have hu2 := Tryz.underlying64
  have hmf : ∀ (fn : Go.Fn) (first cap : Array Value) (w : World), (Instr.makeFunc fn first cap).run Tryz.prog w = .ok (.func fn first cap) w := fun _ _ _ _ => rfl
  obtain ⟨A1, c1, e, hc, hcell⟩ := rectCells hv
  injection e with e1 e2 e3
  subst e1 e3
  have HL := Aside0.mk hl
  have HC := Aside0.mk hcell
  have HS := Aside0.mk hS
  clear hl hcell hc hS hv
  go_enter Tryz.func39, Tryz.ntmps39
  go_wp2
  go_loopg [8] (l0.length + 1) (fun kq v8 w' => ∃ (i : Nat) (v : Value), v8 = .int .i64 (i : Nat) ∧ Aside0 (i ≤ l0.length ∧ l0.length + 1 ≤ kq + i) ∧ Aside0 (w'.heap[w.heap.size]? = some (.cells #[v] 22 (0, 0))) ∧ Aside0 (RO w' w.heap.size v ((l0.take i).filter okR)) ∧ Aside0 (Below w.heap.size w w'))
  case atStart => exact ⟨0, .slice none 0 0, rfl, ⟨by omega⟩, ⟨heap_alloc_new _ _⟩, ⟨World.ownsRow_nil _ _ _ _⟩, ⟨below_alloc (Below.refl _ _) _⟩⟩
  case round =>
    obtain ⟨i, v, rfl, HI, BK, HO, HB⟩ := hrel
    cases gk with
    | zero => have := HI.out; omega
    | succ k1 =>
      by_cases hi : i < l0.length
      · obtain ⟨ad, ead, hsb, hcl⟩ := HC.out i hi
        subst ead
        have hw : ∀ p : Addr, p.block = ad.block → wr.cell? p = w.cell? p := fun p hp => World.cell?_of_block (by rw [hp]; exact HB.out.block _ (HS.out _ hsb))
        have hab : ∀ n, (ad.add n).block = ad.block := fun n => by unfold Addr.add; split <;> rfl
        have hao : (ad.add (i * 3)).off = ad.off + i * 3 := by unfold Addr.add; split <;> first | rfl | (rename_i h; omega)
        have hadd : ∀ j, 0 < j → (⟨(ad.add (i * 3)).block, (ad.add (i * 3)).off + j, none⟩ : Addr) = ad.add (i * 3 + j) := fun j hj => by
          rw [hab, hao]
          unfold Addr.add
          rw [if_neg (by omega), Nat.add_assoc]
        obtain ⟨y, hy⟩ : ∃ y, y = l0[i] := ⟨_, rfl⟩
        rw [getR hi, ← hy] at hcl
        have hx0 : wr.cell? (ad.add (i * 3)) = some (.int .i64 y.n) := (hw _ (hab _)).trans (hcl 0 _ rfl)
        have hx1 : wr.cell? ⟨(ad.add (i * 3)).block, (ad.add (i * 3)).off + 1, none⟩ = some (.int .i64 y.lo) := by rw [hadd 1 (by omega)]; exact (hw _ (hab _)).trans (hcl 1 _ rfl)
        have hx2 : wr.cell? ⟨(ad.add (i * 3)).block, (ad.add (i * 3)).off + 2, none⟩ = some (.int .i64 y.hi) := by rw [hadd 2 (by omega)]; exact (hw _ (hab _)).trans (hcl 2 _ rfl)
        have p0 : (0 ≤ (i : Int)) = True := eq_true (by omega)
        have p1 : ((i : Int) < (l0.length : Int)) = True := eq_true (by omega)
        have HLi := Aside0.mk hi
        have hnx := filter_next hi
        rw [← hy] at hnx
        have HNX := Aside0.mk hnx
        have hlf : ((l0.take i).filter okR).length ≤ i := by
          have := List.length_filter_le okR (l0.take i)
          rw [List.length_take] at this
          omega
        have HLF := Aside0.mk hlf
        clear hy hcl hw hadd hab hao hsb hnx hlf
        have HBN : Aside0 ((wr.alloc (.cells #[.int .i64 y.n, .int .i64 y.lo, .int .i64 y.hi] 64)).heap[wr.heap.size]? = some (.cells #[.int .i64 y.n, .int .i64 y.lo, .int .i64 y.hi] 64 (0, 0))) := ⟨heap_alloc_new _ _⟩
        have hsn := saneC' y
        cases ht : okR y with
        | true =>
          rw [ht] at hsn HNX
          have HSN := Aside0.mk hsn
          clear hsn
          go_wp2_with (first | (go_at_call 58; refine (HSN.out _).mono ?_; rintro e w1 ⟨rfl, hb⟩; have hbx := blk_below HBN.out hb; have b0 : w1.cell? ⟨wr.heap.size, 0, none⟩ = some (.int .i64 y.n) := (blk_cell hbx 0).trans rfl; have b1 : w1.cell? ⟨wr.heap.size, 1, none⟩ = some (.int .i64 y.lo) := (blk_cell hbx 1).trans rfl; have b2 : w1.cell? ⟨wr.heap.size, 2, none⟩ = some (.int .i64 y.hi) := (blk_cell hbx 2).trans rfl; have hgl := blk_below (blk_alloc BK.out _) hb; have g0 : w1.cell? ⟨w.heap.size, 0, none⟩ = some v := (blk_cell hgl 0).trans rfl; have BK1 := Aside0.mk hgl; have HO1 := Aside0.mk (RO.below (RO.below HO.out (below_alloc (Below.refl _ _) _)) hb); have HB1 := Aside0.mk (below_step (below_alloc HB.out _) hb); clear hb hbx hgl) | (at_builtin; refine appCells (w0 := w) w.heap.size rfl (.tmp 14) (.tmp 16) 22 64 (.agg #[(.int .i64 0), (.int .i64 0), (.int .i64 0)]) 3 24 rfl Tryz.underlying22 infoR rfl (by decide) (by decide) v ((l0.take i).filter okR).length (cellsR ((l0.take i).filter okR)) [.int .i64 y.n, .int .i64 y.lo, .int .i64 y.hi] rfl rfl rfl ?aP HO1.out HB1.out HB1.out.size ?aL ?_; (case aP => intro u hu; simp at hu; rcases hu with rfl | rfl | rfl <;> rfl); (case aL => have := HLF.out; have := HLi.out; have := HL.out; omega); intro v1 w9 ho hb hg; have ho' : RO w9 w.heap.size v1 ((l0.take i).filter okR ++ [y]) := (by unfold RO; rw [List.length_append, cellsR_app]; exact ho); obtain ⟨Aw, cw, ev1⟩ := RO.slice ho'; rw [List.length_append, List.length_singleton] at ev1; subst ev1; have hgl := (hg.block w.heap.size (blk_lt BK1.out) (own_ne HO1.out BK1.out (by decide))).trans BK1.out; have g0 : w9.cell? ⟨w.heap.size, 0, none⟩ = some v := (blk_cell hgl 0).trans rfl; have gf := blk_frozen hgl 0; have BK2 := Aside0.mk hgl; have HB2 := Aside0.mk hb; have HO2 := Aside0.mk ho'; clear hgl hb ho ho' hg))
          go_roundg k1
          case measure => have := HI.out; omega
          case rel => exact ⟨i + 1, _, (by first | rfl | (have := HL.out; have := HLi.out; congr 1; unfold wrap64; omega) | (have := HL.out; have := HLi.out; simp [wrap64]; omega)), ⟨by have := HI.out; have := HLi.out; omega⟩, ⟨blk_put BK2.out 0 _ rfl⟩, ⟨by rw [HNX.out, if_pos (by trivial)]; exact RO.far HO2.out BK2.out _⟩, ⟨below_set HB2.out (Nat.le_refl _) _⟩⟩
        | false =>
          rw [ht] at hsn HNX
          have HSN := Aside0.mk hsn
          clear hsn
          go_wp2_with (go_at_call 58; refine (HSN.out _).mono ?_; rintro e w1 ⟨rfl, hb⟩; have hbx := blk_below HBN.out hb; have b0 : w1.cell? ⟨wr.heap.size, 0, none⟩ = some (.int .i64 y.n) := (blk_cell hbx 0).trans rfl; have b1 : w1.cell? ⟨wr.heap.size, 1, none⟩ = some (.int .i64 y.lo) := (blk_cell hbx 1).trans rfl; have b2 : w1.cell? ⟨wr.heap.size, 2, none⟩ = some (.int .i64 y.hi) := (blk_cell hbx 2).trans rfl; have hgl := blk_below (blk_alloc BK.out _) hb; have g0 : w1.cell? ⟨w.heap.size, 0, none⟩ = some v := (blk_cell hgl 0).trans rfl; have BK1 := Aside0.mk hgl; have HO1 := Aside0.mk (RO.below (RO.below HO.out (below_alloc (Below.refl _ _) _)) hb); have HB1 := Aside0.mk (below_step (below_alloc HB.out _) hb); clear hb hbx hgl)
          go_roundg k1
          case measure => have := HI.out; omega
          case rel => exact ⟨i + 1, v, (by first | rfl | (have := HL.out; have := HLi.out; congr 1; unfold wrap64; omega) | (have := HL.out; have := HLi.out; simp [wrap64]; omega)), ⟨by have := HI.out; have := HLi.out; omega⟩, BK1, ⟨by rw [HNX.out, if_neg (by decide)]; exact HO1.out⟩, HB1⟩
      · obtain rfl : i = l0.length := by have := HI.out; omega
        have ho := HO.out
        rw [List.take_length] at ho
        clear HO
        have hgd : ∀ r ∈ l0.filter okR, goodR r = true := fun r hr => ok_good (List.mem_filter.1 hr).2
        have hfl : (l0.filter okR).length ≤ 1000000 := by
          have := List.length_filter_le okR l0
          have := HL.out
          omega
        have hcan : canR l0 = (cptR (sortR (l0.filter okR))).filter fun x => !held (cptR (sortR (l0.filter okR))) x := rfl
        generalize l0.filter okR = acc at *
        have HCAN := Aside0.mk hcan
        clear hcan
        rcases R_row ho with ⟨rfl, hn⟩ | ⟨g, cap, rest, rfl, hbg, hrow, hcap, hmax, hlen⟩
        · subst hn
          have hg0 : wr.cell? ⟨w.heap.size, 0, none⟩ = some (.slice none 0 0) := (blk_cell BK.out 0).trans rfl
          have hgf := blk_frozen BK.out 0
          have HR0 : Aside0 (canR l0 = []) := ⟨by
            rw [HCAN.out]
            have e : cptR (sortR []) = [] := by unfold sortR; rw [List.mergeSort_nil]; rfl
            rw [e]
            rfl⟩
          clear HCAN
          have HB3 : Aside0 (Below w.heap.size w wr) := HB
          have hS : ∀ W, Calls Tryz.prog 75 #[.slice none 0 0, .func (.func 76) #[] #[]] W fun e w' => e = .returned (.tuple #[]) ∧ w' = W := fun W => Go.Proofs.AnyF.slices_SortFunc_none Tryz.sortR none 0 _ W
          have hP : ∀ W, Calls Tryz.prog 77 #[.slice none 0 0] W fun e w' => e = .returned (.slice none 0 0) ∧ Below W.heap.size W w' := fun W => cpt0 none 0 0 (by decide) W
          have hQ : ∀ W, Calls Tryz.prog 79 #[.slice none 0 0] W fun e w' => e = .returned (.slice none 0 0) ∧ w' = W := fun W => Go.Proofs.AnyE.slices_Clone_nil Tryz.cloneR 0 0 W
          have hD : ∀ W, W.cell? ⟨w.heap.size, 0, none⟩ = some (.slice none 0 0) → Calls Tryz.prog 78 #[.slice none 0 0, .func (.func 80) #[] #[.pointer (some ⟨w.heap.size, 0, none⟩)]] W fun e w' => e = .returned (.slice none 0 0) ∧ Below W.heap.size W w' := fun W hW => delNil w.heap.size W hW
          have HSS := Aside0.mk hS
          have HP := Aside0.mk hP
          have HQ := Aside0.mk hQ
          have HD := Aside0.mk hD
          clear hS hP hQ hD ho hgd hfl
          go_wp2_with (first | (go_at_call 75; refine (HSS.out _).mono ?_; rintro e w1 ⟨rfl, rfl⟩) | (go_at_call 77; refine (HP.out _).mono ?_; rintro e w2 ⟨rfl, hb2⟩; have hbk := blk_below BK.out hb2; have hz0 : w2.cell? ⟨w.heap.size, 0, none⟩ = some (.slice none 0 0) := (blk_cell hbk 0).trans rfl; have hzf := blk_frozen hbk 0; have BK2 := Aside0.mk hbk; have HB2 := Aside0.mk (below_step HB3.out hb2); clear hbk hb2) | (go_at_call 79; refine (HQ.out _).mono ?_; rintro e w3 ⟨rfl, rfl⟩) | (go_at_call 78; refine (HD.out _ ((blk_cell (blk_put BK2.out 0 (.slice none 0 0) rfl) 0).trans rfl)).mono ?_; rintro e w4 ⟨rfl, hb4⟩; have HB4 := Aside0.mk (below_step (below_set HB2.out (Nat.le_refl _) (p := ⟨w.heap.size, 0, none⟩) (.slice none 0 0)) hb4); clear hb4))
          go_ret
          refine ⟨_, rfl, ?_, HB4.out⟩
          rw [HR0.out]
          exact World.ownsRow_nil _ _ _ _
        · have hsl : (sortR acc).length = acc.length := List.length_mergeSort acc
          have hcl : (cptR (sortR acc)).length ≤ acc.length := Nat.le_trans (cuR_len (sortR acc) (sortR acc).length) (Nat.le_of_eq hsl)
          have hcp : 2 ≤ 2 := Nat.le_refl _
          have hrl := cellsR_len acc
          obtain ⟨s, hs⟩ : ∃ s, cptR (sortR acc) = s := ⟨_, rfl⟩
          have hcan := HCAN.out
          rw [hs] at hcl hcan
          have hS := sortC g cap acc rest wr hrow hgd (by omega)
          have hP := fun W (hW : RowB W g (sortR acc) rest) => cptA g cap (sortR acc) rest W hW (by omega) (by omega)
          rw [hs, hsl] at hP
          have hgn : g ≠ w.heap.size := fun e => by
            have h1 := BK.out
            rw [← e, show wr.heap[g]? = _ from hrow] at h1
            injection h1 with h1
            injection h1 with _ h1
            exact absurd h1 (by decide)
          have HSS := Aside0.mk hS
          have HP := Aside0.mk hP
          have HNE := Aside0.mk hgn
          have HBG := Aside0.mk hbg
          have HLEN := Aside0.mk (show s.length ≤ cap ∧ s.length ≤ 1000000 ∧ cap ≤ maxLen by omega)
          have HCN := Aside0.mk hcan
          have hg0 : ∀ W, KB g wr W → W.cell? ⟨w.heap.size, 0, none⟩ = some (.slice (some ⟨g, 0, none⟩) acc.length cap) := fun W hW => (blk_cell (hW.blk BK.out (fun e => HNE.out e.symm)) 0).trans rfl
          have hg1 := hg0 wr (KB.refl g wr)
          have HG0 := Aside0.mk hg0
          have HB3 : Aside0 (Below w.heap.size w wr) := HB
          clear hS hP hgd hsl hcl hs hrow hgn hbg hg0 hcap hmax hlen HCAN hfl hcan ho hcp hrl
          go_wp2_with (first | (go_at_call 75; refine (HSS.out).mono ?_; rintro e w1 ⟨rfl, hrow1, hkb1⟩; have hg1 := HG0.out _ hkb1; have HRW1 := Aside0.mk hrow1; have HKB1 := Aside0.mk hkb1; clear hrow1 hkb1) | (go_at_call 77; refine (HP.out _ HRW1.out).mono ?_; rintro e w2 ⟨rfl, ⟨rest2, hrow2, hlen2⟩, hkb2⟩; have hbk := (HKB1.out.trans hkb2).blk BK.out (fun e => HNE.out e.symm); have hz0 : w2.cell? ⟨w.heap.size, 0, none⟩ = some (.slice (some ⟨g, 0, none⟩) acc.length cap) := (blk_cell hbk 0).trans rfl; have hzf := blk_frozen hbk 0; have BK2 := Aside0.mk hbk; have HRW2 := Aside0.mk hrow2; have HB2 := Aside0.mk (below_KB HB3.out (HKB1.out.trans hkb2) HBG.out (Nat.le_refl _)); clear hbk hrow2 hlen2 hkb2) | (go_at_call 79; refine (cloneA g cap s rest2 _ (RowB.far HRW2.out HNE.out _) (by have := HLEN.out; omega)).mono ?_; rintro e w4 ⟨gd, capd, rest4, rfl, hgd, hrow4, hl4, hm4, hn4, hb4⟩; have HRW4 := Aside0.mk hrow4; have HL4 := Aside0.mk (And.intro hl4 (And.intro hm4 hn4)); have HGD : Aside0 (w.heap.size ≤ gd ∧ g ≠ gd ∧ w.heap.size ≠ gd) := ⟨by have h1 := blk_lt (RowB.far HRW2.out HNE.out (.slice (some ⟨g, 0, none⟩) s.length cap)); have h2 := blk_lt (blk_put BK2.out 0 (.slice (some ⟨g, 0, none⟩) s.length cap) rfl); omega⟩; have BK4 := Aside0.mk (blk_below (blk_put BK2.out 0 (.slice (some ⟨g, 0, none⟩) s.length cap) rfl) hb4); have HRA4 := Aside0.mk (Below.row hb4 (RowB.far HRW2.out HNE.out (.slice (some ⟨g, 0, none⟩) s.length cap))); have HB4 := Aside0.mk (below_step (below_set HB2.out (Nat.le_refl _) (p := ⟨w.heap.size, 0, none⟩) (.slice (some ⟨g, 0, none⟩) s.length cap)) hb4); clear hgd hrow4 hl4 hm4 hn4 hb4) | (go_at_call 78; refine (delA g cap s rest2 w.heap.size gd capd s rest4 (held s) w4 HRA4.out HLEN.out.1 ⟨by have := HLEN.out; omega, HLEN.out.2.2⟩ ((blk_cell BK4.out 0).trans rfl) HRW4.out ⟨HL4.out.1, HL4.out.2.1⟩ (by have := HLEN.out; omega) HGD.out.2.1 HGD.out.2.2 (fun _ => rfl)).mono ?_; rintro e w5 ⟨rfl, ⟨rest5, hrow5, hlen5⟩, hkb5⟩; have HRW5 := Aside0.mk hrow5; have HLEN5 := Aside0.mk hlen5; have HB5 := Aside0.mk (below_KB HB4.out hkb5 HGD.out.1 (Nat.le_refl _)); clear hrow5 hlen5 hkb5))
          go_ret
          refine ⟨_, rfl, ?_, HB5.out⟩
          rw [HCN.out]
          refine row_R HRW5.out HGD.out.1 (Nat.le_trans (List.length_filter_le _ _) HL4.out.1) HL4.out.2.1 ?_
          have e1 := HL4.out.2.2
          have e2 := HLEN5.out
          rw [cellsR_len] at e1 ⊢
          omega
def SCanR : Sp := ⟨List Rct, fun l => l.length ≤ 1000000, fun l => [aR l], fun l => .row 64 3 (canR l).length (els cR (canR l))⟩
theorem rectCanon : SpOK Tryz.prog 39 SCanR := fun (l : List Rct) hl => by
  refine ⟨⟨_, Tryz.func39, rfl, rfl⟩, fun w S vs hS hv => ?_⟩
  obtain ⟨hl1, hv2⟩ := hv
  match vs, hl1, hv2 with
  | [v], hl1, hv2 =>
    have h0 := hv2 0 _ _ rfl rfl
    obtain ⟨A, c, rfl, _, _⟩ := rectCells h0
    refine (canonC A c l S w hS h0 hl).mono ?_
    rintro e w' ⟨v, rfl, ho, hb⟩
    refine ⟨v, S, rfl, ⟨⟨_, ho, fun i hi => ⟨rfl, rfl, fun j a hj => ?_⟩⟩, fun b hb2 hSb => ?_⟩, fun _ q => q, fun b q => ⟨Nat.lt_of_lt_of_le (hS b q) hb.size, .inl q⟩, hb⟩
    · obtain ⟨h1, h2, h3⟩ := cellsR_get (canR l) i hi
      have e : els cR (canR l) i = cR (canR l)[i] := by unfold els; rw [getR hi]
      rw [e] at hj
      have hj3 : j < 3 := (List.getElem?_eq_some_iff.1 hj).1
      have hc : j = 0 ∨ j = 1 ∨ j = 2 := by omega
      rcases hc with rfl | rfl | rfl
      · obtain rfl := Option.some.inj hj
        exact ⟨_, h1, .int _ _⟩
      · obtain rfl := Option.some.inj hj
        exact ⟨_, h2, .int _ _⟩
      · obtain rfl := Option.some.inj hj
        exact ⟨_, h3, .int _ _⟩
    · have := (ho.lt b hb2).1
      have := hS b hSb
      omega
end Go.Abs.Rc
