/- Several texts of this claim, merged (ACompIsMa). -/
import Derived.Test.YtbinbndegfednaaGreatARectC
import Derived.OwnWalk
import Derived.Maps.AppendAt
import Derived.Test.YtbinbndegfednaaGreatAMatch
import Derived.Test.YtbinbndegfednaaGreatANum
import Derived.Test.YtbinbndegfednaaGreatACounts
import Derived.Test.YtbinbndegfednaaGreatATxt
import Derived.Test.YtbinbndegfednaaGreatAHx
import Derived.Test.YtbinbndegfednaaGreatADestR
import Derived.Test.YtbinbndegfednaaGreatASpanB
import Derived.Test.YtbinbndegfednaaGreatADestOrder
import Derived.Test.YtbinbndegfednaaGreatACollBack
set_option linter.all false
set_option maxRecDepth 100000
namespace Go.Abs.Rc
open Go.RowKit Go.Proofs Go.Abs.Tab Go.Abs.Coll Go.Abs.Hx Go.Abs.Mt
attribute [local go_sem] Oper.semAt_some
def canR (l : List Rct) : List Rct := (cptR (sortR (l.filter okR))).filter fun x => !held (cptR (sortR (l.filter okR))) x
theorem rectCells {w : World} {S : Nat → Prop} {l : List Rct} {v : Value} (h : RV0 w S (aR l) v) : ∃ A c, v = .slice A l.length c ∧ l.length ≤ c ∧ ∀ i, i < l.length → ∃ ad, A = some ad ∧ S ad.block ∧ ∀ j x, (encR (l.getD i default))[j]? = some x → w.cell? (ad.add (i * 3 + j)) = some x := by
  generalize ha : aR l = a at h
  cases h with
  | sl sz n el A cap g hcap hmax hl hm hr =>
    unfold aR at ha
    injection ha with h1 h2 h3
    subst h1 h2 h3
    refine ⟨A, cap, rfl, hcap, fun i hi => ?_⟩
    obtain ⟨ad, e1, e2, _⟩ := hm i 0 hi (by omega)
    have hc : ∀ j, j < 3 → w.cell? (ad.add (i * 3 + j)) = some (g i j) := fun j hj => by
      obtain ⟨ad', q1, _, q3⟩ := hm i j hi hj
      rw [e1] at q1
      cases q1
      exact q3
    have r0 := hr i 0 _ hi rfl
    have r1 := hr i 1 _ hi rfl
    have r2 := hr i 2 _ hi rfl
    refine ⟨ad, e1, e2, fun j x hx => ?_⟩
    have hj : j < 3 := (List.getElem?_eq_some_iff.1 hx).1
    rw [hc j hj]
    have hj' : j = 0 ∨ j = 1 ∨ j = 2 := by omega
    clear hm hc hr
    rcases hj' with rfl | rfl | rfl
    all_goals obtain rfl := Option.some.inj hx
    · generalize g i 0 = y at r0; cases r0; rfl
    · generalize g i 1 = y at r1; cases r1; rfl
    · generalize g i 2 = y at r2; cases r2; rfl
  | _ => exact absurd ha (by unfold aR; intro h; cases h)
theorem saneC' (y : Rct) (w : World) : Calls Tryz.prog 76 #[.agg #[.int .i64 y.n, .int .i64 y.lo, .int .i64 y.hi]] w fun e w' => e = .returned (.bool (okR y)) ∧ Below w.heap.size w w' := by
  refine ((rectSane y trivial).2 w (fun _ => False) [.agg #[.int .i64 y.n, .int .i64 y.lo, .int .i64 y.hi]] (fun _ h => h.elim) ⟨rfl, fun i a v q1 q2 => ?_⟩).mono ?_
  · match i, q1, q2 with
    | 0, q1, q2 =>
      obtain rfl := Option.some.inj q1
      obtain rfl := Option.some.inj q2
      refine .agg (cR y) [.int .i64 y.n, .int .i64 y.lo, .int .i64 y.hi] rfl fun j a v p1 p2 => ?_
      have hj : j < 3 := (List.getElem?_eq_some_iff.1 p1).1
      have hc : j = 0 ∨ j = 1 ∨ j = 2 := by omega
      rcases hc with rfl | rfl | rfl
      all_goals
        obtain rfl := Option.some.inj p1
        obtain rfl := Option.some.inj p2
        exact .int _ _
  · rintro e w' ⟨v, S', rfl, hr, _, _, hb⟩
    cases hr
    exact ⟨rfl, hb⟩
theorem below_set {B : Nat} {a w : World} (h : Below B a w) {p : Addr} (hp : B ≤ p.block) (v : Value) : Below B a (w.setCell p v) := h.setCell hp v
theorem RO.below {w w' : World} {base : Nat} {v : Value} {l : List Rct} (h : RO w base v l) (hb : Below w.heap.size w w') : RO w' base v l :=
  h.kept (row := none) ⟨hb.os, hb.tape, hb.output, hb.size, fun k hk _ => hb.block k hk⟩ (by cases v.ownBlock <;> simp)
theorem newsB {w : World} {B : Nat} {ys : List Value} {t : TypeId} (hb : w.heap[B]? = some (.cells ys.toArray t (0, 0))) : ∀ j u, ys[j]? = some u → w.cell? ((⟨B, 0, none⟩ : Addr).add j) = some u := fun j u hu => by
  have h : w.cell? ⟨B, j, none⟩ = ys.toArray[j]? := blk_cell hb j
  have e : (⟨B, 0, none⟩ : Addr).add j = ⟨B, j, none⟩ := by
    unfold Addr.add
    split
    · rename_i h; subst h; rfl
    · simp
  rw [e, h]
  simpa using hu
section
variable {P : Program} {ops : Array Oper} {rest : List Oper} {o : Oper} {a : Act} {Q : Exit → Act → World → Prop}
theorem appCells {w0 W : World} (base : Nat) (hgd : o.guard = none) (s x : Operand) (t e : TypeId) (z : Value) (size bytes : Nat)
    (ho : o.op = .call { callee := .builtin .append, args := #[s, x], argTypes := #[t, t] })
    (ht : P.underlying t = some (.slice e)) (hinfo : (P.info? e).map (fun i => (i.zero, i.size, i.bytes)) = some (some z, size, bytes)) (hz : z.cells.size = size) (hs0 : 0 < size) (hb0 : 0 < bytes)
    (v : Value) (n : Nat) (xs ys : List Value) (hs : a.eval s = v) (hx : a.eval x = .slice (some ⟨W.heap.size, 0, none⟩) 1 1) (hys : ys.length = size) (h1 : ∀ u ∈ ys, u.oneCell' = true)
    (HO : W.ownsRow base e size v n xs) (HB : Below base w0 W) (hbase : base ≤ W.heap.size) (hl : (n + 1) * bytes ≤ 140737488355328)
    (h : ∀ v1 w1, w1.ownsRow base e size v1 (n + 1) (xs ++ ys) → Below base w0 w1 → W.grownBy w1 v.ownBlock → wpList P ops Q rest (a.put o.dst v1) w1) :
    wpList P ops Q (o :: rest) a (W.alloc (.cells ys.toArray e)) := by
  obtain ⟨i0, hi, hzz⟩ := Option.map_eq_some_iff.1 hinfo
  simp only [Prod.mk.injEq] at hzz
  obtain ⟨hz0, hz1, hz2⟩ := hzz
  have hlen : n + 1 ≤ 140737488355328 := Nat.le_trans (Nat.le_mul_of_pos_right _ hb0) hl
  have HOa : (W.alloc (.cells ys.toArray e)).ownsRow base e size v n xs := HO.kept (row := none) (World.grownBy_alloc W _ none) (by cases v.ownBlock <;> simp)
  refine wpList_append_own_at (W.alloc (.cells ys.toArray e)) hgd s x t ho base e i0 z size bytes ht hi hz0 hz1 hz2 hz hs0 v n xs hs HOa ⟨W.heap.size, 0, none⟩ 1 1 ys hx (by rw [hys]; simp)
    (newsB (heap_alloc_new W (.cells ys.toArray e))) h1 (by simp only [maxLen]; omega) hl (by simp; omega) ?_
  intro v1 w1 hown hg _ hat
  exact h v1 w1 hown ((HB.alloc hbase _).grown hg (by simp; omega) (fun k hk => (HO.lt k hk).1)) (World.grownBy.trans (World.grownBy_alloc W _ _) hg)
end
theorem own_ne {w : World} {base : Nat} {e t : TypeId} {size n g : Nat} {v : Value} {xs : List Value} {cs : Array Value} (h : w.ownsRow base e size v n xs) (hg : w.heap[g]? = some (.cells cs t (0, 0))) (hne : e ≠ t) : some g ≠ v.ownBlock := by
  rcases h.2 with ⟨rfl, _⟩ | ⟨g', cap, cur, rfl, _, hh, _⟩
  · simp [Value.ownBlock]
  · intro he
    have : g = g' := by simpa [Value.ownBlock] using he
    subst this
    rw [hg] at hh
    injection hh with hh
    injection hh with _ ht
    exact hne ht.symm
theorem RO.far {w : World} {base : Nat} {v : Value} {l : List Rct} {g : Nat} {cs : Array Value} (h : RO w base v l) (hg : w.heap[g]? = some (.cells cs 22 (0, 0))) (u : Value) : RO (w.setCell ⟨g, 0, none⟩ u) base v l := by
  have hne := own_ne h hg (by decide)
  exact h.kept (row := some g) ⟨rfl, rfl, rfl, by simp [World.setCell], fun k _ hk => Below.heap_setCell _ _ _ _ (fun e => hk (by simp [e]))⟩ (Or.inr (fun e => hne e.symm))
theorem RO.slice {w : World} {base : Nat} {v : Value} {l : List Rct} (h : RO w base v l) : ∃ A c, v = .slice A l.length c := by
  rcases R_row h with ⟨rfl, rfl⟩ | ⟨g, cap, rest, rfl, _⟩
  · exact ⟨none, 0, rfl⟩
  · exact ⟨_, cap, rfl⟩
theorem RowB.far {w : World} {g k : Nat} {l : List Rct} {rest : List Value} (h : RowB w g l rest) (hn : g ≠ k) (o : Value) : RowB (w.setCell ⟨k, 0, none⟩ o) g l rest := blk_far (p := ⟨k, 0, none⟩) h hn o
theorem below_KB {base g : Nat} {w a b : World} (h : Below base w a) (k : KB g a b) (hb : base ≤ g) (hs : base ≤ w.heap.size) : Below base w b :=
  ⟨k.os.trans h.os, k.tape.trans h.tape, k.output.trans h.output, Nat.le_trans h.size k.size, fun i hi => (k.block i (Nat.lt_of_lt_of_le hi (Nat.le_trans hs h.size)) (by omega)).trans (h.block i hi)⟩
theorem below_step {B : Nat} {a b c : World} (h : Below B a b) (k : Below b.heap.size b c) (hB : B ≤ a.heap.size := by first | exact Nat.le_refl _ | omega) : Below B a c := h.trans (k.mono (Nat.le_trans hB h.size))
theorem ok_good {r : Rct} (h : okR r = true) : goodR r = true := by
  have h1 := ok_len h
  have h2 := (of_decide_eq_true h).1
  unfold lo at h2
  rw [bytesC_len] at h2
  split at h2
  · rename_i h3
    have := (saneC_iff _ _).1 h3
    unfold goodR
    simp only [Bool.and_eq_true, decide_eq_true_eq]
    omega
  · omega
theorem filter_next {l : List Rct} {i : Nat} (h : i < l.length) : (l.take (i + 1)).filter okR = if okR l[i] = true then (l.take i).filter okR ++ [l[i]] else (l.take i).filter okR := by
  rw [filter_take_succ _ _ _ h]
  split <;> simp [*]
set_option maxHeartbeats 4000000 in
theorem delNil (g : Nat) (w : World) (hg : w.cell? ⟨g, 0, none⟩ = some (.slice none 0 0)) :
    Calls Tryz.prog 80 #[.slice none 0 0, .func (.func 82) #[] #[.pointer (some ⟨g, 0, none⟩)]] w fun e w' => e = .returned (.slice none 0 0) ∧ Below w.heap.size w w' := by
  have hlt := World.block_lt_of_cell? w _ hg
  have hidx : Calls Tryz.prog 122 #[.slice none 0 0, .func (.func 82) #[] #[.pointer (some ⟨g, 0, none⟩)]] w fun e w' => e = .returned (.int .i64 (-1)) ∧ Below w.heap.size w w' := by
    refine ((indexC ([], []) ⟨by show 0 < 4611686018427387904; omega, by show 0 < 4611686018427387904; omega⟩).2 w (fun k => k = g) [.slice none 0 0, .func (.func 82) #[] #[.pointer (some ⟨g, 0, none⟩)]] (fun b hb => by subst hb; exact hlt) ⟨rfl, fun i a v q1 q2 => ?_⟩).mono ?_
    · match i, q1, q2 with
      | 0, q1, q2 =>
        obtain rfl := Option.some.inj q1
        obtain rfl := Option.some.inj q2
        exact .sl 3 0 _ none 0 (fun _ _ => .bool false) (Nat.le_refl _) (Nat.zero_le _) (fun i hi => absurd hi (Nat.not_lt_zero _)) (fun i j hi => absurd hi (Nat.not_lt_zero _)) (fun i j a hi => absurd hi (Nat.not_lt_zero _))
      | 1, q1, q2 =>
        obtain rfl := Option.some.inj q1
        obtain rfl := Option.some.inj q2
        refine .fn _ [.rptr [aR []]] [.pointer (some ⟨g, 0, none⟩)] rfl fun j a v p1 p2 => ?_
        have hj : j < 1 := (List.getElem?_eq_some_iff.1 p1).1
        obtain rfl : j = 0 := by omega
        obtain rfl := Option.some.inj p1
        obtain rfl := Option.some.inj p2
        refine .rptr _ _ (fun _ => .slice none 0 0) rfl (fun j hj => ?_) (fun j a h1 => ?_)
        · obtain rfl : j = 0 := by simpa using hj
          exact ⟨rfl, hg⟩
        · have hj : j < 1 := (List.getElem?_eq_some_iff.1 h1).1
          obtain rfl : j = 0 := by omega
          obtain rfl := Option.some.inj h1
          exact .sl 3 0 _ none 0 (fun _ _ => .bool false) (Nat.le_refl _) (Nat.zero_le _) (fun i hi => absurd hi (Nat.not_lt_zero _)) (fun i j hi => absurd hi (Nat.not_lt_zero _)) (fun i j a hi => absurd hi (Nat.not_lt_zero _))
    · rintro e w' ⟨v, S', rfl, hr, _, _, hb⟩
      cases hr
      exact ⟨rfl, hb⟩
  have HI := Aside0.mk hidx
  clear hg hidx
  go_enter Tryz.func80, Tryz.ntmps80
  go_wp2_with (go_at_call 122; refine HI.out.mono ?_; rintro e w1 ⟨rfl, hb⟩; have HB := Aside0.mk hb; clear hb)
  go_ret
  exact ⟨rfl, HB.out⟩
set_option maxHeartbeats 8000000 in
theorem canonC (A0 : Option Addr) (c0 : Nat) (l0 : List Rct) (S : Nat → Prop) (w : World) (hS : ∀ b, S b → b < w.heap.size) (hv : RV0 w S (aR l0) (.slice A0 l0.length c0)) (hl : l0.length ≤ 1000000) :
    Calls Tryz.prog 51 #[.slice A0 l0.length c0] w fun e w' => ∃ v, e = .returned v ∧ RO w' w.heap.size v (canR l0) ∧ Below w.heap.size w w' := by
  have hu1 := Tryz.underlying22
  have hu2 := Tryz.underlying113
  have hmf : ∀ (fn : Go.Fn) (first cap : Array Value) (w : World), (Instr.makeFunc fn first cap).run Tryz.prog w = .ok (.func fn first cap) w := fun _ _ _ _ => rfl
  obtain ⟨A1, c1, e, hc, hcell⟩ := rectCells hv
  injection e with e1 e2 e3
  subst e1 e3
  have HL := Aside0.mk hl
  have HC := Aside0.mk hcell
  have HS := Aside0.mk hS
  clear hl hcell hc hS hv
  go_enter Tryz.func51, Tryz.ntmps51
  go_wp2
  go_loopg [8] (l0.length + 1) (fun kq v8 w' => ∃ (i : Nat) (v : Value), v8 = .int .i64 (i : Nat) ∧ Aside0 (i ≤ l0.length ∧ l0.length + 1 ≤ kq + i) ∧ Aside0 (w'.heap[w.heap.size]? = some (.cells #[v] 22 (0, 0))) ∧ Aside0 (RO w' w.heap.size v ((l0.take i).filter okR)) ∧ Aside0 (Below w.heap.size w w'))
  case atStart => exact ⟨0, .slice none 0 0, rfl, ⟨by omega⟩, ⟨heap_alloc_new _ _⟩, ⟨World.ownsRow_nil _ _ _ _⟩, ⟨below_alloc (Below.refl _ _) _⟩⟩
  case round =>
    obtain ⟨i, v, rfl, HI, BK, HO, HB⟩ := hrel
    cases gk with
    | zero => have := HI.out; omega
    | succ k1 =>
      by_cases hi : i < l0.length
      · obtain ⟨ad, ead, hsb, hcl⟩ := HC.out i hi
        subst ead
        have hw : ∀ p : Addr, p.block = ad.block → wr.cell? p = w.cell? p := fun p hp => World.cell?_of_block (by rw [hp]; exact HB.out.block _ (HS.out _ hsb))
        have hab : ∀ n, (ad.add n).block = ad.block := fun n => by unfold Addr.add; split <;> rfl
        have hao : (ad.add (i * 3)).off = ad.off + i * 3 := by unfold Addr.add; split <;> first | rfl | (rename_i h; omega)
        have hadd : ∀ j, 0 < j → (⟨(ad.add (i * 3)).block, (ad.add (i * 3)).off + j, none⟩ : Addr) = ad.add (i * 3 + j) := fun j hj => by
          rw [hab, hao]
          unfold Addr.add
          rw [if_neg (by omega), Nat.add_assoc]
        obtain ⟨y, hy⟩ : ∃ y, y = l0[i] := ⟨_, rfl⟩
        rw [getR hi, ← hy] at hcl
        have hx0 : wr.cell? (ad.add (i * 3)) = some (.int .i64 y.n) := (hw _ (hab _)).trans (hcl 0 _ rfl)
        have hx1 : wr.cell? ⟨(ad.add (i * 3)).block, (ad.add (i * 3)).off + 1, none⟩ = some (.int .i64 y.lo) := by rw [hadd 1 (by omega)]; exact (hw _ (hab _)).trans (hcl 1 _ rfl)
        have hx2 : wr.cell? ⟨(ad.add (i * 3)).block, (ad.add (i * 3)).off + 2, none⟩ = some (.int .i64 y.hi) := by rw [hadd 2 (by omega)]; exact (hw _ (hab _)).trans (hcl 2 _ rfl)
        have p0 : (0 ≤ (i : Int)) = True := eq_true (by omega)
        have p1 : ((i : Int) < (l0.length : Int)) = True := eq_true (by omega)
        have HLi := Aside0.mk hi
        have hnx := filter_next hi
        rw [← hy] at hnx
        have HNX := Aside0.mk hnx
        have hlf : ((l0.take i).filter okR).length ≤ i := by
          have := List.length_filter_le okR (l0.take i)
          rw [List.length_take] at this
          omega
        have HLF := Aside0.mk hlf
        clear hy hcl hw hadd hab hao hsb hnx hlf
        have HBN : Aside0 ((wr.alloc (.cells #[.int .i64 y.n, .int .i64 y.lo, .int .i64 y.hi] 113)).heap[wr.heap.size]? = some (.cells #[.int .i64 y.n, .int .i64 y.lo, .int .i64 y.hi] 113 (0, 0))) := ⟨heap_alloc_new _ _⟩
        have hsn := saneC' y
        cases ht : okR y with
        | true =>
          rw [ht] at hsn HNX
          have HSN := Aside0.mk hsn
          clear hsn
          go_wp2_with (first | (go_at_call 76; refine (HSN.out _).mono ?_; rintro e w1 ⟨rfl, hb⟩; have hbx := blk_below HBN.out hb; have b0 : w1.cell? ⟨wr.heap.size, 0, none⟩ = some (.int .i64 y.n) := (blk_cell hbx 0).trans rfl; have b1 : w1.cell? ⟨wr.heap.size, 1, none⟩ = some (.int .i64 y.lo) := (blk_cell hbx 1).trans rfl; have b2 : w1.cell? ⟨wr.heap.size, 2, none⟩ = some (.int .i64 y.hi) := (blk_cell hbx 2).trans rfl; have hgl := blk_below (blk_alloc BK.out _) hb; have g0 : w1.cell? ⟨w.heap.size, 0, none⟩ = some v := (blk_cell hgl 0).trans rfl; have BK1 := Aside0.mk hgl; have HO1 := Aside0.mk (RO.below (RO.below HO.out (below_alloc (Below.refl _ _) _)) hb); have HB1 := Aside0.mk (below_step (below_alloc HB.out _) hb); clear hb hbx hgl) | (at_builtin; refine appCells (w0 := w) w.heap.size rfl (.tmp 14) (.tmp 16) 22 113 (.agg #[(.int .i64 0), (.int .i64 0), (.int .i64 0)]) 3 24 rfl Tryz.underlying22 infoR rfl (by decide) (by decide) v ((l0.take i).filter okR).length (cellsR ((l0.take i).filter okR)) [.int .i64 y.n, .int .i64 y.lo, .int .i64 y.hi] rfl rfl rfl ?aP HO1.out HB1.out HB1.out.size ?aL ?_; (case aP => intro u hu; simp at hu; rcases hu with rfl | rfl | rfl <;> rfl); (case aL => have := HLF.out; have := HLi.out; have := HL.out; omega); intro v1 w9 ho hb hg; have ho' : RO w9 w.heap.size v1 ((l0.take i).filter okR ++ [y]) := (by unfold RO; rw [List.length_append, cellsR_app]; exact ho); obtain ⟨Aw, cw, ev1⟩ := RO.slice ho'; rw [List.length_append, List.length_singleton] at ev1; subst ev1; have hgl := (hg.block w.heap.size (blk_lt BK1.out) (own_ne HO1.out BK1.out (by decide))).trans BK1.out; have g0 : w9.cell? ⟨w.heap.size, 0, none⟩ = some v := (blk_cell hgl 0).trans rfl; have gf := blk_frozen hgl 0; have BK2 := Aside0.mk hgl; have HB2 := Aside0.mk hb; have HO2 := Aside0.mk ho'; clear hgl hb ho ho' hg))
          go_roundg k1
          case measure => have := HI.out; omega
          case rel => exact ⟨i + 1, _, (by first | rfl | (have := HL.out; have := HLi.out; congr 1; unfold wrap64; omega) | (have := HL.out; have := HLi.out; simp [wrap64]; omega)), ⟨by have := HI.out; have := HLi.out; omega⟩, ⟨blk_put BK2.out 0 _ rfl⟩, ⟨by rw [HNX.out, if_pos (by trivial)]; exact RO.far HO2.out BK2.out _⟩, ⟨below_set HB2.out (Nat.le_refl _) _⟩⟩
        | false =>
          rw [ht] at hsn HNX
          have HSN := Aside0.mk hsn
          clear hsn
          go_wp2_with (go_at_call 76; refine (HSN.out _).mono ?_; rintro e w1 ⟨rfl, hb⟩; have hbx := blk_below HBN.out hb; have b0 : w1.cell? ⟨wr.heap.size, 0, none⟩ = some (.int .i64 y.n) := (blk_cell hbx 0).trans rfl; have b1 : w1.cell? ⟨wr.heap.size, 1, none⟩ = some (.int .i64 y.lo) := (blk_cell hbx 1).trans rfl; have b2 : w1.cell? ⟨wr.heap.size, 2, none⟩ = some (.int .i64 y.hi) := (blk_cell hbx 2).trans rfl; have hgl := blk_below (blk_alloc BK.out _) hb; have g0 : w1.cell? ⟨w.heap.size, 0, none⟩ = some v := (blk_cell hgl 0).trans rfl; have BK1 := Aside0.mk hgl; have HO1 := Aside0.mk (RO.below (RO.below HO.out (below_alloc (Below.refl _ _) _)) hb); have HB1 := Aside0.mk (below_step (below_alloc HB.out _) hb); clear hb hbx hgl)
          go_roundg k1
          case measure => have := HI.out; omega
          case rel => exact ⟨i + 1, v, (by first | rfl | (have := HL.out; have := HLi.out; congr 1; unfold wrap64; omega) | (have := HL.out; have := HLi.out; simp [wrap64]; omega)), ⟨by have := HI.out; have := HLi.out; omega⟩, BK1, ⟨by rw [HNX.out, if_neg (by decide)]; exact HO1.out⟩, HB1⟩
      · obtain rfl : i = l0.length := by have := HI.out; omega
        have ho := HO.out
        rw [List.take_length] at ho
        clear HO
        have hgd : ∀ r ∈ l0.filter okR, goodR r = true := fun r hr => ok_good (List.mem_filter.1 hr).2
        have hfl : (l0.filter okR).length ≤ 1000000 := by
          have := List.length_filter_le okR l0
          have := HL.out
          omega
        have hcan : canR l0 = (cptR (sortR (l0.filter okR))).filter fun x => !held (cptR (sortR (l0.filter okR))) x := rfl
        generalize l0.filter okR = acc at *
        have HCAN := Aside0.mk hcan
        clear hcan
        rcases R_row ho with ⟨rfl, hn⟩ | ⟨g, cap, rest, rfl, hbg, hrow, hcap, hmax, hlen⟩
        · subst hn
          have hg0 : wr.cell? ⟨w.heap.size, 0, none⟩ = some (.slice none 0 0) := (blk_cell BK.out 0).trans rfl
          have hgf := blk_frozen BK.out 0
          have HR0 : Aside0 (canR l0 = []) := ⟨by
            rw [HCAN.out]
            have e : cptR (sortR []) = [] := by unfold sortR; rw [List.mergeSort_nil]; rfl
            rw [e]
            rfl⟩
          clear HCAN
          have HB3 : Aside0 (Below w.heap.size w wr) := HB
          have hS : ∀ W, Calls Tryz.prog 77 #[.slice none 0 0, .func (.func 78) #[] #[]] W fun e w' => e = .returned (.tuple #[]) ∧ w' = W := fun W => Go.Proofs.AnyF.slices_SortFunc_none Tryz.sortR none 0 _ W
          have hP : ∀ W, Calls Tryz.prog 79 #[.slice none 0 0] W fun e w' => e = .returned (.slice none 0 0) ∧ Below W.heap.size W w' := fun W => cpt0 none 0 0 (by decide) W
          have hQ : ∀ W, Calls Tryz.prog 81 #[.slice none 0 0] W fun e w' => e = .returned (.slice none 0 0) ∧ w' = W := fun W => Go.Proofs.AnyE.slices_Clone_nil Tryz.cloneR 0 0 W
          have hD : ∀ W, W.cell? ⟨w.heap.size, 0, none⟩ = some (.slice none 0 0) → Calls Tryz.prog 80 #[.slice none 0 0, .func (.func 82) #[] #[.pointer (some ⟨w.heap.size, 0, none⟩)]] W fun e w' => e = .returned (.slice none 0 0) ∧ Below W.heap.size W w' := fun W hW => delNil w.heap.size W hW
          have HSS := Aside0.mk hS
          have HP := Aside0.mk hP
          have HQ := Aside0.mk hQ
          have HD := Aside0.mk hD
          clear hS hP hQ hD ho hgd hfl
          go_wp2_with (first | (go_at_call 77; refine (HSS.out _).mono ?_; rintro e w1 ⟨rfl, rfl⟩) | (go_at_call 79; refine (HP.out _).mono ?_; rintro e w2 ⟨rfl, hb2⟩; have hbk := blk_below BK.out hb2; have hz0 : w2.cell? ⟨w.heap.size, 0, none⟩ = some (.slice none 0 0) := (blk_cell hbk 0).trans rfl; have hzf := blk_frozen hbk 0; have BK2 := Aside0.mk hbk; have HB2 := Aside0.mk (below_step HB3.out hb2); clear hbk hb2) | (go_at_call 81; refine (HQ.out _).mono ?_; rintro e w3 ⟨rfl, rfl⟩) | (go_at_call 80; refine (HD.out _ ((blk_cell (blk_put BK2.out 0 (.slice none 0 0) rfl) 0).trans rfl)).mono ?_; rintro e w4 ⟨rfl, hb4⟩; have HB4 := Aside0.mk (below_step (below_set HB2.out (Nat.le_refl _) (p := ⟨w.heap.size, 0, none⟩) (.slice none 0 0)) hb4); clear hb4))
          go_ret
          refine ⟨_, rfl, ?_, HB4.out⟩
          rw [HR0.out]
          exact World.ownsRow_nil _ _ _ _
        · have hsl : (sortR acc).length = acc.length := List.length_mergeSort acc
          have hcl : (cptR (sortR acc)).length ≤ acc.length := Nat.le_trans (cuR_len (sortR acc) (sortR acc).length) (Nat.le_of_eq hsl)
          have hcp : 2 ≤ 2 := Nat.le_refl _
          have hrl := cellsR_len acc
          obtain ⟨s, hs⟩ : ∃ s, cptR (sortR acc) = s := ⟨_, rfl⟩
          have hcan := HCAN.out
          rw [hs] at hcl hcan
          have hS := sortC g cap acc rest wr hrow hgd (by omega)
          have hP := fun W (hW : RowB W g (sortR acc) rest) => cptA g cap (sortR acc) rest W hW (by omega) (by omega)
          rw [hs, hsl] at hP
          have hgn : g ≠ w.heap.size := fun e => by
            have h1 := BK.out
            rw [← e, show wr.heap[g]? = _ from hrow] at h1
            injection h1 with h1
            injection h1 with _ h1
            exact absurd h1 (by decide)
          have HSS := Aside0.mk hS
          have HP := Aside0.mk hP
          have HNE := Aside0.mk hgn
          have HBG := Aside0.mk hbg
          have HLEN := Aside0.mk (show s.length ≤ cap ∧ s.length ≤ 1000000 ∧ cap ≤ maxLen by omega)
          have HCN := Aside0.mk hcan
          have hg0 : ∀ W, KB g wr W → W.cell? ⟨w.heap.size, 0, none⟩ = some (.slice (some ⟨g, 0, none⟩) acc.length cap) := fun W hW => (blk_cell (hW.blk BK.out (fun e => HNE.out e.symm)) 0).trans rfl
          have hg1 := hg0 wr (KB.refl g wr)
          have HG0 := Aside0.mk hg0
          have HB3 : Aside0 (Below w.heap.size w wr) := HB
          clear hS hP hgd hsl hcl hs hrow hgn hbg hg0 hcap hmax hlen HCAN hfl hcan ho hcp hrl
          go_wp2_with (first | (go_at_call 77; refine (HSS.out).mono ?_; rintro e w1 ⟨rfl, hrow1, hkb1⟩; have hg1 := HG0.out _ hkb1; have HRW1 := Aside0.mk hrow1; have HKB1 := Aside0.mk hkb1; clear hrow1 hkb1) | (go_at_call 79; refine (HP.out _ HRW1.out).mono ?_; rintro e w2 ⟨rfl, ⟨rest2, hrow2, hlen2⟩, hkb2⟩; have hbk := (HKB1.out.trans hkb2).blk BK.out (fun e => HNE.out e.symm); have hz0 : w2.cell? ⟨w.heap.size, 0, none⟩ = some (.slice (some ⟨g, 0, none⟩) acc.length cap) := (blk_cell hbk 0).trans rfl; have hzf := blk_frozen hbk 0; have BK2 := Aside0.mk hbk; have HRW2 := Aside0.mk hrow2; have HB2 := Aside0.mk (below_KB HB3.out (HKB1.out.trans hkb2) HBG.out (Nat.le_refl _)); clear hbk hrow2 hlen2 hkb2) | (go_at_call 81; refine (cloneA g cap s rest2 _ (RowB.far HRW2.out HNE.out _) (by have := HLEN.out; omega)).mono ?_; rintro e w4 ⟨gd, capd, rest4, rfl, hgd, hrow4, hl4, hm4, hn4, hb4⟩; have HRW4 := Aside0.mk hrow4; have HL4 := Aside0.mk (And.intro hl4 (And.intro hm4 hn4)); have HGD : Aside0 (w.heap.size ≤ gd ∧ g ≠ gd ∧ w.heap.size ≠ gd) := ⟨by have h1 := blk_lt (RowB.far HRW2.out HNE.out (.slice (some ⟨g, 0, none⟩) s.length cap)); have h2 := blk_lt (blk_put BK2.out 0 (.slice (some ⟨g, 0, none⟩) s.length cap) rfl); omega⟩; have BK4 := Aside0.mk (blk_below (blk_put BK2.out 0 (.slice (some ⟨g, 0, none⟩) s.length cap) rfl) hb4); have HRA4 := Aside0.mk (Below.row hb4 (RowB.far HRW2.out HNE.out (.slice (some ⟨g, 0, none⟩) s.length cap))); have HB4 := Aside0.mk (below_step (below_set HB2.out (Nat.le_refl _) (p := ⟨w.heap.size, 0, none⟩) (.slice (some ⟨g, 0, none⟩) s.length cap)) hb4); clear hgd hrow4 hl4 hm4 hn4 hb4) | (go_at_call 80; refine (delA g cap s rest2 w.heap.size gd capd s rest4 (held s) w4 HRA4.out HLEN.out.1 ⟨by have := HLEN.out; omega, HLEN.out.2.2⟩ ((blk_cell BK4.out 0).trans rfl) HRW4.out ⟨HL4.out.1, HL4.out.2.1⟩ (by have := HLEN.out; omega) HGD.out.2.1 HGD.out.2.2 (fun _ => rfl)).mono ?_; rintro e w5 ⟨rfl, ⟨rest5, hrow5, hlen5⟩, hkb5⟩; have HRW5 := Aside0.mk hrow5; have HLEN5 := Aside0.mk hlen5; have HB5 := Aside0.mk (below_KB HB4.out hkb5 HGD.out.1 (Nat.le_refl _)); clear hrow5 hlen5 hkb5))
          go_ret
          refine ⟨_, rfl, ?_, HB5.out⟩
          rw [HCN.out]
          refine row_R HRW5.out HGD.out.1 (Nat.le_trans (List.length_filter_le _ _) HL4.out.1) HL4.out.2.1 ?_
          have e1 := HL4.out.2.2
          have e2 := HLEN5.out
          rw [cellsR_len] at e1 ⊢
          omega
def SCanR : Sp := ⟨List Rct, fun l => l.length ≤ 1000000, fun l => [aR l], fun l => .row 113 3 (canR l).length (els cR (canR l))⟩
theorem rectCanon : SpOK Tryz.prog 51 SCanR := fun (l : List Rct) hl => by
  refine ⟨⟨_, Tryz.func51, rfl, rfl⟩, fun w S vs hS hv => ?_⟩
  obtain ⟨hl1, hv2⟩ := hv
  match vs, hl1, hv2 with
  | [v], hl1, hv2 =>
    have h0 := hv2 0 _ _ rfl rfl
    obtain ⟨A, c, rfl, _, _⟩ := rectCells h0
    refine (canonC A c l S w hS h0 hl).mono ?_
    rintro e w' ⟨v, rfl, ho, hb⟩
    refine ⟨v, S, rfl, ⟨⟨_, ho, fun i hi => ⟨rfl, rfl, fun j a hj => ?_⟩⟩, fun b hb2 hSb => ?_⟩, fun _ q => q, fun b q => ⟨Nat.lt_of_lt_of_le (hS b q) hb.size, .inl q⟩, hb⟩
    · obtain ⟨h1, h2, h3⟩ := cellsR_get (canR l) i hi
      have e : els cR (canR l) i = cR (canR l)[i] := by unfold els; rw [getR hi]
      rw [e] at hj
      have hj3 : j < 3 := (List.getElem?_eq_some_iff.1 hj).1
      have hc : j = 0 ∨ j = 1 ∨ j = 2 := by omega
      rcases hc with rfl | rfl | rfl
      · obtain rfl := Option.some.inj hj
        exact ⟨_, h1, .int _ _⟩
      · obtain rfl := Option.some.inj hj
        exact ⟨_, h2, .int _ _⟩
      · obtain rfl := Option.some.inj hj
        exact ⟨_, h3, .int _ _⟩
    · have := (ho.lt b hb2).1
      have := hS b hSb
      omega
end Go.Abs.Rc
set_option maxRecDepth 100000
namespace Go.Abs.Rc
open Go.RowKit Go.Proofs Go.Abs.Tab Go.Abs.Dest Go.Abs.Span Go.Abs.Coll Go.Abs.Hx Go.Abs.Mt
def sameRs (a b : List Rct) : Bool := decide (a.length = b.length) && (List.range a.length).all fun j => eqR (a.getD j default) (b.getD j default)
def SSameR : Sp := ⟨List Rct × List Rct, fun (a, _) => a.length < 9223372036854775807, fun (a, b) => [aR a, aR b], fun (a, b) => .st (.sb (sameRs a b))⟩
theorem sameRs_at (a b : List Rct) : sameRs a b = true ↔ a.length = b.length ∧ ∀ j, j < a.length → a.getD j default = b.getD j default := by
  unfold sameRs
  rw [Bool.and_eq_true, decide_eq_true_iff, List.all_eq_true]
  simp only [List.mem_range, eqR_iff]
theorem sameRs_iff (a b : List Rct) : sameRs a b = true ↔ a = b := by
  rw [sameRs_at]
  constructor
  · rintro ⟨h1, h2⟩
    refine List.ext_getElem h1 fun i hi hj => ?_
    have := h2 i hi
    rwa [getR hi, getR hj] at this
  · rintro rfl
    exact ⟨rfl, fun _ _ => rfl⟩
theorem sameRs_no {a b : List Rct} (h : ¬ (a.length = b.length ∧ ∀ j, j < a.length → a.getD j default = b.getD j default)) : sameRs a b = false := by
  rw [Bool.eq_false_iff, ne_eq, sameRs_at]
  exact h
theorem slEqualR : SpOK Tryz.prog 50 SSameR := fun ⟨a, b⟩ ha => by
  have hC := base
  have ha : a.length < 9223372036854775807 := ha
  ((refine Fn.ofF hC Tryz.func50 Tryz.ntmps50 rfl rfl rfl ?_); (repeat' first | (with_reducible exact trivial) | (with_reducible rfl) | (refine And.intro ?_ ?_) | (refine Need.mk ?_) | exact True.intro | (first | (refine ⟨_, Told.refl _, ?_, ?_⟩) | (refine ⟨⟨_, _⟩, Told.refl _, ?_, ?_⟩) | (refine ⟨⟨_, _, _⟩, Told.refl _, ?_, ?_⟩) | (refine ⟨⟨_, _, _, _⟩, Told.refl _, ?_, ?_⟩) | (refine ⟨⟨_, _, _, _, _⟩, Told.refl _, ?_, ?_⟩) | (refine ⟨(), Told.refl _, ?_, ?_⟩)) | (with_reducible intro _) | (refine fun (_ : Bool) => ?_)))
  · ((try dsimp only at *); (try simp only [decide_eq_true_eq, decide_eq_false_iff_not, beq_iff_eq, bne_iff_ne, beq_eq_false_iff_ne, bne_eq_false_iff_eq, ne_eq, Decidable.not_not, ge_iff_le, gt_iff_lt, Bool.not_eq_true', Bool.not_eq_false', Int.not_lt, Int.not_le, Nat.not_lt, Nat.not_le] at *))
    exact (sameRs_no fun h => by omega).symm
  refine AW.loop (I := fun k : Nat => ⟨26, [(0, aR a), (1, aR b), (12, .int .i64 a.length), (13, .int .i64 k)], []⟩) (fun k => k ≤ a.length ∧ ∀ j, j < k → a.getD j default = b.getD j default) (fun k => a.length - k) 0 ⟨Nat.zero_le _, fun j hj => by omega⟩ ?_ ?_
  · (repeat' first | (with_reducible exact trivial) | (with_reducible rfl) | (refine And.intro ?_ ?_) | (refine Need.mk ?_) | exact True.intro | (first | (refine ⟨_, Told.refl _, ?_, ?_⟩) | (refine ⟨⟨_, _⟩, Told.refl _, ?_, ?_⟩) | (refine ⟨⟨_, _, _⟩, Told.refl _, ?_, ?_⟩) | (refine ⟨⟨_, _, _, _⟩, Told.refl _, ?_, ?_⟩) | (refine ⟨⟨_, _, _, _, _⟩, Told.refl _, ?_, ?_⟩) | (refine ⟨(), Told.refl _, ?_, ?_⟩)) | (with_reducible intro _) | (refine fun (_ : Bool) => ?_)); rfl
  · intro k ⟨hk, he⟩
    ((refine AW.byF ‹_› ?_); (repeat' first | (with_reducible exact trivial) | (with_reducible rfl) | (refine And.intro ?_ ?_) | (refine Need.mk ?_) | exact True.intro | (first | (refine ⟨_, Told.refl _, ?_, ?_⟩) | (refine ⟨⟨_, _⟩, Told.refl _, ?_, ?_⟩) | (refine ⟨⟨_, _, _⟩, Told.refl _, ?_, ?_⟩) | (refine ⟨⟨_, _, _, _⟩, Told.refl _, ?_, ?_⟩) | (refine ⟨⟨_, _, _, _, _⟩, Told.refl _, ?_, ?_⟩) | (refine ⟨(), Told.refl _, ?_, ?_⟩)) | (with_reducible intro _) | (refine fun (_ : Bool) => ?_)))
    any_goals (intros; first | rfl | (((try dsimp only at *); (try simp only [decide_eq_true_eq, decide_eq_false_iff_not, beq_iff_eq, bne_iff_ne, beq_eq_false_iff_ne, bne_eq_false_iff_eq, ne_eq, Decidable.not_not, ge_iff_le, gt_iff_lt, Bool.not_eq_true', Bool.not_eq_false', Int.not_lt, Int.not_le, Nat.not_lt, Nat.not_le] at *)) <;> (try simp only [IntKind.wrap_i64] at *) <;> omega))
    · ((try dsimp only at *); (try simp only [decide_eq_true_eq, decide_eq_false_iff_not, beq_iff_eq, bne_iff_ne, beq_eq_false_iff_ne, bne_eq_false_iff_eq, ne_eq, Decidable.not_not, ge_iff_le, gt_iff_lt, Bool.not_eq_true', Bool.not_eq_false', Int.not_lt, Int.not_le, Nat.not_lt, Nat.not_le] at *))
      refine (sameRs_no fun h => ?_).symm
      have := h.2 k (by omega)
      simp_all [eqA, bval]
    · ((try dsimp only at *); (try simp only [decide_eq_true_eq, decide_eq_false_iff_not, beq_iff_eq, bne_iff_ne, beq_eq_false_iff_ne, bne_eq_false_iff_eq, ne_eq, Decidable.not_not, ge_iff_le, gt_iff_lt, Bool.not_eq_true', Bool.not_eq_false', Int.not_lt, Int.not_le, Nat.not_lt, Nat.not_le] at *))
      refine Exists.intro (k + 1) (And.intro ?_ (And.intro ?_ ?_))
      · refine ⟨by omega, fun j hj => ?_⟩
        by_cases e : j = k
        · subst e
          have : eqR (a.getD j default) (b.getD j default) = true := by simp_all [eqA, bval, eqR]
          exact (eqR_iff _ _).1 this
        · exact he j (by omega)
      · omega
      · (repeat' first | (with_reducible exact trivial) | (with_reducible rfl) | (refine And.intro ?_ ?_) | (refine Need.mk ?_) | exact True.intro | (first | (refine ⟨_, Told.refl _, ?_, ?_⟩) | (refine ⟨⟨_, _⟩, Told.refl _, ?_, ?_⟩) | (refine ⟨⟨_, _, _⟩, Told.refl _, ?_, ?_⟩) | (refine ⟨⟨_, _, _, _⟩, Told.refl _, ?_, ?_⟩) | (refine ⟨⟨_, _, _, _, _⟩, Told.refl _, ?_, ?_⟩) | (refine ⟨(), Told.refl _, ?_, ?_⟩)) | (with_reducible intro _) | (refine fun (_ : Bool) => ?_))
        (intros; first | rfl | (((try dsimp only at *); (try simp only [decide_eq_true_eq, decide_eq_false_iff_not, beq_iff_eq, bne_iff_ne, beq_eq_false_iff_ne, bne_eq_false_iff_eq, ne_eq, Decidable.not_not, ge_iff_le, gt_iff_lt, Bool.not_eq_true', Bool.not_eq_false', Int.not_lt, Int.not_le, Nat.not_lt, Nat.not_le] at *)) <;> (try simp only [IntKind.wrap_i64] at *) <;> omega))
    · ((try dsimp only at *); (try simp only [decide_eq_true_eq, decide_eq_false_iff_not, beq_iff_eq, bne_iff_ne, beq_eq_false_iff_ne, bne_eq_false_iff_eq, ne_eq, Decidable.not_not, ge_iff_le, gt_iff_lt, Bool.not_eq_true', Bool.not_eq_false', Int.not_lt, Int.not_le, Nat.not_lt, Nat.not_le] at *))
      obtain rfl : k = a.length := by omega
      exact ((sameRs_at a b).2 ⟨by omega, he⟩).symm
def saneT (t : Tbl) : Bool := decide (t.wmode = 0 ∨ t.wmode = 1) && (sameRs (canR t.spaces) t.spaces && ((ES true).canon t.cids && ((ES false).canon t.nots && EB.canon t.bfs)))
def SSaneT : Sp := ⟨Tbl, fun t => t.spaces.length ≤ 1000000 ∧ t.cids.length < 9223372036854775807 ∧ t.nots.length < 9223372036854775807 ∧ t.bfs.length < 9223372036854775807, fun t => [.agg (cT t)], fun t => .st (.sb (saneT t))⟩
theorem canR_len (l : List Rct) : (canR l).length ≤ l.length := by
  unfold canR
  refine Nat.le_trans (List.length_filter_le _ _) ?_
  refine Nat.le_trans (cuR_len _ _) ?_
  unfold sortR
  rw [List.length_mergeSort]
  exact List.length_filter_le _ _
set_option maxHeartbeats 4000000 in
theorem saneTC : SpOK Tryz.prog 29 SSaneT := fun (t : Tbl) ⟨h1, h2, h3, h4⟩ => by
  have hC : COK Tryz.prog (cfg [(51, SCanR), (50, SSameR), (52, SCanonS), (53, SCanon)]) := Ty.ty.cfg ⟨rectCanon, slEqualR, canon, canonB, trivial⟩
  have hl := canR_len t.spaces
  ((refine Fn.ofF hC Tryz.func29 Tryz.ntmps29 rfl rfl rfl ?_); (repeat' first | (with_reducible exact trivial) | (with_reducible rfl) | (refine And.intro ?_ ?_) | (refine Need.mk ?_) | exact True.intro | (first | (refine ⟨_, Told.refl _, ?_, ?_⟩) | (refine ⟨⟨_, _⟩, Told.refl _, ?_, ?_⟩) | (refine ⟨⟨_, _, _⟩, Told.refl _, ?_, ?_⟩) | (refine ⟨⟨_, _, _, _⟩, Told.refl _, ?_, ?_⟩) | (refine ⟨⟨_, _, _, _, _⟩, Told.refl _, ?_, ?_⟩) | (refine ⟨(), Told.refl _, ?_, ?_⟩)) | (with_reducible intro _) | (refine fun (_ : Bool) => ?_)))
  any_goals exact h1
  any_goals exact h2
  any_goals exact h3
  any_goals exact h4
  any_goals (show (canR t.spaces).length < 9223372036854775807; omega)
  all_goals unfold saneT
  all_goals simp_all
end Go.Abs.Rc
set_option maxRecDepth 100000
namespace Go.Abs.Rc
open Go.RowKit Go.Proofs Go.Abs.Tab Go.Abs.Dest Go.Abs.Span Go.Abs.Coll Go.Abs.Hx Go.Abs.Mt
theorem byte_inj {n v v' : Int} (h1 : saneC n v = true) (h2 : saneC n v' = true) (h : ∀ k, k < n.toNat → (bytesC n v).getD k default = (bytesC n v').getD k default) : v = v' := by
  have g : ∀ (x : Int), saneC n x = true → ∀ k, k < n.toNat → (bytesC n x).getD k default = byteAt x (n.toNat - 1 - k) := fun x hx k hk => by
    unfold bytesC
    rw [if_pos hx]
    simp [List.getD, hk]
  have e : ∀ k, k < n.toNat → byteAt v (n.toNat - 1 - k) = byteAt v' (n.toNat - 1 - k) := fun k hk => by rw [← g v h1 k hk, ← g v' h2 k hk, h k hk]
  rw [saneC_iff] at h1 h2
  unfold byteAt at e
  rcases h1 with ⟨rfl, a⟩ | ⟨rfl, a⟩ | ⟨rfl, a⟩ | ⟨rfl, a⟩
  · have e0 := e 0 (by decide)
    simp at e0
    omega
  · have e0 := e 0 (by decide)
    have e1 := e 1 (by decide)
    simp at e0 e1
    omega
  · have e0 := e 0 (by decide)
    have e1 := e 1 (by decide)
    have e2 := e 2 (by decide)
    simp at e0 e1 e2
    omega
  · have e0 := e 0 (by decide)
    have e1 := e 1 (by decide)
    have e2 := e 2 (by decide)
    have e3 := e 3 (by decide)
    simp at e0 e1 e2 e3
    omega
theorem ok_sane {r : Rct} (h : okR r = true) : saneC r.n r.lo = true ∧ saneC r.n r.hi = true := by
  have h2 := of_decide_eq_true h
  have a1 := h2.1
  have a2 := h2.2.1
  unfold lo at a1
  unfold hi at a2
  rw [bytesC_len] at a1 a2
  constructor
  · split at a1
    · assumption
    · omega
  · split at a2
    · assumption
    · omega
theorem fit_all {r : Rct} {b : List Int} {m : Nat} (h : fitTo r b m 0 = m) : ∀ j, j < m → inK r b j = true := by
  have key : ∀ k, k ≤ m → ∀ j, j < k → inK r b j = true := by
    intro k
    induction k with
    | zero => intro _ j hj; omega
    | succ k ih =>
      intro hk j hj
      by_cases e : j = k
      · subst e
        cases hn : inK r b j with
        | true => rfl
        | false =>
          have := fitTo_stop (r := r) (b := b) (k := j) (m := m) (by omega) (ih (by omega)) hn
          omega
      · exact ih (by omega) j (by omega)
  exact key m (Nat.le_refl _)
theorem inR_iff (r : Rct) (n v : Int) : inR r n v = true ↔ okR r = true ∧ saneC n v = true ∧ n = r.n ∧ ∀ k, k < r.n.toNat → inK r (bytesC n v) k = true := by
  unfold inR
  simp only [Bool.and_eq_true, beq_iff_eq]
  constructor
  · rintro ⟨⟨⟨h1, h2⟩, h3⟩, h4⟩
    refine ⟨h1, h2, h3, ?_⟩
    subst h3
    have hl := ok_len h1
    unfold Hx.fits at h4
    rw [if_pos h1, bytesC_len, if_pos h2, Nat.min_self] at h4
    exact fit_all (by omega)
  · rintro ⟨h1, h2, h3, h4⟩
    refine ⟨⟨⟨h1, h2⟩, h3⟩, ?_⟩
    subst h3
    have hl := ok_len h1
    unfold Hx.fits
    rw [if_pos h1, bytesC_len, if_pos h2, Nat.min_self, fitTo_all h4]
    omega
/-- One covers another. -/
def cov (o x : Rct) : Prop := okR o = true ∧ okR x = true ∧ o.n = x.n ∧ ∀ k, k < x.n.toNat → (lo o).getD k default ≤ (lo x).getD k default ∧ (hi x).getD k default ≤ (hi o).getD k default
theorem ok_le {r : Rct} (h : okR r = true) : ∀ k, k < r.n.toNat → (lo r).getD k default ≤ (hi r).getD k default := fun k hk => (of_decide_eq_true h).2.2 k (by have := ok_len h; omega)
theorem holds_iff (o x : Rct) : holds o x = true ↔ cov o x := by
  unfold holds
  simp only [Bool.and_eq_true, inR_iff]
  constructor
  · rintro ⟨⟨h1, h2, h3, h4, h5⟩, _, h6, _, h7⟩
    refine ⟨h2, h1, h4.symm, fun k hk => ?_⟩
    have a := of_decide_eq_true (h5 k (by omega))
    have b := of_decide_eq_true (h7 k (by omega))
    exact ⟨a.1, b.2⟩
  · rintro ⟨h1, h2, h3, h4⟩
    have hs := ok_sane h2
    have hle := ok_le h2
    refine ⟨⟨h2, h1, hs.1, h3.symm, fun k hk => ?_⟩, h1, hs.2, h3.symm, fun k hk => ?_⟩
    · have a := h4 k (by omega)
      have b := hle k (by omega)
      exact decide_eq_true ⟨a.1, by show (lo x).getD k default ≤ _; omega⟩
    · have a := h4 k (by omega)
      have b := hle k (by omega)
      exact decide_eq_true ⟨by show _ ≤ (hi x).getD k default; omega, a.2⟩
theorem cov_refl {x : Rct} (h : okR x = true) : cov x x := ⟨h, h, rfl, fun _ _ => ⟨Int.le_refl _, Int.le_refl _⟩⟩
theorem cov_trans {x y z : Rct} (h1 : cov x y) (h2 : cov y z) : cov x z := by
  obtain ⟨a1, a2, a3, a4⟩ := h1
  obtain ⟨b1, b2, b3, b4⟩ := h2
  refine ⟨a1, b2, a3.trans b3, fun k hk => ?_⟩
  have p := a4 k (by omega)
  have q := b4 k hk
  omega
theorem cov_anti {x y : Rct} (h1 : cov x y) (h2 : cov y x) : x = y := by
  obtain ⟨a1, a2, a3, a4⟩ := h1
  obtain ⟨b1, b2, b3, b4⟩ := h2
  have s1 := ok_sane a1
  have s2 := ok_sane a2
  obtain ⟨n, l, h⟩ := x
  obtain ⟨n', l', h'⟩ := y
  have a3 : n = n' := a3
  subst a3
  have e1 : l = l' := byte_inj s1.1 s2.1 fun k hk => Int.le_antisymm (a4 k hk).1 (b4 k hk).1
  have e2 : h = h' := byte_inj s1.2 s2.2 fun k hk => Int.le_antisymm (b4 k hk).2 (a4 k hk).2
  rw [e1, e2]
theorem in_cov {o x : Rct} (h : cov o x) {n v : Int} (hi : inR x n v = true) : inR o n v = true := by
  rw [inR_iff] at hi ⊢
  obtain ⟨a1, a2, a3, a4⟩ := h
  obtain ⟨b1, b2, b3, b4⟩ := hi
  refine ⟨a1, b2, b3.trans a3.symm, fun k hk => ?_⟩
  have p := a4 k (by omega)
  have q := of_decide_eq_true (b4 k (by omega))
  exact decide_eq_true (by omega)
theorem oth_iff (o x : Rct) : oth o x = true ↔ o ≠ x ∧ cov o x := by
  unfold oth
  rw [Bool.and_eq_true, holds_iff, Bool.not_eq_true', ← Bool.not_eq_true, eqR_iff]
theorem count_lt {α : Type} {p q : α → Bool} {o : α} : ∀ {l : List α}, (∀ y ∈ l, p y = true → q y = true) → o ∈ l → p o = false → q o = true → l.countP p < l.countP q
  | [], _, h, _, _ => by cases h
  | x :: l, h, ho, h1, h2 => by
    have hle : l.countP p ≤ l.countP q := List.countP_mono_left fun y hy => h y (List.mem_cons_of_mem _ hy)
    rw [List.countP_cons, List.countP_cons]
    rcases List.mem_cons.1 ho with rfl | q'
    · rw [if_neg (by rw [h1]; decide), if_pos h2]
      omega
    · have ih := count_lt (fun y hy => h y (List.mem_cons_of_mem _ hy)) q' h1 h2
      have hx := h x List.mem_cons_self
      cases hp : p x
      · rw [if_neg (by decide)]
        split <;> omega
      · rw [hx hp]
        omega
theorem top_of {l : List Rct} : ∀ (f : Nat) (x : Rct), x ∈ l → okR x = true → l.countP (fun o => oth o x) ≤ f → ∃ m ∈ l, cov m x ∧ ∀ o ∈ l, oth o m = false
  | 0, x, hx, ho, hc => by
    refine ⟨x, hx, cov_refl ho, fun o h => ?_⟩
    have := (List.countP_eq_zero.1 (Nat.le_zero.1 hc)) o h
    simpa using this
  | f + 1, x, hx, ho, hc => by
    by_cases h : ∃ o ∈ l, oth o x = true
    · obtain ⟨o, hol, h⟩ := h
      have hoc := (oth_iff o x).1 h
      obtain ⟨m, hm, h1, h2⟩ := top_of f o hol hoc.2.1 (by
        have : l.countP (fun y => oth y o) < l.countP (fun y => oth y x) := by
          refine count_lt (o := o) (fun y _ hy => ?_) hol ?_ h
          · have hy := (oth_iff y o).1 hy
            refine (oth_iff y x).2 ⟨fun e => ?_, cov_trans hy.2 hoc.2⟩
            subst e
            exact hy.1 (cov_anti hy.2 hoc.2)
          · rw [← Bool.not_eq_true, oth_iff]
            exact fun q => q.1 rfl
        omega)
      exact ⟨m, hm, cov_trans h1 hoc.2, h2⟩
    · refine ⟨x, hx, cov_refl ho, fun o hol => ?_⟩
      rw [← Bool.not_eq_true]
      exact fun q => h ⟨o, hol, q⟩
theorem top {l : List Rct} {x : Rct} (hx : x ∈ l) (ho : okR x = true) : ∃ m ∈ l, cov m x ∧ ∀ o ∈ l, oth o m = false := top_of _ x hx ho (Nat.le_refl _)
theorem mem_cuR {l : List Rct} : ∀ (j : Nat), j ≤ l.length → ∀ x, x ∈ cuR l j ↔ ∃ i, i < j ∧ l.getD i default = x
  | 0, _, x => by
    constructor
    · intro h; cases h
    · rintro ⟨i, hi, _⟩; omega
  | j + 1, hj, x => by
    have ih := mem_cuR (l := l) j (by omega) x
    rw [cuR, List.mem_append, ih]
    constructor
    · rintro (⟨i, hi, e⟩ | h)
      · exact ⟨i, by omega, e⟩
      · split at h
        · exact ⟨j, by omega, (List.mem_singleton.1 h).symm⟩
        · cases h
    · rintro ⟨i, hi, e⟩
      by_cases q : i = j
      · subst q
        cases hk : keepR l i with
        | true => exact Or.inr (by rw [if_pos rfl, List.mem_singleton]; exact e.symm)
        | false =>
          cases i with
          | zero => cases hk
          | succ i =>
            have : eqR (l.getD (i + 1) default) (l.getD i default) = true := by simpa [keepR] using hk
            rw [eqR_iff] at this
            exact Or.inl ⟨i, by omega, by rw [← this]; exact e⟩
      · exact Or.inl ⟨i, by omega, e⟩
theorem mem_cptR {l : List Rct} {x : Rct} : x ∈ cptR l ↔ x ∈ l := by
  unfold cptR
  rw [mem_cuR _ (Nat.le_refl _)]
  constructor
  · rintro ⟨i, hi, rfl⟩
    rw [getR hi]
    exact List.getElem_mem hi
  · intro h
    obtain ⟨i, hi, rfl⟩ := List.getElem_of_mem h
    exact ⟨i, hi, getR hi⟩
theorem cuR_srt {l : List Rct} (hs : ∀ i j, i < j → j < l.length → ltR (l.getD j default) (l.getD i default) = false) : ∀ j, j ≤ l.length → (cuR l j).Pairwise fun x y => ltR x y = true
  | 0, _ => List.Pairwise.nil
  | j + 1, hj => by
    rw [cuR]
    split
    · rename_i hk
      rw [List.pairwise_append]
      refine ⟨cuR_srt hs j (by omega), List.pairwise_singleton _ _, fun x hx y hy => ?_⟩
      obtain rfl := List.mem_singleton.1 hy
      obtain ⟨i, hi, rfl⟩ := (mem_cuR (l := l) j (Nat.le_of_succ_le hj) x).1 hx
      cases j with
      | zero => omega
      | succ j =>
        have h1 : ¬ eqR (l.getD (j + 1) default) (l.getD j default) = true := by simpa [keepR] using hk
        rw [eqR_iff] at h1
        have h2 := hs j (j + 1) (by omega) (by omega)
        have h3 : i = j ∨ ltR (l.getD j default) (l.getD i default) = false := by
          rcases Nat.lt_or_ge i j with q | q
          · exact Or.inr (hs i j q (by omega))
          · exact Or.inl (by omega)
        rw [← Bool.not_eq_true, ltR_iff] at h2
        rw [ltR_iff]
        rcases h3 with rfl | h3
        · have h1 : ¬ ((l.getD (i + 1) default).n = (l.getD i default).n ∧ (l.getD (i + 1) default).lo = (l.getD i default).lo ∧ (l.getD (i + 1) default).hi = (l.getD i default).hi) := by
            intro q
            apply h1
            rcases h : l.getD (i + 1) default with ⟨a, b, c⟩
            rcases h' : l.getD i default with ⟨a', b', c'⟩
            rw [h, h'] at q
            obtain ⟨q1, q2, q3⟩ := q
            dsimp only at q1 q2 q3
            rw [q1, q2, q3]
          omega
        · rw [← Bool.not_eq_true, ltR_iff] at h3
          have h1 : ¬ ((l.getD (j + 1) default).n = (l.getD j default).n ∧ (l.getD (j + 1) default).lo = (l.getD j default).lo ∧ (l.getD (j + 1) default).hi = (l.getD j default).hi) := by
            intro q
            apply h1
            rcases h : l.getD (j + 1) default with ⟨a, b, c⟩
            rcases h' : l.getD j default with ⟨a', b', c'⟩
            rw [h, h'] at q
            obtain ⟨q1, q2, q3⟩ := q
            dsimp only at q1 q2 q3
            rw [q1, q2, q3]
          omega
    · rw [List.append_nil]
      exact cuR_srt hs j (by omega)
theorem sortR_srt (l : List Rct) : ∀ i j, i < j → j < (sortR l).length → ltR ((sortR l).getD j default) ((sortR l).getD i default) = false := by
  have hp : (sortR l).Pairwise fun x y => (!ltR y x) = true := by
    refine List.pairwise_mergeSort (fun a b c h1 h2 => ?_) (fun a b => ?_) l
    · rw [Bool.not_eq_true', ← Bool.not_eq_true, ltR_iff] at *
      omega
    · rw [Bool.or_eq_true, Bool.not_eq_true', Bool.not_eq_true', ← Bool.not_eq_true, ← Bool.not_eq_true, ltR_iff, ltR_iff]
      omega
  intro i j hij hj
  have := List.pairwise_iff_getElem.1 hp i j (by omega) hj hij
  rw [getR hj, getR (by omega)]
  simpa using this
theorem mem_canR {l : List Rct} {x : Rct} : x ∈ canR l ↔ x ∈ l ∧ okR x = true ∧ ∀ o ∈ l, okR o = true → oth o x = false := by
  have hm : ∀ y, y ∈ cptR (sortR (l.filter okR)) ↔ y ∈ l ∧ okR y = true := fun y => by
    rw [mem_cptR]
    unfold sortR
    rw [List.mem_mergeSort, List.mem_filter]
  unfold canR
  rw [List.mem_filter, hm]
  have hh : (!held (cptR (sortR (l.filter okR))) x) = true ↔ ∀ o ∈ l, okR o = true → oth o x = false := by
    unfold held
    rw [Bool.not_eq_true', List.any_eq_false]
    constructor
    · intro h o h1 h2
      simpa using h o ((hm o).2 ⟨h1, h2⟩)
    · intro h o ho
      have := (hm o).1 ho
      rw [h o this.1 this.2]
      decide
  rw [hh]
  exact ⟨fun ⟨⟨a, b⟩, c⟩ => ⟨a, b, c⟩, fun ⟨a, b, c⟩ => ⟨⟨a, b⟩, c⟩⟩
theorem canR_srt (l : List Rct) : (canR l).Pairwise fun x y => ltR x y = true := by
  unfold canR
  exact List.Pairwise.filter _ (cuR_srt (sortR_srt _) _ (Nat.le_refl _))
theorem srt_uniq : ∀ {a b : List Rct}, a.Pairwise (fun x y => ltR x y = true) → b.Pairwise (fun x y => ltR x y = true) → (∀ x, x ∈ a ↔ x ∈ b) → a = b
  | [], [], _, _, _ => rfl
  | [], y :: b, _, _, h => absurd ((h y).2 List.mem_cons_self) (by simp)
  | x :: a, [], _, _, h => absurd ((h x).1 List.mem_cons_self) (by simp)
  | x :: a, y :: b, ha, hb, h => by
    rw [List.pairwise_cons] at ha hb
    have irr : ∀ z : Rct, ¬ ltR z z = true := fun z => by rw [ltR_iff]; omega
    have e : x = y := by
      rcases List.mem_cons.1 ((h x).1 List.mem_cons_self) with q | q
      · exact q
      rcases List.mem_cons.1 ((h y).2 List.mem_cons_self) with r | r
      · exact r.symm
      have h1 := hb.1 x q
      have h2 := ha.1 y r
      rw [ltR_iff] at h1 h2
      omega
    subst e
    rw [srt_uniq ha.2 hb.2 fun z => ?_]
    constructor
    · intro hz
      rcases List.mem_cons.1 ((h z).1 (List.mem_cons_of_mem _ hz)) with rfl | q
      · exact absurd (ha.1 _ hz) (irr _)
      · exact q
    · intro hz
      rcases List.mem_cons.1 ((h z).2 (List.mem_cons_of_mem _ hz)) with rfl | q
      · exact absurd (hb.1 _ hz) (irr _)
      · exact q
/-- What is of one list is covered by one of another. -/
def Dom (a b : List Rct) : Prop := ∀ x ∈ a, okR x = true → ∃ y ∈ b, cov y x
theorem Dom.sub {a b : List Rct} (h : ∀ x ∈ a, x ∈ b) : Dom a b := fun x hx ho => ⟨x, h x hx, cov_refl ho⟩
theorem Dom.can (a : List Rct) : Dom a (canR a) := fun x hx ho => by
  obtain ⟨m, hm, h1, h2⟩ := top hx ho
  exact ⟨m, mem_canR.2 ⟨hm, h1.1, fun o h _ => h2 o h⟩, h1⟩
theorem Dom.can' (a : List Rct) : Dom (canR a) a := Dom.sub fun _ h => (mem_canR.1 h).1
theorem Dom.trans {a b c : List Rct} (h1 : Dom a b) (h2 : Dom b c) : Dom a c := fun x hx ho => by
  obtain ⟨y, hy, p⟩ := h1 x hx ho
  obtain ⟨z, hz, q⟩ := h2 y hy p.1
  exact ⟨z, hz, cov_trans q p⟩
theorem Dom.app {a b c d : List Rct} (h1 : Dom a c) (h2 : Dom b d) : Dom (a ++ b) (c ++ d) := fun x hx ho => by
  rcases List.mem_append.1 hx with q | q
  · obtain ⟨y, hy, p⟩ := h1 x q ho
    exact ⟨y, List.mem_append_left _ hy, p⟩
  · obtain ⟨y, hy, p⟩ := h2 x q ho
    exact ⟨y, List.mem_append_right _ hy, p⟩
theorem canR_sub {a b : List Rct} (h1 : Dom a b) (h2 : Dom b a) : ∀ x, x ∈ canR a → x ∈ canR b := fun x hx => by
  obtain ⟨a1, a2, a3⟩ := mem_canR.1 hx
  have no : ∀ y ∈ b, cov y x → y = x := fun y hy c => by
    obtain ⟨z, hz, d⟩ := h2 y hy c.1
    by_cases e : z = x
    · rw [e] at d
      exact cov_anti c d
    · have := a3 z hz d.1
      rw [← Bool.not_eq_true, oth_iff] at this
      exact absurd ⟨e, cov_trans d c⟩ this
  obtain ⟨y, hy, c⟩ := h1 x a1 a2
  have := no y hy c
  subst this
  refine mem_canR.2 ⟨hy, a2, fun o ho _ => ?_⟩
  rw [← Bool.not_eq_true, oth_iff]
  exact fun q => q.1 (no o ho q.2)
theorem canR_congr {a b : List Rct} (h1 : Dom a b) (h2 : Dom b a) : canR a = canR b := srt_uniq (canR_srt a) (canR_srt b) fun x => ⟨canR_sub h1 h2 x, canR_sub h2 h1 x⟩
theorem canR_idem (a : List Rct) : canR (canR a) = canR a := canR_congr (Dom.can' a) (Dom.can a)
theorem canR_left (a b : List Rct) : canR (canR a ++ b) = canR (a ++ b) := canR_congr (Dom.app (Dom.can' a) (Dom.sub fun _ h => h)) (Dom.app (Dom.can a) (Dom.sub fun _ h => h))
theorem canR_right (a b : List Rct) : canR (a ++ canR b) = canR (a ++ b) := canR_congr (Dom.app (Dom.sub fun _ h => h) (Dom.can' b)) (Dom.app (Dom.sub fun _ h => h) (Dom.can b))
theorem canR_same {a b : List Rct} (h : ∀ x, x ∈ a ↔ x ∈ b) : canR a = canR b := canR_congr (Dom.sub fun x => (h x).1) (Dom.sub fun x => (h x).2)
theorem any_canR (l : List Rct) (n v : Int) : anyR (canR l) n v = anyR l n v := by
  unfold anyR
  rw [Bool.eq_iff_iff, List.any_eq_true, List.any_eq_true]
  constructor
  · rintro ⟨x, hx, h⟩
    exact ⟨x, (mem_canR.1 hx).1, h⟩
  · rintro ⟨x, hx, h⟩
    obtain ⟨y, hy, c⟩ := Dom.can l x hx ((inR_iff _ _ _).1 h).1
    exact ⟨y, hy, in_cov c h⟩
end Go.Abs.Rc
set_option maxRecDepth 100000
namespace Go.Abs.Lk
open Go.RowKit Go.Proofs Go.Abs.Tab Go.Abs.Dest Go.Abs.Span Go.Abs.Coll Go.Abs.Hx Go.Abs.Mt
def SUniL : Sp := ⟨Tbl × Int × Int, fun (t, n, v) => t.bfs.length < 4611686018427387904, fun (t, n, v) => [.agg (cT t), aCode n v], fun (t, n, v) => rO (EB.find t.bfs n v)⟩
theorem uniL : SpOK Tryz.prog 22 SUniL := fun ⟨t, n, v⟩ ht => by
  have hC : COK Tryz.prog (cfg [(41, SFind)]) := Ty.ty.cfg ⟨Dest.find, trivial⟩
  ((refine Fn.ofF hC Tryz.func22 Tryz.ntmps22 rfl rfl rfl ?_); (repeat' first | (with_reducible exact trivial) | (with_reducible rfl) | (refine And.intro ?_ ?_) | (refine Need.mk ?_) | exact True.intro | (first | (refine ⟨_, Told.refl _, ?_, ?_⟩) | (refine ⟨⟨_, _⟩, Told.refl _, ?_, ?_⟩) | (refine ⟨⟨_, _, _⟩, Told.refl _, ?_, ?_⟩) | (refine ⟨⟨_, _, _, _⟩, Told.refl _, ?_, ?_⟩) | (refine ⟨⟨_, _, _, _, _⟩, Told.refl _, ?_, ?_⟩) | (refine ⟨(), Told.refl _, ?_, ?_⟩)) | (with_reducible intro _) | (refine fun (_ : Bool) => ?_)))
  exact ht
structure Sg where
  p : Pc
  kind : Int
  cid : Int
  u : List Int
  has : Bool
instance : Inhabited Sg := ⟨⟨default, 0, 0, [], false⟩⟩
def cG (s : Sg) : List AV := [.int .i64 s.p.at_, .int .i64 s.p.n, .sb s.p.full, .int .i64 s.p.cn, .int .i64 s.p.cv, .int .i64 s.kind, .int .i64 s.cid, aI s.u, .sb s.has]
theorem cG_emb : Emb cG 9 := fun x => ⟨rfl, ⟨⟨rfl⟩, ⟨rfl⟩, ⟨rfl⟩, ⟨rfl⟩, ⟨rfl⟩, ⟨rfl⟩, ⟨rfl⟩, ⟨⟨rfl⟩, els_of ci_emb (n := 0) (fun _ _ => rfl)⟩, ⟨rfl⟩, trivial⟩, rfl⟩
abbrev aG (l : List Sg) : AV := aL cG 9 l
def sgOf (t : Tbl) (p : Pc) : Sg := if p.full = true then ⟨p, (numT t p.cn p.cv).2, (numT t p.cn p.cv).1, (EB.find t.bfs p.cn p.cv).getD [], (EB.find t.bfs p.cn p.cv).isSome⟩ else ⟨p, 0, 0, [], false⟩
def sgs (t : Tbl) (s : List Int) : List Sg := (allAt t.spaces s 0).map (sgOf t)
def smallT (t : Tbl) : Prop := t.spaces.length < 1000000000 ∧ t.cids.length < 1000000000 ∧ t.nots.length < 1000000000 ∧ t.bfs.length < 1000000000
def SLook : Sp := ⟨Tbl × List Int, fun (t, s) => smallT t ∧ s.length < 1000000000 ∧ B8 s, fun (t, s) => [.agg (cT t), a8 s], fun (t, s) => .row 83 9 (sgs t s).length (els cG (sgs t s))⟩
theorem getP {l : List Pc} {i : Nat} (h : i < l.length) : l.getD i default = l[i] := by simp [List.getD, h]
theorem map_next {t : Tbl} {L : List Pc} {k : Nat} (hk : k < L.length) : (L.take (k + 1)).map (sgOf t) = (L.take k).map (sgOf t) ++ [sgOf t (L.getD k default)] := by
  rw [List.take_succ_eq_append_getElem hk, List.map_append, getP hk]
  rfl
set_option maxHeartbeats 16000000 in
theorem look : SpOK Tryz.prog 34 SLook := fun ⟨t, s⟩ ⟨ht, hs, h8⟩ => by
  have hC : COK Tryz.prog (cfg [(31, SAll), (24, SNum), (22, SUniL)]) := Ty.ty.cfg ⟨all, num, uniL, trivial⟩
  obtain ⟨t1, t2, t3, t4⟩ := ht
  have hlen := allAt_len (l := t.spaces) (s := s) (s.length - 0) 0 rfl
  have t4' : t.bfs.length < 4611686018427387904 := by omega
  obtain ⟨L, hL⟩ : ∃ L, L = allAt t.spaces s 0 := ⟨_, rfl⟩
  rw [← hL] at hlen
  ((refine Fn.ofF hC Tryz.func34 Tryz.ntmps34 rfl rfl rfl ?_); (repeat' first | (with_reducible exact trivial) | (with_reducible rfl) | (refine And.intro ?_ ?_) | (refine Need.mk ?_) | exact True.intro | (first | (refine ⟨_, Told.refl _, ?_, ?_⟩) | (refine ⟨⟨_, _⟩, Told.refl _, ?_, ?_⟩) | (refine ⟨⟨_, _, _⟩, Told.refl _, ?_, ?_⟩) | (refine ⟨⟨_, _, _, _⟩, Told.refl _, ?_, ?_⟩) | (refine ⟨⟨_, _, _, _, _⟩, Told.refl _, ?_, ?_⟩) | (refine ⟨(), Told.refl _, ?_, ?_⟩)) | (with_reducible intro _) | (refine fun (_ : Bool) => ?_)))
  any_goals first | exact t1 | exact hs | exact h8
  refine AW.loop (I := fun k : Nat => ⟨46, [(2, .ptr 0 0), (5, .own 2), (12, .own 1), (13, .int .i64 L.length), (14, .int .i64 k)], [.box 33 (cT t), .row 53 5 L.length (els cP L), .row 83 9 ((L.take k).map (sgOf t)).length (els cG ((L.take k).map (sgOf t)))]⟩) (fun k => k ≤ L.length) (fun k => L.length - k) 0 (Nat.zero_le _) ?_ ?_
  · clear hlen
    subst hL
    (repeat' first | (with_reducible exact trivial) | (with_reducible rfl) | (refine And.intro ?_ ?_) | (refine Need.mk ?_) | exact True.intro | (first | (refine ⟨_, Told.refl _, ?_, ?_⟩) | (refine ⟨⟨_, _⟩, Told.refl _, ?_, ?_⟩) | (refine ⟨⟨_, _, _⟩, Told.refl _, ?_, ?_⟩) | (refine ⟨⟨_, _, _, _⟩, Told.refl _, ?_, ?_⟩) | (refine ⟨⟨_, _, _, _, _⟩, Told.refl _, ?_, ?_⟩) | (refine ⟨(), Told.refl _, ?_, ?_⟩)) | (with_reducible intro _) | (refine fun (_ : Bool) => ?_))
    all_goals first | rfl
  · intro k hk
    rcases Nat.lt_or_ge k L.length with hlt | hge
    · have hd : decide ((k : Int) < (L.length : Int)) = true := decide_eq_true (by omega)
      have hw := iw (n := (k : Int) + 1) (by omega) (by omega)
      have hnx := map_next (t := t) hlt
      have hml : ((L.take k).map (sgOf t)).length ≤ L.length := by rw [List.length_map, List.length_take]; omega
      ((refine AW.byF ‹_› ?_); (repeat' first | (with_reducible exact trivial) | (with_reducible rfl) | (refine And.intro ?_ ?_) | (refine Need.mk ?_) | exact True.intro | (first | (refine ⟨_, Told.refl _, ?_, ?_⟩) | (refine ⟨⟨_, _⟩, Told.refl _, ?_, ?_⟩) | (refine ⟨⟨_, _, _⟩, Told.refl _, ?_, ?_⟩) | (refine ⟨⟨_, _, _, _⟩, Told.refl _, ?_, ?_⟩) | (refine ⟨⟨_, _, _, _, _⟩, Told.refl _, ?_, ?_⟩) | (refine ⟨(), Told.refl _, ?_, ?_⟩)) | (with_reducible intro _) | (refine fun (_ : Bool) => ?_)))
      all_goals first | (exact absurd ‹decide ((k : Int) < (L.length : Int)) = false› (by rw [hd]; decide)) | skip
      any_goals (refine Exists.intro (k + 1) (And.intro ?_ (And.intro ?_ ?_)); all_goals (repeat' first | (with_reducible exact trivial) | (with_reducible rfl) | (refine And.intro ?_ ?_) | (refine Need.mk ?_) | exact True.intro | (first | (refine ⟨_, Told.refl _, ?_, ?_⟩) | (refine ⟨⟨_, _⟩, Told.refl _, ?_, ?_⟩) | (refine ⟨⟨_, _, _⟩, Told.refl _, ?_, ?_⟩) | (refine ⟨⟨_, _, _, _⟩, Told.refl _, ?_, ?_⟩) | (refine ⟨⟨_, _, _, _, _⟩, Told.refl _, ?_, ?_⟩) | (refine ⟨(), Told.refl _, ?_, ?_⟩)) | (with_reducible intro _) | (refine fun (_ : Bool) => ?_)))
      all_goals try simp only [Int.toNat_natCast] at *
      all_goals first
        | omega
        | exact t4'
        | (show (((L.take k).map (sgOf t)).length + 1) * 88 ≤ _; omega)
        | (rw [hw]; rfl)
        | (rw [hnx, List.length_append]; rfl)
        | (have q := ‹(L.getD k default).full = true›
           have hp : sgOf t (L.getD k default) = ⟨L.getD k default, (numT t (L.getD k default).cn (L.getD k default).cv).2, (numT t (L.getD k default).cn (L.getD k default).cv).1, (EB.find t.bfs (L.getD k default).cn (L.getD k default).cv).getD [], (EB.find t.bfs (L.getD k default).cn (L.getD k default).cv).isSome⟩ := if_pos q
           rename_i z hz
           rw [hnx, hp] at hz ⊢
           refine snoc_sub cG_emb rfl ?_ z hz
           refine ⟨⟨rfl⟩, ⟨rfl⟩, ⟨rfl⟩, ⟨rfl⟩, ⟨rfl⟩, ⟨rfl⟩, ⟨rfl⟩, ?_, ⟨rfl⟩, trivial⟩
           exact ⟨⟨rfl⟩, els_of ci_emb (n := 0) (fun _ _ => rfl)⟩)
        | (have q := ‹(L.getD k default).full = false›
           have hp : sgOf t (L.getD k default) = ⟨L.getD k default, 0, 0, [], false⟩ := if_neg (by rw [q]; decide)
           rename_i z hz
           rw [hnx, hp] at hz ⊢
           refine snoc_sub cG_emb rfl ?_ z hz
           exact ⟨⟨rfl⟩, ⟨rfl⟩, ⟨rfl⟩, ⟨rfl⟩, ⟨rfl⟩, ⟨rfl⟩, ⟨rfl⟩, ⟨rfl⟩, ⟨rfl⟩, trivial⟩)

    · obtain rfl : k = L.length := by omega
      have hd : decide ((L.length : Int) < (L.length : Int)) = false := decide_eq_false (by omega)
      have hr : (L.take L.length).map (sgOf t) = sgs t s := by rw [List.take_length, hL]; rfl
      ((refine AW.byF ‹_› ?_); (repeat' first | (with_reducible exact trivial) | (with_reducible rfl) | (refine And.intro ?_ ?_) | (refine Need.mk ?_) | exact True.intro | (first | (refine ⟨_, Told.refl _, ?_, ?_⟩) | (refine ⟨⟨_, _⟩, Told.refl _, ?_, ?_⟩) | (refine ⟨⟨_, _, _⟩, Told.refl _, ?_, ?_⟩) | (refine ⟨⟨_, _, _, _⟩, Told.refl _, ?_, ?_⟩) | (refine ⟨⟨_, _, _, _, _⟩, Told.refl _, ?_, ?_⟩) | (refine ⟨(), Told.refl _, ?_, ?_⟩)) | (with_reducible intro _) | (refine fun (_ : Bool) => ?_)))
      all_goals first | (exact absurd ‹decide ((L.length : Int) < (L.length : Int)) = true› (by rw [hd]; decide)) | skip
      all_goals rw [hr]
end Go.Abs.Lk
set_option maxRecDepth 100000
namespace Go.Abs.Ci
open Go.RowKit Go.Proofs Go.Abs.Tab Go.Abs.Dest Go.Abs.Span Go.Abs.Coll Go.Abs.Hx Go.Abs.Mt Go.Abs.Lk Go.Abs.Rc
def idR : Rct := ⟨2, 0, 65535⟩
def idS : Spn := ⟨2, 0, 65535, 0⟩
theorem okId : okR idR = true := by decide +kernel
theorem canId : canR [idR] = [idR] := by
  have h1 : [idR].filter okR = [idR] := by rw [List.filter_cons, okId]; rfl
  have h2 : sortR [idR] = [idR] := List.mergeSort_singleton _
  unfold canR
  have h3 : cptR [idR] = [idR] := rfl
  have h4 : held [idR] idR = false := by decide +kernel
  rw [h1, h2, h3, List.filter_cons, h4]
  rfl
theorem in1 (v : Int) : inR idR 1 v = false := by
  unfold inR
  have : ((1 : Int) == idR.n) = false := by decide
  rw [this]
  simp
theorem in2 {v : Int} (h : 0 ≤ v ∧ v < 65536) : inR idR 2 v = true := by
  have hs : saneC 2 v = true := (saneC_iff 2 v).2 (by omega)
  have h8 := bytesC_8 2 v
  have hl : (bytesC 2 v).length = 2 := by rw [bytesC_len, if_pos hs]; rfl
  have hf : fits idR (bytesC 2 v) = 2 := by
    unfold Hx.fits
    rw [if_pos okId, hl]
    refine fitTo_all fun j hj => ?_
    have hj : j < 2 := hj
    have hg := B8.get h8 j
    have c1 : (lo idR).getD j default = 0 := by
      have : j = 0 ∨ j = 1 := by omega
      rcases this with rfl | rfl <;> decide +kernel
    have c2 : (hi idR).getD j default = 255 := by
      have : j = 0 ∨ j = 1 := by omega
      rcases this with rfl | rfl <;> decide +kernel
    unfold inK
    rw [c1, c2]
    exact decide_eq_true hg
  unfold inR
  rw [okId, hs, hf]
  rfl
theorem val2 {b : List Int} (h8 : B8 b) (h : b.length = 2) : valN b = 2 ∧ valV b = b.getD 0 default * 256 + b.getD 1 default ∧ 0 ≤ valV b ∧ valV b < 65536 ∧ valOk b = true := by
  have ok : valOk b = true := decide_eq_true (by omega)
  have hv : valV b = b.getD 0 default * 256 + b.getD 1 default := by
    unfold valV
    rw [if_pos ok]
    match b, h with
    | [x, y], _ => simp [valI]
  have g0 := B8.get h8 0
  have g1 := B8.get h8 1
  refine ⟨?_, hv, by omega, by omega, ok⟩
  unfold valN
  rw [if_pos ok, h]
  rfl
theorem full1F {b : List Int} (h : b.length = 1) : fullB [idR] b = false := by
  have ok : valOk b = true := decide_eq_true (by omega)
  unfold fullB anyR valN
  rw [if_pos ok, h]
  simp [in1]
theorem full2T {b : List Int} (h8 : B8 b) (h : b.length = 2) : fullB [idR] b = true := by
  obtain ⟨h1, h2, h3, h4, h5⟩ := val2 h8 h
  unfold fullB anyR
  rw [h5, h1]
  simp [in2 ⟨h3, h4⟩]
theorem code2 {b : List Int} (h8 : B8 b) (h : 2 ≤ b.length) : code [idR] b = some 2 := by
  refine code_some (k := 1) (by omega) (fun j hj => ?_) ?_
  · obtain rfl : j = 0 := by omega
    exact full1F (by rw [List.length_take]; omega)
  · exact full2T (B8.take h8 _) (by rw [List.length_take]; omega)
theorem code1 {b : List Int} (h : b.length = 1) : code [idR] b = none := by
  refine code_none (fun j hj => ?_)
  obtain rfl : j = 0 := by omega
  exact full1F (by rw [List.length_take]; omega)
theorem next2 {b : List Int} (h8 : B8 b) (h : 2 ≤ b.length) : nextN [idR] b = 2 := by
  unfold nextN
  rw [code2 h8 h]
  rfl
theorem next1 {b : List Int} (h : b.length = 1) : nextN [idR] b = 1 := by
  have := next_rng (l := [idR]) (b := b) (by omega)
  omega
theorem idAt {s : List Int} (h8 : B8 s) : ∀ (f a : Nat), s.length - a ≤ f → (allAt [idR] s a).length = (s.length - a + 1) / 2 ∧ ∀ i, i < (s.length - a + 1) / 2 → (allAt [idR] s a).getD i default = pcAt [idR] s (a + 2 * i)
  | 0, a, h => by
    rw [allAt_end (by omega)]
    refine ⟨?_, fun i hi => ?_⟩
    · show 0 = _
      omega
    · omega
  | f + 1, a, h => by
    rcases Nat.lt_or_ge a s.length with q | q
    · rw [allAt_step q]
      by_cases q2 : a + 1 < s.length
      · have hn : stepN [idR] s a = 2 := by
          unfold stepN
          rw [next2 (B8.drop h8 a) (by rw [List.length_drop]; omega)]
          rfl
        rw [hn]
        obtain ⟨i1, i2⟩ := idAt h8 f (a + 2) (by omega)
        refine ⟨by rw [List.length_cons, i1]; omega, fun i hi => ?_⟩
        cases i with
        | zero => rfl
        | succ i =>
          rw [List.getD_cons_succ, i2 i (by omega)]
          congr 1
          omega
      · have hn : stepN [idR] s a = 1 := by
          unfold stepN
          rw [next1 (by rw [List.length_drop]; omega)]
          rfl
        rw [hn, allAt_end (l := [idR]) (a := a + 1) (by omega)]
        refine ⟨by show 1 = _; omega, fun i hi => ?_⟩
        obtain rfl : i = 0 := by omega
        rfl
    · rw [allAt_end (by omega)]
      refine ⟨?_, fun i hi => ?_⟩
      · show 0 = _
        omega
      · omega
theorem pc2 {s : List Int} (h8 : B8 s) {a : Nat} (h : a + 1 < s.length) : (pcAt [idR] s a).full = true ∧ (pcAt [idR] s a).cn = 2 ∧ (pcAt [idR] s a).cv = s.getD a default * 256 + s.getD (a + 1) default := by
  have hl : (s.drop a).length = s.length - a := List.length_drop
  have hc := code2 (B8.drop h8 a) (by omega)
  have hn : stepN [idR] s a = 2 := by
    unfold stepN
    rw [next2 (B8.drop h8 a) (by omega)]
    rfl
  have hp : pcAt [idR] s a = ⟨a, nextN [idR] (s.drop a), true, valN ((s.drop a).take 2), valV ((s.drop a).take 2)⟩ := by
    unfold pcAt
    rw [if_pos (by rw [hc]; rfl), hn]
  obtain ⟨v1, v2, _⟩ := val2 (b := (s.drop a).take 2) (B8.take (B8.drop h8 a) 2) (by rw [List.length_take]; omega)
  rw [hp]
  refine ⟨rfl, v1, ?_⟩
  show valV _ = _
  rw [v2]
  simp only [List.getD, List.getElem?_take, List.getElem?_drop]
  simp
theorem pc1 {s : List Int} {a : Nat} (h : a + 1 = s.length) : (pcAt [idR] s a).full = false := by
  have hc := code1 (b := s.drop a) (by rw [List.length_drop]; omega)
  unfold pcAt
  rw [if_neg (by rw [hc]; decide)]
theorem findI (n v : Int) : (ES true).find [idS] n v = if n = 2 ∧ 0 ≤ v ∧ v ≤ 65535 then some v else none := by
  have hc : (ES true).canon [idS] = true := by decide +kernel
  unfold En.find
  rw [if_pos hc]
  show (if (ES true).has idS n v then some ((ES true).val idS v) else none) = _
  have hh : (ES true).has idS n v ↔ (n = 2 ∧ 0 ≤ v ∧ v ≤ 65535) := by
    show ((2 : Int) = n ∧ (0 : Int) ≤ v ∧ v ≤ 65535) ↔ _
    exact ⟨fun ⟨a, b⟩ => ⟨a.symm, b⟩, fun ⟨a, b⟩ => ⟨a.symm, b⟩⟩
  by_cases h : n = 2 ∧ 0 ≤ v ∧ v ≤ 65535
  · rw [if_pos h, if_pos (hh.2 h)]
    congr 1
    show (0 : Int) + more true (v - 0) = v
    simp [more]
  · rw [if_neg h, if_neg (fun q => h (hh.1 q))]
theorem findN (n v : Int) : (ES false).find [] n v = none := by
  unfold En.find
  split <;> rfl
theorem findB0 (n v : Int) : EB.find [] n v = none := by
  unfold En.find
  split <;> rfl
theorem numI (w n v : Int) : numT (identT w) n v = if n = 2 ∧ 0 ≤ v ∧ v ≤ 65535 then (v, 1) else (0, 0) := by
  have h1 : (identT w).cids = [idS] := rfl
  have h2 : (identT w).nots = [] := rfl
  unfold numT
  rw [h1, h2, findI, findN]
  by_cases h : n = 2 ∧ 0 ≤ v ∧ v ≤ 65535
  · rw [if_pos h, if_pos h]
  · rw [if_neg h, if_neg h]
theorem saneI (w : Int) : saneT (identT w) = true := by
  have h0 : (identT w).spaces = [idR] := rfl
  have h1 : (identT w).cids = [idS] := rfl
  have h2 : (identT w).nots = [] := rfl
  have h3 : (identT w).bfs = [] := rfl
  have h4 : (identT w).wmode = modeT w := rfl
  unfold saneT
  rw [h0, h1, h2, h3, h4, canId, decide_eq_true (modeT_rng w), (sameRs_iff _ _).2 rfl]
  decide +kernel
theorem sgsI {w : Int} {s : List Int} (h8 : B8 s) : (sgs (identT w) s).length = (s.length + 1) / 2 ∧ ∀ i, i < (s.length + 1) / 2 →
    (2 * i + 1 < s.length → ((sgs (identT w) s).getD i default).p.full = true ∧ ((sgs (identT w) s).getD i default).cid = s.getD (2 * i) default * 256 + s.getD (2 * i + 1) default)
    ∧ (¬ 2 * i + 1 < s.length → ((sgs (identT w) s).getD i default).p.full = false) ∧ ((sgs (identT w) s).getD i default).has = false := by
  obtain ⟨l1, l2⟩ := idAt h8 s.length 0 (by omega)
  have hs : (identT w).spaces = [idR] := rfl
  unfold sgs
  rw [hs]
  refine ⟨by rw [List.length_map, l1]; rfl, fun i hi => ?_⟩
  have hil : i < (allAt [idR] s 0).length := by rw [l1]; omega
  have hg : ((allAt [idR] s 0).map (sgOf (identT w))).getD i default = sgOf (identT w) (pcAt [idR] s (2 * i)) := by
    have h1 := l2 i (by omega)
    rw [Nat.zero_add] at h1
    rw [← h1]
    simp [List.getD, hil]
  rw [hg]
  have hb : ∀ n v, EB.find (identT w).bfs n v = none := findB0
  refine ⟨fun q => ?_, fun q => ?_, ?_⟩
  · obtain ⟨p1, p2, p3⟩ := pc2 h8 q
    have g0 := B8.get h8 (2 * i)
    have g1 := B8.get h8 (2 * i + 1)
    unfold sgOf
    rw [if_pos p1, p2, p3, numI, if_pos (by omega)]
    exact ⟨p1, rfl⟩
  · have p1 := pc1 (s := s) (a := 2 * i) (by omega)
    unfold sgOf
    rw [if_neg (by rw [p1]; decide)]
    exact p1
  · unfold sgOf
    split
    · simp only [hb]
      rfl
    · rfl
end Go.Abs.Ci
set_option maxRecDepth 100000
namespace Go.Abs.Lk
open Go.RowKit Go.Proofs Go.Abs.Tab Go.Abs.Dest Go.Abs.Span Go.Abs.Coll Go.Abs.Hx Go.Abs.Mt Go.Abs.Utf Go.Abs.Txt
attribute [local go_sem] Oper.semAt_some
theorem decC {u : List Int} {v : Value} {S : Nat → Prop} {w : World} (hu : u.length ≤ 1000000000) (hS : ∀ b, S b → b < w.heap.size) (h : RV0 w S (aI u) v) : Calls Tryz.prog 27 #[v] w fun e w' => ∃ x S2, e = .returned x ∧ RV0 w' S2 (aI (decU u)) x ∧ (∀ b, S2 b → b < w'.heap.size) ∧ Below w.heap.size w w' := by
  refine ((dec16 u hu).2 w S [v] hS ⟨rfl, fun i a x h1 h2 => ?_⟩).mono ?_
  · match i, h1, h2 with
    | 0, h1, h2 =>
      obtain rfl := Option.some.inj h1
      obtain rfl := Option.some.inj h2
      exact h
  · rintro e w' ⟨x, S', rfl, hr, _, hs', hb⟩
    refine ⟨x, fun b => S' b ∨ x.ownBlock = some b, rfl, row_sl (ρ := []) hr (fun b q => .inl q) (fun b q => .inr q), fun b q => ?_, hb⟩
    rcases q with q | q
    · exact (hs' b q).1
    · obtain ⟨⟨inner, hown, _⟩, _⟩ := hr
      rcases hown.2 with ⟨rfl, _⟩ | ⟨g, cap, cur, rfl, hbg, hg, _⟩
      · cases q
      · simp [Value.ownBlock] at q
        subst q
        exact (Array.getElem?_eq_some_iff.1 hg).1
theorem txtC {u : List Int} {v : Value} {S : Nat → Prop} {w : World} (hu : u.length < 4398046511104) (hS : ∀ b, S b → b < w.heap.size) (h : RV0 w S (aI u) v) : Calls Tryz.prog 26 #[v] w fun e w' => e = .returned (.string (encB u)) ∧ Below w.heap.size w w' := by
  refine ((text u hu).2 w S [v] hS ⟨rfl, fun i a x h1 h2 => ?_⟩).mono ?_
  · match i, h1, h2 with
    | 0, h1, h2 =>
      obtain rfl := Option.some.inj h1
      obtain rfl := Option.some.inj h2
      exact h
  · rintro e w' ⟨x, S', rfl, hr, _, _, hb⟩
    cases hr
    exact ⟨rfl, hb⟩
def oneS (rp : Int) (s : Sg) : List Int := if s.has = true then decU s.u else [rp]
def encS (rp : Int) (l : List Sg) : List UInt8 := l.flatMap fun s => enc (oneS rp s)
def txtS (rp : Int) (l : List Sg) : ByteArray := ⟨(encS rp l).toArray⟩
theorem encS_len (rp : Int) : ∀ (l : List Sg), (∀ s ∈ l, s.u.length ≤ 1000000) → (encS rp l).length ≤ 4000004 * l.length
  | [], _ => by simp [encS]
  | s :: l, h => by
    have ih := encS_len rp l (fun x hx => h x (List.mem_cons_of_mem _ hx))
    have h1 := enc_len (oneS rp s)
    have h2 : (oneS rp s).length ≤ 1000001 := by
      unfold oneS
      have := decU_len s.u
      have := h s List.mem_cons_self
      split
      · omega
      · simp
    unfold encS at ih ⊢
    rw [List.flatMap_cons, List.length_append, List.length_cons]
    omega
theorem sgCells {w : World} {S : Nat → Prop} {l : List Sg} {v : Value} (h : RV0 w S (aG l) v) : ∃ A c, v = .slice A l.length c ∧ l.length ≤ c ∧ ∀ i, i < l.length → ∃ ad uv, A = some ad ∧ S ad.block ∧ RV0 w S (aI (l.getD i default).u) uv ∧ ∀ j x, ([.int .i64 (l.getD i default).p.at_, .int .i64 (l.getD i default).p.n, .bool (l.getD i default).p.full, .int .i64 (l.getD i default).p.cn, .int .i64 (l.getD i default).p.cv, .int .i64 (l.getD i default).kind, .int .i64 (l.getD i default).cid, uv, .bool (l.getD i default).has] : List Value)[j]? = some x → w.cell? (ad.add (i * 9 + j)) = some x := by
  generalize ha : aG l = a at h
  cases h with
  | sl sz n el A cap g hcap hmax hl hm hr =>
    unfold aG at ha
    injection ha with h1 h2 h3
    subst h1 h2 h3
    refine ⟨A, cap, rfl, hcap, fun i hi => ?_⟩
    obtain ⟨ad, e1, e2, _⟩ := hm i 0 hi (by omega)
    have hc : ∀ j, j < 9 → w.cell? (ad.add (i * 9 + j)) = some (g i j) := fun j hj => by
      obtain ⟨ad', q1, _, q3⟩ := hm i j hi hj
      rw [e1] at q1
      cases q1
      exact q3
    have r0 := hr i 0 _ hi rfl
    have r1 := hr i 1 _ hi rfl
    have r2 := hr i 2 _ hi rfl
    have r3 := hr i 3 _ hi rfl
    have r4 := hr i 4 _ hi rfl
    have r5 := hr i 5 _ hi rfl
    have r6 := hr i 6 _ hi rfl
    have r7 := hr i 7 _ hi rfl
    have r8 := hr i 8 _ hi rfl
    refine ⟨ad, g i 7, e1, e2, r7, fun j x hx => ?_⟩
    have hj : j < 9 := (List.getElem?_eq_some_iff.1 hx).1
    rw [hc j hj]
    have hj' : j = 0 ∨ j = 1 ∨ j = 2 ∨ j = 3 ∨ j = 4 ∨ j = 5 ∨ j = 6 ∨ j = 7 ∨ j = 8 := by omega
    clear hm hc hr
    rcases hj' with rfl | rfl | rfl | rfl | rfl | rfl | rfl | rfl | rfl
    all_goals obtain rfl := Option.some.inj hx
    · generalize g i 0 = y at r0; cases r0; rfl
    · generalize g i 1 = y at r1; cases r1; rfl
    · generalize g i 2 = y at r2; cases r2; rfl
    · generalize g i 3 = y at r3; cases r3; rfl
    · generalize g i 4 = y at r4; cases r4; rfl
    · generalize g i 5 = y at r5; cases r5; rfl
    · generalize g i 6 = y at r6; cases r6; rfl
    · rfl
    · generalize g i 8 = y at r8; cases r8; rfl
  | _ => exact absurd ha (by unfold aG; intro h; cases h)
theorem intRow1 {w : World} {b : Nat} {c : Nat} {x : Int} (hc : 1 ≤ c) (hm : c ≤ maxLen) (h : w.cell? ⟨b, 0, none⟩ = some (.int .i64 x)) : RV0 w (fun k => k = b) (aI [x]) (.slice (some ⟨b, 0, none⟩) 1 c) := by
  refine .sl 1 1 _ _ c (fun _ _ => .int .i64 x) hc hm (fun i hi => ⟨rfl, rfl⟩) (fun i j hi hj => ?_) (fun i j a hi h1 => ?_)
  · obtain rfl : i = 0 := by omega
    obtain rfl : j = 0 := by omega
    exact ⟨_, rfl, rfl, h⟩
  · obtain rfl : i = 0 := by omega
    cases j with
    | zero =>
      obtain rfl := Option.some.inj h1
      exact .int _ _
    | succ j => simp [els, ci] at h1
theorem b_alloc {B : Nat} {a w : World} (h : Below B a w) (hB : B ≤ a.heap.size) (o : Obj) : Below B a (w.alloc o) := h.alloc (Nat.le_trans hB h.size) o
theorem enc_one (rp : Int) (s : Sg) (h : s.u.length ≤ 1000000) : (encB (oneS rp s)).size ≤ 4000004 := by
  have h1 := enc_len (oneS rp s)
  have h2 : (oneS rp s).length ≤ 1000001 := by
    unfold oneS
    have := decU_len s.u
    split
    · omega
    · simp
  show (enc (oneS rp s)).toArray.size ≤ _
  rw [List.size_toArray]
  omega
theorem strCells_enc (l : List Int) : Lib.strCells (encB l) = Lib.byteCells (enc l) := rfl
theorem txtNew (rp : Int) (wr : World) (o1 : Obj) : Calls Tryz.prog 26 #[.slice (some ⟨wr.heap.size + 1, 0, none⟩) 1 1] ((wr.alloc o1).alloc (.cells #[.int .i64 rp] 3)) fun e w' => e = .returned (.string (encB [rp])) ∧ Below ((wr.alloc o1).alloc (.cells #[.int .i64 rp] 3)).heap.size ((wr.alloc o1).alloc (.cells #[.int .i64 rp] 3)) w' := by
  have hsz : (wr.alloc o1).heap.size = wr.heap.size + 1 := Array.size_push ..
  have hsz2 : ((wr.alloc o1).alloc (.cells #[.int .i64 rp] 3)).heap.size = wr.heap.size + 2 := (Array.size_push ..).trans (congrArg (· + 1) hsz)
  have hnew := heap_alloc_new (wr.alloc o1) (.cells #[.int .i64 rp] 3)
  rw [hsz] at hnew
  refine txtC (u := [rp]) (S := fun k => k = wr.heap.size + 1) (by show 1 < 4398046511104; omega) (fun b q => by rw [hsz2]; omega) (intRow1 (Nat.le_refl _) (by decide) ?_)
  unfold World.cell?
  rw [hnew]
  rfl
def STxtS : Sp := ⟨List Sg × Int, fun (l, rp) => l.length ≤ 1000000 ∧ ∀ s ∈ l, s.u.length ≤ 1000000, fun (l, rp) => [aG l, .int .i64 rp], fun (l, rp) => .st (.str (txtS rp l))⟩
end Go.Abs.Lk
set_option maxRecDepth 100000
namespace Go.Abs.Lk
open Go.RowKit Go.Proofs Go.Abs.Tab Go.Abs.Dest Go.Abs.Span Go.Abs.Coll Go.Abs.Hx Go.Abs.Mt Go.Abs.Utf Go.Abs.Txt
theorem aL_refl {α : Type} [Inhabited α] {f : α → List AV} {sz : Nat} (hf : Emb f sz) (l : List α) : sub0 (aL f sz l) (aL f sz l) := by
  show cond (Nat.beq sz sz) _ False
  rw [Nat.beq_refl]
  exact ⟨⟨rfl⟩, els_of hf (n := 0) (fun _ _ => rfl)⟩
theorem aL_lit {α : Type} [Inhabited α] {f : α → List AV} {sz : Nat} (hf : Emb f sz) (l : List α) : sub0 (aL f sz l) (.sl sz l.length (elt (l.map f))) := (lit_sub hf l).1
def SAwakeL : Sp := ⟨Unit, fun _ => True, fun _ => [], fun _ => .st (.lit true)⟩
def tL : Tbl := ⟨ByteArray.empty, 0, [⟨1, 0, 255⟩], [⟨1, 65, 66, 7⟩], [], [⟨1, 65, 65, [913]⟩]⟩
def SLookA (L : List Sg) : Sp := ⟨Unit, fun _ => True, fun _ => [.agg (cT tL), a8 [65, 66]], fun _ => .row 83 9 L.length (els cG L)⟩
theorem findS_nil (st : Bool) (n v : Int) : (ES st).find [] n v = none := by
  unfold En.find
  split <;> rfl
def SKinds : Sp := ⟨Tbl × Int × Int, fun _ => True, fun (t, n, v) => [.agg (cT t), aCode n v], fun _ => .st (.lit true)⟩
end Go.Abs.Lk
set_option maxRecDepth 100000
namespace Go.Abs.Lk
open Go.RowKit Go.Proofs Go.Abs.Tab Go.Abs.Dest Go.Abs.Span Go.Abs.Coll Go.Abs.Hx Go.Abs.Mt Go.Abs.Utf Go.Abs.Txt
theorem getG {l : List Sg} {i : Nat} (h : i < l.length) : l.getD i default = l[i] := by simp [List.getD, h]
theorem find_short {l : List Bf} {n v : Int} {a : List Int} (h : EB.find l n v = some a) : a.length ≤ 64 := by
  have hc : EB.canon l = true := by
    unfold En.find at h
    split at h
    · assumption
    · cases h
  have htab := (EB.canon_iff l).1 hc
  rw [EB.find_tab htab] at h
  obtain ⟨b, hb, ⟨h1, h2, h3⟩, rfl⟩ := Tb.get_mem _ h
  have r := rngB (htab.1 b hb)
  show (fur b.to (v - b.lo)).length ≤ 64
  rw [fur_len]
  omega
theorem sg_short (t : Tbl) (s : List Int) : ∀ x ∈ sgs t s, x.u.length ≤ 64 := by
  intro x hx
  obtain ⟨p, _, rfl⟩ := List.mem_map.1 hx
  unfold sgOf
  split
  · show ((EB.find t.bfs p.cn p.cv).getD []).length ≤ 64
    cases h : EB.find t.bfs p.cn p.cv with
    | none => exact Nat.zero_le _
    | some a => exact find_short h
  · exact Nat.zero_le _
theorem sgs_len (t : Tbl) (s : List Int) : (sgs t s).length ≤ s.length := by
  unfold sgs
  rw [List.length_map]
  exact allAt_len _ 0 rfl
theorem few_small {t : Tbl} (h : (!fewT t) = false) : smallT t := by
  have := (fewT_iff t).1 (by simpa using h)
  exact ⟨by omega, by omega, by omega, by omega⟩
theorem sgs_mode (t : Tbl) (name : ByteArray) (mode : Int) (s : List Int) : sgs ⟨name, mode, t.spaces, t.cids, t.nots, t.bfs⟩ s = sgs t s := rfl
def SModes : Sp := ⟨Tbl × List Int × ByteArray × Int, fun (t, s, nm, md) => B8 s, fun (t, s, nm, md) => [.agg (cT t), a8 s, .str nm, .int .i64 md], fun _ => .st (.lit true)⟩
end Go.Abs.Lk
set_option maxRecDepth 100000
namespace Go.Abs.Hx
open Go.RowKit Go.Proofs Go.Abs.Tab Go.Abs.Coll
set_option maxHeartbeats 4000000 in
theorem rval : SpOK Tryz.prog 102 SVal := fun (b : List Int) ⟨hl, h8⟩ => by
  have hC := base
  have hl : b.length < 4611686018427387904 := hl
  have hrng := valI_rng h8
  ((refine Fn.ofF hC Tryz.func102 Tryz.ntmps102 rfl rfl rfl ?_); (repeat' first | (with_reducible exact trivial) | (with_reducible rfl) | (refine And.intro ?_ ?_) | (refine Need.mk ?_) | exact True.intro | (first | (refine ⟨_, Told.refl _, ?_, ?_⟩) | (refine ⟨⟨_, _⟩, Told.refl _, ?_, ?_⟩) | (refine ⟨⟨_, _, _⟩, Told.refl _, ?_, ?_⟩) | (refine ⟨⟨_, _, _, _⟩, Told.refl _, ?_, ?_⟩) | (refine ⟨⟨_, _, _, _, _⟩, Told.refl _, ?_, ?_⟩) | (refine ⟨(), Told.refl _, ?_, ?_⟩)) | (with_reducible intro _) | (refine fun (_ : Bool) => ?_)))
  any_goals
    have h1 : b.length < 1 ∨ 4 < b.length := by ((try dsimp only at *); (try simp only [decide_eq_true_eq, decide_eq_false_iff_not, beq_iff_eq, bne_iff_ne, beq_eq_false_iff_ne, bne_eq_false_iff_eq, ne_eq, Decidable.not_not, ge_iff_le, gt_iff_lt, Bool.not_eq_true', Bool.not_eq_false', Int.not_lt, Int.not_le, Nat.not_lt, Nat.not_le] at *)); omega
    have hv : valOk b = false := decide_eq_false (by omega)
    first
      | (unfold valN; rw [hv]; rfl)
      | (unfold valV; rw [hv]; rfl)
      | (rw [hv]; done)
  have hlen : 1 ≤ b.length ∧ b.length ≤ 4 := by ((try dsimp only at *); (try simp only [decide_eq_true_eq, decide_eq_false_iff_not, beq_iff_eq, bne_iff_ne, beq_eq_false_iff_ne, bne_eq_false_iff_eq, ne_eq, Decidable.not_not, ge_iff_le, gt_iff_lt, Bool.not_eq_true', Bool.not_eq_false', Int.not_lt, Int.not_le, Nat.not_lt, Nat.not_le] at *)); omega
  have hv : valOk b = true := decide_eq_true hlen
  have e1 : valN b = b.length := if_pos hv
  have e2 : valV b = valI b := if_pos hv
  refine AW.loop (I := fun k : Nat => ⟨33, [(0, a8 b), (2, .ptr 0 0), (4, .int .i64 (valI (b.take k))), (5, .int .i64 k)], [.box 51 [.int .i64 0, .int .i64 0]]⟩) (fun k => k ≤ b.length) (fun k => b.length - k) 0 (Nat.zero_le _) ?_ ?_
  · (repeat' first | (with_reducible exact trivial) | (with_reducible rfl) | (refine And.intro ?_ ?_) | (refine Need.mk ?_) | exact True.intro | (first | (refine ⟨_, Told.refl _, ?_, ?_⟩) | (refine ⟨⟨_, _⟩, Told.refl _, ?_, ?_⟩) | (refine ⟨⟨_, _, _⟩, Told.refl _, ?_, ?_⟩) | (refine ⟨⟨_, _, _, _⟩, Told.refl _, ?_, ?_⟩) | (refine ⟨⟨_, _, _, _, _⟩, Told.refl _, ?_, ?_⟩) | (refine ⟨(), Told.refl _, ?_, ?_⟩)) | (with_reducible intro _) | (refine fun (_ : Bool) => ?_))
    all_goals rfl
  · intro k hk
    rcases Nat.lt_or_ge k b.length with hlt | hge
    · have hd : decide ((k : Int) < (b.length : Int)) = true := decide_eq_true (by omega)
      have hw := iw (n := (k : Int) + 1) (by omega) (by omega)
      have hg := h8.get k
      have hr := hrng k
      have hr2 : valI (b.take k) < 16777216 := by
        have hc : k = 0 ∨ k = 1 ∨ k = 2 ∨ k = 3 := by omega
        have h2 : (256 : Int) ^ k ≤ 16777216 := by rcases hc with rfl | rfl | rfl | rfl <;> decide
        omega
      have hnx := valI_next hlt
      ((refine AW.byF ‹_› ?_); (repeat' first | (with_reducible exact trivial) | (with_reducible rfl) | (refine And.intro ?_ ?_) | (refine Need.mk ?_) | exact True.intro | (first | (refine ⟨_, Told.refl _, ?_, ?_⟩) | (refine ⟨⟨_, _⟩, Told.refl _, ?_, ?_⟩) | (refine ⟨⟨_, _, _⟩, Told.refl _, ?_, ?_⟩) | (refine ⟨⟨_, _, _, _⟩, Told.refl _, ?_, ?_⟩) | (refine ⟨⟨_, _, _, _, _⟩, Told.refl _, ?_, ?_⟩) | (refine ⟨(), Told.refl _, ?_, ?_⟩)) | (with_reducible intro _) | (refine fun (_ : Bool) => ?_)))
      all_goals first | (exact absurd ‹decide ((k : Int) < (b.length : Int)) = false› (by rw [hd]; decide)) | skip
      any_goals (first | (refine Exists.intro ((k + 1 : Nat)) (And.intro ?_ (And.intro ?_ ?_)); all_goals (repeat' first | (with_reducible exact trivial) | (with_reducible rfl) | (refine And.intro ?_ ?_) | (refine Need.mk ?_) | exact True.intro | (first | (refine ⟨_, Told.refl _, ?_, ?_⟩) | (refine ⟨⟨_, _⟩, Told.refl _, ?_, ?_⟩) | (refine ⟨⟨_, _, _⟩, Told.refl _, ?_, ?_⟩) | (refine ⟨⟨_, _, _, _⟩, Told.refl _, ?_, ?_⟩) | (refine ⟨⟨_, _, _, _, _⟩, Told.refl _, ?_, ?_⟩) | (refine ⟨(), Told.refl _, ?_, ?_⟩)) | (with_reducible intro _) | (refine fun (_ : Bool) => ?_))) | fail)
      all_goals try simp only [Int.toNat_natCast] at *
      all_goals first
        | omega
        | (rw [hw]; omega)
        | (rw [hnx, iw (n := b.getD k default) (by omega) (by omega), iw (n := valI (b.take k) * 256) (by omega) (by omega), iw (by omega) (by omega)]; done)
    · obtain rfl : k = b.length := by omega
      have hd : decide ((b.length : Int) < (b.length : Int)) = false := decide_eq_false (by omega)
      ((refine AW.byF ‹_› ?_); (repeat' first | (with_reducible exact trivial) | (with_reducible rfl) | (refine And.intro ?_ ?_) | (refine Need.mk ?_) | exact True.intro | (first | (refine ⟨_, Told.refl _, ?_, ?_⟩) | (refine ⟨⟨_, _⟩, Told.refl _, ?_, ?_⟩) | (refine ⟨⟨_, _, _⟩, Told.refl _, ?_, ?_⟩) | (refine ⟨⟨_, _, _, _⟩, Told.refl _, ?_, ?_⟩) | (refine ⟨⟨_, _, _, _, _⟩, Told.refl _, ?_, ?_⟩) | (refine ⟨(), Told.refl _, ?_, ?_⟩)) | (with_reducible intro _) | (refine fun (_ : Bool) => ?_)))
      all_goals first | (exact absurd ‹decide ((b.length : Int) < (b.length : Int)) = true› (by rw [hd]; decide)) | skip
      all_goals first
        | exact e1.symm
        | (rw [e2, List.take_length]; done)
        | exact hv.symm
/-- The bytes behind a place; 0 ahead of it. -/
def bytesD (n v : Int) (m : Nat) : List Int := (List.range n.toNat).map (fun i => if i < m then 0 else byteAt v (n.toNat - 1 - i))
theorem bytesD_len (n v : Int) (m : Nat) : (bytesD n v m).length = n.toNat := by simp [bytesD]
theorem bytesD_all (n v : Int) : bytesD n v n.toNat = List.replicate n.toNat 0 := by
  refine List.ext_getElem (by simp [bytesD]) fun i h1 h2 => ?_
  rw [bytesD_len] at h1
  simp only [bytesD, List.getElem_map, List.getElem_range, if_pos h1, List.getElem_replicate]
theorem bytesD_set (n v : Int) (m : Nat) (hm : m < n.toNat) : (bytesD n v (m + 1)).set m (byteAt v (n.toNat - 1 - m)) = bytesD n v m := by
  refine List.ext_getElem (by simp [bytesD]) fun i h1 h2 => ?_
  rw [bytesD_len] at h2
  rw [List.getElem_set]
  simp only [bytesD, List.getElem_map, List.getElem_range]
  by_cases e : m = i
  · subst e
    simp
  · rw [if_neg e]
    by_cases q : i < m
    · rw [if_pos q, if_pos (by omega)]
    · rw [if_neg q, if_neg (by omega)]
/-- What is left of a value, so many bytes taken. -/
def rest (v : Int) (k : Nat) : Int := v / 256 ^ k
theorem rest_next (v : Int) (k : Nat) (h : 0 ≤ v) : rest v (k + 1) = (rest v k) / 256 := by
  unfold rest
  rw [Int.pow_succ, Int.ediv_ediv_of_nonneg (Int.pow_nonneg (by decide))]
theorem rest_rng {v : Int} (h : 0 ≤ v) (h2 : v < 4294967296) (k : Nat) : 0 ≤ rest v k ∧ rest v k < 4294967296 := by
  unfold rest
  exact ⟨Int.ediv_nonneg h (Int.pow_nonneg (by decide)), Int.lt_of_le_of_lt (Int.ediv_le_self _ h) h2⟩
set_option maxHeartbeats 4000000 in
theorem rbytes : SpOK Tryz.prog 157 SBytes := fun ⟨n, v⟩ _ => by
  have hC : COK Tryz.prog (cfg [(136, SSane)]) := Ty.ty.cfg ⟨refSane, trivial⟩
  ((refine Fn.ofF hC Tryz.func157 Tryz.ntmps157 rfl rfl rfl ?_); (repeat' first | (with_reducible exact trivial) | (with_reducible rfl) | (refine And.intro ?_ ?_) | (refine Need.mk ?_) | exact True.intro | (first | (refine ⟨_, Told.refl _, ?_, ?_⟩) | (refine ⟨⟨_, _⟩, Told.refl _, ?_, ?_⟩) | (refine ⟨⟨_, _, _⟩, Told.refl _, ?_, ?_⟩) | (refine ⟨⟨_, _, _, _⟩, Told.refl _, ?_, ?_⟩) | (refine ⟨⟨_, _, _, _, _⟩, Told.refl _, ?_, ?_⟩) | (refine ⟨(), Told.refl _, ?_, ?_⟩)) | (with_reducible intro _) | (refine fun (_ : Bool) => ?_)))
  · have hs : ¬ saneC n v = true := by simpa using ‹(!saneC n v) = true›
    rw [bytesC_len, if_neg hs]
  all_goals
    have hs : saneC n v = true := by simpa using ‹(!saneC n v) = false›
    have hn := (saneC_iff n v).1 hs
    have hn : (1 ≤ n ∧ n ≤ 4) ∧ 0 ≤ v ∧ v < 4294967296 := by omega
  · omega
  · omega
  · show (1 : Int) * n ≤ 281474976710656
    omega
  have e1 : bytesC n v = bytesD n v 0 := by
    unfold bytesC bytesD
    rw [if_pos hs]
    simp
  have hw1 := iw (n := n - 1) (by omega) (by omega)
  refine AW.loop (I := fun k : Nat => ⟨30, [(1, .ptr 0 0), (3, .own 1), (4, .int .i64 (rest v k)), (5, .int .i64 (n - 1 - k))], [.box 51 [.int .i64 n, .int .i64 v], .row 5 1 n.toNat (els c8 (bytesD n v (n.toNat - k)))]⟩) (fun k => (k : Int) ≤ n) (fun k => n.toNat - k) 0 (by show ((0 : Nat) : Int) ≤ n; omega) ?_ ?_
  · (repeat' first | (with_reducible exact trivial) | (with_reducible rfl) | (refine And.intro ?_ ?_) | (refine Need.mk ?_) | exact True.intro | (first | (refine ⟨_, Told.refl _, ?_, ?_⟩) | (refine ⟨⟨_, _⟩, Told.refl _, ?_, ?_⟩) | (refine ⟨⟨_, _, _⟩, Told.refl _, ?_, ?_⟩) | (refine ⟨⟨_, _, _, _⟩, Told.refl _, ?_, ?_⟩) | (refine ⟨⟨_, _, _, _, _⟩, Told.refl _, ?_, ?_⟩) | (refine ⟨(), Told.refl _, ?_, ?_⟩)) | (with_reducible intro _) | (refine fun (_ : Bool) => ?_))
    all_goals first
      | rfl
      | (rw [hw1]; show n - 1 = n - 1 - ((0 : Nat) : Int); omega)
      | (show v = v / 256 ^ 0; simp; done)
      | (rename_i i hi
         have e : bytesD n v (n.toNat - 0) = List.replicate n.toNat 0 := bytesD_all n v
         have e2 : (bytesD n v (n.toNat - 0)).getD i default = 0 := by
           rw [e]
           simp [List.getD, hi]
         show _ = (bytesD n v (n.toNat - 0)).getD i default
         rw [e2])
  · intro k hk
    rcases Int.lt_or_le k n with hlt | hge
    · have hd : decide (n - 1 - (k : Int) ≥ 0) = true := decide_eq_true (by omega)
      have hw := iw (n := n - 1 - (k : Int) - 1) (by omega) (by omega)
      have hk2 : n - 1 - (k : Int) = ((n.toNat - 1 - k : Nat) : Int) := by omega
      have hrr := rest_rng hn.2.1 hn.2.2 k
      have hrn := rest_next v k hn.2.1
      have hq : IntKind.i64.wrap ((rest v k).tdiv 256) = rest v (k + 1) := by
        rw [Int.tdiv_eq_ediv_of_nonneg hrr.1, iw (by omega) (by omega), hrn]
      have hm : IntKind.u8.wrap ((rest v k).tmod 256) = byteAt v k := by
        rw [Int.tmod_eq_emod_of_nonneg hrr.1, IntKind.wrap_u8]
        show rest v k % 256 % 256 = rest v k % 256
        omega
      have hset := bytesD_set n v (n.toNat - 1 - k) (by omega)
      rw [show n.toNat - 1 - k + 1 = n.toNat - k by omega, show n.toNat - 1 - (n.toNat - 1 - k) = k by omega] at hset
      have hix : (n - 1 - (k : Int)).toNat = n.toNat - 1 - k := by omega
      ((refine AW.byF ‹_› ?_); (repeat' first | (with_reducible exact trivial) | (with_reducible rfl) | (refine And.intro ?_ ?_) | (refine Need.mk ?_) | exact True.intro | (first | (refine ⟨_, Told.refl _, ?_, ?_⟩) | (refine ⟨⟨_, _⟩, Told.refl _, ?_, ?_⟩) | (refine ⟨⟨_, _, _⟩, Told.refl _, ?_, ?_⟩) | (refine ⟨⟨_, _, _, _⟩, Told.refl _, ?_, ?_⟩) | (refine ⟨⟨_, _, _, _, _⟩, Told.refl _, ?_, ?_⟩) | (refine ⟨(), Told.refl _, ?_, ?_⟩)) | (with_reducible intro _) | (refine fun (_ : Bool) => ?_)))
      all_goals first | (exact absurd ‹decide (n - 1 - (k : Int) ≥ 0) = false› (by rw [hd]; decide)) | skip
      any_goals (first | (refine Exists.intro ((k + 1 : Nat)) (And.intro ?_ (And.intro ?_ ?_)); all_goals (repeat' first | (with_reducible exact trivial) | (with_reducible rfl) | (refine And.intro ?_ ?_) | (refine Need.mk ?_) | exact True.intro | (first | (refine ⟨_, Told.refl _, ?_, ?_⟩) | (refine ⟨⟨_, _⟩, Told.refl _, ?_, ?_⟩) | (refine ⟨⟨_, _, _⟩, Told.refl _, ?_, ?_⟩) | (refine ⟨⟨_, _, _, _⟩, Told.refl _, ?_, ?_⟩) | (refine ⟨⟨_, _, _, _, _⟩, Told.refl _, ?_, ?_⟩) | (refine ⟨(), Told.refl _, ?_, ?_⟩)) | (with_reducible intro _) | (refine fun (_ : Bool) => ?_))) | fail)
      all_goals first
        | omega
        | (show (256 : Int) ≠ 0; decide)
        | exact hq
        | (rw [hw]; omega)
        | (show _ = n - 1 - ((k + 1 : Nat) : Int); rw [hw]; omega)
        | (rename_i i hi
           rw [hm, hix]
           have hp := put_set (f := c8) (l := bytesD n v (n.toNat - k)) (k := n.toNat - 1 - k) (x := byteAt v k) (by rw [bytesD_len]; omega)
           rw [hset, show n.toNat - 1 - k = n.toNat - (k + 1) by omega] at hp
           refine els_of c8_emb (n := 0) (fun j hj => ?_) i (by rw [bytesD_len]; exact hi)
           rw [show n.toNat - 1 - k = n.toNat - (k + 1) by omega]
           exact hp j hj)
    · obtain rfl : n = (k : Int) := by omega
      have hd : decide ((k : Int) - 1 - (k : Int) ≥ 0) = false := decide_eq_false (by omega)
      ((refine AW.byF ‹_› ?_); (repeat' first | (with_reducible exact trivial) | (with_reducible rfl) | (refine And.intro ?_ ?_) | (refine Need.mk ?_) | exact True.intro | (first | (refine ⟨_, Told.refl _, ?_, ?_⟩) | (refine ⟨⟨_, _⟩, Told.refl _, ?_, ?_⟩) | (refine ⟨⟨_, _, _⟩, Told.refl _, ?_, ?_⟩) | (refine ⟨⟨_, _, _, _⟩, Told.refl _, ?_, ?_⟩) | (refine ⟨⟨_, _, _, _, _⟩, Told.refl _, ?_, ?_⟩) | (refine ⟨(), Told.refl _, ?_, ?_⟩)) | (with_reducible intro _) | (refine fun (_ : Bool) => ?_)))
      all_goals first | (exact absurd ‹decide ((k : Int) - 1 - (k : Int) ≥ 0) = true› (by rw [hd]; decide)) | skip
      all_goals first
        | (rw [e1, bytesD_len]; done)
        | (rw [e1, show ((k : Int).toNat - k) = 0 by omega]; done)
end Go.Abs.Hx
set_option maxRecDepth 100000
namespace Go.Abs.Hx
open Go.RowKit Go.Proofs Go.Abs.Tab Go.Abs.Coll
def SLo : Sp := ⟨Rct, fun _ => True, fun r => [.agg (cR r)], fun r => .row 5 1 (lo r).length (els c8 (lo r))⟩
def SHi : Sp := ⟨Rct, fun _ => True, fun r => [.agg (cR r)], fun r => .row 5 1 (hi r).length (els c8 (hi r))⟩
theorem rlows : SpOK Tryz.prog 132 SLo := fun (r : Rct) _ => by
  have hC : COK Tryz.prog (cfg [(157, SBytes)]) := Ty.ty.cfg ⟨rbytes, trivial⟩
  ((refine Fn.ofF hC Tryz.func132 Tryz.ntmps132 rfl rfl rfl ?_); (repeat' first | (with_reducible exact trivial) | (with_reducible rfl) | (refine And.intro ?_ ?_) | (refine Need.mk ?_) | exact True.intro | (first | (refine ⟨_, Told.refl _, ?_, ?_⟩) | (refine ⟨⟨_, _⟩, Told.refl _, ?_, ?_⟩) | (refine ⟨⟨_, _, _⟩, Told.refl _, ?_, ?_⟩) | (refine ⟨⟨_, _, _, _⟩, Told.refl _, ?_, ?_⟩) | (refine ⟨⟨_, _, _, _, _⟩, Told.refl _, ?_, ?_⟩) | (refine ⟨(), Told.refl _, ?_, ?_⟩)) | (with_reducible intro _) | (refine fun (_ : Bool) => ?_)))
  all_goals rfl
theorem rhighs : SpOK Tryz.prog 133 SHi := fun (r : Rct) _ => by
  have hC : COK Tryz.prog (cfg [(157, SBytes)]) := Ty.ty.cfg ⟨rbytes, trivial⟩
  ((refine Fn.ofF hC Tryz.func133 Tryz.ntmps133 rfl rfl rfl ?_); (repeat' first | (with_reducible exact trivial) | (with_reducible rfl) | (refine And.intro ?_ ?_) | (refine Need.mk ?_) | exact True.intro | (first | (refine ⟨_, Told.refl _, ?_, ?_⟩) | (refine ⟨⟨_, _⟩, Told.refl _, ?_, ?_⟩) | (refine ⟨⟨_, _, _⟩, Told.refl _, ?_, ?_⟩) | (refine ⟨⟨_, _, _, _⟩, Told.refl _, ?_, ?_⟩) | (refine ⟨⟨_, _, _, _, _⟩, Told.refl _, ?_, ?_⟩) | (refine ⟨(), Told.refl _, ?_, ?_⟩)) | (with_reducible intro _) | (refine fun (_ : Bool) => ?_)))
  all_goals rfl
set_option maxHeartbeats 4000000 in
theorem rsaneR : SpOK Tryz.prog 94 SRS := fun (r : Rct) _ => by
  have hC : COK Tryz.prog (cfg [(132, SLo), (133, SHi)]) := Ty.ty.cfg ⟨rlows, rhighs, trivial⟩
  have hl := lo_len r
  ((refine Fn.ofF hC Tryz.func94 Tryz.ntmps94 rfl rfl rfl ?_); (repeat' first | (with_reducible exact trivial) | (with_reducible rfl) | (refine And.intro ?_ ?_) | (refine Need.mk ?_) | exact True.intro | (first | (refine ⟨_, Told.refl _, ?_, ?_⟩) | (refine ⟨⟨_, _⟩, Told.refl _, ?_, ?_⟩) | (refine ⟨⟨_, _, _⟩, Told.refl _, ?_, ?_⟩) | (refine ⟨⟨_, _, _, _⟩, Told.refl _, ?_, ?_⟩) | (refine ⟨⟨_, _, _, _, _⟩, Told.refl _, ?_, ?_⟩) | (refine ⟨(), Told.refl _, ?_, ?_⟩)) | (with_reducible intro _) | (refine fun (_ : Bool) => ?_)))
  any_goals
    have hb : (lo r).length = 0 ∨ (hi r).length = 0 := by ((try dsimp only at *); (try simp only [decide_eq_true_eq, decide_eq_false_iff_not, beq_iff_eq, bne_iff_ne, beq_eq_false_iff_ne, bne_eq_false_iff_eq, ne_eq, Decidable.not_not, ge_iff_le, gt_iff_lt, Bool.not_eq_true', Bool.not_eq_false', Int.not_lt, Int.not_le, Nat.not_lt, Nat.not_le] at *)); omega
    exact (decide_eq_false (by omega)).symm
  have h1 : 1 ≤ (lo r).length := by ((try dsimp only at *); (try simp only [decide_eq_true_eq, decide_eq_false_iff_not, beq_iff_eq, bne_iff_ne, beq_eq_false_iff_ne, bne_eq_false_iff_eq, ne_eq, Decidable.not_not, ge_iff_le, gt_iff_lt, Bool.not_eq_true', Bool.not_eq_false', Int.not_lt, Int.not_le, Nat.not_lt, Nat.not_le] at *)); omega
  have h2 : 1 ≤ (hi r).length := by ((try dsimp only at *); (try simp only [decide_eq_true_eq, decide_eq_false_iff_not, beq_iff_eq, bne_iff_ne, beq_eq_false_iff_ne, bne_eq_false_iff_eq, ne_eq, Decidable.not_not, ge_iff_le, gt_iff_lt, Bool.not_eq_true', Bool.not_eq_false', Int.not_lt, Int.not_le, Nat.not_lt, Nat.not_le] at *)); omega
  obtain ⟨hle, hln⟩ := len_eq r h1 h2
  refine AW.loop (I := fun k : Nat => ⟨33, [(1, .ptr 0 0), (3, .own 1), (4, .own 2), (5, .int .i64 k)], [.box 113 (cR r), .row 5 1 (lo r).length (els c8 (lo r)), .row 5 1 (hi r).length (els c8 (hi r))]⟩) (fun k => k ≤ (lo r).length ∧ ∀ j, j < k → (lo r).getD j default ≤ (hi r).getD j default) (fun k => (lo r).length - k) 0 ⟨Nat.zero_le _, fun j hj => by omega⟩ ?_ ?_
  · (repeat' first | (with_reducible exact trivial) | (with_reducible rfl) | (refine And.intro ?_ ?_) | (refine Need.mk ?_) | exact True.intro | (first | (refine ⟨_, Told.refl _, ?_, ?_⟩) | (refine ⟨⟨_, _⟩, Told.refl _, ?_, ?_⟩) | (refine ⟨⟨_, _, _⟩, Told.refl _, ?_, ?_⟩) | (refine ⟨⟨_, _, _, _⟩, Told.refl _, ?_, ?_⟩) | (refine ⟨⟨_, _, _, _, _⟩, Told.refl _, ?_, ?_⟩) | (refine ⟨(), Told.refl _, ?_, ?_⟩)) | (with_reducible intro _) | (refine fun (_ : Bool) => ?_))
    all_goals first | rfl
  · intro k ⟨hk, hok⟩
    rcases Nat.lt_or_ge k (lo r).length with hlt | hge
    · have hd : decide ((k : Int) < ((lo r).length : Int)) = true := decide_eq_true (by omega)
      have hw := iw (n := (k : Int) + 1) (by omega) (by omega)
      ((refine AW.byF ‹_› ?_); (repeat' first | (with_reducible exact trivial) | (with_reducible rfl) | (refine And.intro ?_ ?_) | (refine Need.mk ?_) | exact True.intro | (first | (refine ⟨_, Told.refl _, ?_, ?_⟩) | (refine ⟨⟨_, _⟩, Told.refl _, ?_, ?_⟩) | (refine ⟨⟨_, _, _⟩, Told.refl _, ?_, ?_⟩) | (refine ⟨⟨_, _, _, _⟩, Told.refl _, ?_, ?_⟩) | (refine ⟨⟨_, _, _, _, _⟩, Told.refl _, ?_, ?_⟩) | (refine ⟨(), Told.refl _, ?_, ?_⟩)) | (with_reducible intro _) | (refine fun (_ : Bool) => ?_)))
      all_goals first | (exact absurd ‹decide ((k : Int) < ((lo r).length : Int)) = false› (by rw [hd]; decide)) | skip
      any_goals (first | (refine Exists.intro ((k + 1 : Nat)) (And.intro ?_ (And.intro ?_ ?_)); all_goals (repeat' first | (with_reducible exact trivial) | (with_reducible rfl) | (refine And.intro ?_ ?_) | (refine Need.mk ?_) | exact True.intro | (first | (refine ⟨_, Told.refl _, ?_, ?_⟩) | (refine ⟨⟨_, _⟩, Told.refl _, ?_, ?_⟩) | (refine ⟨⟨_, _, _⟩, Told.refl _, ?_, ?_⟩) | (refine ⟨⟨_, _, _, _⟩, Told.refl _, ?_, ?_⟩) | (refine ⟨⟨_, _, _, _, _⟩, Told.refl _, ?_, ?_⟩) | (refine ⟨(), Told.refl _, ?_, ?_⟩)) | (with_reducible intro _) | (refine fun (_ : Bool) => ?_))) | fail)
      all_goals try simp only [Int.toNat_natCast] at *
      all_goals first
        | omega
        | (rw [hw]; rfl)
        | (have q := of_decide_eq_true ‹decide ((lo r).getD k default > (hi r).getD k default) = true›
           exact (decide_eq_false (fun h => by have := h.2.2 k hlt; omega)).symm)
        | (have q := of_decide_eq_false ‹decide ((lo r).getD k default > (hi r).getD k default) = false›
           rename_i j hj
           by_cases e : j = k
           · rw [e]; omega
           · exact hok j (by omega))
    · obtain rfl : k = (lo r).length := by omega
      have hd : decide (((lo r).length : Int) < ((lo r).length : Int)) = false := decide_eq_false (by omega)
      have ho : okR r = true := decide_eq_true ⟨h1, h2, hok⟩
      ((refine AW.byF ‹_› ?_); (repeat' first | (with_reducible exact trivial) | (with_reducible rfl) | (refine And.intro ?_ ?_) | (refine Need.mk ?_) | exact True.intro | (first | (refine ⟨_, Told.refl _, ?_, ?_⟩) | (refine ⟨⟨_, _⟩, Told.refl _, ?_, ?_⟩) | (refine ⟨⟨_, _, _⟩, Told.refl _, ?_, ?_⟩) | (refine ⟨⟨_, _, _, _⟩, Told.refl _, ?_, ?_⟩) | (refine ⟨⟨_, _, _, _, _⟩, Told.refl _, ?_, ?_⟩) | (refine ⟨(), Told.refl _, ?_, ?_⟩)) | (with_reducible intro _) | (refine fun (_ : Bool) => ?_)))
      all_goals first | (exact absurd ‹decide (((lo r).length : Int) < ((lo r).length : Int)) = true› (by rw [hd]; decide)) | skip
      all_goals exact ho.symm
set_option maxHeartbeats 8000000 in
theorem rfitsR : SpOK Tryz.prog 140 SFits := fun ⟨r, b⟩ hl => by
  have hC : COK Tryz.prog (cfg [(94, SRS), (132, SLo), (133, SHi)]) := Ty.ty.cfg ⟨rsaneR, rlows, rhighs, trivial⟩
  have hl : b.length < 4611686018427387904 := hl
  ((refine Fn.ofF hC Tryz.func140 Tryz.ntmps140 rfl rfl rfl ?_); (repeat' first | (with_reducible exact trivial) | (with_reducible rfl) | (refine And.intro ?_ ?_) | (refine Need.mk ?_) | exact True.intro | (first | (refine ⟨_, Told.refl _, ?_, ?_⟩) | (refine ⟨⟨_, _⟩, Told.refl _, ?_, ?_⟩) | (refine ⟨⟨_, _, _⟩, Told.refl _, ?_, ?_⟩) | (refine ⟨⟨_, _, _, _⟩, Told.refl _, ?_, ?_⟩) | (refine ⟨⟨_, _, _, _, _⟩, Told.refl _, ?_, ?_⟩) | (refine ⟨(), Told.refl _, ?_, ?_⟩)) | (with_reducible intro _) | (refine fun (_ : Bool) => ?_)))
  · have hb : okR r = false := by simpa using ‹(!okR r) = true›
    have : fits r b = 0 := if_neg (by rw [hb]; decide)
    rw [this]
    rfl
  have ho : okR r = true := by simpa using ‹(!okR r) = false›
  have hr := ok_len ho
  obtain ⟨M, hM⟩ : ∃ M, M = min b.length r.n.toNat := ⟨_, rfl⟩
  have ef : fits r b = fitTo r b M 0 := by rw [hM]; exact if_pos ho
  have hMl : M ≤ b.length ∧ (M : Int) ≤ r.n := by omega
  refine AW.loop (I := fun k : Nat => ⟨50, [(1, a8 b), (2, .ptr 0 0), (5, .own 1), (6, .own 2), (7, .int .i64 k)], [.box 113 (cR r), .row 5 1 (lo r).length (els c8 (lo r)), .row 5 1 (hi r).length (els c8 (hi r))]⟩) (fun k => k ≤ M ∧ ∀ j, j < k → inK r b j = true) (fun k => M - k) 0 ⟨Nat.zero_le _, fun j hj => by omega⟩ ?_ ?_
  · (repeat' first | (with_reducible exact trivial) | (with_reducible rfl) | (refine And.intro ?_ ?_) | (refine Need.mk ?_) | exact True.intro | (first | (refine ⟨_, Told.refl _, ?_, ?_⟩) | (refine ⟨⟨_, _⟩, Told.refl _, ?_, ?_⟩) | (refine ⟨⟨_, _, _⟩, Told.refl _, ?_, ?_⟩) | (refine ⟨⟨_, _, _, _⟩, Told.refl _, ?_, ?_⟩) | (refine ⟨⟨_, _, _, _, _⟩, Told.refl _, ?_, ?_⟩) | (refine ⟨(), Told.refl _, ?_, ?_⟩)) | (with_reducible intro _) | (refine fun (_ : Bool) => ?_))
    all_goals first | rfl
  · intro k ⟨hk, hok⟩
    rcases Nat.lt_or_ge k M with hlt | hge
    · have hd : decide ((k : Int) < (b.length : Int)) = true := decide_eq_true (by omega)
      have hd2 : decide ((k : Int) < r.n) = true := decide_eq_true (by omega)
      have hw := iw (n := (k : Int) + 1) (by omega) (by omega)
      ((refine AW.byF ‹_› ?_); (repeat' first | (with_reducible exact trivial) | (with_reducible rfl) | (refine And.intro ?_ ?_) | (refine Need.mk ?_) | exact True.intro | (first | (refine ⟨_, Told.refl _, ?_, ?_⟩) | (refine ⟨⟨_, _⟩, Told.refl _, ?_, ?_⟩) | (refine ⟨⟨_, _, _⟩, Told.refl _, ?_, ?_⟩) | (refine ⟨⟨_, _, _, _⟩, Told.refl _, ?_, ?_⟩) | (refine ⟨⟨_, _, _, _, _⟩, Told.refl _, ?_, ?_⟩) | (refine ⟨(), Told.refl _, ?_, ?_⟩)) | (with_reducible intro _) | (refine fun (_ : Bool) => ?_)))
      all_goals first | (exact absurd ‹decide ((k : Int) < (b.length : Int)) = false› (by rw [hd]; decide)) | (exact absurd ‹decide ((k : Int) < r.n) = false› (by rw [hd2]; decide)) | skip
      any_goals (first | (refine Exists.intro ((k + 1 : Nat)) (And.intro ?_ (And.intro ?_ ?_)); all_goals (repeat' first | (with_reducible exact trivial) | (with_reducible rfl) | (refine And.intro ?_ ?_) | (refine Need.mk ?_) | exact True.intro | (first | (refine ⟨_, Told.refl _, ?_, ?_⟩) | (refine ⟨⟨_, _⟩, Told.refl _, ?_, ?_⟩) | (refine ⟨⟨_, _, _⟩, Told.refl _, ?_, ?_⟩) | (refine ⟨⟨_, _, _, _⟩, Told.refl _, ?_, ?_⟩) | (refine ⟨⟨_, _, _, _, _⟩, Told.refl _, ?_, ?_⟩) | (refine ⟨(), Told.refl _, ?_, ?_⟩)) | (with_reducible intro _) | (refine fun (_ : Bool) => ?_))) | fail)
      all_goals try simp only [Int.toNat_natCast] at *
      all_goals first
        | omega
        | (rw [hw]; rfl)
        | (have q := of_decide_eq_false ‹decide (b.getD k default ≥ (lo r).getD k default) = false›
           rw [ef, fitTo_stop hlt hok (decide_eq_false (by omega))]
           done)
        | (have q := of_decide_eq_false ‹decide (b.getD k default ≤ (hi r).getD k default) = false›
           rw [ef, fitTo_stop hlt hok (decide_eq_false (by omega))]
           done)
        | (have q := of_decide_eq_true ‹decide (b.getD k default ≥ (lo r).getD k default) = true›
           have q2 := of_decide_eq_true ‹decide (b.getD k default ≤ (hi r).getD k default) = true›
           rename_i j hj
           by_cases e : j = k
           · rw [e]; exact decide_eq_true (by omega)
           · exact hok j (by omega))
    · obtain rfl : k = M := by omega
      have ef2 := ef.trans (fitTo_all hok)
      ((refine AW.byF ‹_› ?_); (repeat' first | (with_reducible exact trivial) | (with_reducible rfl) | (refine And.intro ?_ ?_) | (refine Need.mk ?_) | exact True.intro | (first | (refine ⟨_, Told.refl _, ?_, ?_⟩) | (refine ⟨⟨_, _⟩, Told.refl _, ?_, ?_⟩) | (refine ⟨⟨_, _, _⟩, Told.refl _, ?_, ?_⟩) | (refine ⟨⟨_, _, _, _⟩, Told.refl _, ?_, ?_⟩) | (refine ⟨⟨_, _, _, _, _⟩, Told.refl _, ?_, ?_⟩) | (refine ⟨(), Told.refl _, ?_, ?_⟩)) | (with_reducible intro _) | (refine fun (_ : Bool) => ?_)))
      all_goals first
        | (exfalso
           have q := of_decide_eq_true ‹decide ((k : Int) < (b.length : Int)) = true›
           have q2 := of_decide_eq_true ‹decide ((k : Int) < r.n) = true›
           omega)
        | (rw [ef2]; done)
theorem rinR : SpOK Tryz.prog 159 SIn := fun ⟨r, n, v⟩ _ => by
  have hC : COK Tryz.prog (cfg [(94, SRS), (136, SSane), (157, SBytes), (140, SFits)]) := Ty.ty.cfg ⟨rsaneR, refSane, rbytes, rfitsR, trivial⟩
  have hbl : (bytesC n v).length < 4611686018427387904 := by
    rw [bytesC_len]
    split
    · rename_i h
      have := (saneC_iff n v).1 h
      omega
    · omega
  have hi : inR r n v = (okR r && saneC n v && (n == r.n) && ((fits r (bytesC n v) : Int) == r.n)) := rfl
  ((refine Fn.ofF hC Tryz.func159 Tryz.ntmps159 rfl rfl rfl ?_); (repeat' first | (with_reducible exact trivial) | (with_reducible rfl) | (refine And.intro ?_ ?_) | (refine Need.mk ?_) | exact True.intro | (first | (refine ⟨_, Told.refl _, ?_, ?_⟩) | (refine ⟨⟨_, _⟩, Told.refl _, ?_, ?_⟩) | (refine ⟨⟨_, _, _⟩, Told.refl _, ?_, ?_⟩) | (refine ⟨⟨_, _, _, _⟩, Told.refl _, ?_, ?_⟩) | (refine ⟨⟨_, _, _, _, _⟩, Told.refl _, ?_, ?_⟩) | (refine ⟨(), Told.refl _, ?_, ?_⟩)) | (with_reducible intro _) | (refine fun (_ : Bool) => ?_)))
  all_goals first
    | exact hbl
    | (rw [hi]; simp_all; done)
end Go.Abs.Hx
set_option maxRecDepth 100000
namespace Go.Abs.Mt
open Go.RowKit Go.Proofs Go.Abs.Tab Go.Abs.Coll Go.Abs.Hx
theorem anyR_yes {l : List Rct} {n v : Int} {k : Nat} (hk : k < l.length) (h : inR (l.getD k default) n v = true) : anyR l n v = true := by
  rw [getR hk] at h
  exact List.any_eq_true.2 ⟨_, List.getElem_mem hk, h⟩
theorem anyR_no {l : List Rct} {n v : Int} (h : ∀ j, j < l.length → inR (l.getD j default) n v = false) : anyR l n v = false := by
  unfold anyR
  rw [List.any_eq_false]
  intro x hx
  obtain ⟨j, hj, rfl⟩ := List.getElem_of_mem hx
  have := h j hj
  rw [getR hj] at this
  rw [this]
  decide
set_option maxHeartbeats 8000000 in
theorem rin : SpOK Tryz.prog 139 SFull := fun ⟨l, b⟩ ⟨h1, h2, h3⟩ => by
  have hC : COK Tryz.prog (cfg [(102, SVal), (159, SIn)]) := Ty.ty.cfg ⟨rval, rinR, trivial⟩
  have h1 : l.length < 4611686018427387904 := h1
  have hf : fullB l b = (valOk b && anyR l (valN b) (valV b)) := rfl
  ((refine Fn.ofF hC Tryz.func139 Tryz.ntmps139 rfl rfl rfl ?_); (repeat' first | (with_reducible exact trivial) | (with_reducible rfl) | (refine And.intro ?_ ?_) | (refine Need.mk ?_) | exact True.intro | (first | (refine ⟨_, Told.refl _, ?_, ?_⟩) | (refine ⟨⟨_, _⟩, Told.refl _, ?_, ?_⟩) | (refine ⟨⟨_, _, _⟩, Told.refl _, ?_, ?_⟩) | (refine ⟨⟨_, _, _, _⟩, Told.refl _, ?_, ?_⟩) | (refine ⟨⟨_, _, _, _, _⟩, Told.refl _, ?_, ?_⟩) | (refine ⟨(), Told.refl _, ?_, ?_⟩)) | (with_reducible intro _) | (refine fun (_ : Bool) => ?_)))
  · exact h2
  · exact h3
  refine AW.loop (I := fun k : Nat => ⟨28, [(0, aR l), (5, .ptr 0 0), (6, .sb (valOk b)), (7, .int .i64 k)], [.box 51 [.int .i64 (valN b), .int .i64 (valV b)]]⟩) (fun k => k ≤ l.length ∧ ∀ j, j < k → inR (l.getD j default) (valN b) (valV b) = false) (fun k => l.length - k) 0 ⟨Nat.zero_le _, fun j hj => by omega⟩ ?_ ?_
  · (repeat' first | (with_reducible exact trivial) | (with_reducible rfl) | (refine And.intro ?_ ?_) | (refine Need.mk ?_) | exact True.intro | (first | (refine ⟨_, Told.refl _, ?_, ?_⟩) | (refine ⟨⟨_, _⟩, Told.refl _, ?_, ?_⟩) | (refine ⟨⟨_, _, _⟩, Told.refl _, ?_, ?_⟩) | (refine ⟨⟨_, _, _, _⟩, Told.refl _, ?_, ?_⟩) | (refine ⟨⟨_, _, _, _, _⟩, Told.refl _, ?_, ?_⟩) | (refine ⟨(), Told.refl _, ?_, ?_⟩)) | (with_reducible intro _) | (refine fun (_ : Bool) => ?_))
    all_goals first | rfl
  · intro k ⟨hk, hok⟩
    rcases Nat.lt_or_ge k l.length with hlt | hge
    · have hd : decide ((k : Int) < (l.length : Int)) = true := decide_eq_true (by omega)
      have hw := iw (n := (k : Int) + 1) (by omega) (by omega)
      ((refine AW.byF ‹_› ?_); (repeat' first | (with_reducible exact trivial) | (with_reducible rfl) | (refine And.intro ?_ ?_) | (refine Need.mk ?_) | exact True.intro | (first | (refine ⟨_, Told.refl _, ?_, ?_⟩) | (refine ⟨⟨_, _⟩, Told.refl _, ?_, ?_⟩) | (refine ⟨⟨_, _, _⟩, Told.refl _, ?_, ?_⟩) | (refine ⟨⟨_, _, _, _⟩, Told.refl _, ?_, ?_⟩) | (refine ⟨⟨_, _, _, _, _⟩, Told.refl _, ?_, ?_⟩) | (refine ⟨(), Told.refl _, ?_, ?_⟩)) | (with_reducible intro _) | (refine fun (_ : Bool) => ?_)))
      all_goals first | (exact absurd ‹decide ((k : Int) < (l.length : Int)) = false› (by rw [hd]; decide)) | skip
      any_goals (first | (refine Exists.intro ((k + 1 : Nat)) (And.intro ?_ (And.intro ?_ ?_)); all_goals (repeat' first | (with_reducible exact trivial) | (with_reducible rfl) | (refine And.intro ?_ ?_) | (refine Need.mk ?_) | exact True.intro | (first | (refine ⟨_, Told.refl _, ?_, ?_⟩) | (refine ⟨⟨_, _⟩, Told.refl _, ?_, ?_⟩) | (refine ⟨⟨_, _, _⟩, Told.refl _, ?_, ?_⟩) | (refine ⟨⟨_, _, _, _⟩, Told.refl _, ?_, ?_⟩) | (refine ⟨⟨_, _, _, _, _⟩, Told.refl _, ?_, ?_⟩) | (refine ⟨(), Told.refl _, ?_, ?_⟩)) | (with_reducible intro _) | (refine fun (_ : Bool) => ?_))) | fail)
      all_goals try simp only [Int.toNat_natCast] at *
      all_goals first
        | omega
        | (rw [hw]; rfl)
        | (rw [hf, ‹valOk b = true›, anyR_yes hlt ‹_›]; rfl)
        | (rw [hf, ‹valOk b = false›]; rfl)
        | (rename_i j hj
           by_cases e : j = k
           · rw [e]; assumption
           · exact hok j (by omega))
    · obtain rfl : k = l.length := by omega
      have hd : decide ((l.length : Int) < (l.length : Int)) = false := decide_eq_false (by omega)
      have hn := anyR_no hok
      ((refine AW.byF ‹_› ?_); (repeat' first | (with_reducible exact trivial) | (with_reducible rfl) | (refine And.intro ?_ ?_) | (refine Need.mk ?_) | exact True.intro | (first | (refine ⟨_, Told.refl _, ?_, ?_⟩) | (refine ⟨⟨_, _⟩, Told.refl _, ?_, ?_⟩) | (refine ⟨⟨_, _, _⟩, Told.refl _, ?_, ?_⟩) | (refine ⟨⟨_, _, _, _⟩, Told.refl _, ?_, ?_⟩) | (refine ⟨⟨_, _, _, _, _⟩, Told.refl _, ?_, ?_⟩) | (refine ⟨(), Told.refl _, ?_, ?_⟩)) | (with_reducible intro _) | (refine fun (_ : Bool) => ?_)))
      all_goals first | (exact absurd ‹decide ((l.length : Int) < (l.length : Int)) = true› (by rw [hd]; decide)) | skip
      all_goals (rw [hf, hn, Bool.and_false])
/-- The best one so far, with nothing to begin with. -/
def bst (l : List Ft) : Ft := l.foldl (fun a x => if x.b > a.b ∨ (x.b = a.b ∧ x.n < a.n) then x else a) ⟨-1, 1⟩
theorem bst_snoc (l : List Ft) (x : Ft) : bst (l ++ [x]) = if x.b > (bst l).b ∨ (x.b = (bst l).b ∧ x.n < (bst l).n) then x else bst l := by
  unfold bst
  rw [List.foldl_append]
  rfl
theorem bet_lt (x y : Ft) : bet x y < 0 ↔ x.b > y.b ∨ (x.b = y.b ∧ x.n < y.n) := by
  unfold bet orI cmpI
  rcases Int.lt_trichotomy y.b x.b with h | h | h
  · rw [if_pos h]
    have e : (([-1, if x.n < y.n then -1 else if x.n > y.n then 1 else 0] : List Int).find? (fun x => x != 0)) = some (-1) := rfl
    rw [e]
    simp only [Option.getD_some]
    omega
  · rw [if_neg (by omega), if_neg (by omega)]
    rcases Int.lt_trichotomy x.n y.n with g | g | g
    · rw [if_pos g]
      have e : (([0, -1] : List Int).find? (fun x => x != 0)) = some (-1) := rfl
      rw [e]
      simp only [Option.getD_some]
      omega
    · rw [if_neg (by omega), if_neg (by omega)]
      have e : (([0, 0] : List Int).find? (fun x => x != 0)) = none := rfl
      rw [e]
      simp only [Option.getD_none]
      omega
    · rw [if_neg (by omega), if_pos g]
      have e : (([0, 1] : List Int).find? (fun x => x != 0)) = some 1 := rfl
      rw [e]
      simp only [Option.getD_some]
      omega
  · rw [if_neg (by omega), if_pos h]
    have e : (([1, if x.n < y.n then -1 else if x.n > y.n then 1 else 0] : List Int).find? (fun x => x != 0)) = some 1 := rfl
    rw [e]
    simp only [Option.getD_some]
    omega
theorem bst_min : ∀ (k : Nat) (l : List Ft), (∀ x ∈ l, 0 ≤ x.b) → k < l.length → bst (l.take (k + 1)) = minTo l k
  | 0, l, hl, hk => by
    obtain ⟨x, l', rfl⟩ : ∃ x l', l = x :: l' := by cases l with | nil => cases hk | cons x l' => exact ⟨x, l', rfl⟩
    have := hl x List.mem_cons_self
    show (if x.b > -1 ∨ (x.b = -1 ∧ x.n < 1) then x else _) = x
    rw [if_pos (.inl (by omega))]
  | k + 1, l, hl, hk => by
    have e : l.getD (k + 1) default = l[k + 1] := by simp [List.getD, hk]
    rw [List.take_succ_eq_append_getElem hk, bst_snoc, bst_min k l hl (by omega), minTo, e]
    simp only [bet_lt]
theorem bst_best (l : List Ft) (h : ∀ x ∈ l, 0 ≤ x.b) : (bst l).n = (best l).n := by
  unfold best
  split
  · rename_i hl
    rw [List.length_eq_zero_iff.1 hl]
    rfl
  · rename_i hl
    have := bst_min (l.length - 1) l h (by omega)
    rw [show l.length - 1 + 1 = l.length by omega, List.take_length] at this
    rw [this]
    rfl
theorem fitsL_nn (l : List Rct) (b : List Int) : ∀ x ∈ fitsL l b, 0 ≤ x.b := by
  intro x hx
  unfold fitsL at hx
  obtain ⟨r, _, rfl⟩ := List.mem_map.1 hx
  exact Int.natCast_nonneg _
set_option maxHeartbeats 16000000 in
theorem rnext : SpOK Tryz.prog 101 SNext := fun ⟨l, b⟩ ⟨hl, hb, h8⟩ => by
  have hC : COK Tryz.prog (cfg [(139, SFull), (94, SRS), (140, SFits)]) := Ty.ty.cfg ⟨rin, rsaneR, rfitsR, trivial⟩
  have hl : l.length < 1000000000 := hl
  have hb : b.length < 1000000000 := hb
  obtain ⟨M, hM⟩ : ∃ M, M = min 4 b.length := ⟨_, rfl⟩
  have hMb : M ≤ 4 ∧ M ≤ b.length := by omega
  ((refine Fn.ofF hC Tryz.func101 Tryz.ntmps101 rfl rfl rfl ?_); (repeat' first | (with_reducible exact trivial) | (with_reducible rfl) | (refine And.intro ?_ ?_) | (refine Need.mk ?_) | exact True.intro | (first | (refine ⟨_, Told.refl _, ?_, ?_⟩) | (refine ⟨⟨_, _⟩, Told.refl _, ?_, ?_⟩) | (refine ⟨⟨_, _, _⟩, Told.refl _, ?_, ?_⟩) | (refine ⟨⟨_, _, _, _⟩, Told.refl _, ?_, ?_⟩) | (refine ⟨⟨_, _, _, _, _⟩, Told.refl _, ?_, ?_⟩) | (refine ⟨(), Told.refl _, ?_, ?_⟩)) | (with_reducible intro _) | (refine fun (_ : Bool) => ?_)))
  refine AW.loop (I := fun k : Nat => ⟨72, [(0, aR l), (1, a8 b), (6, .int .i64 (k + 1))], []⟩) (fun k => k ≤ M ∧ ∀ j, j < k → fullB l (b.take (j + 1)) = false) (fun k => M - k) 0 ⟨Nat.zero_le _, fun j hj => by omega⟩ ?_ ?_
  · (repeat' first | (with_reducible exact trivial) | (with_reducible rfl) | (refine And.intro ?_ ?_) | (refine Need.mk ?_) | exact True.intro | (first | (refine ⟨_, Told.refl _, ?_, ?_⟩) | (refine ⟨⟨_, _⟩, Told.refl _, ?_, ?_⟩) | (refine ⟨⟨_, _, _⟩, Told.refl _, ?_, ?_⟩) | (refine ⟨⟨_, _, _, _⟩, Told.refl _, ?_, ?_⟩) | (refine ⟨⟨_, _, _, _, _⟩, Told.refl _, ?_, ?_⟩) | (refine ⟨(), Told.refl _, ?_, ?_⟩)) | (with_reducible intro _) | (refine fun (_ : Bool) => ?_))
    all_goals first | rfl
  · intro k ⟨hk, hok⟩
    rcases Nat.lt_or_ge k M with hlt | hge
    · have hd : decide ((k : Int) + 1 ≤ 4) = true := decide_eq_true (by omega)
      have hd2 : decide ((k : Int) + 1 ≤ (b.length : Int)) = true := decide_eq_true (by omega)
      have hw := iw (n := (k : Int) + 1 + 1) (by omega) (by omega)
      ((refine AW.byF ‹_› ?_); (repeat' first | (with_reducible exact trivial) | (with_reducible rfl) | (refine And.intro ?_ ?_) | (refine Need.mk ?_) | exact True.intro | (first | (refine ⟨_, Told.refl _, ?_, ?_⟩) | (refine ⟨⟨_, _⟩, Told.refl _, ?_, ?_⟩) | (refine ⟨⟨_, _, _⟩, Told.refl _, ?_, ?_⟩) | (refine ⟨⟨_, _, _, _⟩, Told.refl _, ?_, ?_⟩) | (refine ⟨⟨_, _, _, _, _⟩, Told.refl _, ?_, ?_⟩) | (refine ⟨(), Told.refl _, ?_, ?_⟩)) | (with_reducible intro _) | (refine fun (_ : Bool) => ?_)))
      all_goals first | (exact absurd ‹decide ((k : Int) + 1 ≤ 4) = false› (by rw [hd]; decide)) | (exact absurd ‹decide ((k : Int) + 1 ≤ (b.length : Int)) = false› (by rw [hd2]; decide)) | skip
      all_goals first | omega | skip
      refine Exists.intro (l, b.take (k + 1)) (And.intro (Told.of (told_take l b (by omega) (by omega) (fun i => by rw [show (0 : Int).toNat + i = i from Nat.zero_add i]))) (And.intro ?_ ?_))
      · exact ⟨by show l.length < 4611686018427387904; omega, by show (b.take (k + 1)).length < 4611686018427387904; rw [List.length_take]; omega, B8.take h8 _⟩
      (repeat' first | (with_reducible exact trivial) | (with_reducible rfl) | (refine And.intro ?_ ?_) | (refine Need.mk ?_) | exact True.intro | (first | (refine ⟨_, Told.refl _, ?_, ?_⟩) | (refine ⟨⟨_, _⟩, Told.refl _, ?_, ?_⟩) | (refine ⟨⟨_, _, _⟩, Told.refl _, ?_, ?_⟩) | (refine ⟨⟨_, _, _, _⟩, Told.refl _, ?_, ?_⟩) | (refine ⟨⟨_, _, _, _, _⟩, Told.refl _, ?_, ?_⟩) | (refine ⟨(), Told.refl _, ?_, ?_⟩)) | (with_reducible intro _) | (refine fun (_ : Bool) => ?_))
      all_goals
        first
          | (have hc := code_some (l := l) (by omega) hok ‹fullB l (b.take (k + 1)) = true›
             first
               | (unfold nextN; rw [hc]; rfl)
               | (rw [hc]; rfl))
          | skip
      have q := ‹fullB l (b.take (k + 1)) = false›
      refine Exists.intro (k + 1) (And.intro ?_ (And.intro ?_ ?_))
      · refine ⟨by omega, fun j hj => ?_⟩
        by_cases e : j = k
        · rw [e]; exact q
        · exact hok j (by omega)
      · omega
      · (repeat' first | (with_reducible exact trivial) | (with_reducible rfl) | (refine And.intro ?_ ?_) | (refine Need.mk ?_) | exact True.intro | (first | (refine ⟨_, Told.refl _, ?_, ?_⟩) | (refine ⟨⟨_, _⟩, Told.refl _, ?_, ?_⟩) | (refine ⟨⟨_, _, _⟩, Told.refl _, ?_, ?_⟩) | (refine ⟨⟨_, _, _, _⟩, Told.refl _, ?_, ?_⟩) | (refine ⟨⟨_, _, _, _, _⟩, Told.refl _, ?_, ?_⟩) | (refine ⟨(), Told.refl _, ?_, ?_⟩)) | (with_reducible intro _) | (refine fun (_ : Bool) => ?_))
        all_goals first | rfl | (rw [hw]; rfl)
    · obtain rfl : k = M := by omega
      have hcn := code_none (l := l) (b := b) (by rw [← hM]; exact hok)
      have hn : nextN l b = minI (bst (fitsL l b)).n b.length := by
        rw [bst_best _ (fitsL_nn l b)]
        unfold nextN
        rw [hcn]
      ((refine AW.byF ‹_› ?_); (repeat' first | (with_reducible exact trivial) | (with_reducible rfl) | (refine And.intro ?_ ?_) | (refine Need.mk ?_) | exact True.intro | (first | (refine ⟨_, Told.refl _, ?_, ?_⟩) | (refine ⟨⟨_, _⟩, Told.refl _, ?_, ?_⟩) | (refine ⟨⟨_, _, _⟩, Told.refl _, ?_, ?_⟩) | (refine ⟨⟨_, _, _, _⟩, Told.refl _, ?_, ?_⟩) | (refine ⟨⟨_, _, _, _, _⟩, Told.refl _, ?_, ?_⟩) | (refine ⟨(), Told.refl _, ?_, ?_⟩)) | (with_reducible intro _) | (refine fun (_ : Bool) => ?_)))
      all_goals first
        | (exfalso
           have q := of_decide_eq_true ‹decide ((k : Int) + 1 ≤ 4) = true›
           have q2 := of_decide_eq_true ‹decide ((k : Int) + 1 ≤ (b.length : Int)) = true›
           omega)
        | skip
      all_goals
        refine AW.loop (I := fun i : Nat => ⟨72, [(0, aR l), (1, a8 b), (7, .int .i64 (bst (fitsL (l.take i) b)).b), (8, .int .i64 (bst (fitsL (l.take i) b)).n), (9, .int .i64 i)], []⟩) (fun i => i ≤ l.length) (fun i => l.length - i) 0 (Nat.zero_le _) ?_ ?_
        · (repeat' first | (with_reducible exact trivial) | (with_reducible rfl) | (refine And.intro ?_ ?_) | (refine Need.mk ?_) | exact True.intro | (first | (refine ⟨_, Told.refl _, ?_, ?_⟩) | (refine ⟨⟨_, _⟩, Told.refl _, ?_, ?_⟩) | (refine ⟨⟨_, _, _⟩, Told.refl _, ?_, ?_⟩) | (refine ⟨⟨_, _, _, _⟩, Told.refl _, ?_, ?_⟩) | (refine ⟨⟨_, _, _, _, _⟩, Told.refl _, ?_, ?_⟩) | (refine ⟨(), Told.refl _, ?_, ?_⟩)) | (with_reducible intro _) | (refine fun (_ : Bool) => ?_))
          all_goals first | rfl | done
        · intro i hi
          rcases Nat.lt_or_ge i l.length with hlt | hge
          · have hd : decide ((i : Int) < (l.length : Int)) = true := decide_eq_true (by omega)
            have hw := iw (n := (i : Int) + 1) (by omega) (by omega)
            have hnx := fitsL_next (b := b) hlt
            have hs := bst_snoc (fitsL (l.take i) b) ⟨fits (l.getD i default) b, (l.getD i default).n⟩
            ((refine AW.byF ‹_› ?_); (repeat' first | (with_reducible exact trivial) | (with_reducible rfl) | (refine And.intro ?_ ?_) | (refine Need.mk ?_) | exact True.intro | (first | (refine ⟨_, Told.refl _, ?_, ?_⟩) | (refine ⟨⟨_, _⟩, Told.refl _, ?_, ?_⟩) | (refine ⟨⟨_, _, _⟩, Told.refl _, ?_, ?_⟩) | (refine ⟨⟨_, _, _, _⟩, Told.refl _, ?_, ?_⟩) | (refine ⟨⟨_, _, _, _, _⟩, Told.refl _, ?_, ?_⟩) | (refine ⟨(), Told.refl _, ?_, ?_⟩)) | (with_reducible intro _) | (refine fun (_ : Bool) => ?_)))
            all_goals first | (exact absurd ‹decide ((i : Int) < (l.length : Int)) = false› (by rw [hd]; decide)) | skip
            any_goals (first | (refine Exists.intro ((i + 1 : Nat)) (And.intro ?_ (And.intro ?_ ?_)); all_goals (repeat' first | (with_reducible exact trivial) | (with_reducible rfl) | (refine And.intro ?_ ?_) | (refine Need.mk ?_) | exact True.intro | (first | (refine ⟨_, Told.refl _, ?_, ?_⟩) | (refine ⟨⟨_, _⟩, Told.refl _, ?_, ?_⟩) | (refine ⟨⟨_, _, _⟩, Told.refl _, ?_, ?_⟩) | (refine ⟨⟨_, _, _, _⟩, Told.refl _, ?_, ?_⟩) | (refine ⟨⟨_, _, _, _, _⟩, Told.refl _, ?_, ?_⟩) | (refine ⟨(), Told.refl _, ?_, ?_⟩)) | (with_reducible intro _) | (refine fun (_ : Bool) => ?_))) | fail)
            all_goals try simp only [Int.toNat_natCast] at *
            all_goals first
              | omega
              | (show b.length < 4611686018427387904; omega)
              | (rw [hw]; rfl)
              | (have q : ¬ okR (l.getD i default) = true := by simpa using ‹(!okR (l.getD i default)) = true›
                 rw [if_neg q] at hnx
                 rw [hnx])
              | (have q : okR (l.getD i default) = true := by simpa using ‹(!okR (l.getD i default)) = false›
                 rw [if_pos q] at hnx
                 rw [hnx, hs]
                 ((try dsimp only at *); (try simp only [decide_eq_true_eq, decide_eq_false_iff_not, beq_iff_eq, bne_iff_ne, beq_eq_false_iff_ne, bne_eq_false_iff_eq, ne_eq, Decidable.not_not, ge_iff_le, gt_iff_lt, Bool.not_eq_true', Bool.not_eq_false', Int.not_lt, Int.not_le, Nat.not_lt, Nat.not_le] at *))
                 first
                   | (rw [if_pos (by first | omega | (dsimp only; omega))]; done)
                   | (rw [if_neg (by first | omega | (dsimp only; omega))]; done))
          · obtain rfl : i = l.length := by omega
            have hd : decide ((l.length : Int) < (l.length : Int)) = false := decide_eq_false (by omega)
            rw [List.take_length]
            ((refine AW.byF ‹_› ?_); (repeat' first | (with_reducible exact trivial) | (with_reducible rfl) | (refine And.intro ?_ ?_) | (refine Need.mk ?_) | exact True.intro | (first | (refine ⟨_, Told.refl _, ?_, ?_⟩) | (refine ⟨⟨_, _⟩, Told.refl _, ?_, ?_⟩) | (refine ⟨⟨_, _, _⟩, Told.refl _, ?_, ?_⟩) | (refine ⟨⟨_, _, _, _⟩, Told.refl _, ?_, ?_⟩) | (refine ⟨⟨_, _, _, _, _⟩, Told.refl _, ?_, ?_⟩) | (refine ⟨(), Told.refl _, ?_, ?_⟩)) | (with_reducible intro _) | (refine fun (_ : Bool) => ?_)))
            all_goals first | (exact absurd ‹decide ((l.length : Int) < (l.length : Int)) = true› (by rw [hd]; decide)) | skip
            all_goals first
              | exact hn.symm
              | (rw [hcn]; rfl)
def SAllR : Sp := ⟨List Rct × List Int, fun (l, s) => l.length < 1000000000 ∧ s.length < 1000000000 ∧ B8 s, fun (l, s) => [aR l, a8 s], fun (l, s) => .row 75 5 (allAt l s 0).length (els cP (allAt l s 0))⟩
set_option maxHeartbeats 8000000 in
theorem rall : SpOK Tryz.prog 60 SAllR := fun ⟨l, s⟩ ⟨hl, hs, h8⟩ => by
  have hC : COK Tryz.prog (cfg [(101, SNext), (102, SVal)]) := Ty.ty.cfg ⟨rnext, rval, trivial⟩
  ((refine Fn.ofF hC Tryz.func60 Tryz.ntmps60 rfl rfl rfl ?_); (repeat' first | (with_reducible exact trivial) | (with_reducible rfl) | (refine And.intro ?_ ?_) | (refine Need.mk ?_) | exact True.intro | (first | (refine ⟨_, Told.refl _, ?_, ?_⟩) | (refine ⟨⟨_, _⟩, Told.refl _, ?_, ?_⟩) | (refine ⟨⟨_, _, _⟩, Told.refl _, ?_, ?_⟩) | (refine ⟨⟨_, _, _, _⟩, Told.refl _, ?_, ?_⟩) | (refine ⟨⟨_, _, _, _, _⟩, Told.refl _, ?_, ?_⟩) | (refine ⟨(), Told.refl _, ?_, ?_⟩)) | (with_reducible intro _) | (refine fun (_ : Bool) => ?_)))
  refine AW.loop (I := fun x : Nat × List Pc => ⟨49, [(0, aR l), (1, a8 s), (5, .own 0), (6, .int .i64 x.1)], [.row 75 5 x.2.length (els cP x.2)]⟩) (fun x => x.1 ≤ s.length ∧ x.2.length ≤ x.1 ∧ allAt l s 0 = x.2 ++ allAt l s x.1) (fun x => s.length - x.1) (0, []) ⟨Nat.zero_le _, Nat.le_refl _, rfl⟩ ?_ ?_
  · (repeat' first | (with_reducible exact trivial) | (with_reducible rfl) | (refine And.intro ?_ ?_) | (refine Need.mk ?_) | exact True.intro | (first | (refine ⟨_, Told.refl _, ?_, ?_⟩) | (refine ⟨⟨_, _⟩, Told.refl _, ?_, ?_⟩) | (refine ⟨⟨_, _, _⟩, Told.refl _, ?_, ?_⟩) | (refine ⟨⟨_, _, _, _⟩, Told.refl _, ?_, ?_⟩) | (refine ⟨⟨_, _, _, _, _⟩, Told.refl _, ?_, ?_⟩) | (refine ⟨(), Told.refl _, ?_, ?_⟩)) | (with_reducible intro _) | (refine fun (_ : Bool) => ?_))
    all_goals first | rfl
  · rintro ⟨a, out⟩ ⟨h1, h2, h3⟩
    dsimp only at h1 h2 h3 ⊢
    rcases Nat.lt_or_ge a s.length with hlt | hge
    · have hd : decide ((a : Int) < (s.length : Int)) = true := decide_eq_true (by omega)
      obtain ⟨r1, r2, r3⟩ := stepN_rng (l := l) hlt
      have hst := allAt_step (l := l) hlt
      ((refine AW.byF ‹_› ?_); (repeat' first | (with_reducible exact trivial) | (with_reducible rfl) | (refine And.intro ?_ ?_) | (refine Need.mk ?_) | exact True.intro | (first | (refine ⟨_, Told.refl _, ?_, ?_⟩) | (refine ⟨⟨_, _⟩, Told.refl _, ?_, ?_⟩) | (refine ⟨⟨_, _, _⟩, Told.refl _, ?_, ?_⟩) | (refine ⟨⟨_, _, _, _⟩, Told.refl _, ?_, ?_⟩) | (refine ⟨⟨_, _, _, _, _⟩, Told.refl _, ?_, ?_⟩) | (refine ⟨(), Told.refl _, ?_, ?_⟩)) | (with_reducible intro _) | (refine fun (_ : Bool) => ?_)))
      all_goals first | (exact absurd ‹decide ((a : Int) < (s.length : Int)) = false› (by rw [hd]; decide)) | skip
      all_goals first | omega | skip
      refine Exists.intro (l, s.drop a) (And.intro (Told.of (told_drop l s (by omega) (fun i => by rw [Int.toNat_natCast]))) (And.intro ?_ ?_))
      · exact ⟨hl, by rw [List.length_drop]; omega, B8.drop h8 _⟩
      have hw := iw (n := (a : Int) + nextN l (s.drop a)) (by omega) (by omega)
      have hp : pcAt l s a = if (code l (s.drop a)).isSome = true then ⟨a, nextN l (s.drop a), true, valN ((s.drop a).take (stepN l s a)), valV ((s.drop a).take (stepN l s a))⟩ else ⟨a, nextN l (s.drop a), false, 0, 0⟩ := rfl
      have h5 : allAt l s 0 = (out ++ [pcAt l s a]) ++ allAt l s (a + stepN l s a) := by rw [h3, hst, List.append_assoc]; rfl
      (repeat' first | (with_reducible exact trivial) | (with_reducible rfl) | (refine And.intro ?_ ?_) | (refine Need.mk ?_) | exact True.intro | (first | (refine ⟨_, Told.refl _, ?_, ?_⟩) | (refine ⟨⟨_, _⟩, Told.refl _, ?_, ?_⟩) | (refine ⟨⟨_, _, _⟩, Told.refl _, ?_, ?_⟩) | (refine ⟨⟨_, _, _, _⟩, Told.refl _, ?_, ?_⟩) | (refine ⟨⟨_, _, _, _, _⟩, Told.refl _, ?_, ?_⟩) | (refine ⟨(), Told.refl _, ?_, ?_⟩)) | (with_reducible intro _) | (refine fun (_ : Bool) => ?_))
      all_goals first | (rw [hw]; omega) | omega | skip
      · have q := ‹(code l (s.drop a)).isSome = true›
        rw [if_pos q] at hp
        refine Exists.intro ((s.drop a).take (stepN l s a)) (And.intro (Told.of (told_cut s r2 (by rw [hw]; omega) (fun i => by rw [Int.toNat_natCast]))) (And.intro ?_ ?_))
        · exact ⟨by rw [List.length_take, List.length_drop]; omega, B8.take (B8.drop h8 _) _⟩
        (repeat' first | (with_reducible exact trivial) | (with_reducible rfl) | (refine And.intro ?_ ?_) | (refine Need.mk ?_) | exact True.intro | (first | (refine ⟨_, Told.refl _, ?_, ?_⟩) | (refine ⟨⟨_, _⟩, Told.refl _, ?_, ?_⟩) | (refine ⟨⟨_, _, _⟩, Told.refl _, ?_, ?_⟩) | (refine ⟨⟨_, _, _, _⟩, Told.refl _, ?_, ?_⟩) | (refine ⟨⟨_, _, _, _, _⟩, Told.refl _, ?_, ?_⟩) | (refine ⟨(), Told.refl _, ?_, ?_⟩)) | (with_reducible intro _) | (refine fun (_ : Bool) => ?_))
        · show (out.length + 1) * 40 ≤ _
          omega
        refine Exists.intro ((a + stepN l s a, out ++ [pcAt l s a]) : Nat × List Pc) (And.intro ?_ (And.intro ?_ ?_))
        · exact ⟨r2, by rw [List.length_append, List.length_singleton]; show out.length + 1 ≤ a + stepN l s a; omega, h5⟩
        · show s.length - (a + stepN l s a) < s.length - a
          omega
        · rw [hp]
          (repeat' first | (with_reducible exact trivial) | (with_reducible rfl) | (refine And.intro ?_ ?_) | (refine Need.mk ?_) | exact True.intro | (first | (refine ⟨_, Told.refl _, ?_, ?_⟩) | (refine ⟨⟨_, _⟩, Told.refl _, ?_, ?_⟩) | (refine ⟨⟨_, _, _⟩, Told.refl _, ?_, ?_⟩) | (refine ⟨⟨_, _, _, _⟩, Told.refl _, ?_, ?_⟩) | (refine ⟨⟨_, _, _, _, _⟩, Told.refl _, ?_, ?_⟩) | (refine ⟨(), Told.refl _, ?_, ?_⟩)) | (with_reducible intro _) | (refine fun (_ : Bool) => ?_))
          all_goals first
            | (rw [List.length_append]; rfl)
            | (rw [hw]; omega)
            | (rename_i z hz; refine snoc_sub cP_emb (l := out) rfl ?_ z hz; refine ⟨?_, ?_, ?_, ?_, ?_, trivial⟩ <;> first | exact ⟨rfl⟩ | exact ⟨q⟩)
      · show (out.length + 1) * 40 ≤ _
        omega
      · have q := ‹(code l (s.drop a)).isSome = false›
        rw [if_neg (by rw [q]; decide)] at hp
        refine Exists.intro ((a + stepN l s a, out ++ [pcAt l s a]) : Nat × List Pc) (And.intro ?_ (And.intro ?_ ?_))
        · exact ⟨r2, by rw [List.length_append, List.length_singleton]; show out.length + 1 ≤ a + stepN l s a; omega, h5⟩
        · show s.length - (a + stepN l s a) < s.length - a
          omega
        · rw [hp]
          (repeat' first | (with_reducible exact trivial) | (with_reducible rfl) | (refine And.intro ?_ ?_) | (refine Need.mk ?_) | exact True.intro | (first | (refine ⟨_, Told.refl _, ?_, ?_⟩) | (refine ⟨⟨_, _⟩, Told.refl _, ?_, ?_⟩) | (refine ⟨⟨_, _, _⟩, Told.refl _, ?_, ?_⟩) | (refine ⟨⟨_, _, _, _⟩, Told.refl _, ?_, ?_⟩) | (refine ⟨⟨_, _, _, _, _⟩, Told.refl _, ?_, ?_⟩) | (refine ⟨(), Told.refl _, ?_, ?_⟩)) | (with_reducible intro _) | (refine fun (_ : Bool) => ?_))
          all_goals first
            | (rw [List.length_append]; rfl)
            | (rw [hw]; omega)
            | (rename_i z hz; refine snoc_sub cP_emb (l := out) rfl ?_ z hz; refine ⟨?_, ?_, ?_, ?_, ?_, trivial⟩ <;> first | exact ⟨rfl⟩ | exact ⟨q⟩)
    · obtain rfl : a = s.length := by omega
      have hd : decide ((s.length : Int) < (s.length : Int)) = false := decide_eq_false (by omega)
      rw [allAt_end (Nat.le_refl _), List.append_nil] at h3
      ((refine AW.byF ‹_› ?_); (repeat' first | (with_reducible exact trivial) | (with_reducible rfl) | (refine And.intro ?_ ?_) | (refine Need.mk ?_) | exact True.intro | (first | (refine ⟨_, Told.refl _, ?_, ?_⟩) | (refine ⟨⟨_, _⟩, Told.refl _, ?_, ?_⟩) | (refine ⟨⟨_, _, _⟩, Told.refl _, ?_, ?_⟩) | (refine ⟨⟨_, _, _, _⟩, Told.refl _, ?_, ?_⟩) | (refine ⟨⟨_, _, _, _, _⟩, Told.refl _, ?_, ?_⟩) | (refine ⟨(), Told.refl _, ?_, ?_⟩)) | (with_reducible intro _) | (refine fun (_ : Bool) => ?_)))
      all_goals first | (exact absurd ‹decide ((s.length : Int) < (s.length : Int)) = true› (by rw [hd]; decide)) | skip
      all_goals rw [h3]
end Go.Abs.Mt
set_option maxRecDepth 100000
namespace Go.Abs.Span
open Go.RowKit Go.Proofs Go.Abs.Tab
theorem rmore : SpOK Tryz.prog 137 SRise := fun ⟨d, st⟩ _ => by
  have hC := base
  cases st
  · ((refine Fn.ofF hC Tryz.func137 Tryz.ntmps137 rfl rfl rfl ?_); (repeat' first | (with_reducible exact trivial) | (with_reducible rfl) | (refine And.intro ?_ ?_) | (refine Need.mk ?_) | exact True.intro | (first | (refine ⟨_, Told.refl _, ?_, ?_⟩) | (refine ⟨⟨_, _⟩, Told.refl _, ?_, ?_⟩) | (refine ⟨⟨_, _, _⟩, Told.refl _, ?_, ?_⟩) | (refine ⟨⟨_, _, _, _⟩, Told.refl _, ?_, ?_⟩) | (refine ⟨⟨_, _, _, _, _⟩, Told.refl _, ?_, ?_⟩) | (refine ⟨(), Told.refl _, ?_, ?_⟩)) | (with_reducible intro _) | (refine fun (_ : Bool) => ?_)))
    rfl
  · ((refine Fn.ofF hC Tryz.func137 Tryz.ntmps137 rfl rfl rfl ?_); (repeat' first | (with_reducible exact trivial) | (with_reducible rfl) | (refine And.intro ?_ ?_) | (refine Need.mk ?_) | exact True.intro | (first | (refine ⟨_, Told.refl _, ?_, ?_⟩) | (refine ⟨⟨_, _⟩, Told.refl _, ?_, ?_⟩) | (refine ⟨⟨_, _, _⟩, Told.refl _, ?_, ?_⟩) | (refine ⟨⟨_, _, _, _⟩, Told.refl _, ?_, ?_⟩) | (refine ⟨⟨_, _, _, _, _⟩, Told.refl _, ?_, ?_⟩) | (refine ⟨(), Told.refl _, ?_, ?_⟩)) | (with_reducible intro _) | (refine fun (_ : Bool) => ?_)))
    rfl
theorem rsaneS : SpOK Tryz.prog 97 SSaneS := fun ⟨s, st⟩ _ => by
  have hC : COK Tryz.prog (cfg [(136, SSane), (137, SRise)]) := Ty.ty.cfg ⟨refSane, rmore, trivial⟩
  ((refine Fn.ofF hC Tryz.func97 Tryz.ntmps97 rfl rfl rfl ?_); (repeat' first | (with_reducible exact trivial) | (with_reducible rfl) | (refine And.intro ?_ ?_) | (refine Need.mk ?_) | exact True.intro | (first | (refine ⟨_, Told.refl _, ?_, ?_⟩) | (refine ⟨⟨_, _⟩, Told.refl _, ?_, ?_⟩) | (refine ⟨⟨_, _, _⟩, Told.refl _, ?_, ?_⟩) | (refine ⟨⟨_, _, _, _⟩, Told.refl _, ?_, ?_⟩) | (refine ⟨⟨_, _, _, _, _⟩, Told.refl _, ?_, ?_⟩) | (refine ⟨(), Told.refl _, ?_, ?_⟩)) | (with_reducible intro _) | (refine fun (_ : Bool) => ?_)))
  all_goals first
    | (refine saneS_no fun h => ?_
       obtain ⟨k1, k2, k3, k4, k5⟩ := (saneS_iff st s).1 h
       ((try dsimp only at *); (try simp only [decide_eq_true_eq, decide_eq_false_iff_not, beq_iff_eq, bne_iff_ne, beq_eq_false_iff_ne, bne_eq_false_iff_eq, ne_eq, Decidable.not_not, ge_iff_le, gt_iff_lt, Bool.not_eq_true', Bool.not_eq_false', Int.not_lt, Int.not_le, Nat.not_lt, Nat.not_le] at *))
       first | omega | (simp_all; done))
    | skip
  have q1 : saneC s.n s.lo = true := by simpa using ‹(!saneC s.n s.lo) = false›
  have q2 : saneC s.n s.hi = true := by simpa using ‹(!saneC s.n s.hi) = false›
  have q3 := of_decide_eq_false ‹decide (s.lo > s.hi) = false›
  have q4 := of_decide_eq_true ‹decide (s.to ≥ 0) = true›
  have r1 := (saneC_iff _ _).1 q1
  have r2 := (saneC_iff _ _).1 q2
  rw [iw (n := s.hi - s.lo) (by omega) (by omega)]
  have hm : 0 ≤ more st (s.hi - s.lo) ∧ more st (s.hi - s.lo) ≤ s.hi - s.lo := by cases st <;> simp only [more, cond_true, cond_false] <;> omega
  rw [iw (by omega) (by omega), Bool.eq_iff_iff, decide_eq_true_eq, saneS_iff]
  exact ⟨fun h => ⟨q1, q2, by omega, q4, h⟩, fun h => h.2.2.2.2⟩
theorem rtoS : SpOK Tryz.prog 160 SToS := fun ⟨s, n, v, st⟩ _ => by
  have hC : COK Tryz.prog (cfg [(97, SSaneS), (136, SSane), (137, SRise)]) := Ty.ty.cfg ⟨rsaneS, refSane, rmore, trivial⟩
  have no : ¬ (saneS st s = true ∧ saneC n v = true ∧ n = s.n ∧ s.lo ≤ v ∧ v ≤ s.hi) → 0 = ((ES st).to s n v).getD 0 ∧ false = ((ES st).to s n v).isSome := fun h => by
    rw [to_no h]
    exact ⟨rfl, rfl⟩
  ((refine Fn.ofF hC Tryz.func160 Tryz.ntmps160 rfl rfl rfl ?_); (repeat' first | (with_reducible exact trivial) | (with_reducible rfl) | (refine And.intro ?_ ?_) | (refine Need.mk ?_) | exact True.intro | (first | (refine ⟨_, Told.refl _, ?_, ?_⟩) | (refine ⟨⟨_, _⟩, Told.refl _, ?_, ?_⟩) | (refine ⟨⟨_, _, _⟩, Told.refl _, ?_, ?_⟩) | (refine ⟨⟨_, _, _, _⟩, Told.refl _, ?_, ?_⟩) | (refine ⟨⟨_, _, _, _, _⟩, Told.refl _, ?_, ?_⟩) | (refine ⟨(), Told.refl _, ?_, ?_⟩)) | (with_reducible intro _) | (refine fun (_ : Bool) => ?_)))
  all_goals ((try dsimp only at *); (try simp only [decide_eq_true_eq, decide_eq_false_iff_not, beq_iff_eq, bne_iff_ne, beq_eq_false_iff_ne, bne_eq_false_iff_eq, ne_eq, Decidable.not_not, ge_iff_le, gt_iff_lt, Bool.not_eq_true', Bool.not_eq_false', Int.not_lt, Int.not_le, Nat.not_lt, Nat.not_le] at *))
  all_goals first
    | (first | refine (no fun q => ?_).1 | refine (no fun q => ?_).2
       obtain ⟨h1, h2, h3, h4, h5⟩ := q
       first | omega | (simp_all; done))
    | (have q1 := ‹saneS st s = true›
       have q3 := ‹n = s.n›
       have q4 := ‹s.lo ≤ v›
       have q5 := ‹v ≤ s.hi›
       have r := rngS q1
       have hm : 0 ≤ more st (v - s.lo) ∧ more st (v - s.lo) ≤ 4294967296 := by cases st <;> simp only [more, cond_true, cond_false] <;> omega
       have hm2 : 0 ≤ more st (s.hi - s.lo) := by cases st <;> simp only [more, cond_true, cond_false] <;> omega
       subst q3
       rw [to_yes q1 q4 q5]
       first
         | rfl
         | (rw [iw (n := v - s.lo) (by omega) (by omega), iw (by omega) (by omega)]; rfl))
theorem rjoinsS : SpOK Tryz.prog 98 SJoinsS := fun ⟨a, b, st⟩ ⟨ha, hb⟩ => by
  have hC : COK Tryz.prog (cfg [(137, SRise)]) := Ty.ty.cfg ⟨rmore, trivial⟩
  have ra := rngS ha
  have rb := rngS hb
  have e1 := iw (n := a.hi + 1) (by omega) (by omega)
  have e2 := iw (n := b.lo - a.lo) (by omega) (by omega)
  have hm : -4294967296 ≤ more st (b.lo - a.lo) ∧ more st (b.lo - a.lo) ≤ 4294967296 := by cases st <;> simp only [more, cond_true, cond_false] <;> omega
  have hm2 : 0 ≤ more st (a.hi - a.lo) := by cases st <;> simp only [more, cond_true, cond_false] <;> omega
  have e3 := iw (n := a.to + more st (b.lo - a.lo)) (by omega) (by omega)
  ((refine Fn.ofF hC Tryz.func98 Tryz.ntmps98 rfl rfl rfl ?_); (repeat' first | (with_reducible exact trivial) | (with_reducible rfl) | (refine And.intro ?_ ?_) | (refine Need.mk ?_) | exact True.intro | (first | (refine ⟨_, Told.refl _, ?_, ?_⟩) | (refine ⟨⟨_, _⟩, Told.refl _, ?_, ?_⟩) | (refine ⟨⟨_, _, _⟩, Told.refl _, ?_, ?_⟩) | (refine ⟨⟨_, _, _, _⟩, Told.refl _, ?_, ?_⟩) | (refine ⟨⟨_, _, _, _, _⟩, Told.refl _, ?_, ?_⟩) | (refine ⟨(), Told.refl _, ?_, ?_⟩)) | (with_reducible intro _) | (refine fun (_ : Bool) => ?_)))
  all_goals simp only [e1, e2, e3] at *
  all_goals unfold joinsS
  all_goals ((try dsimp only at *); (try simp only [decide_eq_true_eq, decide_eq_false_iff_not, beq_iff_eq, bne_iff_ne, beq_eq_false_iff_ne, bne_eq_false_iff_eq, ne_eq, Decidable.not_not, ge_iff_le, gt_iff_lt, Bool.not_eq_true', Bool.not_eq_false', Int.not_lt, Int.not_le, Nat.not_lt, Nat.not_le] at *))
  all_goals first
    | (rw [Bool.eq_iff_iff, beq_iff_eq, decide_eq_true_eq]; omega)
    | (symm; rw [decide_eq_false_iff_not]; omega)
    | (symm; rw [decide_eq_false_iff_not]; intro h; simp_all; done)
def SLastS : Sp := ⟨List Spn × Int × Int × Bool, fun (l, n, v, st) => l.length < 9223372036854775807, fun (l, n, v, st) => [aS l, aCode n v, .lit st], fun (l, n, v, st) => rI ((ES st).last l n v)⟩
theorem orI_some {α : Type} {o p : Option α} (h : o.isSome = true) : o.or p = o := by cases o; cases h; rfl
theorem orI_none {α : Type} {o p : Option α} (h : o.isSome = false) : o.or p = p := by cases o; rfl; cases h
set_option maxHeartbeats 4000000 in
theorem rlastS : SpOK Tryz.prog 141 SLastS := fun ⟨l, n, v, st⟩ hl => by
  have hC : COK Tryz.prog (cfg [(160, SToS)]) := Ty.ty.cfg ⟨rtoS, trivial⟩
  have hl : l.length < 9223372036854775807 := hl
  ((refine Fn.ofF hC Tryz.func141 Tryz.ntmps141 rfl rfl rfl ?_); (repeat' first | (with_reducible exact trivial) | (with_reducible rfl) | (refine And.intro ?_ ?_) | (refine Need.mk ?_) | exact True.intro | (first | (refine ⟨_, Told.refl _, ?_, ?_⟩) | (refine ⟨⟨_, _⟩, Told.refl _, ?_, ?_⟩) | (refine ⟨⟨_, _, _⟩, Told.refl _, ?_, ?_⟩) | (refine ⟨⟨_, _, _, _⟩, Told.refl _, ?_, ?_⟩) | (refine ⟨⟨_, _, _, _, _⟩, Told.refl _, ?_, ?_⟩) | (refine ⟨(), Told.refl _, ?_, ?_⟩)) | (with_reducible intro _) | (refine fun (_ : Bool) => ?_)))
  refine AW.loop (I := fun k : Nat => ⟨30, [(0, aS l), (2, .lit st), (4, .ptr 0 0), (8, .int .i64 ((k : Int) - 1))], [.box 51 [.int .i64 n, .int .i64 v]]⟩) (fun k => k ≤ l.length ∧ (ES st).last l n v = (ES st).last (l.take k) n v) (fun k => k) l.length ⟨Nat.le_refl _, by rw [List.take_length]⟩ ?_ ?_
  · (repeat' first | (with_reducible exact trivial) | (with_reducible rfl) | (refine And.intro ?_ ?_) | (refine Need.mk ?_) | exact True.intro | (first | (refine ⟨_, Told.refl _, ?_, ?_⟩) | (refine ⟨⟨_, _⟩, Told.refl _, ?_, ?_⟩) | (refine ⟨⟨_, _, _⟩, Told.refl _, ?_, ?_⟩) | (refine ⟨⟨_, _, _, _⟩, Told.refl _, ?_, ?_⟩) | (refine ⟨⟨_, _, _, _, _⟩, Told.refl _, ?_, ?_⟩) | (refine ⟨(), Told.refl _, ?_, ?_⟩)) | (with_reducible intro _) | (refine fun (_ : Bool) => ?_))
    all_goals first | rfl | exact iw (by omega) (by omega)
  · intro k ⟨hk, he⟩
    rcases k with _ | m
    · have hd : decide (((0 : Nat) : Int) - 1 ≥ 0) = false := by decide
      have he : (ES st).last l n v = none := he
      ((refine AW.byF ‹_› ?_); (repeat' first | (with_reducible exact trivial) | (with_reducible rfl) | (refine And.intro ?_ ?_) | (refine Need.mk ?_) | exact True.intro | (first | (refine ⟨_, Told.refl _, ?_, ?_⟩) | (refine ⟨⟨_, _⟩, Told.refl _, ?_, ?_⟩) | (refine ⟨⟨_, _, _⟩, Told.refl _, ?_, ?_⟩) | (refine ⟨⟨_, _, _, _⟩, Told.refl _, ?_, ?_⟩) | (refine ⟨⟨_, _, _, _, _⟩, Told.refl _, ?_, ?_⟩) | (refine ⟨(), Told.refl _, ?_, ?_⟩)) | (with_reducible intro _) | (refine fun (_ : Bool) => ?_)))
      all_goals first | (exact absurd ‹decide (((0 : Nat) : Int) - 1 ≥ 0) = true› (by rw [hd]; decide)) | skip
      all_goals (rw [he]; rfl)
    · have hd : decide (((m + 1 : Nat) : Int) - 1 ≥ 0) = true := decide_eq_true (by omega)
      have e : ((m + 1 : Nat) : Int) - 1 = (m : Int) := by omega
      have hw := iw (n := (m : Int) - 1) (by omega) (by omega)
      have hs : (ES st).last l n v = ((ES st).to (l.getD m default) n v).or ((ES st).last (l.take m) n v) := by rw [he, List.take_succ_eq_append_getElem (by omega), (ES st).last_snoc, getB (by omega)]
      ((refine AW.byF ‹_› ?_); (repeat' first | (with_reducible exact trivial) | (with_reducible rfl) | (refine And.intro ?_ ?_) | (refine Need.mk ?_) | exact True.intro | (first | (refine ⟨_, Told.refl _, ?_, ?_⟩) | (refine ⟨⟨_, _⟩, Told.refl _, ?_, ?_⟩) | (refine ⟨⟨_, _, _⟩, Told.refl _, ?_, ?_⟩) | (refine ⟨⟨_, _, _, _⟩, Told.refl _, ?_, ?_⟩) | (refine ⟨⟨_, _, _, _, _⟩, Told.refl _, ?_, ?_⟩) | (refine ⟨(), Told.refl _, ?_, ?_⟩)) | (with_reducible intro _) | (refine fun (_ : Bool) => ?_)))
      all_goals first | (exact absurd ‹decide (((m + 1 : Nat) : Int) - 1 ≥ 0) = false› (by rw [hd]; decide)) | skip
      any_goals (first | (refine Exists.intro ((m : Nat)) (And.intro ?_ (And.intro ?_ ?_)); all_goals (repeat' first | (with_reducible exact trivial) | (with_reducible rfl) | (refine And.intro ?_ ?_) | (refine Need.mk ?_) | exact True.intro | (first | (refine ⟨_, Told.refl _, ?_, ?_⟩) | (refine ⟨⟨_, _⟩, Told.refl _, ?_, ?_⟩) | (refine ⟨⟨_, _, _⟩, Told.refl _, ?_, ?_⟩) | (refine ⟨⟨_, _, _, _⟩, Told.refl _, ?_, ?_⟩) | (refine ⟨⟨_, _, _, _, _⟩, Told.refl _, ?_, ?_⟩) | (refine ⟨(), Told.refl _, ?_, ?_⟩)) | (with_reducible intro _) | (refine fun (_ : Bool) => ?_))) | fail)
      all_goals try simp only [e, hw, Int.toNat_natCast] at *
      all_goals first
        | omega
        | (have q : ((ES st).to (l.getD m default) n v).isSome = true := by assumption
           rw [hs, orI_some q]
           first | done | exact q.symm)
        | (have q : ((ES st).to (l.getD m default) n v).isSome = false := by assumption
           exact hs.trans (orI_none q))
theorem ok_at' {st : Bool} {t : List Spn} {k : Nat} (hk0 : 0 < k) (hp : saneS st (t.getD (k - 1) default) = true) : (ES st).okAt t k = true ↔ (saneS st (t.getD k default) = true ∧ ¬ (t.getD k default).n < (t.getD (k - 1) default).n ∧ ¬ ((t.getD k default).n = (t.getD (k - 1) default).n ∧ (t.getD k default).lo ≤ (t.getD (k - 1) default).hi) ∧ joinsS st (t.getD (k - 1) default) (t.getD k default) = false) := by
  have hne : (k == 0) = false := by simp; omega
  unfold En.okAt
  rw [hne, Bool.false_or, Bool.and_eq_true, Bool.and_eq_true, decide_eq_true_eq]
  show saneS st _ = true ∧ (((t.getD (k - 1) default).n < (t.getD k default).n ∨ ((t.getD (k - 1) default).n = (t.getD k default).n ∧ (t.getD (k - 1) default).hi < (t.getD k default).lo)) ∧ (!joinsS st _ _) = true) ↔ _
  rw [Bool.not_eq_true']
  constructor
  · rintro ⟨h1, h2, h3⟩
    exact ⟨h1, by omega, by omega, h3⟩
  · rintro ⟨h1, h2, h3, h4⟩
    exact ⟨h1, by omega, h4⟩
set_option maxHeartbeats 8000000 in
theorem rcanonS : SpOK Tryz.prog 58 SCanonS := fun ⟨t, st⟩ ht => by
  have hC : COK Tryz.prog (cfg [(97, SSaneS), (98, SJoinsS)]) := Ty.ty.cfg ⟨rsaneS, rjoinsS, trivial⟩
  have ht : t.length < 9223372036854775807 := ht
  ((refine Fn.ofF hC Tryz.func58 Tryz.ntmps58 rfl rfl rfl ?_); (repeat' first | (with_reducible exact trivial) | (with_reducible rfl) | (refine And.intro ?_ ?_) | (refine Need.mk ?_) | exact True.intro | (first | (refine ⟨_, Told.refl _, ?_, ?_⟩) | (refine ⟨⟨_, _⟩, Told.refl _, ?_, ?_⟩) | (refine ⟨⟨_, _, _⟩, Told.refl _, ?_, ?_⟩) | (refine ⟨⟨_, _, _, _⟩, Told.refl _, ?_, ?_⟩) | (refine ⟨⟨_, _, _, _, _⟩, Told.refl _, ?_, ?_⟩) | (refine ⟨(), Told.refl _, ?_, ?_⟩)) | (with_reducible intro _) | (refine fun (_ : Bool) => ?_)))
  refine AW.loop (I := fun k : Nat => ⟨76, [(0, aS t), (1, .lit st), (5, .int .i64 k)], []⟩) (fun k => k ≤ t.length ∧ ∀ j, j < k → (ES st).okAt t j = true) (fun k => t.length - k) 0 ⟨Nat.zero_le _, fun j hj => by omega⟩ ?_ ?_
  · (repeat' first | (with_reducible exact trivial) | (with_reducible rfl) | (refine And.intro ?_ ?_) | (refine Need.mk ?_) | exact True.intro | (first | (refine ⟨_, Told.refl _, ?_, ?_⟩) | (refine ⟨⟨_, _⟩, Told.refl _, ?_, ?_⟩) | (refine ⟨⟨_, _, _⟩, Told.refl _, ?_, ?_⟩) | (refine ⟨⟨_, _, _, _⟩, Told.refl _, ?_, ?_⟩) | (refine ⟨⟨_, _, _, _, _⟩, Told.refl _, ?_, ?_⟩) | (refine ⟨(), Told.refl _, ?_, ?_⟩)) | (with_reducible intro _) | (refine fun (_ : Bool) => ?_))
    all_goals rfl
  · intro k ⟨hk, hok⟩
    rcases Nat.lt_or_ge k t.length with hlt | hge
    · have hd : decide ((k : Int) < (t.length : Int)) = true := decide_eq_true (by omega)
      have hw := iw (n := (k : Int) + 1) (by omega) (by omega)
      rcases Nat.eq_zero_or_pos k with rfl | hk0
      · have hz := ok_zero (st := st) (t := t)
        ((refine AW.byF ‹_› ?_); (repeat' first | (with_reducible exact trivial) | (with_reducible rfl) | (refine And.intro ?_ ?_) | (refine Need.mk ?_) | exact True.intro | (first | (refine ⟨_, Told.refl _, ?_, ?_⟩) | (refine ⟨⟨_, _⟩, Told.refl _, ?_, ?_⟩) | (refine ⟨⟨_, _, _⟩, Told.refl _, ?_, ?_⟩) | (refine ⟨⟨_, _, _, _⟩, Told.refl _, ?_, ?_⟩) | (refine ⟨⟨_, _, _, _, _⟩, Told.refl _, ?_, ?_⟩) | (refine ⟨(), Told.refl _, ?_, ?_⟩)) | (with_reducible intro _) | (refine fun (_ : Bool) => ?_)))
        all_goals first | (exact absurd ‹decide (((0 : Nat) : Int) < (t.length : Int)) = false› (by rw [hd]; decide)) | skip
        any_goals (refine Exists.intro (1) (And.intro ?_ (And.intro ?_ ?_)); all_goals (repeat' first | (with_reducible exact trivial) | (with_reducible rfl) | (refine And.intro ?_ ?_) | (refine Need.mk ?_) | exact True.intro | (first | (refine ⟨_, Told.refl _, ?_, ?_⟩) | (refine ⟨⟨_, _⟩, Told.refl _, ?_, ?_⟩) | (refine ⟨⟨_, _, _⟩, Told.refl _, ?_, ?_⟩) | (refine ⟨⟨_, _, _, _⟩, Told.refl _, ?_, ?_⟩) | (refine ⟨⟨_, _, _, _, _⟩, Told.refl _, ?_, ?_⟩) | (refine ⟨(), Told.refl _, ?_, ?_⟩)) | (with_reducible intro _) | (refine fun (_ : Bool) => ?_)))
        all_goals ((try dsimp only at *); (try simp only [decide_eq_true_eq, decide_eq_false_iff_not, beq_iff_eq, bne_iff_ne, beq_eq_false_iff_ne, bne_eq_false_iff_eq, ne_eq, Decidable.not_not, ge_iff_le, gt_iff_lt, Bool.not_eq_true', Bool.not_eq_false', Int.not_lt, Int.not_le, Nat.not_lt, Nat.not_le] at *))
        all_goals try simp only [Int.toNat_natCast, hw] at *
        all_goals first
          | omega
          | exact canon_no (k := 0) (by omega) (fun q => by have := hz.1 q; simp_all)
          | exact ok_next hok (hz.2 ‹_›) _ ‹_›
          | (intros; first | rfl | (((try dsimp only at *); (try simp only [decide_eq_true_eq, decide_eq_false_iff_not, beq_iff_eq, bne_iff_ne, beq_eq_false_iff_ne, bne_eq_false_iff_eq, ne_eq, Decidable.not_not, ge_iff_le, gt_iff_lt, Bool.not_eq_true', Bool.not_eq_false', Int.not_lt, Int.not_le, Nat.not_lt, Nat.not_le] at *)) <;> (try simp only [IntKind.wrap_i64] at *) <;> omega))
      · have e1 : IntKind.i64.wrap ((k : Int) - 1) = ((k - 1 : Nat) : Int) := by rw [iw (by omega) (by omega)]; omega
        have hp := ok_sane (hok (k - 1) (by omega))
        have hiff := ok_at' hk0 hp
        ((refine AW.byF ‹_› ?_); (repeat' first | (with_reducible exact trivial) | (with_reducible rfl) | (refine And.intro ?_ ?_) | (refine Need.mk ?_) | exact True.intro | (first | (refine ⟨_, Told.refl _, ?_, ?_⟩) | (refine ⟨⟨_, _⟩, Told.refl _, ?_, ?_⟩) | (refine ⟨⟨_, _, _⟩, Told.refl _, ?_, ?_⟩) | (refine ⟨⟨_, _, _, _⟩, Told.refl _, ?_, ?_⟩) | (refine ⟨⟨_, _, _, _, _⟩, Told.refl _, ?_, ?_⟩) | (refine ⟨(), Told.refl _, ?_, ?_⟩)) | (with_reducible intro _) | (refine fun (_ : Bool) => ?_)))
        all_goals first | (exact absurd ‹decide ((k : Int) < (t.length : Int)) = false› (by rw [hd]; decide)) | skip
        any_goals (refine Exists.intro (k + 1) (And.intro ?_ (And.intro ?_ ?_)); all_goals (repeat' first | (with_reducible exact trivial) | (with_reducible rfl) | (refine And.intro ?_ ?_) | (refine Need.mk ?_) | exact True.intro | (first | (refine ⟨_, Told.refl _, ?_, ?_⟩) | (refine ⟨⟨_, _⟩, Told.refl _, ?_, ?_⟩) | (refine ⟨⟨_, _, _⟩, Told.refl _, ?_, ?_⟩) | (refine ⟨⟨_, _, _, _⟩, Told.refl _, ?_, ?_⟩) | (refine ⟨⟨_, _, _, _, _⟩, Told.refl _, ?_, ?_⟩) | (refine ⟨(), Told.refl _, ?_, ?_⟩)) | (with_reducible intro _) | (refine fun (_ : Bool) => ?_)))
        all_goals ((try dsimp only at *); (try simp only [decide_eq_true_eq, decide_eq_false_iff_not, beq_iff_eq, bne_iff_ne, beq_eq_false_iff_ne, bne_eq_false_iff_eq, ne_eq, Decidable.not_not, ge_iff_le, gt_iff_lt, Bool.not_eq_true', Bool.not_eq_false', Int.not_lt, Int.not_le, Nat.not_lt, Nat.not_le] at *))
        all_goals try simp only [e1, hw, Int.toNat_natCast] at *
        all_goals first
          | omega
          | exact hp
          | assumption
          | exact canon_no (k := k) (by omega) (fun q => by have := hiff.1 q; first | omega | simp_all)
          | (refine ok_next hok (hiff.2 ⟨‹_›, by omega, by omega, ?_⟩) _ ‹_›; first | assumption | (simp_all; done))
          | skip
    · obtain rfl : k = t.length := by omega
      have hd : decide ((t.length : Int) < (t.length : Int)) = false := decide_eq_false (by omega)
      ((refine AW.byF ‹_› ?_); (repeat' first | (with_reducible exact trivial) | (with_reducible rfl) | (refine And.intro ?_ ?_) | (refine Need.mk ?_) | exact True.intro | (first | (refine ⟨_, Told.refl _, ?_, ?_⟩) | (refine ⟨⟨_, _⟩, Told.refl _, ?_, ?_⟩) | (refine ⟨⟨_, _, _⟩, Told.refl _, ?_, ?_⟩) | (refine ⟨⟨_, _, _, _⟩, Told.refl _, ?_, ?_⟩) | (refine ⟨⟨_, _, _, _, _⟩, Told.refl _, ?_, ?_⟩) | (refine ⟨(), Told.refl _, ?_, ?_⟩)) | (with_reducible intro _) | (refine fun (_ : Bool) => ?_)))
      all_goals first | (exact absurd ‹decide ((t.length : Int) < (t.length : Int)) = true› (by rw [hd]; decide)) | skip
      exact canon_all hok
def SFindRS : Sp := ⟨List Spn × Int × Int × Bool, fun (t, n, v, st) => t.length < 9223372036854775807, fun (t, n, v, st) => [aS t, aCode n v, .lit st], fun (t, n, v, st) => rI ((ES st).find t n v)⟩
theorem lastS_tab {st : Bool} {t : List Spn} (h : (ES st).Tab t) (n c : Int) : (ES st).last t n c = (ES st).get t n c := (ES st).get_lastL h.2.1 h.1 n c
theorem rfindS : SpOK Tryz.prog 103 SFindRS := fun ⟨t, n, v, st⟩ hl => by
  have hC : COK Tryz.prog (cfg [(58, SCanonS), (141, SLastS)]) := Ty.ty.cfg ⟨rcanonS, rlastS, trivial⟩
  have hl : t.length < 9223372036854775807 := hl
  have hy : (ES st).canon t = true → (ES st).find t n v = (ES st).last t n v := fun h => by
    rw [find_yes h]
    exact (lastS_tab (((ES st).canon_iff t).1 h) n v).symm
  ((refine Fn.ofF hC Tryz.func103 Tryz.ntmps103 rfl rfl rfl ?_); (repeat' first | (with_reducible exact trivial) | (with_reducible rfl) | (refine And.intro ?_ ?_) | (refine Need.mk ?_) | exact True.intro | (first | (refine ⟨_, Told.refl _, ?_, ?_⟩) | (refine ⟨⟨_, _⟩, Told.refl _, ?_, ?_⟩) | (refine ⟨⟨_, _, _⟩, Told.refl _, ?_, ?_⟩) | (refine ⟨⟨_, _, _, _⟩, Told.refl _, ?_, ?_⟩) | (refine ⟨⟨_, _, _, _, _⟩, Told.refl _, ?_, ?_⟩) | (refine ⟨(), Told.refl _, ?_, ?_⟩)) | (with_reducible intro _) | (refine fun (_ : Bool) => ?_)))
  · exact hl
  · rename_i h
    rw [find_no (by simpa using h)]
    rfl
  · rename_i h
    rw [find_no (by simpa using h)]
    rfl
  · exact hl
  all_goals rw [hy (by simpa using ‹(!(ES st).canon t) = false›)]
end Go.Abs.Span
set_option maxRecDepth 100000
namespace Go.Abs.Dest
open Go.RowKit Go.Proofs Go.Abs.Tab
def SLastR : Sp := ⟨List Bf × Int × Int, fun (l, n, v) => l.length < 9223372036854775807, fun (l, n, v) => [aB l, aCode n v], fun (l, n, v) => rO (EB.last l n v)⟩
theorem or_some {α : Type} {o p : Option α} (h : o.isSome = true) : o.or p = o := by cases o; cases h; rfl
theorem or_none {α : Type} {o p : Option α} (h : o.isSome = false) : o.or p = p := by cases o; rfl; cases h
set_option maxHeartbeats 4000000 in
theorem rlast : SpOK Tryz.prog 142 SLastR := fun ⟨l, n, v⟩ hl => by
  have hC : COK Tryz.prog (cfg [(161, STo)]) := Ty.ty.cfg ⟨rto, trivial⟩
  have hl : l.length < 9223372036854775807 := hl
  ((refine Fn.ofF hC Tryz.func142 Tryz.ntmps142 rfl rfl rfl ?_); (repeat' first | (with_reducible exact trivial) | (with_reducible rfl) | (refine And.intro ?_ ?_) | (refine Need.mk ?_) | exact True.intro | (first | (refine ⟨_, Told.refl _, ?_, ?_⟩) | (refine ⟨⟨_, _⟩, Told.refl _, ?_, ?_⟩) | (refine ⟨⟨_, _, _⟩, Told.refl _, ?_, ?_⟩) | (refine ⟨⟨_, _, _, _⟩, Told.refl _, ?_, ?_⟩) | (refine ⟨⟨_, _, _, _, _⟩, Told.refl _, ?_, ?_⟩) | (refine ⟨(), Told.refl _, ?_, ?_⟩)) | (with_reducible intro _) | (refine fun (_ : Bool) => ?_)))
  refine AW.loop (I := fun k : Nat => ⟨27, [(0, aB l), (3, .ptr 0 0), (6, .int .i64 ((k : Int) - 1))], [.box 51 [.int .i64 n, .int .i64 v]]⟩) (fun k => k ≤ l.length ∧ EB.last l n v = EB.last (l.take k) n v) (fun k => k) l.length ⟨Nat.le_refl _, by rw [List.take_length]⟩ ?_ ?_
  · (repeat' first | (with_reducible exact trivial) | (with_reducible rfl) | (refine And.intro ?_ ?_) | (refine Need.mk ?_) | exact True.intro | (first | (refine ⟨_, Told.refl _, ?_, ?_⟩) | (refine ⟨⟨_, _⟩, Told.refl _, ?_, ?_⟩) | (refine ⟨⟨_, _, _⟩, Told.refl _, ?_, ?_⟩) | (refine ⟨⟨_, _, _, _⟩, Told.refl _, ?_, ?_⟩) | (refine ⟨⟨_, _, _, _, _⟩, Told.refl _, ?_, ?_⟩) | (refine ⟨(), Told.refl _, ?_, ?_⟩)) | (with_reducible intro _) | (refine fun (_ : Bool) => ?_))
    all_goals first | rfl | exact iw (by omega) (by omega)
  · intro k ⟨hk, he⟩
    rcases k with _ | m
    · have hd : decide (((0 : Nat) : Int) - 1 ≥ 0) = false := by decide
      have he : EB.last l n v = none := he
      ((refine AW.byF ‹_› ?_); (repeat' first | (with_reducible exact trivial) | (with_reducible rfl) | (refine And.intro ?_ ?_) | (refine Need.mk ?_) | exact True.intro | (first | (refine ⟨_, Told.refl _, ?_, ?_⟩) | (refine ⟨⟨_, _⟩, Told.refl _, ?_, ?_⟩) | (refine ⟨⟨_, _, _⟩, Told.refl _, ?_, ?_⟩) | (refine ⟨⟨_, _, _, _⟩, Told.refl _, ?_, ?_⟩) | (refine ⟨⟨_, _, _, _, _⟩, Told.refl _, ?_, ?_⟩) | (refine ⟨(), Told.refl _, ?_, ?_⟩)) | (with_reducible intro _) | (refine fun (_ : Bool) => ?_)))
      all_goals first | (exact absurd ‹decide (((0 : Nat) : Int) - 1 ≥ 0) = true› (by rw [hd]; decide)) | skip
      all_goals (rw [he]; rfl)
    · have hd : decide (((m + 1 : Nat) : Int) - 1 ≥ 0) = true := decide_eq_true (by omega)
      have e : ((m + 1 : Nat) : Int) - 1 = (m : Int) := by omega
      have hw := iw (n := (m : Int) - 1) (by omega) (by omega)
      have hs : EB.last l n v = (EB.to (l.getD m default) n v).or (EB.last (l.take m) n v) := by rw [he, List.take_succ_eq_append_getElem (by omega), EB.last_snoc, getB (by omega)]
      ((refine AW.byF ‹_› ?_); (repeat' first | (with_reducible exact trivial) | (with_reducible rfl) | (refine And.intro ?_ ?_) | (refine Need.mk ?_) | exact True.intro | (first | (refine ⟨_, Told.refl _, ?_, ?_⟩) | (refine ⟨⟨_, _⟩, Told.refl _, ?_, ?_⟩) | (refine ⟨⟨_, _, _⟩, Told.refl _, ?_, ?_⟩) | (refine ⟨⟨_, _, _, _⟩, Told.refl _, ?_, ?_⟩) | (refine ⟨⟨_, _, _, _, _⟩, Told.refl _, ?_, ?_⟩) | (refine ⟨(), Told.refl _, ?_, ?_⟩)) | (with_reducible intro _) | (refine fun (_ : Bool) => ?_)))
      all_goals first | (exact absurd ‹decide (((m + 1 : Nat) : Int) - 1 ≥ 0) = false› (by rw [hd]; decide)) | skip
      any_goals (refine Exists.intro (m) (And.intro ?_ (And.intro ?_ ?_)); all_goals (repeat' first | (with_reducible exact trivial) | (with_reducible rfl) | (refine And.intro ?_ ?_) | (refine Need.mk ?_) | exact True.intro | (first | (refine ⟨_, Told.refl _, ?_, ?_⟩) | (refine ⟨⟨_, _⟩, Told.refl _, ?_, ?_⟩) | (refine ⟨⟨_, _, _⟩, Told.refl _, ?_, ?_⟩) | (refine ⟨⟨_, _, _, _⟩, Told.refl _, ?_, ?_⟩) | (refine ⟨⟨_, _, _, _, _⟩, Told.refl _, ?_, ?_⟩) | (refine ⟨(), Told.refl _, ?_, ?_⟩)) | (with_reducible intro _) | (refine fun (_ : Bool) => ?_)))
      all_goals try simp only [e, hw, Int.toNat_natCast] at *
      all_goals first
        | omega
        | (have q : (EB.to (l.getD m default) n v).isSome = true := by assumption
           rw [hs, or_some q]
           first | done | exact q.symm)
        | (have q : (EB.to (l.getD m default) n v).isSome = false := by assumption
           exact hs.trans (or_none q))
def SFindR : Sp := ⟨List Bf × Int × Int, fun (t, n, v) => t.length < 9223372036854775807, fun (t, n, v) => [aB t, aCode n v], fun (t, n, v) => rO (EB.find t n v)⟩
theorem ok_at' {t : List Bf} {k : Nat} (hk0 : 0 < k) (hp : sane (t.getD (k - 1) default) = true) : EB.okAt t k = true ↔ (sane (t.getD k default) = true ∧ ¬ (t.getD k default).n < (t.getD (k - 1) default).n ∧ ¬ ((t.getD k default).n = (t.getD (k - 1) default).n ∧ (t.getD k default).lo ≤ (t.getD (k - 1) default).hi) ∧ joins (t.getD (k - 1) default) (t.getD k default) = false) := by
  have hne : (k == 0) = false := by simp; omega
  unfold En.okAt
  rw [hne, Bool.false_or, Bool.and_eq_true, Bool.and_eq_true, decide_eq_true_eq]
  show sane _ = true ∧ (((t.getD (k - 1) default).n < (t.getD k default).n ∨ ((t.getD (k - 1) default).n = (t.getD k default).n ∧ (t.getD (k - 1) default).hi < (t.getD k default).lo)) ∧ (!joins _ _) = true) ↔ _
  rw [Bool.not_eq_true']
  constructor
  · rintro ⟨h1, h2, h3⟩
    exact ⟨h1, by omega, by omega, h3⟩
  · rintro ⟨h1, h2, h3, h4⟩
    exact ⟨h1, by omega, h4⟩
set_option maxHeartbeats 8000000 in
theorem rcanon : SpOK Tryz.prog 59 SCanon := fun (t : List Bf) ht => by
  have hC : COK Tryz.prog (cfg [(99, SBSane), (100, SJoins)]) := Ty.ty.cfg ⟨rsane, rjoins, trivial⟩
  have ht : t.length < 9223372036854775807 := ht
  ((refine Fn.ofF hC Tryz.func59 Tryz.ntmps59 rfl rfl rfl ?_); (repeat' first | (with_reducible exact trivial) | (with_reducible rfl) | (refine And.intro ?_ ?_) | (refine Need.mk ?_) | exact True.intro | (first | (refine ⟨_, Told.refl _, ?_, ?_⟩) | (refine ⟨⟨_, _⟩, Told.refl _, ?_, ?_⟩) | (refine ⟨⟨_, _, _⟩, Told.refl _, ?_, ?_⟩) | (refine ⟨⟨_, _, _, _⟩, Told.refl _, ?_, ?_⟩) | (refine ⟨⟨_, _, _, _, _⟩, Told.refl _, ?_, ?_⟩) | (refine ⟨(), Told.refl _, ?_, ?_⟩)) | (with_reducible intro _) | (refine fun (_ : Bool) => ?_)))
  refine AW.loop (I := fun k : Nat => ⟨72, [(0, aB t), (3, .int .i64 k)], []⟩) (fun k => k ≤ t.length ∧ ∀ j, j < k → EB.okAt t j = true) (fun k => t.length - k) 0 ⟨Nat.zero_le _, fun j hj => by omega⟩ ?_ ?_
  · (repeat' first | (with_reducible exact trivial) | (with_reducible rfl) | (refine And.intro ?_ ?_) | (refine Need.mk ?_) | exact True.intro | (first | (refine ⟨_, Told.refl _, ?_, ?_⟩) | (refine ⟨⟨_, _⟩, Told.refl _, ?_, ?_⟩) | (refine ⟨⟨_, _, _⟩, Told.refl _, ?_, ?_⟩) | (refine ⟨⟨_, _, _, _⟩, Told.refl _, ?_, ?_⟩) | (refine ⟨⟨_, _, _, _, _⟩, Told.refl _, ?_, ?_⟩) | (refine ⟨(), Told.refl _, ?_, ?_⟩)) | (with_reducible intro _) | (refine fun (_ : Bool) => ?_))
    all_goals rfl
  · intro k ⟨hk, hok⟩
    rcases Nat.lt_or_ge k t.length with hlt | hge
    · have hd : decide ((k : Int) < (t.length : Int)) = true := decide_eq_true (by omega)
      have hw := iw (n := (k : Int) + 1) (by omega) (by omega)
      rcases Nat.eq_zero_or_pos k with rfl | hk0
      · have hz := ok_zero (t := t)
        ((refine AW.byF ‹_› ?_); (repeat' first | (with_reducible exact trivial) | (with_reducible rfl) | (refine And.intro ?_ ?_) | (refine Need.mk ?_) | exact True.intro | (first | (refine ⟨_, Told.refl _, ?_, ?_⟩) | (refine ⟨⟨_, _⟩, Told.refl _, ?_, ?_⟩) | (refine ⟨⟨_, _, _⟩, Told.refl _, ?_, ?_⟩) | (refine ⟨⟨_, _, _, _⟩, Told.refl _, ?_, ?_⟩) | (refine ⟨⟨_, _, _, _, _⟩, Told.refl _, ?_, ?_⟩) | (refine ⟨(), Told.refl _, ?_, ?_⟩)) | (with_reducible intro _) | (refine fun (_ : Bool) => ?_)))
        all_goals first | (exact absurd ‹decide (((0 : Nat) : Int) < (t.length : Int)) = false› (by rw [hd]; decide)) | skip
        any_goals (refine Exists.intro (1) (And.intro ?_ (And.intro ?_ ?_)); all_goals (repeat' first | (with_reducible exact trivial) | (with_reducible rfl) | (refine And.intro ?_ ?_) | (refine Need.mk ?_) | exact True.intro | (first | (refine ⟨_, Told.refl _, ?_, ?_⟩) | (refine ⟨⟨_, _⟩, Told.refl _, ?_, ?_⟩) | (refine ⟨⟨_, _, _⟩, Told.refl _, ?_, ?_⟩) | (refine ⟨⟨_, _, _, _⟩, Told.refl _, ?_, ?_⟩) | (refine ⟨⟨_, _, _, _, _⟩, Told.refl _, ?_, ?_⟩) | (refine ⟨(), Told.refl _, ?_, ?_⟩)) | (with_reducible intro _) | (refine fun (_ : Bool) => ?_)))
        all_goals ((try dsimp only at *); (try simp only [decide_eq_true_eq, decide_eq_false_iff_not, beq_iff_eq, bne_iff_ne, beq_eq_false_iff_ne, bne_eq_false_iff_eq, ne_eq, Decidable.not_not, ge_iff_le, gt_iff_lt, Bool.not_eq_true', Bool.not_eq_false', Int.not_lt, Int.not_le, Nat.not_lt, Nat.not_le] at *))
        all_goals try simp only [Int.toNat_natCast, hw] at *
        all_goals first
          | omega
          | exact canon_no (k := 0) (by omega) (fun q => by have := hz.1 q; simp_all)
          | exact ok_next hok (hz.2 ‹_›) _ ‹_›
          | (intros; first | rfl | (((try dsimp only at *); (try simp only [decide_eq_true_eq, decide_eq_false_iff_not, beq_iff_eq, bne_iff_ne, beq_eq_false_iff_ne, bne_eq_false_iff_eq, ne_eq, Decidable.not_not, ge_iff_le, gt_iff_lt, Bool.not_eq_true', Bool.not_eq_false', Int.not_lt, Int.not_le, Nat.not_lt, Nat.not_le] at *)) <;> (try simp only [IntKind.wrap_i64] at *) <;> omega))
      · have e1 : IntKind.i64.wrap ((k : Int) - 1) = ((k - 1 : Nat) : Int) := by rw [iw (by omega) (by omega)]; omega
        have hp := ok_sane (hok (k - 1) (by omega))
        have hiff := ok_at' hk0 hp
        ((refine AW.byF ‹_› ?_); (repeat' first | (with_reducible exact trivial) | (with_reducible rfl) | (refine And.intro ?_ ?_) | (refine Need.mk ?_) | exact True.intro | (first | (refine ⟨_, Told.refl _, ?_, ?_⟩) | (refine ⟨⟨_, _⟩, Told.refl _, ?_, ?_⟩) | (refine ⟨⟨_, _, _⟩, Told.refl _, ?_, ?_⟩) | (refine ⟨⟨_, _, _, _⟩, Told.refl _, ?_, ?_⟩) | (refine ⟨⟨_, _, _, _, _⟩, Told.refl _, ?_, ?_⟩) | (refine ⟨(), Told.refl _, ?_, ?_⟩)) | (with_reducible intro _) | (refine fun (_ : Bool) => ?_)))
        all_goals first | (exact absurd ‹decide ((k : Int) < (t.length : Int)) = false› (by rw [hd]; decide)) | skip
        any_goals (refine Exists.intro (k + 1) (And.intro ?_ (And.intro ?_ ?_)); all_goals (repeat' first | (with_reducible exact trivial) | (with_reducible rfl) | (refine And.intro ?_ ?_) | (refine Need.mk ?_) | exact True.intro | (first | (refine ⟨_, Told.refl _, ?_, ?_⟩) | (refine ⟨⟨_, _⟩, Told.refl _, ?_, ?_⟩) | (refine ⟨⟨_, _, _⟩, Told.refl _, ?_, ?_⟩) | (refine ⟨⟨_, _, _, _⟩, Told.refl _, ?_, ?_⟩) | (refine ⟨⟨_, _, _, _, _⟩, Told.refl _, ?_, ?_⟩) | (refine ⟨(), Told.refl _, ?_, ?_⟩)) | (with_reducible intro _) | (refine fun (_ : Bool) => ?_)))
        all_goals ((try dsimp only at *); (try simp only [decide_eq_true_eq, decide_eq_false_iff_not, beq_iff_eq, bne_iff_ne, beq_eq_false_iff_ne, bne_eq_false_iff_eq, ne_eq, Decidable.not_not, ge_iff_le, gt_iff_lt, Bool.not_eq_true', Bool.not_eq_false', Int.not_lt, Int.not_le, Nat.not_lt, Nat.not_le] at *))
        all_goals try simp only [e1, hw, Int.toNat_natCast] at *
        all_goals first
          | omega
          | exact hp
          | assumption
          | exact canon_no (k := k) (by omega) (fun q => by have := hiff.1 q; first | omega | simp_all)
          | (refine ok_next hok (hiff.2 ⟨‹_›, by omega, by omega, ?_⟩) _ ‹_›; first | assumption | (simp_all; done))
          | skip
    · obtain rfl : k = t.length := by omega
      have hd : decide ((t.length : Int) < (t.length : Int)) = false := decide_eq_false (by omega)
      ((refine AW.byF ‹_› ?_); (repeat' first | (with_reducible exact trivial) | (with_reducible rfl) | (refine And.intro ?_ ?_) | (refine Need.mk ?_) | exact True.intro | (first | (refine ⟨_, Told.refl _, ?_, ?_⟩) | (refine ⟨⟨_, _⟩, Told.refl _, ?_, ?_⟩) | (refine ⟨⟨_, _, _⟩, Told.refl _, ?_, ?_⟩) | (refine ⟨⟨_, _, _, _⟩, Told.refl _, ?_, ?_⟩) | (refine ⟨⟨_, _, _, _, _⟩, Told.refl _, ?_, ?_⟩) | (refine ⟨(), Told.refl _, ?_, ?_⟩)) | (with_reducible intro _) | (refine fun (_ : Bool) => ?_)))
      all_goals first | (exact absurd ‹decide ((t.length : Int) < (t.length : Int)) = true› (by rw [hd]; decide)) | skip
      exact canon_all hok
theorem rfind : SpOK Tryz.prog 104 SFindR := fun ⟨t, n, v⟩ hl => by
  have hC : COK Tryz.prog (cfg [(59, SCanon), (142, SLastR)]) := Ty.ty.cfg ⟨rcanon, rlast, trivial⟩
  have hl : t.length < 9223372036854775807 := hl
  have hy : EB.canon t = true → EB.find t n v = EB.last t n v := fun h => by
    rw [find_yes h]
    exact (last_tab ((EB.canon_iff t).1 h) n v).symm
  ((refine Fn.ofF hC Tryz.func104 Tryz.ntmps104 rfl rfl rfl ?_); (repeat' first | (with_reducible exact trivial) | (with_reducible rfl) | (refine And.intro ?_ ?_) | (refine Need.mk ?_) | exact True.intro | (first | (refine ⟨_, Told.refl _, ?_, ?_⟩) | (refine ⟨⟨_, _⟩, Told.refl _, ?_, ?_⟩) | (refine ⟨⟨_, _, _⟩, Told.refl _, ?_, ?_⟩) | (refine ⟨⟨_, _, _, _⟩, Told.refl _, ?_, ?_⟩) | (refine ⟨⟨_, _, _, _, _⟩, Told.refl _, ?_, ?_⟩) | (refine ⟨(), Told.refl _, ?_, ?_⟩)) | (with_reducible intro _) | (refine fun (_ : Bool) => ?_)))
  · exact hl
  · rename_i h
    rw [find_no (by simpa using h)]
    rfl
  · rename_i h
    rw [find_no (by simpa using h)]
    rfl
  · exact hl
  all_goals rw [hy (by simpa using ‹(!EB.canon t) = false›)]
def SPut : Sp := ⟨List Int × Int, fun (l, v) => l.length ≤ 1000000000, fun (l, v) => [aI l, .int .i64 v], fun (l, v) => .row 3 1 (insU l v).length (els ci (insU l v))⟩
/-- What is behind, once done or not. -/
def restU (d : Bool) (l : List Int) (v : Int) : List Int := cond d l (insU l v)
end Go.Abs.Dest
set_option maxRecDepth 100000
namespace Go.Abs.Lk
open Go.RowKit Go.Proofs Go.Abs.Tab Go.Abs.Dest Go.Abs.Span Go.Abs.Coll Go.Abs.Hx Go.Abs.Mt
theorem rnum : SpOK Tryz.prog 61 SNum := fun ⟨t, n, v⟩ ⟨h1, h2⟩ => by
  have hC : COK Tryz.prog (cfg [(103, SFindRS)]) := Ty.ty.cfg ⟨rfindS, trivial⟩
  have h1 : t.cids.length < 4611686018427387904 := h1
  have h2 : t.nots.length < 4611686018427387904 := h2
  ((refine Fn.ofF hC Tryz.func61 Tryz.ntmps61 rfl rfl rfl ?_); (repeat' first | (with_reducible exact trivial) | (with_reducible rfl) | (refine And.intro ?_ ?_) | (refine Need.mk ?_) | exact True.intro | (first | (refine ⟨_, Told.refl _, ?_, ?_⟩) | (refine ⟨⟨_, _⟩, Told.refl _, ?_, ?_⟩) | (refine ⟨⟨_, _, _⟩, Told.refl _, ?_, ?_⟩) | (refine ⟨⟨_, _, _, _⟩, Told.refl _, ?_, ?_⟩) | (refine ⟨⟨_, _, _, _, _⟩, Told.refl _, ?_, ?_⟩) | (refine ⟨(), Told.refl _, ?_, ?_⟩)) | (with_reducible intro _) | (refine fun (_ : Bool) => ?_)))
  · show t.cids.length < 9223372036854775807
    omega
  all_goals
    cases hf : (ES true).find t.cids n v with
    | some x =>
      have hn : numT t n v = (x, 1) := by unfold numT; rw [hf]
      first
        | (rw [hn]; done)
        | (rw [hn]; first | rfl | (rw [hf]; done) | (rw [hf]; rfl))
        | (exact absurd ‹((ES true).find t.cids n v).isSome = false› (by rw [hf]; simp))
    | none =>
      first
        | (exact absurd ‹((ES true).find t.cids n v).isSome = true› (by rw [hf]; decide))
        | (show t.nots.length < 9223372036854775807; omega)
        | (cases hg : (ES false).find t.nots n v with
           | some x =>
             have hn : numT t n v = (x, 2) := by unfold numT; rw [hf, hg]
             first
               | (rw [hn]; done)
               | (rw [hn]; first | rfl | (rw [hg]; done) | (rw [hg]; rfl))
               | (exact absurd ‹((ES false).find t.nots n v).isSome = false› (by rw [hg]; simp))
           | none =>
             have hn : numT t n v = (0, 0) := by unfold numT; rw [hf, hg]
             first
               | (exact absurd ‹((ES false).find t.nots n v).isSome = true› (by rw [hg]; decide))
               | (rw [hn]; done))
theorem runiL : SpOK Tryz.prog 62 SUniL := fun ⟨t, n, v⟩ ht => by
  have hC : COK Tryz.prog (cfg [(104, SFindR)]) := Ty.ty.cfg ⟨rfind, trivial⟩
  have ht : t.bfs.length < 4611686018427387904 := ht
  ((refine Fn.ofF hC Tryz.func62 Tryz.ntmps62 rfl rfl rfl ?_); (repeat' first | (with_reducible exact trivial) | (with_reducible rfl) | (refine And.intro ?_ ?_) | (refine Need.mk ?_) | exact True.intro | (first | (refine ⟨_, Told.refl _, ?_, ?_⟩) | (refine ⟨⟨_, _⟩, Told.refl _, ?_, ?_⟩) | (refine ⟨⟨_, _, _⟩, Told.refl _, ?_, ?_⟩) | (refine ⟨⟨_, _, _, _⟩, Told.refl _, ?_, ?_⟩) | (refine ⟨⟨_, _, _, _, _⟩, Told.refl _, ?_, ?_⟩) | (refine ⟨(), Told.refl _, ?_, ?_⟩)) | (with_reducible intro _) | (refine fun (_ : Bool) => ?_)))
  show t.bfs.length < 9223372036854775807
  omega
def SLookR : Sp := ⟨Tbl × List Int, fun (t, s) => smallT t ∧ s.length < 1000000000 ∧ B8 s, fun (t, s) => [.agg (cT t), a8 s], fun (t, s) => .row 88 9 (sgs t s).length (els cG (sgs t s))⟩
set_option maxHeartbeats 16000000 in
theorem rlook : SpOK Tryz.prog 36 SLookR := fun ⟨t, s⟩ ⟨ht, hs, h8⟩ => by
  have hC : COK Tryz.prog (cfg [(60, SAllR), (61, SNum), (62, SUniL)]) := Ty.ty.cfg ⟨rall, rnum, runiL, trivial⟩
  obtain ⟨t1, t2, t3, t4⟩ := ht
  have hlen := allAt_len (l := t.spaces) (s := s) (s.length - 0) 0 rfl
  have t2' : t.cids.length < 4611686018427387904 := by omega
  have t3' : t.nots.length < 4611686018427387904 := by omega
  have t4' : t.bfs.length < 4611686018427387904 := by omega
  obtain ⟨L, hL⟩ : ∃ L, L = allAt t.spaces s 0 := ⟨_, rfl⟩
  rw [← hL] at hlen
  ((refine Fn.ofF hC Tryz.func36 Tryz.ntmps36 rfl rfl rfl ?_); (repeat' first | (with_reducible exact trivial) | (with_reducible rfl) | (refine And.intro ?_ ?_) | (refine Need.mk ?_) | exact True.intro | (first | (refine ⟨_, Told.refl _, ?_, ?_⟩) | (refine ⟨⟨_, _⟩, Told.refl _, ?_, ?_⟩) | (refine ⟨⟨_, _, _⟩, Told.refl _, ?_, ?_⟩) | (refine ⟨⟨_, _, _, _⟩, Told.refl _, ?_, ?_⟩) | (refine ⟨⟨_, _, _, _, _⟩, Told.refl _, ?_, ?_⟩) | (refine ⟨(), Told.refl _, ?_, ?_⟩)) | (with_reducible intro _) | (refine fun (_ : Bool) => ?_)))
  any_goals first | exact t1 | exact hs | exact h8
  refine AW.loop (I := fun k : Nat => ⟨67, [(2, .ptr 0 0), (5, .own 1), (6, .own 2), (7, .int .i64 k)], [.box 26 (cT t), .row 75 5 L.length (els cP L), .row 88 9 ((L.take k).map (sgOf t)).length (els cG ((L.take k).map (sgOf t)))]⟩) (fun k => k ≤ L.length) (fun k => L.length - k) 0 (Nat.zero_le _) ?_ ?_
  · clear hlen
    subst hL
    (repeat' first | (with_reducible exact trivial) | (with_reducible rfl) | (refine And.intro ?_ ?_) | (refine Need.mk ?_) | exact True.intro | (first | (refine ⟨_, Told.refl _, ?_, ?_⟩) | (refine ⟨⟨_, _⟩, Told.refl _, ?_, ?_⟩) | (refine ⟨⟨_, _, _⟩, Told.refl _, ?_, ?_⟩) | (refine ⟨⟨_, _, _, _⟩, Told.refl _, ?_, ?_⟩) | (refine ⟨⟨_, _, _, _, _⟩, Told.refl _, ?_, ?_⟩) | (refine ⟨(), Told.refl _, ?_, ?_⟩)) | (with_reducible intro _) | (refine fun (_ : Bool) => ?_))
    all_goals first | rfl
  · intro k hk
    rcases Nat.lt_or_ge k L.length with hlt | hge
    · have hd : decide ((k : Int) < (L.length : Int)) = true := decide_eq_true (by omega)
      have hw := iw (n := (k : Int) + 1) (by omega) (by omega)
      have hnx := map_next (t := t) hlt
      have hml : ((L.take k).map (sgOf t)).length ≤ L.length := by rw [List.length_map, List.length_take]; omega
      ((refine AW.byF ‹_› ?_); (repeat' first | (with_reducible exact trivial) | (with_reducible rfl) | (refine And.intro ?_ ?_) | (refine Need.mk ?_) | exact True.intro | (first | (refine ⟨_, Told.refl _, ?_, ?_⟩) | (refine ⟨⟨_, _⟩, Told.refl _, ?_, ?_⟩) | (refine ⟨⟨_, _, _⟩, Told.refl _, ?_, ?_⟩) | (refine ⟨⟨_, _, _, _⟩, Told.refl _, ?_, ?_⟩) | (refine ⟨⟨_, _, _, _, _⟩, Told.refl _, ?_, ?_⟩) | (refine ⟨(), Told.refl _, ?_, ?_⟩)) | (with_reducible intro _) | (refine fun (_ : Bool) => ?_)))
      all_goals first | (exact absurd ‹decide ((k : Int) < (L.length : Int)) = false› (by rw [hd]; decide)) | skip
      any_goals (first | (refine Exists.intro ((k + 1 : Nat)) (And.intro ?_ (And.intro ?_ ?_)); all_goals (repeat' first | (with_reducible exact trivial) | (with_reducible rfl) | (refine And.intro ?_ ?_) | (refine Need.mk ?_) | exact True.intro | (first | (refine ⟨_, Told.refl _, ?_, ?_⟩) | (refine ⟨⟨_, _⟩, Told.refl _, ?_, ?_⟩) | (refine ⟨⟨_, _, _⟩, Told.refl _, ?_, ?_⟩) | (refine ⟨⟨_, _, _, _⟩, Told.refl _, ?_, ?_⟩) | (refine ⟨⟨_, _, _, _, _⟩, Told.refl _, ?_, ?_⟩) | (refine ⟨(), Told.refl _, ?_, ?_⟩)) | (with_reducible intro _) | (refine fun (_ : Bool) => ?_))) | fail)
      all_goals try simp only [Int.toNat_natCast] at *
      all_goals first
        | omega
        | exact t4'
        | exact t2'
        | exact t3'
        | exact ⟨t2', t3'⟩
        | (show (((L.take k).map (sgOf t)).length + 1) * 88 ≤ _; omega)
        | (rw [hw]; rfl)
        | (rw [hnx, List.length_append]; rfl)
        | (have q := ‹(L.getD k default).full = true›
           have hp : sgOf t (L.getD k default) = ⟨L.getD k default, (numT t (L.getD k default).cn (L.getD k default).cv).2, (numT t (L.getD k default).cn (L.getD k default).cv).1, (EB.find t.bfs (L.getD k default).cn (L.getD k default).cv).getD [], (EB.find t.bfs (L.getD k default).cn (L.getD k default).cv).isSome⟩ := if_pos q
           rename_i z hz
           rw [hnx, hp] at hz ⊢
           refine snoc_sub cG_emb rfl ?_ z hz
           refine ⟨⟨rfl⟩, ⟨rfl⟩, ⟨rfl⟩, ⟨rfl⟩, ⟨rfl⟩, ⟨rfl⟩, ⟨rfl⟩, ?_, ⟨rfl⟩, trivial⟩
           exact ⟨⟨rfl⟩, els_of ci_emb (n := 0) (fun _ _ => rfl)⟩)
        | (have q := ‹(L.getD k default).full = false›
           have hp : sgOf t (L.getD k default) = ⟨L.getD k default, 0, 0, [], false⟩ := if_neg (by rw [q]; decide)
           rename_i z hz
           rw [hnx, hp] at hz ⊢
           refine snoc_sub cG_emb rfl ?_ z hz
           exact ⟨⟨rfl⟩, ⟨rfl⟩, ⟨rfl⟩, ⟨rfl⟩, ⟨rfl⟩, ⟨rfl⟩, ⟨rfl⟩, ⟨rfl⟩, ⟨rfl⟩, trivial⟩)
    · obtain rfl : k = L.length := by omega
      have hd : decide ((L.length : Int) < (L.length : Int)) = false := decide_eq_false (by omega)
      have hr : (L.take L.length).map (sgOf t) = sgs t s := by rw [List.take_length, hL]; rfl
      ((refine AW.byF ‹_› ?_); (repeat' first | (with_reducible exact trivial) | (with_reducible rfl) | (refine And.intro ?_ ?_) | (refine Need.mk ?_) | exact True.intro | (first | (refine ⟨_, Told.refl _, ?_, ?_⟩) | (refine ⟨⟨_, _⟩, Told.refl _, ?_, ?_⟩) | (refine ⟨⟨_, _, _⟩, Told.refl _, ?_, ?_⟩) | (refine ⟨⟨_, _, _, _⟩, Told.refl _, ?_, ?_⟩) | (refine ⟨⟨_, _, _, _, _⟩, Told.refl _, ?_, ?_⟩) | (refine ⟨(), Told.refl _, ?_, ?_⟩)) | (with_reducible intro _) | (refine fun (_ : Bool) => ?_)))
      all_goals first | (exact absurd ‹decide ((L.length : Int) < (L.length : Int)) = true› (by rw [hd]; decide)) | skip
      all_goals rw [hr]
end Go.Abs.Lk
set_option maxRecDepth 100000
namespace Go.Abs.Txt
open Go.RowKit Go.Proofs Go.Abs.Utf Go.Abs.Hx
def pairR (a b : Int) : Int := IntKind.i64.wrap (IntKind.i64.wrap (IntKind.i64.wrap (65536 + IntKind.i64.wrap (IntKind.i64.wrap (a - 55296) * 1024)) + b) - 56320)
theorem pairRW {a b : Int} (h1 : highB a = true) (h2 : lowB b = true) : pairR a b = 65536 + (a - 55296) * 1024 + b - 56320 := by
  unfold pairR
  unfold highB at h1
  unfold lowB at h2
  rw [decide_eq_true_eq] at h1 h2
  simp only [IntKind.wrap_i64]
  omega
theorem drop_cons {l : List Int} {i : Nat} (h : i < l.length) : l.drop i = l.getD i default :: l.drop (i + 1) := by
  rw [List.drop_eq_getElem_cons h]
  simp [List.getD, h]
set_option maxHeartbeats 4000000 in
theorem rdec16 : SpOK Tryz.prog 65 SDec := fun (l : List Int) hl => by
  have hC : COK Tryz.prog (cfg [(106, SHigh), (107, SLow), (64, SGd)]) := Ty.ty.cfg ⟨rhigh, rlow, rgdf, trivial⟩
  have hl : l.length ≤ 1000000000 := hl
  ((refine Fn.ofF hC Tryz.func65 Tryz.ntmps65 rfl rfl rfl ?_); (repeat' first | (with_reducible exact trivial) | (with_reducible rfl) | (refine And.intro ?_ ?_) | (refine Need.mk ?_) | exact True.intro | (first | (refine ⟨_, Told.refl _, ?_, ?_⟩) | (refine ⟨⟨_, _⟩, Told.refl _, ?_, ?_⟩) | (refine ⟨⟨_, _, _⟩, Told.refl _, ?_, ?_⟩) | (refine ⟨⟨_, _, _, _⟩, Told.refl _, ?_, ?_⟩) | (refine ⟨⟨_, _, _, _, _⟩, Told.refl _, ?_, ?_⟩) | (refine ⟨(), Told.refl _, ?_, ?_⟩)) | (with_reducible intro _) | (refine fun (_ : Bool) => ?_)))
  refine AW.loop (I := fun x : Nat × List Int => ⟨67, [(0, aI l), (3, .own 0), (4, .int .i64 x.1)], [.row 3 1 x.2.length (els ci x.2)]⟩) (fun x => x.1 ≤ l.length ∧ x.2.length ≤ x.1 ∧ decU l = x.2 ++ decU (l.drop x.1)) (fun x => l.length - x.1) (0, []) ⟨Nat.zero_le _, Nat.le_refl _, rfl⟩ ?_ ?_
  · (repeat' first | (with_reducible exact trivial) | (with_reducible rfl) | (refine And.intro ?_ ?_) | (refine Need.mk ?_) | exact True.intro | (first | (refine ⟨_, Told.refl _, ?_, ?_⟩) | (refine ⟨⟨_, _⟩, Told.refl _, ?_, ?_⟩) | (refine ⟨⟨_, _, _⟩, Told.refl _, ?_, ?_⟩) | (refine ⟨⟨_, _, _, _⟩, Told.refl _, ?_, ?_⟩) | (refine ⟨⟨_, _, _, _, _⟩, Told.refl _, ?_, ?_⟩) | (refine ⟨(), Told.refl _, ?_, ?_⟩)) | (with_reducible intro _) | (refine fun (_ : Bool) => ?_))
    all_goals rfl
  · rintro ⟨i, out⟩ ⟨h1, h2, h3⟩
    dsimp only at h1 h2 h3 ⊢
    rcases Nat.lt_or_ge i l.length with hlt | hge
    · have hd : decide ((i : Int) < (l.length : Int)) = true := decide_eq_true (by omega)
      have hw := iw (n := (i : Int) + 1) (by omega) (by omega)
      have hw2 := iw (n := (i : Int) + 1 + 1) (by omega) (by omega)
      have ht : ((i : Int) + 1).toNat = i + 1 := by omega
      have hwk : ∀ j : Nat, j ≤ 1000000001 → IntKind.i64.wrap ((j : Int) + 1) = ((j + 1 : Nat) : Int) := fun j hj => by rw [iw (by omega) (by omega)]; omega
      have hda := drop_cons hlt
      by_cases hp : i + 1 < l.length ∧ highB (l.getD i default) = true ∧ lowB (l.getD (i + 1) default) = true
      · have h5 : decU l = (out ++ [pairR (l.getD i default) (l.getD (i + 1) default)]) ++ decU (l.drop (i + 2)) := by
          rw [h3, hda, drop_cons hp.1, decU_pair hp.2.1 hp.2.2, pairRW hp.2.1 hp.2.2, List.append_assoc]
          rfl
        have hd2 : decide ((i : Int) + 1 < (l.length : Int)) = true := decide_eq_true (by omega)
        ((refine AW.byF ‹_› ?_); (repeat' first | (with_reducible exact trivial) | (with_reducible rfl) | (refine And.intro ?_ ?_) | (refine Need.mk ?_) | exact True.intro | (first | (refine ⟨_, Told.refl _, ?_, ?_⟩) | (refine ⟨⟨_, _⟩, Told.refl _, ?_, ?_⟩) | (refine ⟨⟨_, _, _⟩, Told.refl _, ?_, ?_⟩) | (refine ⟨⟨_, _, _, _⟩, Told.refl _, ?_, ?_⟩) | (refine ⟨⟨_, _, _, _, _⟩, Told.refl _, ?_, ?_⟩) | (refine ⟨(), Told.refl _, ?_, ?_⟩)) | (with_reducible intro _) | (refine fun (_ : Bool) => ?_)))
        all_goals try simp only [hw, ht, Int.toNat_natCast] at *
        all_goals first | (exact absurd ‹decide ((i : Int) < (l.length : Int)) = false› (by rw [hd]; decide)) | (exact absurd ‹decide ((i : Int) + 1 < (l.length : Int)) = false› (by rw [hd2]; decide)) | (exact absurd ‹highB (l.getD i default) = false› (by rw [hp.2.1]; decide)) | (exact absurd ‹lowB (l.getD (i + 1) default) = false› (by rw [hp.2.2]; decide)) | skip
        any_goals (refine Exists.intro ((i + 2, out ++ [pairR (l.getD i default) (l.getD (i + 1) default)]) : Nat × List Int) (And.intro ?_ (And.intro ?_ ?_)); all_goals (repeat' first | (with_reducible exact trivial) | (with_reducible rfl) | (refine And.intro ?_ ?_) | (refine Need.mk ?_) | exact True.intro | (first | (refine ⟨_, Told.refl _, ?_, ?_⟩) | (refine ⟨⟨_, _⟩, Told.refl _, ?_, ?_⟩) | (refine ⟨⟨_, _, _⟩, Told.refl _, ?_, ?_⟩) | (refine ⟨⟨_, _, _, _⟩, Told.refl _, ?_, ?_⟩) | (refine ⟨⟨_, _, _, _, _⟩, Told.refl _, ?_, ?_⟩) | (refine ⟨(), Told.refl _, ?_, ?_⟩)) | (with_reducible intro _) | (refine fun (_ : Bool) => ?_)))
        all_goals try simp only [hw, hw2, ht, Int.toNat_natCast] at *
        all_goals first
          | exact h5
          | (rename_i i hi; exact els_of ci_emb (n := 0) (cat_snoc rfl) i hi)
          | (rw [List.length_append]; rfl)
          | omega
          | (rw [List.length_append, List.length_singleton]; omega)
          | (rw [hwk i (by omega), hwk (i + 1) (by omega)]; done)
          | (rw [hwk i (by omega)]; done)
          | (refine ⟨by omega, ?_, h5⟩; rw [List.length_append, List.length_singleton]; omega)
          | (show (out.length + 1) * 8 ≤ _; omega)
          | (show l.length - (i + 2) < l.length - i; omega)
      · have h5 : decU l = (out ++ [oneU (l.getD i default)]) ++ decU (l.drop (i + 1)) := by
          rw [h3, hda, decU_one (fun b' r' e hh => by
            by_cases q : i + 1 < l.length
            · rw [drop_cons q] at e
              injection e with e1 e2
              subst e1
              exact hp ⟨q, hh⟩
            · rw [List.drop_eq_nil_of_le (by omega)] at e
              cases e), List.append_assoc]
          rfl
        ((refine AW.byF ‹_› ?_); (repeat' first | (with_reducible exact trivial) | (with_reducible rfl) | (refine And.intro ?_ ?_) | (refine Need.mk ?_) | exact True.intro | (first | (refine ⟨_, Told.refl _, ?_, ?_⟩) | (refine ⟨⟨_, _⟩, Told.refl _, ?_, ?_⟩) | (refine ⟨⟨_, _, _⟩, Told.refl _, ?_, ?_⟩) | (refine ⟨⟨_, _, _, _⟩, Told.refl _, ?_, ?_⟩) | (refine ⟨⟨_, _, _, _, _⟩, Told.refl _, ?_, ?_⟩) | (refine ⟨(), Told.refl _, ?_, ?_⟩)) | (with_reducible intro _) | (refine fun (_ : Bool) => ?_)))
        all_goals try simp only [hw, ht, Int.toNat_natCast] at *
        all_goals first | (exact absurd ‹decide ((i : Int) < (l.length : Int)) = false› (by rw [hd]; decide)) | (exact absurd (And.intro (by have := of_decide_eq_true ‹decide ((i : Int) + 1 < (l.length : Int)) = true›; omega) (And.intro ‹highB (l.getD i default) = true› ‹lowB (l.getD (i + 1) default) = true›)) hp) | skip
        any_goals (refine Exists.intro ((i + 1, out ++ [oneU (l.getD i default)]) : Nat × List Int) (And.intro ?_ (And.intro ?_ ?_)); all_goals (repeat' first | (with_reducible exact trivial) | (with_reducible rfl) | (refine And.intro ?_ ?_) | (refine Need.mk ?_) | exact True.intro | (first | (refine ⟨_, Told.refl _, ?_, ?_⟩) | (refine ⟨⟨_, _⟩, Told.refl _, ?_, ?_⟩) | (refine ⟨⟨_, _, _⟩, Told.refl _, ?_, ?_⟩) | (refine ⟨⟨_, _, _, _⟩, Told.refl _, ?_, ?_⟩) | (refine ⟨⟨_, _, _, _, _⟩, Told.refl _, ?_, ?_⟩) | (refine ⟨(), Told.refl _, ?_, ?_⟩)) | (with_reducible intro _) | (refine fun (_ : Bool) => ?_)))
        all_goals try simp only [hw, ht, Int.toNat_natCast] at *
        all_goals first
          | exact h5
          | (rename_i j hi
             have q := of_decide_eq_true ‹decide (l.getD i default > 65535) = true›
             have e : oneU (l.getD i default) = 65533 := if_pos q
             rw [e] at hi ⊢
             exact els_of ci_emb (n := 0) (cat_snoc rfl) j hi)
          | (rename_i j hi
             have q := of_decide_eq_false ‹decide (l.getD i default > 65535) = false›
             have e : oneU (l.getD i default) = gd (l.getD i default) := if_neg q
             rw [e] at hi ⊢
             exact els_of ci_emb (n := 0) (cat_snoc rfl) j hi)
          | (have q := of_decide_eq_true ‹decide ((i : Int) + 1 < (l.length : Int)) = true›; omega)
          | (rw [List.length_append]; rfl)
          | omega
          | (rw [List.length_append, List.length_singleton]; omega)
          | (rw [hwk i (by omega), hwk (i + 1) (by omega)]; done)
          | (rw [hwk i (by omega)]; done)
          | (refine ⟨by omega, ?_, h5⟩; rw [List.length_append, List.length_singleton]; omega)
          | (show (out.length + 1) * 8 ≤ _; omega)
    · obtain rfl : i = l.length := by omega
      have hd : decide ((l.length : Int) < (l.length : Int)) = false := decide_eq_false (by omega)
      have h4 : decU l = out := by rw [h3, List.drop_length]; simp [decU]
      ((refine AW.byF ‹_› ?_); (repeat' first | (with_reducible exact trivial) | (with_reducible rfl) | (refine And.intro ?_ ?_) | (refine Need.mk ?_) | exact True.intro | (first | (refine ⟨_, Told.refl _, ?_, ?_⟩) | (refine ⟨⟨_, _⟩, Told.refl _, ?_, ?_⟩) | (refine ⟨⟨_, _, _⟩, Told.refl _, ?_, ?_⟩) | (refine ⟨⟨_, _, _, _⟩, Told.refl _, ?_, ?_⟩) | (refine ⟨⟨_, _, _, _, _⟩, Told.refl _, ?_, ?_⟩) | (refine ⟨(), Told.refl _, ?_, ?_⟩)) | (with_reducible intro _) | (refine fun (_ : Bool) => ?_)))
      all_goals first | (exact absurd ‹decide ((l.length : Int) < (l.length : Int)) = true› (by rw [hd]; decide)) | skip
      all_goals rw [h4]
end Go.Abs.Txt
set_option maxRecDepth 100000
namespace Go.Abs.Txt
open Go.RowKit Go.Proofs Go.Abs.Utf Go.Abs.Hx
def encZ (l : List Int) : List Int := l.flatMap fun x => Lib.encodeRuneZ (gd x)
theorem bStr_eq (ns : List Int) : bStr ns = ⟨(ns.map fun n => UInt8.ofNat n.toNat).toArray⟩ := by
  have key : ∀ (l : List Int) (r : ByteArray), l.foldl (fun r n => r.push (UInt8.ofNat n.toNat)) r = ⟨r.data ++ (l.map fun n => UInt8.ofNat n.toNat).toArray⟩ := by
    intro l
    induction l with
    | nil => intro r; simp
    | cons x l ih =>
      intro r
      rw [List.foldl_cons, ih]
      simp [ByteArray.push]
  unfold bStr
  rw [key]
  rw [show ByteArray.empty.data = #[] from rfl, Array.empty_append]
theorem elStr_a8 (l : List Int) : elStr l.length (els c8 l) = bStr l := by
  unfold elStr
  congr 1
  apply List.ext_getElem
  · simp
  · intro i h1 h2
    have h3 : i < l.length := h2
    simp only [List.getElem_map, List.getElem_range]
    show (u8v (c8 (l.getD i default))).getD 0 = l[i]
    have : l.getD i default = l[i] := by simp [List.getD, h3]
    rw [this]
    rfl
theorem encB_Z (l : List Int) : encB l = bStr (encZ l) := by
  rw [bStr_eq]
  unfold encB enc encZ
  congr 2
  induction l with
  | nil => rfl
  | cons x l ih =>
    rw [List.flatMap_cons, List.flatMap_cons, List.map_append, ← ih]
    rfl
theorem encZ_next {l : List Int} {k : Nat} (hk : k < l.length) : encZ (l.take (k + 1)) = encZ (l.take k) ++ Lib.encodeRuneZ (gd (l.getD k default)) := by
  unfold encZ
  rw [List.take_succ_eq_append_getElem hk, List.flatMap_append]
  simp [List.getD, hk]
theorem encZ_len (l : List Int) : (encZ l).length ≤ 4 * l.length := by
  induction l with
  | nil => exact Nat.le_refl _
  | cons x l ih =>
    have := (Lib.encodeRuneZ_length (gd x)).2
    unfold encZ at ih ⊢
    rw [List.flatMap_cons, List.length_append, List.length_cons]
    omega
theorem gd_good (n : Int) : goodB (gd n) = true := by
  unfold gd
  split
  · assumption
  · decide
theorem fD {n : Int} (h : 0 ≤ n) (h2 : n ≤ 1114111) (k : Nat) : IntKind.i64.wrap (n.tdiv (k : Int)) = n / (k : Int) := by
  have q := Int.ediv_nonneg h (Int.natCast_nonneg k)
  have q2 : n / (k : Int) ≤ n := Int.ediv_le_self _ h
  rw [Int.tdiv_eq_ediv_of_nonneg h, iw (by omega) (by omega)]
theorem fM {n : Int} (h : 0 ≤ n) : n.tmod 64 = n % 64 := Int.tmod_eq_emod_of_nonneg h
theorem fW {n : Int} (h : 0 ≤ n) (h2 : n ≤ 255) : IntKind.u8.wrap (IntKind.i64.wrap n) = n := by
  simp only [IntKind.wrap_u8, IntKind.wrap_i64]
  omega
theorem form1 {n : Int} (h0 : 0 ≤ n) (h1 : n ≤ 127) : Lib.encodeRuneZ n = [IntKind.u8.wrap n] := by
  rw [Lib.encodeRuneZ_one h0 h1]
  congr 1
  rw [IntKind.wrap_u8]
  omega
theorem form2 {n : Int} (h0 : 128 ≤ n) (h1 : n ≤ 2047) : Lib.encodeRuneZ n = [IntKind.u8.wrap (IntKind.i64.wrap (192 + IntKind.i64.wrap (n.tdiv (64 : Nat)))), IntKind.u8.wrap (IntKind.i64.wrap (128 + n.tmod 64))] := by
  rw [Lib.encodeRuneZ_two h0 h1, fD (by omega) (by omega), fM (by omega), fW (by omega) (by omega), fW (by omega) (by omega)]
  rfl
theorem form3 {n : Int} (h0 : 0 ≤ n) (h1 : n ≤ 65535) (h : (2048 ≤ n ∧ n < 55296) ∨ (57343 < n ∧ n ≤ 65535)) : Lib.encodeRuneZ n = [IntKind.u8.wrap (IntKind.i64.wrap (224 + IntKind.i64.wrap (n.tdiv (4096 : Nat)))), IntKind.u8.wrap (IntKind.i64.wrap (128 + (IntKind.i64.wrap (n.tdiv (64 : Nat))).tmod 64)), IntKind.u8.wrap (IntKind.i64.wrap (128 + n.tmod 64))] := by
  rw [Lib.encodeRuneZ_three h, fD (by omega) (by omega), fD (by omega) (by omega), fM (by omega), fM (by omega), fW (by omega) (by omega), fW (by omega) (by omega), fW (by omega) (by omega)]
  rfl
theorem form4 {n : Int} (h0 : 65536 ≤ n) (h1 : n ≤ 1114111) : Lib.encodeRuneZ n = [IntKind.u8.wrap (IntKind.i64.wrap (240 + IntKind.i64.wrap (n.tdiv (262144 : Nat)))), IntKind.u8.wrap (IntKind.i64.wrap (128 + (IntKind.i64.wrap (n.tdiv (4096 : Nat))).tmod 64)), IntKind.u8.wrap (IntKind.i64.wrap (128 + (IntKind.i64.wrap (n.tdiv (64 : Nat))).tmod 64)), IntKind.u8.wrap (IntKind.i64.wrap (128 + n.tmod 64))] := by
  rw [Lib.encodeRuneZ_four h0 h1, fD (by omega) (by omega), fD (by omega) (by omega), fD (by omega) (by omega), fM (by omega), fM (by omega), fM (by omega), fW (by omega) (by omega), fW (by omega) (by omega), fW (by omega) (by omega), fW (by omega) (by omega)]
  rfl
def SForm : Sp := ⟨Int, fun n => goodB n = true, fun n => [.int .i64 n], fun n => .row 5 1 (Lib.encodeRuneZ n).length (els c8 (Lib.encodeRuneZ n))⟩
set_option maxHeartbeats 4000000 in
theorem rform : SpOK Tryz.prog 63 SForm := fun (n : Int) hn => by
  have hC := base
  have hn : goodB n = true := hn
  unfold goodB at hn
  rw [decide_eq_true_eq] at hn
  ((refine Fn.ofF hC Tryz.func63 Tryz.ntmps63 rfl rfl rfl ?_); (repeat' first | (with_reducible exact trivial) | (with_reducible rfl) | (refine And.intro ?_ ?_) | (refine Need.mk ?_) | exact True.intro | (first | (refine ⟨_, Told.refl _, ?_, ?_⟩) | (refine ⟨⟨_, _⟩, Told.refl _, ?_, ?_⟩) | (refine ⟨⟨_, _, _⟩, Told.refl _, ?_, ?_⟩) | (refine ⟨⟨_, _, _, _⟩, Told.refl _, ?_, ?_⟩) | (refine ⟨⟨_, _, _, _, _⟩, Told.refl _, ?_, ?_⟩) | (refine ⟨(), Told.refl _, ?_, ?_⟩)) | (with_reducible intro _) | (refine fun (_ : Bool) => ?_)))
  all_goals first
    | (show (64 : Int) ≠ 0; decide)
    | (show (4096 : Int) ≠ 0; decide)
    | (show (262144 : Int) ≠ 0; decide)
    | skip
  all_goals first
    | (have q := of_decide_eq_true ‹decide (n < 128) = true›; have e := form1 hn.1 (by omega); clear q; (first | (rename_i i hi; rw [e] at hi ⊢; exact els_of c8_emb (n := 0) (elt_list _) i hi) | (rw [e]; rfl)))
    | (have q := of_decide_eq_false ‹decide (n < 128) = false›; have q2 := of_decide_eq_true ‹decide (n < 2048) = true›; have e := form2 (n := n) (by omega) (by omega); clear q q2; (first | (rename_i i hi; rw [e] at hi ⊢; exact els_of c8_emb (n := 0) (elt_list _) i hi) | (rw [e]; rfl)))
    | (have q := of_decide_eq_false ‹decide (n < 2048) = false›; have q2 := of_decide_eq_true ‹decide (n < 65536) = true›; have e := form3 (n := n) (by omega) (by omega) (by omega); clear q q2; (first | (rename_i i hi; rw [e] at hi ⊢; exact els_of c8_emb (n := 0) (elt_list _) i hi) | (rw [e]; rfl)))
    | (have q := of_decide_eq_false ‹decide (n < 65536) = false›; have e := form4 (n := n) (by omega) (by omega); clear q; (first | (rename_i i hi; rw [e] at hi ⊢; exact els_of c8_emb (n := 0) (elt_list _) i hi) | (rw [e]; rfl)))
def STextZ : Sp := ⟨List Int, fun l => l.length ≤ 1000000000, fun l => [aI l], fun l => .st (.str (encB l))⟩
set_option maxHeartbeats 4000000 in
theorem rtext : SpOK Tryz.prog 37 STextZ := fun (l : List Int) hl => by
  have hC : COK Tryz.prog (cfg [(64, SGd), (63, SForm)]) := Ty.ty.cfg ⟨rgdf, rform, trivial⟩
  have hl : l.length ≤ 1000000000 := hl
  ((refine Fn.ofF hC Tryz.func37 Tryz.ntmps37 rfl rfl rfl ?_); (repeat' first | (with_reducible exact trivial) | (with_reducible rfl) | (refine And.intro ?_ ?_) | (refine Need.mk ?_) | exact True.intro | (first | (refine ⟨_, Told.refl _, ?_, ?_⟩) | (refine ⟨⟨_, _⟩, Told.refl _, ?_, ?_⟩) | (refine ⟨⟨_, _, _⟩, Told.refl _, ?_, ?_⟩) | (refine ⟨⟨_, _, _, _⟩, Told.refl _, ?_, ?_⟩) | (refine ⟨⟨_, _, _, _, _⟩, Told.refl _, ?_, ?_⟩) | (refine ⟨(), Told.refl _, ?_, ?_⟩)) | (with_reducible intro _) | (refine fun (_ : Bool) => ?_)))
  refine AW.loop (I := fun k : Nat => ⟨21, [(0, aI l), (3, .own 0), (4, .int .i64 k)], [.row 5 1 (encZ (l.take k)).length (els c8 (encZ (l.take k)))]⟩) (fun k => k ≤ l.length) (fun k => l.length - k) 0 (Nat.zero_le _) ?_ ?_
  · (repeat' first | (with_reducible exact trivial) | (with_reducible rfl) | (refine And.intro ?_ ?_) | (refine Need.mk ?_) | exact True.intro | (first | (refine ⟨_, Told.refl _, ?_, ?_⟩) | (refine ⟨⟨_, _⟩, Told.refl _, ?_, ?_⟩) | (refine ⟨⟨_, _, _⟩, Told.refl _, ?_, ?_⟩) | (refine ⟨⟨_, _, _, _⟩, Told.refl _, ?_, ?_⟩) | (refine ⟨⟨_, _, _, _, _⟩, Told.refl _, ?_, ?_⟩) | (refine ⟨(), Told.refl _, ?_, ?_⟩)) | (with_reducible intro _) | (refine fun (_ : Bool) => ?_))
    all_goals rfl
  · intro k hk
    rcases Nat.lt_or_ge k l.length with hlt | hge
    · have hd : decide ((k : Int) < (l.length : Int)) = true := decide_eq_true (by omega)
      have hw := iw (n := (k : Int) + 1) (by omega) (by omega)
      have hnx := encZ_next hlt
      have hz := encZ_len (l.take k)
      have hr := (Lib.encodeRuneZ_length (gd (l.getD k default))).2
      have ht : (l.take k).length = k := by rw [List.length_take]; omega
      have hg := gd_good (l.getD k default)
      ((refine AW.byF ‹_› ?_); (repeat' first | (with_reducible exact trivial) | (with_reducible rfl) | (refine And.intro ?_ ?_) | (refine Need.mk ?_) | exact True.intro | (first | (refine ⟨_, Told.refl _, ?_, ?_⟩) | (refine ⟨⟨_, _⟩, Told.refl _, ?_, ?_⟩) | (refine ⟨⟨_, _, _⟩, Told.refl _, ?_, ?_⟩) | (refine ⟨⟨_, _, _, _⟩, Told.refl _, ?_, ?_⟩) | (refine ⟨⟨_, _, _, _, _⟩, Told.refl _, ?_, ?_⟩) | (refine ⟨(), Told.refl _, ?_, ?_⟩)) | (with_reducible intro _) | (refine fun (_ : Bool) => ?_)))
      all_goals first | (exact absurd ‹decide ((k : Int) < (l.length : Int)) = false› (by rw [hd]; decide)) | skip
      all_goals try simp only [hw, Int.toNat_natCast] at *
      any_goals (refine Exists.intro (k + 1) (And.intro ?_ (And.intro ?_ ?_)); all_goals (repeat' first | (with_reducible exact trivial) | (with_reducible rfl) | (refine And.intro ?_ ?_) | (refine Need.mk ?_) | exact True.intro | (first | (refine ⟨_, Told.refl _, ?_, ?_⟩) | (refine ⟨⟨_, _⟩, Told.refl _, ?_, ?_⟩) | (refine ⟨⟨_, _, _⟩, Told.refl _, ?_, ?_⟩) | (refine ⟨⟨_, _, _, _⟩, Told.refl _, ?_, ?_⟩) | (refine ⟨⟨_, _, _, _, _⟩, Told.refl _, ?_, ?_⟩) | (refine ⟨(), Told.refl _, ?_, ?_⟩)) | (with_reducible intro _) | (refine fun (_ : Bool) => ?_)))
      all_goals try simp only [hw, Int.toNat_natCast] at *
      all_goals first
        | omega
        | exact hg
        | (rename_i i hi; rw [hnx] at hi ⊢; exact els_of c8_emb (n := 0) (cat_app rfl) i hi)
        | (rw [hnx, List.length_append]; done)
        | (rw [iw (by omega) (by omega)]; rfl)
    · obtain rfl : k = l.length := by omega
      have hd : decide ((l.length : Int) < (l.length : Int)) = false := decide_eq_false (by omega)
      have h4 : elStr (encZ l).length (els c8 (encZ l)) = encB l := by rw [elStr_a8, encB_Z]
      rw [List.take_length]
      ((refine AW.byF ‹_› ?_); (repeat' first | (with_reducible exact trivial) | (with_reducible rfl) | (refine And.intro ?_ ?_) | (refine Need.mk ?_) | exact True.intro | (first | (refine ⟨_, Told.refl _, ?_, ?_⟩) | (refine ⟨⟨_, _⟩, Told.refl _, ?_, ?_⟩) | (refine ⟨⟨_, _, _⟩, Told.refl _, ?_, ?_⟩) | (refine ⟨⟨_, _, _, _⟩, Told.refl _, ?_, ?_⟩) | (refine ⟨⟨_, _, _, _, _⟩, Told.refl _, ?_, ?_⟩) | (refine ⟨(), Told.refl _, ?_, ?_⟩)) | (with_reducible intro _) | (refine fun (_ : Bool) => ?_)))
      all_goals first | (exact absurd ‹decide ((l.length : Int) < (l.length : Int)) = true› (by rw [hd]; decide)) | skip
      all_goals first
        | rw [h4]
        | rfl
end Go.Abs.Txt
set_option maxRecDepth 100000
namespace Go.Abs.Coll
open Go.RowKit Go.Proofs Go.Abs.Tab Go.Abs.Dest Go.Abs.Span Go.Abs.Utf Go.Abs.Txt Go.Abs.Hx
theorem runi : SpOK Tryz.prog 108 SUni := fun ⟨t, c⟩ ht => by
  have hC : COK Tryz.prog (cfg [(104, SFindR)]) := Ty.ty.cfg ⟨rfind, trivial⟩
  have ht : t.bfs.length < 4611686018427387904 := ht
  ((refine Fn.ofF hC Tryz.func108 Tryz.ntmps108 rfl rfl rfl ?_); (repeat' first | (with_reducible exact trivial) | (with_reducible rfl) | (refine And.intro ?_ ?_) | (refine Need.mk ?_) | exact True.intro | (first | (refine ⟨_, Told.refl _, ?_, ?_⟩) | (refine ⟨⟨_, _⟩, Told.refl _, ?_, ?_⟩) | (refine ⟨⟨_, _, _⟩, Told.refl _, ?_, ?_⟩) | (refine ⟨⟨_, _, _, _⟩, Told.refl _, ?_, ?_⟩) | (refine ⟨⟨_, _, _, _, _⟩, Told.refl _, ?_, ?_⟩) | (refine ⟨(), Told.refl _, ?_, ?_⟩)) | (with_reducible intro _) | (refine fun (_ : Bool) => ?_)))
  show t.bfs.length < 9223372036854775807
  omega
theorem rctext : SpOK Tryz.prog 66 SCText := fun ⟨t, c⟩ ht => by
  have hC : COK Tryz.prog (cfg [(108, SUni), (65, SDec), (37, STextZ)]) := Ty.ty.cfg ⟨runi, rdec16, rtext, trivial⟩
  have ht : t.bfs.length < 4611686018427387904 := ht
  ((refine Fn.ofF hC Tryz.func66 Tryz.ntmps66 rfl rfl rfl ?_); (repeat' first | (with_reducible exact trivial) | (with_reducible rfl) | (refine And.intro ?_ ?_) | (refine Need.mk ?_) | exact True.intro | (first | (refine ⟨_, Told.refl _, ?_, ?_⟩) | (refine ⟨⟨_, _⟩, Told.refl _, ?_, ?_⟩) | (refine ⟨⟨_, _, _⟩, Told.refl _, ?_, ?_⟩) | (refine ⟨⟨_, _, _, _⟩, Told.refl _, ?_, ?_⟩) | (refine ⟨⟨_, _, _, _, _⟩, Told.refl _, ?_, ?_⟩) | (refine ⟨(), Told.refl _, ?_, ?_⟩)) | (with_reducible intro _) | (refine fun (_ : Bool) => ?_)))
  · exact ht
  all_goals
    cases hF : EB.find t.bfs 2 c with
    | none =>
      (simp only [hF, Option.isSome_none, Bool.not_false] at *) <;> first
        | rfl
        | (simp at *; done)
    | some a =>
      have hr := find_rng hF
      have hd := decU_len a
      (simp only [hF, Option.isSome_some, Option.getD_some] at *) <;> first
        | rfl
        | (show a.length ≤ 1000000000; omega)
        | (show (decU a).length ≤ 1000000000; omega)
        | (simp at *; done)
theorem cntW {c lo hi : Int} (h1 : 0 ≤ c ∧ c ≤ 65536000000) (h2 : 0 ≤ lo) (h3 : lo ≤ hi ∧ hi < 4294967296) : IntKind.i64.wrap (IntKind.i64.wrap (IntKind.i64.wrap (c + hi) - lo) + 1) = c + (hi - lo + 1) := by
  simp only [IntKind.wrap_i64]
  omega
theorem identT_pos {w : Int} (h : w > 0) : (identT w).name = nameV ∧ (identT w).wmode = 1 := by
  have e : modeT w = 1 := by unfold modeT; (repeat' split) <;> omega
  constructor
  · show (if modeT w = 0 then nameH else nameV) = nameV
    rw [e]; rfl
  · exact e
theorem identT_neg {w : Int} (h : ¬ w > 0) : (identT w).name = nameH ∧ (identT w).wmode = 0 := by
  have e : modeT w = 0 := by unfold modeT; (repeat' split) <;> omega
  constructor
  · show (if modeT w = 0 then nameH else nameV) = nameH
    rw [e]; rfl
  · exact e
end Go.Abs.Coll
set_option maxRecDepth 100000
namespace Go.Abs.Rc
open Go.RowKit Go.Proofs Go.Abs.Tab Go.Abs.Dest Go.Abs.Span Go.Abs.Coll Go.Abs.Hx Go.Abs.Mt
set_option maxHeartbeats 4000000 in
theorem rsameR : SpOK Tryz.prog 56 SSameR := fun ⟨a, b⟩ ha => by
  have hC := base
  have ha : a.length < 9223372036854775807 := ha
  ((refine Fn.ofF hC Tryz.func56 Tryz.ntmps56 rfl rfl rfl ?_); (repeat' first | (with_reducible exact trivial) | (with_reducible rfl) | (refine And.intro ?_ ?_) | (refine Need.mk ?_) | exact True.intro | (first | (refine ⟨_, Told.refl _, ?_, ?_⟩) | (refine ⟨⟨_, _⟩, Told.refl _, ?_, ?_⟩) | (refine ⟨⟨_, _, _⟩, Told.refl _, ?_, ?_⟩) | (refine ⟨⟨_, _, _, _⟩, Told.refl _, ?_, ?_⟩) | (refine ⟨⟨_, _, _, _, _⟩, Told.refl _, ?_, ?_⟩) | (refine ⟨(), Told.refl _, ?_, ?_⟩)) | (with_reducible intro _) | (refine fun (_ : Bool) => ?_)))
  · ((try dsimp only at *); (try simp only [decide_eq_true_eq, decide_eq_false_iff_not, beq_iff_eq, bne_iff_ne, beq_eq_false_iff_ne, bne_eq_false_iff_eq, ne_eq, Decidable.not_not, ge_iff_le, gt_iff_lt, Bool.not_eq_true', Bool.not_eq_false', Int.not_lt, Int.not_le, Nat.not_lt, Nat.not_le] at *))
    exact (sameRs_no fun h => by omega).symm
  refine AW.loop (I := fun k : Nat => ⟨26, [(0, aR a), (1, aR b), (5, .int .i64 k)], []⟩) (fun k => k ≤ a.length ∧ ∀ j, j < k → a.getD j default = b.getD j default) (fun k => a.length - k) 0 ⟨Nat.zero_le _, fun j hj => by omega⟩ ?_ ?_
  · (repeat' first | (with_reducible exact trivial) | (with_reducible rfl) | (refine And.intro ?_ ?_) | (refine Need.mk ?_) | exact True.intro | (first | (refine ⟨_, Told.refl _, ?_, ?_⟩) | (refine ⟨⟨_, _⟩, Told.refl _, ?_, ?_⟩) | (refine ⟨⟨_, _, _⟩, Told.refl _, ?_, ?_⟩) | (refine ⟨⟨_, _, _, _⟩, Told.refl _, ?_, ?_⟩) | (refine ⟨⟨_, _, _, _, _⟩, Told.refl _, ?_, ?_⟩) | (refine ⟨(), Told.refl _, ?_, ?_⟩)) | (with_reducible intro _) | (refine fun (_ : Bool) => ?_)); rfl
  · intro k ⟨hk, he⟩
    ((refine AW.byF ‹_› ?_); (repeat' first | (with_reducible exact trivial) | (with_reducible rfl) | (refine And.intro ?_ ?_) | (refine Need.mk ?_) | exact True.intro | (first | (refine ⟨_, Told.refl _, ?_, ?_⟩) | (refine ⟨⟨_, _⟩, Told.refl _, ?_, ?_⟩) | (refine ⟨⟨_, _, _⟩, Told.refl _, ?_, ?_⟩) | (refine ⟨⟨_, _, _, _⟩, Told.refl _, ?_, ?_⟩) | (refine ⟨⟨_, _, _, _, _⟩, Told.refl _, ?_, ?_⟩) | (refine ⟨(), Told.refl _, ?_, ?_⟩)) | (with_reducible intro _) | (refine fun (_ : Bool) => ?_)))
    any_goals (intros; first | rfl | (((try dsimp only at *); (try simp only [decide_eq_true_eq, decide_eq_false_iff_not, beq_iff_eq, bne_iff_ne, beq_eq_false_iff_ne, bne_eq_false_iff_eq, ne_eq, Decidable.not_not, ge_iff_le, gt_iff_lt, Bool.not_eq_true', Bool.not_eq_false', Int.not_lt, Int.not_le, Nat.not_lt, Nat.not_le] at *)) <;> (try simp only [IntKind.wrap_i64] at *) <;> omega))
    · ((try dsimp only at *); (try simp only [decide_eq_true_eq, decide_eq_false_iff_not, beq_iff_eq, bne_iff_ne, beq_eq_false_iff_ne, bne_eq_false_iff_eq, ne_eq, Decidable.not_not, ge_iff_le, gt_iff_lt, Bool.not_eq_true', Bool.not_eq_false', Int.not_lt, Int.not_le, Nat.not_lt, Nat.not_le] at *))
      refine (sameRs_no fun h => ?_).symm
      have := h.2 k (by omega)
      simp_all [eqA, bval]
    · ((try dsimp only at *); (try simp only [decide_eq_true_eq, decide_eq_false_iff_not, beq_iff_eq, bne_iff_ne, beq_eq_false_iff_ne, bne_eq_false_iff_eq, ne_eq, Decidable.not_not, ge_iff_le, gt_iff_lt, Bool.not_eq_true', Bool.not_eq_false', Int.not_lt, Int.not_le, Nat.not_lt, Nat.not_le] at *))
      refine Exists.intro (k + 1) (And.intro ?_ (And.intro ?_ ?_))
      · refine ⟨by omega, fun j hj => ?_⟩
        by_cases e : j = k
        · subst e
          have : eqR (a.getD j default) (b.getD j default) = true := by simp_all [eqA, bval, eqR]
          exact (eqR_iff _ _).1 this
        · exact he j (by omega)
      · omega
      · (repeat' first | (with_reducible exact trivial) | (with_reducible rfl) | (refine And.intro ?_ ?_) | (refine Need.mk ?_) | exact True.intro | (first | (refine ⟨_, Told.refl _, ?_, ?_⟩) | (refine ⟨⟨_, _⟩, Told.refl _, ?_, ?_⟩) | (refine ⟨⟨_, _, _⟩, Told.refl _, ?_, ?_⟩) | (refine ⟨⟨_, _, _, _⟩, Told.refl _, ?_, ?_⟩) | (refine ⟨⟨_, _, _, _, _⟩, Told.refl _, ?_, ?_⟩) | (refine ⟨(), Told.refl _, ?_, ?_⟩)) | (with_reducible intro _) | (refine fun (_ : Bool) => ?_))
        (intros; first | rfl | (((try dsimp only at *); (try simp only [decide_eq_true_eq, decide_eq_false_iff_not, beq_iff_eq, bne_iff_ne, beq_eq_false_iff_ne, bne_eq_false_iff_eq, ne_eq, Decidable.not_not, ge_iff_le, gt_iff_lt, Bool.not_eq_true', Bool.not_eq_false', Int.not_lt, Int.not_le, Nat.not_lt, Nat.not_le] at *)) <;> (try simp only [IntKind.wrap_i64] at *) <;> omega))
    · ((try dsimp only at *); (try simp only [decide_eq_true_eq, decide_eq_false_iff_not, beq_iff_eq, bne_iff_ne, beq_eq_false_iff_ne, bne_eq_false_iff_eq, ne_eq, Decidable.not_not, ge_iff_le, gt_iff_lt, Bool.not_eq_true', Bool.not_eq_false', Int.not_lt, Int.not_le, Nat.not_lt, Nat.not_le] at *))
      obtain rfl : k = a.length := by omega
      exact ((sameRs_at a b).2 ⟨by omega, he⟩).symm
instance : DecidableEq Spn := fun a b => decidable_of_iff (a.n = b.n ∧ a.lo = b.lo ∧ a.hi = b.hi ∧ a.to = b.to) ⟨fun ⟨h1, h2, h3, h4⟩ => Spn.ext' h1 h2 h3 h4, fun h => by rw [h]; exact ⟨rfl, rfl, rfl, rfl⟩⟩
theorem getSp {l : List Spn} {i : Nat} (h : i < l.length) : l.getD i default = l[i] := by simp [List.getD, h]
theorem sameS_at (a b : List Spn) : a = b ↔ a.length = b.length ∧ ∀ j, j < a.length → a.getD j default = b.getD j default := by
  constructor
  · rintro rfl
    exact ⟨rfl, fun _ _ => rfl⟩
  · rintro ⟨h1, h2⟩
    refine List.ext_getElem h1 fun i hi hj => ?_
    have := h2 i hi
    rwa [getSp hi, getSp hj] at this
def SSameS : Sp := ⟨List Spn × List Spn, fun (a, _) => a.length < 9223372036854775807, fun (a, b) => [aS a, aS b], fun (a, b) => .st (.sb (decide (a = b)))⟩
theorem sameS_no {a b : List Spn} (h : ¬ (a.length = b.length ∧ ∀ j, j < a.length → a.getD j default = b.getD j default)) : decide (a = b) = false := by
  rw [decide_eq_false_iff_not, sameS_at]
  exact h
def sameT (a b : Tbl) : Bool := (a.name.toList == b.name.toList) && ((a.wmode == b.wmode) && (sameRs a.spaces b.spaces && (decide (a.cids = b.cids) && (decide (a.nots = b.nots) && decide (a.bfs = b.bfs)))))
theorem sameT_self (a : Tbl) : sameT a a = true := by
  unfold sameT
  rw [(sameRs_iff _ _).2 rfl]
  simp
def SSameT : Sp := ⟨Tbl × Tbl, fun (a, _) => a.spaces.length < 9223372036854775807 ∧ a.cids.length < 9223372036854775807 ∧ a.nots.length < 9223372036854775807 ∧ a.bfs.length < 9223372036854775807 ∧ ∀ x ∈ a.bfs, x.to.length < 9223372036854775807, fun (a, b) => [.agg (cT a), .agg (cT b)], fun (a, b) => .st (.sb (sameT a b))⟩
end Go.Abs.Rc
set_option maxRecDepth 100000
namespace Go.Abs.Rc
open Go.RowKit Go.Proofs Go.Abs.Tab Go.Abs.Dest Go.Abs.Span Go.Abs.Coll Go.Abs.Hx Go.Abs.Mt
theorem rholds : SpOK Tryz.prog 134 SHolds := fun ⟨a, b⟩ _ => by
  have hC : COK Tryz.prog (cfg [(94, SRS), (132, SLo), (133, SHi), (140, SFits)]) := Ty.ty.cfg ⟨rsaneR, rlows, rhighs, rfitsR, trivial⟩
  have h1 := lo_len b
  have h2 : (hi b).length ≤ 4 := by
    unfold hi
    rw [bytesC_len]
    split
    · rename_i h
      have := (saneC_iff _ _).1 h
      omega
    · omega
  have hf : holds a b = (okR b && (okR a && saneC b.n b.lo && (b.n == a.n) && ((fits a (lo b) : Int) == a.n)) && (okR a && saneC b.n b.hi && (b.n == a.n) && ((fits a (hi b) : Int) == a.n))) := rfl
  have hs : okR b = true → saneC b.n b.lo = true ∧ saneC b.n b.hi = true := ok_sane
  ((refine Fn.ofF hC Tryz.func134 Tryz.ntmps134 rfl rfl rfl ?_); (repeat' first | (with_reducible exact trivial) | (with_reducible rfl) | (refine And.intro ?_ ?_) | (refine Need.mk ?_) | exact True.intro | (first | (refine ⟨_, Told.refl _, ?_, ?_⟩) | (refine ⟨⟨_, _⟩, Told.refl _, ?_, ?_⟩) | (refine ⟨⟨_, _, _⟩, Told.refl _, ?_, ?_⟩) | (refine ⟨⟨_, _, _, _⟩, Told.refl _, ?_, ?_⟩) | (refine ⟨⟨_, _, _, _, _⟩, Told.refl _, ?_, ?_⟩) | (refine ⟨(), Told.refl _, ?_, ?_⟩)) | (with_reducible intro _) | (refine fun (_ : Bool) => ?_)))
  all_goals first
    | (show (lo b).length < 4611686018427387904; omega)
    | (show (hi b).length < 4611686018427387904; omega)
    | skip
  all_goals rw [hf]
  all_goals ((try dsimp only at *); (try simp only [decide_eq_true_eq, decide_eq_false_iff_not, beq_iff_eq, bne_iff_ne, beq_eq_false_iff_ne, bne_eq_false_iff_eq, ne_eq, Decidable.not_not, ge_iff_le, gt_iff_lt, Bool.not_eq_true', Bool.not_eq_false', Int.not_lt, Int.not_le, Nat.not_lt, Nat.not_le] at *))
  all_goals first
    | (simp_all; done)
    | (have e := ‹a.n ≠ b.n›; have e2 : (b.n == a.n) = false := by rw [beq_eq_false_iff_ne]; exact fun h => e h.symm
       rw [e2]; simp; done)
def SLess : Sp := ⟨Rct × Rct, fun _ => True, fun (a, b) => [.agg (cR a), .agg (cR b)], fun (a, b) => .st (.sb (ltR a b))⟩
theorem ltR_no {a b : Rct} (h : ¬ (a.n < b.n ∨ (a.n = b.n ∧ (a.lo < b.lo ∨ (a.lo = b.lo ∧ a.hi < b.hi))))) : ltR a b = false := by
  rw [← Bool.not_eq_true, ltR_iff]
  exact h
theorem rless : SpOK Tryz.prog 135 SLess := fun ⟨a, b⟩ _ => by
  have hC := base
  ((refine Fn.ofF hC Tryz.func135 Tryz.ntmps135 rfl rfl rfl ?_); (repeat' first | (with_reducible exact trivial) | (with_reducible rfl) | (refine And.intro ?_ ?_) | (refine Need.mk ?_) | exact True.intro | (first | (refine ⟨_, Told.refl _, ?_, ?_⟩) | (refine ⟨⟨_, _⟩, Told.refl _, ?_, ?_⟩) | (refine ⟨⟨_, _, _⟩, Told.refl _, ?_, ?_⟩) | (refine ⟨⟨_, _, _, _⟩, Told.refl _, ?_, ?_⟩) | (refine ⟨⟨_, _, _, _, _⟩, Told.refl _, ?_, ?_⟩) | (refine ⟨(), Told.refl _, ?_, ?_⟩)) | (with_reducible intro _) | (refine fun (_ : Bool) => ?_)))
  all_goals
    cases hL : ltR a b with
    | true =>
      have h := (ltR_iff a b).1 hL
      ((try dsimp only at *); (try simp only [decide_eq_true_eq, decide_eq_false_iff_not, beq_iff_eq, bne_iff_ne, beq_eq_false_iff_ne, bne_eq_false_iff_eq, ne_eq, Decidable.not_not, ge_iff_le, gt_iff_lt, Bool.not_eq_true', Bool.not_eq_false', Int.not_lt, Int.not_le, Nat.not_lt, Nat.not_le] at *))
      first | omega | (rw [decide_eq_true_eq]; omega)
    | false =>
      have h : ¬ (a.n < b.n ∨ (a.n = b.n ∧ (a.lo < b.lo ∨ (a.lo = b.lo ∧ a.hi < b.hi)))) := by rw [← ltR_iff, hL]; decide
      ((try dsimp only at *); (try simp only [decide_eq_true_eq, decide_eq_false_iff_not, beq_iff_eq, bne_iff_ne, beq_eq_false_iff_ne, bne_eq_false_iff_eq, ne_eq, Decidable.not_not, ge_iff_le, gt_iff_lt, Bool.not_eq_true', Bool.not_eq_false', Int.not_lt, Int.not_le, Nat.not_lt, Nat.not_le] at *))
      first | omega | (rw [decide_eq_false_iff_not]; omega)
def insR : List Rct → Rct → List Rct
  | [], r => [r]
  | x :: l, r => if ltR r x = true then r :: x :: l else x :: insR l r
theorem insR_len (l : List Rct) (r : Rct) : (insR l r).length = l.length + 1 := by
  induction l with
  | nil => rfl
  | cons x l ih =>
    unfold insR
    split
    · rfl
    · rw [List.length_cons, ih, List.length_cons]
theorem mem_insR {l : List Rct} {r x : Rct} : x ∈ insR l r ↔ x = r ∨ x ∈ l := by
  induction l with
  | nil => simp [insR]
  | cons y l ih =>
    unfold insR
    split
    · simp [List.mem_cons]
    · rw [List.mem_cons, ih, List.mem_cons]
      constructor
      · rintro (h | h | h)
        · exact .inr (.inl h)
        · exact .inl h
        · exact .inr (.inr h)
      · rintro (h | h | h)
        · exact .inr (.inl h)
        · exact .inl h
        · exact .inr (.inr h)
theorem lt_tri {a b : Rct} (h1 : ltR a b ≠ true) (h2 : a ≠ b) : ltR b a = true := by
  rw [ne_eq, ltR_iff] at h1
  rw [ltR_iff]
  have h3 : ¬ (a.n = b.n ∧ a.lo = b.lo ∧ a.hi = b.hi) := fun ⟨e1, e2, e3⟩ => h2 (by cases a; cases b; simp_all)
  omega
theorem lt_trans {a b c : Rct} (h1 : ltR a b = true) (h2 : ltR b c = true) : ltR a c = true := by
  rw [ltR_iff] at *
  omega
theorem insR_srt {l : List Rct} {r : Rct} (hs : l.Pairwise fun x y => ltR x y = true) (hr : r ∉ l) : (insR l r).Pairwise fun x y => ltR x y = true := by
  induction l with
  | nil => exact List.pairwise_singleton _ _
  | cons y l ih =>
    rw [List.pairwise_cons] at hs
    unfold insR
    split
    · rename_i h
      rw [List.pairwise_cons]
      refine ⟨fun z hz => ?_, List.pairwise_cons.2 hs⟩
      rcases List.mem_cons.1 hz with rfl | q
      · exact h
      · exact lt_trans h (hs.1 z q)
    · rename_i h
      rw [List.pairwise_cons]
      refine ⟨fun z hz => ?_, ih hs.2 (fun q => hr (List.mem_cons_of_mem _ q))⟩
      rcases mem_insR.1 hz with rfl | q
      · exact lt_tri h (fun e => hr (e ▸ List.mem_cons_self))
      · exact hs.1 z q
def restR (d : Bool) (l : List Rct) (r : Rct) : List Rct := cond d l (insR l r)
def SInsR : Sp := ⟨List Rct × Rct, fun (l, _) => l.length ≤ 1000000000, fun (l, r) => [aR l, .agg (cR r)], fun (l, r) => .row 113 3 (insR l r).length (els cR (insR l r))⟩
set_option maxHeartbeats 8000000 in
theorem rinsert : SpOK Tryz.prog 96 SInsR := fun ⟨l, r⟩ hl => by
  have hC : COK Tryz.prog (cfg [(135, SLess)]) := Ty.ty.cfg ⟨rless, trivial⟩
  have hl : l.length ≤ 1000000000 := hl
  ((refine Fn.ofF hC Tryz.func96 Tryz.ntmps96 rfl rfl rfl ?_); (repeat' first | (with_reducible exact trivial) | (with_reducible rfl) | (refine And.intro ?_ ?_) | (refine Need.mk ?_) | exact True.intro | (first | (refine ⟨_, Told.refl _, ?_, ?_⟩) | (refine ⟨⟨_, _⟩, Told.refl _, ?_, ?_⟩) | (refine ⟨⟨_, _, _⟩, Told.refl _, ?_, ?_⟩) | (refine ⟨⟨_, _, _, _⟩, Told.refl _, ?_, ?_⟩) | (refine ⟨⟨_, _, _, _, _⟩, Told.refl _, ?_, ?_⟩) | (refine ⟨(), Told.refl _, ?_, ?_⟩)) | (with_reducible intro _) | (refine fun (_ : Bool) => ?_)))
  refine AW.loop (I := fun x : Nat × List Rct × Bool => ⟨42, [(0, aR l), (3, .ptr 0 0), (5, .own 1), (6, .sb x.2.2), (7, .int .i64 x.1)], [.box 113 (cR r), .row 113 3 x.2.1.length (els cR x.2.1)]⟩) (fun x => x.1 ≤ l.length ∧ x.2.1.length = x.1 + cond x.2.2 1 0 ∧ insR l r = x.2.1 ++ restR x.2.2 (l.drop x.1) r) (fun x => l.length - x.1) (0, [], false) ⟨Nat.zero_le _, rfl, rfl⟩ ?_ ?_
  · (repeat' first | (with_reducible exact trivial) | (with_reducible rfl) | (refine And.intro ?_ ?_) | (refine Need.mk ?_) | exact True.intro | (first | (refine ⟨_, Told.refl _, ?_, ?_⟩) | (refine ⟨⟨_, _⟩, Told.refl _, ?_, ?_⟩) | (refine ⟨⟨_, _, _⟩, Told.refl _, ?_, ?_⟩) | (refine ⟨⟨_, _, _, _⟩, Told.refl _, ?_, ?_⟩) | (refine ⟨⟨_, _, _, _, _⟩, Told.refl _, ?_, ?_⟩) | (refine ⟨(), Told.refl _, ?_, ?_⟩)) | (with_reducible intro _) | (refine fun (_ : Bool) => ?_))
    all_goals rfl
  · rintro ⟨k, out, d⟩ ⟨hk, ho, he⟩
    dsimp only at hk ho he ⊢
    have ho' : out.length ≤ k + 1 := by cases d <;> simp at ho <;> omega
    rcases Nat.lt_or_ge k l.length with hlt | hge
    · have hd : decide ((k : Int) < (l.length : Int)) = true := decide_eq_true (by omega)
      have hw := iw (n := (k : Int) + 1) (by omega) (by omega)
      obtain ⟨x, hx⟩ : ∃ x, x = l.getD k default := ⟨_, rfl⟩
      have hdr : l.drop k = x :: l.drop (k + 1) := by rw [hx, getR hlt]; exact List.drop_eq_getElem_cons hlt
      rw [hdr] at he
      have h1 : d = true → insR l r = (out ++ [x]) ++ restR true (l.drop (k + 1)) r := fun h => by
        subst h
        rw [he, List.append_assoc]
        rfl
      have h2 : d = false → ltR r x = true → insR l r = (out ++ [r] ++ [x]) ++ restR true (l.drop (k + 1)) r := fun h g => by
        subst h
        rw [he]
        show out ++ insR (x :: l.drop (k + 1)) r = _
        unfold insR
        rw [if_pos g]
        simp [restR]
      have h3 : d = false → ltR r x = false → insR l r = (out ++ [x]) ++ restR false (l.drop (k + 1)) r := fun h g => by
        subst h
        rw [he]
        show out ++ insR (x :: l.drop (k + 1)) r = _
        rw [show insR (x :: l.drop (k + 1)) r = x :: insR (l.drop (k + 1)) r by conv => lhs; unfold insR; rw [if_neg (by rw [g]; decide)]]
        simp [restR]
      have g1 : d = true → k + 1 ≤ l.length ∧ (out ++ [x]).length = k + 1 + cond true 1 0 ∧ insR l r = (out ++ [x]) ++ restR true (l.drop (k + 1)) r := fun h => by
        refine ⟨hlt, ?_, h1 h⟩
        rw [h] at ho
        rw [List.length_append, ho]
        rfl
      have g2 : d = false → ltR r x = true → k + 1 ≤ l.length ∧ (out ++ [r] ++ [x]).length = k + 1 + cond true 1 0 ∧ insR l r = (out ++ [r] ++ [x]) ++ restR true (l.drop (k + 1)) r := fun h g => by
        refine ⟨hlt, ?_, h2 h g⟩
        rw [h] at ho
        rw [List.length_append, List.length_append, ho]
        rfl
      have g3 : d = false → ltR r x = false → k + 1 ≤ l.length ∧ (out ++ [x]).length = k + 1 + cond false 1 0 ∧ insR l r = (out ++ [x]) ++ restR false (l.drop (k + 1)) r := fun h g => by
        refine ⟨hlt, ?_, h3 h g⟩
        rw [h] at ho
        rw [List.length_append, ho]
        rfl
      have e2 : ∀ (n : Nat) (el : Nat → List AV), n = out.length + 1 → (∀ i, i < (out ++ [r]).length → el i = cR ((out ++ [r]).getD i default)) → ∀ i, i < (out ++ [r] ++ [x]).length → catEl n el (elt [cR x]) i = cR ((out ++ [r] ++ [x]).getD i default) := fun n el hn hel => cat_snoc' (by rw [hn, List.length_append]; rfl) hel
      ((refine AW.byF ‹_› ?_); (repeat' first | (with_reducible exact trivial) | (with_reducible rfl) | (refine And.intro ?_ ?_) | (refine Need.mk ?_) | exact True.intro | (first | (refine ⟨_, Told.refl _, ?_, ?_⟩) | (refine ⟨⟨_, _⟩, Told.refl _, ?_, ?_⟩) | (refine ⟨⟨_, _, _⟩, Told.refl _, ?_, ?_⟩) | (refine ⟨⟨_, _, _, _⟩, Told.refl _, ?_, ?_⟩) | (refine ⟨⟨_, _, _, _, _⟩, Told.refl _, ?_, ?_⟩) | (refine ⟨(), Told.refl _, ?_, ?_⟩)) | (with_reducible intro _) | (refine fun (_ : Bool) => ?_)))
      all_goals first | (exact absurd ‹decide ((k : Int) < (l.length : Int)) = false› (by rw [hd]; decide)) | skip
      any_goals (first | (refine Exists.intro ((k + 1, out ++ [r] ++ [x], true) : Nat × List Rct × Bool) (And.intro (g2 (by simpa using ‹(!d) = true›) (by rw [hx]; exact ‹ltR r (l.getD (k : Int).toNat default) = true›)) (And.intro ?_ ?_)); all_goals (repeat' first | (with_reducible exact trivial) | (with_reducible rfl) | (refine And.intro ?_ ?_) | (refine Need.mk ?_) | exact True.intro | (first | (refine ⟨_, Told.refl _, ?_, ?_⟩) | (refine ⟨⟨_, _⟩, Told.refl _, ?_, ?_⟩) | (refine ⟨⟨_, _, _⟩, Told.refl _, ?_, ?_⟩) | (refine ⟨⟨_, _, _, _⟩, Told.refl _, ?_, ?_⟩) | (refine ⟨⟨_, _, _, _, _⟩, Told.refl _, ?_, ?_⟩) | (refine ⟨(), Told.refl _, ?_, ?_⟩)) | (with_reducible intro _) | (refine fun (_ : Bool) => ?_))) | fail)
      any_goals (first | (refine Exists.intro ((k + 1, out ++ [x], true) : Nat × List Rct × Bool) (And.intro (g1 (by simpa using ‹(!d) = false›)) (And.intro ?_ ?_)); all_goals (repeat' first | (with_reducible exact trivial) | (with_reducible rfl) | (refine And.intro ?_ ?_) | (refine Need.mk ?_) | exact True.intro | (first | (refine ⟨_, Told.refl _, ?_, ?_⟩) | (refine ⟨⟨_, _⟩, Told.refl _, ?_, ?_⟩) | (refine ⟨⟨_, _, _⟩, Told.refl _, ?_, ?_⟩) | (refine ⟨⟨_, _, _, _⟩, Told.refl _, ?_, ?_⟩) | (refine ⟨⟨_, _, _, _, _⟩, Told.refl _, ?_, ?_⟩) | (refine ⟨(), Told.refl _, ?_, ?_⟩)) | (with_reducible intro _) | (refine fun (_ : Bool) => ?_))) | fail)
      any_goals (first | (refine Exists.intro ((k + 1, out ++ [x], false) : Nat × List Rct × Bool) (And.intro (g3 (by simpa using ‹(!d) = true›) (by rw [hx]; exact ‹ltR r (l.getD (k : Int).toNat default) = false›)) (And.intro ?_ ?_)); all_goals (repeat' first | (with_reducible exact trivial) | (with_reducible rfl) | (refine And.intro ?_ ?_) | (refine Need.mk ?_) | exact True.intro | (first | (refine ⟨_, Told.refl _, ?_, ?_⟩) | (refine ⟨⟨_, _⟩, Told.refl _, ?_, ?_⟩) | (refine ⟨⟨_, _, _⟩, Told.refl _, ?_, ?_⟩) | (refine ⟨⟨_, _, _, _⟩, Told.refl _, ?_, ?_⟩) | (refine ⟨⟨_, _, _, _, _⟩, Told.refl _, ?_, ?_⟩) | (refine ⟨(), Told.refl _, ?_, ?_⟩)) | (with_reducible intro _) | (refine fun (_ : Bool) => ?_))) | fail)
      all_goals first
        | omega
        | (dsimp only; omega)
        | (simp; done)
        | (rw [hw]; dsimp only; omega)
        | (show (out.length + 1) * 24 ≤ _; omega)
        | (show (out.length + 1 + 1) * 24 ≤ _; omega)
        | (have q : d = true := by simpa using ‹(!d) = false›
           rw [q]; done)
        | (have q : d = false := by simpa using ‹(!d) = true›
           rw [q]; done)
        | (rename_i i hi
           rw [hx] at hi ⊢
           exact els_of cR_emb (n := 0) (cat_snoc' (by simp) (cat_snoc' rfl (fun _ _ => rfl))) i hi)
        | (rename_i i hi
           rw [hx] at hi ⊢
           exact els_of cR_emb (n := 0) (cat_snoc' rfl (fun _ _ => rfl)) i hi)
    · obtain rfl : k = l.length := by omega
      have hd : decide ((l.length : Int) < (l.length : Int)) = false := decide_eq_false (by omega)
      rw [List.drop_length] at he
      have h1 : d = true → insR l r = out := fun h => by
        subst h
        rw [he]
        simp [restR]
      have h2 : d = false → insR l r = out ++ [r] := fun h => by
        subst h
        rw [he]
        rfl
      ((refine AW.byF ‹_› ?_); (repeat' first | (with_reducible exact trivial) | (with_reducible rfl) | (refine And.intro ?_ ?_) | (refine Need.mk ?_) | exact True.intro | (first | (refine ⟨_, Told.refl _, ?_, ?_⟩) | (refine ⟨⟨_, _⟩, Told.refl _, ?_, ?_⟩) | (refine ⟨⟨_, _, _⟩, Told.refl _, ?_, ?_⟩) | (refine ⟨⟨_, _, _, _⟩, Told.refl _, ?_, ?_⟩) | (refine ⟨⟨_, _, _, _, _⟩, Told.refl _, ?_, ?_⟩) | (refine ⟨(), Told.refl _, ?_, ?_⟩)) | (with_reducible intro _) | (refine fun (_ : Bool) => ?_)))
      all_goals first | (exact absurd ‹decide ((l.length : Int) < (l.length : Int)) = true› (by rw [hd]; decide)) | skip
      all_goals first
        | omega
        | (show (out.length + 1) * 24 ≤ _; omega)
        | (rw [h2 (by simpa using ‹(!d) = true›), List.length_append]; rfl)
        | (rename_i i hi
           rw [h2 (by simpa using ‹(!d) = true›)] at hi ⊢
           exact els_of cR_emb (n := 0) (cat_snoc' rfl (fun _ _ => rfl)) i hi)
        | (rw [h1 (by simpa using ‹(!d) = false›)]; done)
end Go.Abs.Rc
set_option maxRecDepth 100000
namespace Go.Abs.Rc
open Go.RowKit Go.Proofs Go.Abs.Tab Go.Abs.Dest Go.Abs.Span Go.Abs.Coll Go.Abs.Hx Go.Abs.Mt
def heldP (l : List Rct) (i k : Nat) : Bool := decide (k ≠ i) && (holds (l.getD k default) (l.getD i default) && (!eqR (l.getD k default) (l.getD i default) || decide (k < i)))
def heldAt (l : List Rct) (i : Nat) : Bool := (List.range l.length).any (heldP l i)
theorem heldAt_yes {l : List Rct} {i k : Nat} (hk : k < l.length) (h : heldP l i k = true) : heldAt l i = true := List.any_eq_true.2 ⟨k, List.mem_range.2 hk, h⟩
theorem heldAt_no {l : List Rct} {i : Nat} (h : ∀ j, j < l.length → heldP l i j = false) : heldAt l i = false := by
  unfold heldAt
  rw [List.any_eq_false]
  intro j hj
  rw [h j (List.mem_range.1 hj)]
  decide
def SHeldR : Sp := ⟨List Rct × Nat, fun (l, i) => i < l.length ∧ l.length ≤ 1000000000, fun (l, i) => [aR l, .int .i64 i], fun (l, i) => .st (.sb (heldAt l i))⟩
set_option maxHeartbeats 8000000 in
theorem rheld : SpOK Tryz.prog 95 SHeldR := fun ⟨l, i⟩ ⟨hi, hl⟩ => by
  have hC : COK Tryz.prog (cfg [(134, SHolds)]) := Ty.ty.cfg ⟨rholds, trivial⟩
  have hi : i < l.length := hi
  have hl : l.length ≤ 1000000000 := hl
  ((refine Fn.ofF hC Tryz.func95 Tryz.ntmps95 rfl rfl rfl ?_); (repeat' first | (with_reducible exact trivial) | (with_reducible rfl) | (refine And.intro ?_ ?_) | (refine Need.mk ?_) | exact True.intro | (first | (refine ⟨_, Told.refl _, ?_, ?_⟩) | (refine ⟨⟨_, _⟩, Told.refl _, ?_, ?_⟩) | (refine ⟨⟨_, _, _⟩, Told.refl _, ?_, ?_⟩) | (refine ⟨⟨_, _, _, _⟩, Told.refl _, ?_, ?_⟩) | (refine ⟨⟨_, _, _, _, _⟩, Told.refl _, ?_, ?_⟩) | (refine ⟨(), Told.refl _, ?_, ?_⟩)) | (with_reducible intro _) | (refine fun (_ : Bool) => ?_)))
  refine AW.loop (I := fun k : Nat => ⟨42, [(0, aR l), (1, .int .i64 i), (5, .int .i64 k)], []⟩) (fun k => k ≤ l.length ∧ ∀ j, j < k → heldP l i j = false) (fun k => l.length - k) 0 ⟨Nat.zero_le _, fun j hj => by omega⟩ ?_ ?_
  · (repeat' first | (with_reducible exact trivial) | (with_reducible rfl) | (refine And.intro ?_ ?_) | (refine Need.mk ?_) | exact True.intro | (first | (refine ⟨_, Told.refl _, ?_, ?_⟩) | (refine ⟨⟨_, _⟩, Told.refl _, ?_, ?_⟩) | (refine ⟨⟨_, _, _⟩, Told.refl _, ?_, ?_⟩) | (refine ⟨⟨_, _, _, _⟩, Told.refl _, ?_, ?_⟩) | (refine ⟨⟨_, _, _, _, _⟩, Told.refl _, ?_, ?_⟩) | (refine ⟨(), Told.refl _, ?_, ?_⟩)) | (with_reducible intro _) | (refine fun (_ : Bool) => ?_))
    all_goals rfl
  · intro k ⟨hk, hok⟩
    rcases Nat.lt_or_ge k l.length with hlt | hge
    · have hd : decide ((k : Int) < (l.length : Int)) = true := decide_eq_true (by omega)
      have hw := iw (n := (k : Int) + 1) (by omega) (by omega)
      have he : eqA [.int .i64 (l.getD k default).n, .int .i64 (l.getD k default).lo, .int .i64 (l.getD k default).hi] [.int .i64 (l.getD i default).n, .int .i64 (l.getD i default).lo, .int .i64 (l.getD i default).hi] = eqR (l.getD k default) (l.getD i default) := by simp [eqA, eqR]
      have hki : ((k : Int) != (i : Int)) = decide (k ≠ i) := by
        rw [Bool.eq_iff_iff, bne_iff_ne, decide_eq_true_eq]
        omega
      have hkl : decide ((k : Int) < (i : Int)) = decide (k < i) := by
        rw [Bool.eq_iff_iff, decide_eq_true_eq, decide_eq_true_eq]
        omega
      have hp : heldP l i k = (decide (k ≠ i) && (holds (l.getD k default) (l.getD i default) && (!eqR (l.getD k default) (l.getD i default) || decide (k < i)))) := rfl
      ((refine AW.byF ‹_› ?_); (repeat' first | (with_reducible exact trivial) | (with_reducible rfl) | (refine And.intro ?_ ?_) | (refine Need.mk ?_) | exact True.intro | (first | (refine ⟨_, Told.refl _, ?_, ?_⟩) | (refine ⟨⟨_, _⟩, Told.refl _, ?_, ?_⟩) | (refine ⟨⟨_, _, _⟩, Told.refl _, ?_, ?_⟩) | (refine ⟨⟨_, _, _, _⟩, Told.refl _, ?_, ?_⟩) | (refine ⟨⟨_, _, _, _, _⟩, Told.refl _, ?_, ?_⟩) | (refine ⟨(), Told.refl _, ?_, ?_⟩)) | (with_reducible intro _) | (refine fun (_ : Bool) => ?_)))
      all_goals first | (exact absurd ‹decide ((k : Int) < (l.length : Int)) = false› (by rw [hd]; decide)) | skip
      any_goals (first | (refine Exists.intro ((k + 1 : Nat)) (And.intro ?_ (And.intro ?_ ?_)); all_goals (repeat' first | (with_reducible exact trivial) | (with_reducible rfl) | (refine And.intro ?_ ?_) | (refine Need.mk ?_) | exact True.intro | (first | (refine ⟨_, Told.refl _, ?_, ?_⟩) | (refine ⟨⟨_, _⟩, Told.refl _, ?_, ?_⟩) | (refine ⟨⟨_, _, _⟩, Told.refl _, ?_, ?_⟩) | (refine ⟨⟨_, _, _, _⟩, Told.refl _, ?_, ?_⟩) | (refine ⟨⟨_, _, _, _, _⟩, Told.refl _, ?_, ?_⟩) | (refine ⟨(), Told.refl _, ?_, ?_⟩)) | (with_reducible intro _) | (refine fun (_ : Bool) => ?_))) | fail)
      all_goals try simp only [Int.toNat_natCast, hki, hkl, he] at *
      all_goals first
        | omega
        | (rw [hw]; rfl)
        | (exact (heldAt_yes hlt (by rw [hp]; simp_all; done)).symm)
        | (have hj := ‹(_ : Nat) < k + 1›
           rcases Nat.lt_succ_iff_lt_or_eq.1 hj with q | q
           · exact hok _ q
           · rw [q, hp]; simp_all; done)
    · obtain rfl : k = l.length := by omega
      have hd : decide ((l.length : Int) < (l.length : Int)) = false := decide_eq_false (by omega)
      ((refine AW.byF ‹_› ?_); (repeat' first | (with_reducible exact trivial) | (with_reducible rfl) | (refine And.intro ?_ ?_) | (refine Need.mk ?_) | exact True.intro | (first | (refine ⟨_, Told.refl _, ?_, ?_⟩) | (refine ⟨⟨_, _⟩, Told.refl _, ?_, ?_⟩) | (refine ⟨⟨_, _, _⟩, Told.refl _, ?_, ?_⟩) | (refine ⟨⟨_, _, _, _⟩, Told.refl _, ?_, ?_⟩) | (refine ⟨⟨_, _, _, _, _⟩, Told.refl _, ?_, ?_⟩) | (refine ⟨(), Told.refl _, ?_, ?_⟩)) | (with_reducible intro _) | (refine fun (_ : Bool) => ?_)))
      all_goals first | (exact absurd ‹decide ((l.length : Int) < (l.length : Int)) = true› (by rw [hd]; decide)) | skip
      all_goals exact (heldAt_no hok).symm
def stayB (l : List Rct) (k : Nat) : Bool := okR (l.getD k default) && !heldAt l k
def canF (l : List Rct) : Nat → List Rct
  | 0 => []
  | k + 1 => if stayB l k = true then insR (canF l k) (l.getD k default) else canF l k
theorem canF_len (l : List Rct) : ∀ k, (canF l k).length ≤ k
  | 0 => Nat.le_refl _
  | k + 1 => by
    have := canF_len l k
    unfold canF
    split
    · rw [insR_len]; omega
    · omega
theorem mem_canF {l : List Rct} {x : Rct} : ∀ k, x ∈ canF l k ↔ ∃ i, i < k ∧ l.getD i default = x ∧ stayB l i = true
  | 0 => by
    constructor
    · intro h; cases h
    · rintro ⟨i, h, _⟩; omega
  | k + 1 => by
    unfold canF
    split
    · rename_i h
      rw [mem_insR, mem_canF k]
      constructor
      · rintro (rfl | ⟨i, h1, h2, h3⟩)
        · exact ⟨k, by omega, rfl, h⟩
        · exact ⟨i, by omega, h2, h3⟩
      · rintro ⟨i, h1, h2, h3⟩
        by_cases e : i = k
        · subst e; exact .inl h2.symm
        · exact .inr ⟨i, by omega, h2, h3⟩
    · rename_i h
      rw [mem_canF k]
      constructor
      · rintro ⟨i, h1, h2, h3⟩
        exact ⟨i, by omega, h2, h3⟩
      · rintro ⟨i, h1, h2, h3⟩
        by_cases e : i = k
        · subst e; exact absurd h3 h
        · exact ⟨i, by omega, h2, h3⟩
theorem getMemR {l : List Rct} {i : Nat} (h : i < l.length) : l.getD i default ∈ l := by rw [getR h]; exact List.getElem_mem h
theorem canF_srt (l : List Rct) : ∀ k, k ≤ l.length → (canF l k).Pairwise fun x y => ltR x y = true
  | 0, _ => List.Pairwise.nil
  | k + 1, hk => by
    unfold canF
    split
    · rename_i h
      refine insR_srt (canF_srt l k (by omega)) fun hm => ?_
      obtain ⟨i, h1, h2, h3⟩ := (mem_canF k).1 hm
      obtain ⟨h4, h5⟩ := (Bool.and_eq_true _ _).mp h
      have : heldAt l k = true := heldAt_yes (k := i) (by omega) (by
        unfold heldP
        rw [h2, (holds_iff _ _).2 (cov_refl h4), decide_eq_true (show i ≠ k by omega), decide_eq_true h1]
        simp)
      rw [this] at h5
      cases h5
    · exact canF_srt l k (by omega)
theorem first_at {l : List Rct} {x : Rct} (h : x ∈ l) : ∃ i, i < l.length ∧ l.getD i default = x ∧ ∀ j, j < i → l.getD j default ≠ x := by
  induction l with
  | nil => cases h
  | cons y l ih =>
    by_cases e : y = x
    · exact ⟨0, by simp, e, fun j hj => by omega⟩
    · obtain ⟨i, h1, h2, h3⟩ := ih (by rcases List.mem_cons.1 h with q | q; exact absurd q.symm e; exact q)
      refine ⟨i + 1, by rw [List.length_cons]; omega, h2, fun j hj => ?_⟩
      cases j with
      | zero => exact e
      | succ j => exact h3 j (by omega)
theorem canF_can (l : List Rct) : canF l l.length = canR l := by
  refine srt_uniq (canF_srt l _ (Nat.le_refl _)) (canR_srt l) fun x => ?_
  rw [mem_canF, mem_canR]
  constructor
  · rintro ⟨i, h1, rfl, h3⟩
    obtain ⟨h4, h5⟩ := (Bool.and_eq_true _ _).mp h3
    refine ⟨getMemR h1, h4, fun o ho h6 => ?_⟩
    cases h7 : oth o (l.getD i default) with
    | false => rfl
    | true =>
      exfalso
      obtain ⟨h8, h9⟩ := (oth_iff _ _).1 h7
      obtain ⟨k, hk, rfl⟩ := List.getElem_of_mem ho
      rw [← getR hk] at h8 h9
      have : heldAt l i = true := heldAt_yes hk (by
        unfold heldP
        have e1 : eqR (l.getD k default) (l.getD i default) = false := by rw [← Bool.not_eq_true, eqR_iff]; exact h8
        rw [(holds_iff _ _).2 h9, e1, decide_eq_true (show k ≠ i from fun e => h8 (by rw [e]))]
        rfl)
      rw [this] at h5
      cases h5
  · rintro ⟨h1, h2, h3⟩
    obtain ⟨i, hi, rfl, hf⟩ := first_at h1
    refine ⟨i, hi, rfl, ?_⟩
    unfold stayB
    rw [h2, heldAt_no, Bool.not_false, Bool.and_self]
    intro j hj
    unfold heldP
    cases hh : holds (l.getD j default) (l.getD i default) with
    | false => simp
    | true =>
      have hc := (holds_iff _ _).1 hh
      have h4 := h3 _ (getMemR hj) hc.1
      have h5 : l.getD j default = l.getD i default := by
        by_cases e : l.getD j default = l.getD i default
        · exact e
        · rw [(oth_iff _ _).2 ⟨e, hc⟩] at h4
          cases h4
      have h6 : ¬ j < i := fun q => hf j q h5
      rw [(eqR_iff _ _).2 h5, decide_eq_false h6]
      simp
set_option maxHeartbeats 8000000 in
theorem rcanonR : SpOK Tryz.prog 57 SCanR := fun (l : List Rct) hl => by
  have hC : COK Tryz.prog (cfg [(94, SRS), (95, SHeldR), (96, SInsR)]) := Ty.ty.cfg ⟨rsaneR, rheld, rinsert, trivial⟩
  have hl : l.length ≤ 1000000 := hl
  ((refine Fn.ofF hC Tryz.func57 Tryz.ntmps57 rfl rfl rfl ?_); (repeat' first | (with_reducible exact trivial) | (with_reducible rfl) | (refine And.intro ?_ ?_) | (refine Need.mk ?_) | exact True.intro | (first | (refine ⟨_, Told.refl _, ?_, ?_⟩) | (refine ⟨⟨_, _⟩, Told.refl _, ?_, ?_⟩) | (refine ⟨⟨_, _, _⟩, Told.refl _, ?_, ?_⟩) | (refine ⟨⟨_, _, _, _⟩, Told.refl _, ?_, ?_⟩) | (refine ⟨⟨_, _, _, _, _⟩, Told.refl _, ?_, ?_⟩) | (refine ⟨(), Told.refl _, ?_, ?_⟩)) | (with_reducible intro _) | (refine fun (_ : Bool) => ?_)))
  refine AW.loop (I := fun k : Nat => ⟨29, [(0, aR l), (3, .own 0), (4, .int .i64 k)], [.row 113 3 (canF l k).length (els cR (canF l k))]⟩) (fun k => k ≤ l.length) (fun k => l.length - k) 0 (Nat.zero_le _) ?_ ?_
  · (repeat' first | (with_reducible exact trivial) | (with_reducible rfl) | (refine And.intro ?_ ?_) | (refine Need.mk ?_) | exact True.intro | (first | (refine ⟨_, Told.refl _, ?_, ?_⟩) | (refine ⟨⟨_, _⟩, Told.refl _, ?_, ?_⟩) | (refine ⟨⟨_, _, _⟩, Told.refl _, ?_, ?_⟩) | (refine ⟨⟨_, _, _, _⟩, Told.refl _, ?_, ?_⟩) | (refine ⟨⟨_, _, _, _, _⟩, Told.refl _, ?_, ?_⟩) | (refine ⟨(), Told.refl _, ?_, ?_⟩)) | (with_reducible intro _) | (refine fun (_ : Bool) => ?_))
    all_goals rfl
  · intro k hk
    rcases Nat.lt_or_ge k l.length with hlt | hge
    · have hd : decide ((k : Int) < (l.length : Int)) = true := decide_eq_true (by omega)
      have hw := iw (n := (k : Int) + 1) (by omega) (by omega)
      have hc := canF_len l k
      have hs : stayB l k = (okR (l.getD k default) && !heldAt l k) := rfl
      have hn : canF l (k + 1) = if stayB l k = true then insR (canF l k) (l.getD k default) else canF l k := rfl
      ((refine AW.byF ‹_› ?_); (repeat' first | (with_reducible exact trivial) | (with_reducible rfl) | (refine And.intro ?_ ?_) | (refine Need.mk ?_) | exact True.intro | (first | (refine ⟨_, Told.refl _, ?_, ?_⟩) | (refine ⟨⟨_, _⟩, Told.refl _, ?_, ?_⟩) | (refine ⟨⟨_, _, _⟩, Told.refl _, ?_, ?_⟩) | (refine ⟨⟨_, _, _, _⟩, Told.refl _, ?_, ?_⟩) | (refine ⟨⟨_, _, _, _, _⟩, Told.refl _, ?_, ?_⟩) | (refine ⟨(), Told.refl _, ?_, ?_⟩)) | (with_reducible intro _) | (refine fun (_ : Bool) => ?_)))
      all_goals first | (exact absurd ‹decide ((k : Int) < (l.length : Int)) = false› (by rw [hd]; decide)) | skip
      any_goals (first | (refine Exists.intro ((k + 1 : Nat)) (And.intro ?_ (And.intro ?_ ?_)); all_goals (repeat' first | (with_reducible exact trivial) | (with_reducible rfl) | (refine And.intro ?_ ?_) | (refine Need.mk ?_) | exact True.intro | (first | (refine ⟨_, Told.refl _, ?_, ?_⟩) | (refine ⟨⟨_, _⟩, Told.refl _, ?_, ?_⟩) | (refine ⟨⟨_, _, _⟩, Told.refl _, ?_, ?_⟩) | (refine ⟨⟨_, _, _, _⟩, Told.refl _, ?_, ?_⟩) | (refine ⟨⟨_, _, _, _, _⟩, Told.refl _, ?_, ?_⟩) | (refine ⟨(), Told.refl _, ?_, ?_⟩)) | (with_reducible intro _) | (refine fun (_ : Bool) => ?_))) | fail)
      all_goals try simp only [Int.toNat_natCast] at *
      all_goals first
        | omega
        | exact ⟨hlt, by omega⟩
        | (show (canF l k).length ≤ 1000000000; omega)
        | (rw [hw]; rfl)
        | (have q : stayB l k = true := by rw [hs]; simp_all; done
           rw [if_pos q] at hn
           rw [hn]
           done)
        | (have q : ¬ stayB l k = true := by rw [hs]; simp_all; done
           rw [if_neg q] at hn
           rw [hn]
           done)
    · obtain rfl : k = l.length := by omega
      have hd : decide ((l.length : Int) < (l.length : Int)) = false := decide_eq_false (by omega)
      have hcan := canF_can l
      ((refine AW.byF ‹_› ?_); (repeat' first | (with_reducible exact trivial) | (with_reducible rfl) | (refine And.intro ?_ ?_) | (refine Need.mk ?_) | exact True.intro | (first | (refine ⟨_, Told.refl _, ?_, ?_⟩) | (refine ⟨⟨_, _⟩, Told.refl _, ?_, ?_⟩) | (refine ⟨⟨_, _, _⟩, Told.refl _, ?_, ?_⟩) | (refine ⟨⟨_, _, _, _⟩, Told.refl _, ?_, ?_⟩) | (refine ⟨⟨_, _, _, _, _⟩, Told.refl _, ?_, ?_⟩) | (refine ⟨(), Told.refl _, ?_, ?_⟩)) | (with_reducible intro _) | (refine fun (_ : Bool) => ?_)))
      all_goals first | (exact absurd ‹decide ((l.length : Int) < (l.length : Int)) = true› (by rw [hd]; decide)) | skip
      all_goals (rw [hcan])
end Go.Abs.Rc
