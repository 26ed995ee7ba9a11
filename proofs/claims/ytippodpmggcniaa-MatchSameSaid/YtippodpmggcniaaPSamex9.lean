-- made by xprint.py of this session
import Derived.Test.YtippodpmggcniaaPSamex0
import Derived.Test.YtippodpmggcniaaPSamex8
namespace Go.Proofs.Ytippodpmggcniaa.PSame
open Go.RowKit Go.Proofs.YtippodpmggcniaaW.PrintWords Go.Proofs.YtippodpmggcniaaW.PrintLast Go.Proofs.YtippodpmggcniaaW.PrintMore
attribute [local go_sem] max2_int min2_int max_two min_two max_three min_three max_four min_four   -- for this text's walks alone
set_option linter.unusedVariables false
set_option linter.unusedSimpArgs false

/-! ### EXT match_best: function 27 -/
def match_best.l0 : Nat → List S59 → Int → Int → Int → Option (Int × Int)
  | 0, _, _, _, _ => none
  | k + 1, x0, x6, m0, m1 => if x6 < (x0.length : Int) then (if 0 ≤ x6 then ((match_better.f k (rd_T59 x0 x6).f0 (rd_T59 x0 x6).f1 m0 m1).bind fun c => if c < 0 then match_best.l0 k x0 (wrap64 (x6 + 1)) (rd_T59 x0 x6).f0 (rd_T59 x0 x6).f1 else match_best.l0 k x0 (wrap64 (x6 + 1)) m0 m1) else none) else some (m0, m1)
def match_best.f (k : Nat) (l0 : List S59) : Option (Int × Int) := if (l0.length : Int) = 0 then some (0, 1) else match_best.l0 k l0 1 (rd_T59 l0 0).f0 (rd_T59 l0 0).f1
theorem match_best.mono_l : ∀ k, (∀ y0 y1 y2 y3, LeO (match_best.l0 k y0 y1 y2 y3) (match_best.l0 (k + 1) y0 y1 y2 y3))
  | 0 => fun _ _ _ _ r h => by simp [match_best.l0] at h
  | k + 1 => by
    have ih0 := match_best.mono_l k
    intro y0 y1 y2 y3
    unfold match_best.l0
    exact LeO.ite (LeO.ite (LeO.bind (match_better.mono _ _ _ _ _) (fun b => LeO.ite (ih0 _ _ _ _) (ih0 _ _ _ _))) (LeO.none _)) (LeO.refl _)
theorem match_best.mono : ∀ a0 k, LeO (match_best.f k a0) (match_best.f (k + 1) a0) := by
  intro a0 k
  unfold match_best.f
  exact LeO.ite (LeO.refl _) (match_best.mono_l _ _ _ _ _)
set_option maxHeartbeats 4000000 in
set_option maxRecDepth 100000 in
theorem match_best.minf (k : Nat) (A0 : Option Addr) (c0 : Nat) (l0 : List S59) (r1 r2 : Int) (w : World) (hr0 : Kd.C k59 w A0 l0.length l0) (hc0 : l0.length ≤ c0) (hn : 0 < l0.length) (h : match_best.l0 k l0 1 (rd_T59 l0 0).f0 (rd_T59 l0 0).f1 = some (r1, r2)) :
    Calls Try.prog 43 #[.slice A0 l0.length c0, .func (.func 44) #[] #[]] w fun e w' => e = .returned (.agg #[.int .i64 r1, .int .i64 r2]) ∧ Below w.heap.size w w' := by
  have hu1 := Try.underlying59
  have HR0 := Aside0.mk hr0
  have HC0 := Aside0.mk hc0
  have H' := Aside0.mk h
  have c1 : decide ((l0.length : Int) < 1) = false := decide_eq_false (by omega)
  have c2 : decide (l0.length < 1) = false := decide_eq_false (by omega)
  obtain ⟨ad, e, hx0, hx1⟩ := at_T59 HR0.out 0 (by omega) (by omega)
  cases e
  rw [show ((0 : Int).toNat * 2) = 0 from rfl] at hx0 hx1
  have e0 : ad.add 0 = ad := by cases ad; rfl
  rw [e0] at hx0 hx1
  clear e0
  have hlt := World.block_lt_of_cell? w _ hx0
  have hlt' : ad.block < w.heap.size := hlt
  clear h hr0 hc0 hlt
  go_enter Try.func43, Try.ntmps43
  go_wp2
  go_loopg [6] k (fun kq v6 w' => ∃ (x6 m0 m1 : Int), v6 = .int .i64 x6 ∧ Aside0 (match_best.l0 kq l0 x6 m0 m1 = some (r1, r2)) ∧ Aside0 (kq ≤ k) ∧ Aside0 (w'.heap[w.heap.size]? = some (.cells #[.int .i64 0, .int .i64 0] 59 (0, 0))) ∧ Aside0 (w'.heap[w.heap.size + 1]? = some (.cells #[.int .i64 m0, .int .i64 m1] 59 (0, 0))) ∧ Aside0 (Below w.heap.size w w'))
  case atStart => exact ⟨1, _, _, rfl, H', ⟨Nat.le_refl _⟩, ⟨blk_alloc (heap_alloc_new w _) _⟩, ⟨by have := heap_alloc_new (w.alloc (.cells #[.int .i64 0, .int .i64 0] 59)) (.cells #[.int .i64 (rd_T59 l0 0).f0, .int .i64 (rd_T59 l0 0).f1] 59); simpa using this⟩, ⟨below_alloc (below_alloc (Below.refl _ _) _) _⟩⟩
  case round =>
    clear H' hx0 hx1 c1 c2 hlt' hn
    obtain ⟨x6, m0, m1, rfl, HA, HK1, BK4, BK5, HB⟩ := hrel
    cases gk with
    | zero => exact absurd HA.out (by simp [match_best.l0])
    | succ k1 =>
      have H := HA.out
      clear HA
      simp only [match_best.l0] at H
      by_cases c2 : x6 < (l0.length : Int)
      · rw [if_pos c2] at H
        have c2b0 : decide (x6 < (l0.length : Int)) = true := decide_eq_true c2
        by_cases c3 : 0 ≤ x6
        · rw [if_pos c3] at H
          have c3b0 : decide (0 ≤ x6) = true := decide_eq_true c3
          obtain ⟨t, ht, H⟩ := Option.bind_eq_some_iff.mp H
          obtain ⟨ad', e, hx0, hx1⟩ := at_T59 HR0.out x6 c3 c2
          cases e
          have hxl := World.block_lt_of_cell? w _ hx0
          have HL := Aside0.mk hxl
          clear hxl
          have HX0 := Aside0.mk hx0
          have HX1 := Aside0.mk hx1
          replace hx0 := (HB.out.cell HL.out).trans hx0
          replace hx1 := (HB.out.cell (p := ⟨(ad.add (x6.toNat * 2)).block, (ad.add (x6.toNat * 2)).off + 1, none⟩) HL.out).trans hx1
          have hm0 : wr.cell? ⟨w.heap.size + 1, 0, none⟩ = some (.int .i64 m0) := (blk_cell BK5.out 0).trans rfl
          have hm1 : wr.cell? ⟨w.heap.size + 1, 1, none⟩ = some (.int .i64 m1) := (blk_cell BK5.out 1).trans rfl
          replace c2 := eq_true c2
          replace c3 := eq_true c3
          have HT := Aside0.mk ht
          clear ht
          have hz1 : w.heap.size + 1 < wr.heap.size := World.block_lt_of_cell? wr _ hm0
          have hz0 : (ad.add (x6.toNat * 2)).block < wr.heap.size := World.block_lt_of_cell? wr _ hx0
          by_cases c4 : t < 0
          · rw [if_pos c4] at H
            have c4b0 : decide (t < 0) = true := decide_eq_true c4
            clear c4
            have H' := Aside0.mk H
            clear H
            go_wp2
            go_region_held3 (fun W => W.cell? (ad.add (x6.toNat * 2)) = some (.int .i64 (rd_T59 l0 x6).f0) ∧ W.cell? ⟨(ad.add (x6.toNat * 2)).block, (ad.add (x6.toNat * 2)).off + 1, none⟩ = some (.int .i64 (rd_T59 l0 x6).f1) ∧ W.cell? ⟨w.heap.size + 1, 0, none⟩ = some (.int .i64 m0) ∧ W.cell? ⟨w.heap.size + 1, 1, none⟩ = some (.int .i64 m1))
              (first | go_keep | (refine ⟨?_, ?_, ?_, ?_⟩ <;> (first | (rw [hb.cell (by first | assumption | (simp; omega))]; simp; assumption) | trace_state)))
              ((first | (go_at_call 44; refine (match_better.calls k1 _ _ m0 m1 t _ HT.out).mono ?_; rintro e w1 ⟨rfl, hb⟩)))
            have n4 := Aside0.mk ((hb.block w.heap.size (by simp; omega)).trans (blk_drew BK4.out))
            have n5 := Aside0.mk ((hb.block (w.heap.size + 1) (by simpa using hz1)).trans (blk_drew BK5.out))
            have nb := Aside0.mk (below_step (below_drew1 HB.out) hb)
            have hy0 := (nb.out.cell HL.out).trans HX0.out
            have hy1 := (nb.out.cell (p := ⟨(ad.add (x6.toNat * 2)).block, (ad.add (x6.toNat * 2)).off + 1, none⟩) HL.out).trans HX1.out
            have hm0' : w1.cell? ⟨w.heap.size + 1, 0, none⟩ = some (.int .i64 m0) := (blk_cell n5.out 0).trans rfl
            have hm1' : w1.cell? ⟨w.heap.size + 1, 1, none⟩ = some (.int .i64 m1) := (blk_cell n5.out 1).trans rfl
            have hf0 := blk_frozen n5.out 0
            have hf1 := blk_frozen n5.out 1
            clear hb hx0 hx1 hm0 hm1
            go_wp2
            go_roundg k1
            case measure => have := HK1.out; omega
            case rel => exact ⟨_, _, _, rfl, H', ⟨by have := HK1.out; omega⟩, ⟨blk_far (blk_far n4.out (p := ⟨w.heap.size + 1, 0, none⟩) (by simp) _) (p := ⟨w.heap.size + 1, 1, none⟩) (by simp) _⟩, ⟨by refine blk_put (cs := #[.int .i64 (rd_T59 l0 x6).f0, .int .i64 m1]) ?_ 1 _ rfl; refine blk_put (cs := #[.int .i64 m0, .int .i64 m1]) ?_ 0 _ rfl; exact n5.out⟩, ⟨below_set (below_set nb.out (Nat.le_succ _)) (Nat.le_succ _)⟩⟩
          · rw [if_neg c4] at H
            have c4b0 : decide (t < 0) = false := decide_eq_false c4
            clear c4
            have H' := Aside0.mk H
            clear H
            go_wp2
            go_region_held3 (fun W => W.cell? (ad.add (x6.toNat * 2)) = some (.int .i64 (rd_T59 l0 x6).f0) ∧ W.cell? ⟨(ad.add (x6.toNat * 2)).block, (ad.add (x6.toNat * 2)).off + 1, none⟩ = some (.int .i64 (rd_T59 l0 x6).f1) ∧ W.cell? ⟨w.heap.size + 1, 0, none⟩ = some (.int .i64 m0) ∧ W.cell? ⟨w.heap.size + 1, 1, none⟩ = some (.int .i64 m1))
              (first | go_keep | (refine ⟨?_, ?_, ?_, ?_⟩ <;> (first | (rw [hb.cell (by first | assumption | (simp; omega))]; simp; assumption) | trace_state)))
              ((first | (go_at_call 44; refine (match_better.calls k1 _ _ m0 m1 t _ HT.out).mono ?_; rintro e w1 ⟨rfl, hb⟩)))
            have n4 := Aside0.mk ((hb.block w.heap.size (by simp; omega)).trans (blk_drew BK4.out))
            have n5 := Aside0.mk ((hb.block (w.heap.size + 1) (by simpa using hz1)).trans (blk_drew BK5.out))
            have nb := Aside0.mk (below_step (below_drew1 HB.out) hb)
            have hy0 := (nb.out.cell HL.out).trans HX0.out
            have hy1 := (nb.out.cell (p := ⟨(ad.add (x6.toNat * 2)).block, (ad.add (x6.toNat * 2)).off + 1, none⟩) HL.out).trans HX1.out
            have hm0' : w1.cell? ⟨w.heap.size + 1, 0, none⟩ = some (.int .i64 m0) := (blk_cell n5.out 0).trans rfl
            have hm1' : w1.cell? ⟨w.heap.size + 1, 1, none⟩ = some (.int .i64 m1) := (blk_cell n5.out 1).trans rfl
            have hf0 := blk_frozen n5.out 0
            have hf1 := blk_frozen n5.out 1
            clear hb hx0 hx1 hm0 hm1
            go_wp2
            go_roundg k1
            case measure => have := HK1.out; omega
            case rel => exact ⟨_, _, _, rfl, H', ⟨by have := HK1.out; omega⟩, n4, n5, nb⟩
        · rw [if_neg c3] at H
          exact absurd H (by simp)
      · rw [if_neg c2] at H
        have c2b0 : decide (x6 < (l0.length : Int)) = false := decide_eq_false c2
        clear c2
        obtain ⟨rfl, rfl⟩ := Prod.mk.inj (Option.some.inj H)
        clear H
        have hm0 : wr.cell? ⟨w.heap.size + 1, 0, none⟩ = some (.int .i64 m0) := (blk_cell BK5.out 0).trans rfl
        have hm1 : wr.cell? ⟨w.heap.size + 1, 1, none⟩ = some (.int .i64 m1) := (blk_cell BK5.out 1).trans rfl
        have hr0 : wr.cell? ⟨w.heap.size, 0, none⟩ = some (.int .i64 0) := (blk_cell BK4.out 0).trans rfl
        have hr1 : wr.cell? ⟨w.heap.size, 1, none⟩ = some (.int .i64 0) := (blk_cell BK4.out 1).trans rfl
        have hf0 := blk_frozen BK4.out 0
        have hf1 := blk_frozen BK4.out 1
        go_wp2
        refine bodyPost_ret (results_cell_row rfl _ _ w.heap.size 59 #[.int .i64 m0, .int .i64 m1] (0, 0) _ rfl (by refine blk_put (cs := #[.int .i64 m0, .int .i64 0]) ?_ 1 _ rfl; refine blk_put (cs := #[.int .i64 0, .int .i64 0]) ?_ 0 _ rfl; exact BK4.out) hu1 rfl (by kernel_rfl)) rfl ?_
        exact ⟨rfl, below_set (below_set HB.out (Nat.le_refl _)) (Nat.le_refl _)⟩
set_option maxHeartbeats 4000000 in
set_option maxRecDepth 100000 in
theorem match_best.calls (k : Nat) (A0 : Option Addr) (c0 : Nat) (l0 : List S59) (r1 : Int) (r2 : Int) (w : World) (hr0 : Kd.C k59 w A0 l0.length l0) (hc0 : l0.length ≤ c0) (h : match_best.f k l0 = some (r1, r2)) :
    Calls Try.prog 27 #[.slice A0 l0.length c0] w fun e w' => e = .returned (.agg #[.int .i64 r1, .int .i64 r2]) ∧ Below w.heap.size w w' := by
  have hu1 := Try.underlying59
  have HR0 := Aside0.mk hr0
  have HC0 := Aside0.mk hc0
  have H : (if (l0.length : Int) = 0 then some (0, 1) else match_best.l0 k l0 1 (rd_T59 l0 0).f0 (rd_T59 l0 0).f1) = some (r1, r2) := h
  clear h hr0 hc0
  by_cases c1 : (l0.length : Int) = 0
  · rw [if_pos c1] at H
    have c1b0 : ((l0.length : Int) == 0) = true := beq_iff_eq.mpr c1
    have c1b1 : (l0.length == 0) = true := by rw [beq_iff_eq]; omega
    obtain ⟨rfl, rfl⟩ := Prod.mk.inj (Option.some.inj H)
    clear H
    obtain rfl : l0 = [] := List.eq_nil_of_length_eq_zero (by omega)
    clear c1
    go_enter Try.func27, Try.ntmps27
    go_wp2
    refine bodyPost_ret (results_cell_row rfl _ _ w.heap.size 59 #[.int .i64 0, .int .i64 1] (0, 0) _ rfl (by exact heap_alloc_new w _) hu1 rfl (by kernel_rfl)) rfl ?_
    exact ⟨rfl, below_alloc (Below.refl _ _) _⟩
  · rw [if_neg c1] at H
    have c1b0 : ((l0.length : Int) == 0) = false := beq_eq_false_iff_ne.mpr c1
    have c1b1 : (l0.length == 0) = false := by rw [beq_eq_false_iff_ne]; omega
    have hn : 0 < l0.length := by omega
    have H' := Aside0.mk H
    have HN := Aside0.mk hn
    clear H hn c1
    go_enter Try.func27, Try.ntmps27
    go_wp2_with (refine (match_best.minf k _ _ l0 r1 r2 _ (Kd.C_alloc HR0.out _) HC0.out HN.out H'.out).mono ?_; rintro e w1 ⟨rfl, hb⟩; have n4 := Aside0.mk (blk_below (heap_alloc_new w _) hb); have nb := Aside0.mk (below_step (below_alloc (Below.refl w.heap.size w) _) hb); clear hb; have hf0 := blk_frozen n4.out 0; have hf1 := blk_frozen n4.out 1; have hz0 : w1.cell? ⟨w.heap.size, 0, none⟩ = some (.int .i64 0) := (blk_cell n4.out 0).trans rfl; have hz1 : w1.cell? ⟨w.heap.size, 1, none⟩ = some (.int .i64 0) := (blk_cell n4.out 1).trans rfl)
    refine bodyPost_ret (results_cell_row rfl _ _ w.heap.size 59 #[.int .i64 r1, .int .i64 r2] (0, 0) _ rfl (by refine blk_put (cs := #[.int .i64 r1, .int .i64 0]) ?_ 1 _ rfl; refine blk_put (cs := #[.int .i64 0, .int .i64 0]) ?_ 0 _ rfl; exact n4.out) hu1 rfl (by kernel_rfl)) rfl ?_
    exact ⟨rfl, below_set (below_set nb.out (Nat.le_refl _)) (Nat.le_refl _)⟩

end Go.Proofs.Ytippodpmggcniaa.PSame
