-- made by xprint.py of this session
import Derived.Test.YtehknkgplldiiaaPIsx0
import Derived.Test.YtehknkgplldiiaaPIsx9
namespace Go.Proofs.Ytehknkgplldiiaa.PIs
open Go.RowKit Go.Proofs.YtehknkgplldiiaaW.PrintWords Go.Proofs.YtehknkgplldiiaaW.PrintLast Go.Proofs.YtehknkgplldiiaaW.PrintMore
attribute [local go_sem] max2_int min2_int max_two min_two max_three min_three max_four min_four   -- for this text's walks alone
set_option linter.unusedVariables false
set_option linter.unusedSimpArgs false

/-! ### span_joined: function 28 -/
def span_joined.l0 : Nat → Bool → List (S23) → List (S23) → Int → Int → Option ((List (S23)))
  | 0, _, _, _, _, _ => none
  | k + 1, x1, x5, x9, x10, x11 => if x11 < x10 then (if 0 ≤ x11 then (if x11 < (x9.length : Int) then (if (x5.length : Int) > 0 then (if 0 ≤ (wrap64 ((x5.length : Int) - 1)) then (if (wrap64 ((x5.length : Int) - 1)) < (x5.length : Int) then ((span_joins.f ((rd_T23 x5 (wrap64 ((x5.length : Int) - 1))).f0) ((rd_T23 x5 (wrap64 ((x5.length : Int) - 1))).f1) ((rd_T23 x5 (wrap64 ((x5.length : Int) - 1))).f2) ((rd_T23 x5 (wrap64 ((x5.length : Int) - 1))).f3) ((rd_T23 x9 x11).f0) ((rd_T23 x9 x11).f1) ((rd_T23 x9 x11).f2) ((rd_T23 x9 x11).f3) x1).bind fun t126 => (if t126 = true then (span_joined.l0 k x1 (x5.set ((wrap64 ((x5.length : Int) - 1)) : Int).toNat (⟨(rd_T23 x5 (wrap64 ((x5.length : Int) - 1))).f0, (rd_T23 x5 (wrap64 ((x5.length : Int) - 1))).f1, (rd_T23 x9 x11).f2, (rd_T23 x5 (wrap64 ((x5.length : Int) - 1))).f3⟩ : S23)) x9 x10 (wrap64 (x11 + 1))) else (if x5.length < 4398046511104 then (span_joined.l0 k x1 (x5 ++ [(⟨(rd_T23 x9 x11).f0, (rd_T23 x9 x11).f1, (rd_T23 x9 x11).f2, (rd_T23 x9 x11).f3⟩ : S23)]) x9 x10 (wrap64 (x11 + 1))) else (none)))) else (none)) else (none)) else (if x5.length < 4398046511104 then (span_joined.l0 k x1 (x5 ++ [(⟨(rd_T23 x9 x11).f0, (rd_T23 x9 x11).f1, (rd_T23 x9 x11).f2, (rd_T23 x9 x11).f3⟩ : S23)]) x9 x10 (wrap64 (x11 + 1))) else (none))) else (none)) else (none)) else (some x5)
def span_joined.f (k : Nat) (l0 : List (S23)) (a1 : Bool) : Option ((List (S23))) := span_joined.l0 k a1 ([] : List (S23)) l0 (l0.length : Int) 0
theorem span_joined.mono_l : ∀ k, (∀ y0 y1 y2 y3 y4, LeO (span_joined.l0 k y0 y1 y2 y3 y4) (span_joined.l0 (k + 1) y0 y1 y2 y3 y4))
  | 0 => fun _ _ _ _ _ r h => by simp [span_joined.l0] at h
  | k + 1 => by
    have ih0 := span_joined.mono_l k
    · intro y0 y1 y2 y3 y4
      unfold span_joined.l0
      repeat' first
      | (with_reducible exact ih0 _ _ _ _ _)
      | (with_reducible exact LeO.refl _)
      | (with_reducible exact LeO.none _)
      | (with_reducible refine LeO.ite ?_ ?_)
      | (with_reducible refine LeO.bind ?_ (fun _ => ?_))
      | exact ih0 _ _ _ _ _
      | exact LeO.none _
      | refine LeO.ite ?_ ?_
      | refine LeO.bind ?_ (fun _ => ?_)
theorem span_joined.mono : ∀ a0 a1 k, LeO (span_joined.f k a0 a1) (span_joined.f (k + 1) a0 a1) := by
  intro a0 a1 k
  have ih0 := span_joined.mono_l k
  unfold span_joined.f
  repeat' first
      | (with_reducible exact ih0 _ _ _ _ _)
      | (with_reducible exact LeO.refl _)
      | (with_reducible exact LeO.none _)
      | (with_reducible refine LeO.ite ?_ ?_)
      | (with_reducible refine LeO.bind ?_ (fun _ => ?_))
      | exact ih0 _ _ _ _ _
      | exact LeO.none _
      | refine LeO.ite ?_ ?_
      | refine LeO.bind ?_ (fun _ => ?_)
def span_joined.T6 : Bool × List (List Nat × List Nat) := (true, [([], []), ([0], [0]), ([1], [1]), ([2], [2]), ([2], [2]), ([4, 2], [2, 4]), ([3, 5, 2], [2, 3, 5]), ([6, 2], [2, 6]), ([2], [2]), ([2], [2]), ([7, 8, 9, 2, 2], [2, 7, 8, 9]), ([2, 10], [2, 10])])
def span_joined.B6 : List Nat := [0, 1, 3, 7, 7, 23, 63, 127, 7, 7, 1023, 2047]
theorem span_joined.tab6 : rtab .any (opsOf Try.f28 6) = span_joined.T6 := by kernel_rfl
theorem span_joined.bits6 : waitsOk span_joined.T6.2 span_joined.B6 = true := by kernel_rfl
set_option maxHeartbeats 8000000 in
set_option maxRecDepth 100000 in
theorem span_joined.calls (k : Nat) (A0 : Option Addr) (c0 : Nat) (l0 : List (S23)) (a1 : Bool) (r : List (S23)) (w : World) (hr0 : Kd.C k23 w A0 l0.length l0) (hc0 : l0.length ≤ c0) (h : span_joined.f k l0 a1 = some r) :
    Calls Try.prog 28 #[.slice A0 l0.length c0, .bool a1] w fun e w' => ∃ v0_ : Value, e = .returned (v0_) ∧ Kd.R k23 23 w' w.heap.size (fun _ => True) v0_ r ∧ Below w.heap.size w w' := by
  have hu23 := Try.underlying23
  have HR0 := Aside0.mk hr0
  have HC0 := Aside0.mk hc0
  clear hr0 hc0
  have HB := Aside0.mk (Below.refl w.heap.size w)
  have H : (span_joined.l0 k a1 ([] : List (S23)) l0 (l0.length : Int) 0) = some r := h
  clear h
  have H' := Aside0.mk H
  clear H
  go_enter Try.func28, Try.ntmps28
  go_wp2
  go_loopg [5, 11] k (fun kq v5 v11 w' => ∃ (x5_1 : List (S23)) (x11_1 : Int), v11 = .int .i64 x11_1 ∧ Aside0 (span_joined.l0 kq a1 x5_1 l0 (l0.length : Int) x11_1 = some r) ∧ Aside0 (kq ≤ k) ∧ Aside0 (Kd.R k23 23 w' w.heap.size (fun _ => True) v5 x5_1) ∧ Aside0 (Below w.heap.size w w'))
  case atStart => exact ⟨(([] : List (S23))), (0), (by first | rfl | (simp; done) | (simp [*]; done)), H', ⟨Nat.le_refl _⟩, ⟨by first | exact Kd.R_nil _ _ _ _ _ | exact Kd.N_nil _ _ _ _ _ | exact Kd.V_nil _ _ _ _ _ | exact Kd.Q_nil _ _ _ _ _ | exact Kd.S_nil _ _ _ _ _⟩, ⟨hbm HB.out⟩⟩
  case round =>
    clear H'
    try clear c2
    try clear p2
    obtain ⟨x5_1, x11_1, rfl, HA, HK1, HO_5, HB⟩ := hrel
    cases gk with
    | zero => exact absurd HA.out (by simp [span_joined.l0])
    | succ k1 =>
      have H := HA.out
      clear HA
      simp only [span_joined.l0] at H
      by_cases c3 : x11_1 < (l0.length : Int)
      · rw [if_pos c3] at H
        have c3b0 : decide (x11_1 < (l0.length : Int)) = true := decide_eq_true c3
        clear c3
        by_cases c4 : 0 ≤ x11_1
        · rw [if_pos c4] at H
          have c4b0 : decide (0 ≤ x11_1) = true := decide_eq_true c4
          clear c4
          by_cases c5 : x11_1 < (l0.length : Int)
          · rw [if_pos c5] at H
            have c5b0 : decide (x11_1 < (l0.length : Int)) = true := decide_eq_true c5
            clear c5
            by_cases c6 : (x5_1.length : Int) > 0
            · rw [if_pos c6] at H
              have c6b0 : decide (0 < (x5_1.length : Int)) = true := decide_eq_true c6
              have c6b1 : decide (0 < x5_1.length) = true := decide_eq_true (by omega)
              clear c6
              obtain ⟨ji7, hji7⟩ : ∃ j_ : Int, (wrap64 ((x5_1.length : Int) - 1)) = j_ := ⟨_, rfl⟩
              replace H : (if 0 ≤ (ji7) then (if (ji7) < (x5_1.length : Int) then ((span_joins.f ((rd_T23 x5_1 (ji7)).f0) ((rd_T23 x5_1 (ji7)).f1) ((rd_T23 x5_1 (ji7)).f2) ((rd_T23 x5_1 (ji7)).f3) ((rd_T23 l0 x11_1).f0) ((rd_T23 l0 x11_1).f1) ((rd_T23 l0 x11_1).f2) ((rd_T23 l0 x11_1).f3) a1).bind fun t126 => (if t126 = true then (span_joined.l0 k1 a1 (x5_1.set ((ji7) : Int).toNat (⟨(rd_T23 x5_1 (ji7)).f0, (rd_T23 x5_1 (ji7)).f1, (rd_T23 l0 x11_1).f2, (rd_T23 x5_1 (ji7)).f3⟩ : S23)) l0 (l0.length : Int) (wrap64 (x11_1 + 1))) else (if x5_1.length < 4398046511104 then (span_joined.l0 k1 a1 (x5_1 ++ [(⟨(rd_T23 l0 x11_1).f0, (rd_T23 l0 x11_1).f1, (rd_T23 l0 x11_1).f2, (rd_T23 l0 x11_1).f3⟩ : S23)]) l0 (l0.length : Int) (wrap64 (x11_1 + 1))) else (none)))) else (none)) else (none)) = some r := by first | (rw [hji7] at H; exact H) | (simp only [hji7] at H ⊢; exact H)
              have hji7w : (IntKind.i64.wrap ((x5_1.length : Int) - 1)) = ji7 := (i64_w _).trans hji7
              by_cases c8 : 0 ≤ (ji7)
              · rw [if_pos c8] at H
                have c8b0 : decide (0 ≤ (ji7)) = true := decide_eq_true c8
                clear c8
                by_cases c9 : (ji7) < (x5_1.length : Int)
                · rw [if_pos c9] at H
                  have c9b0 : decide ((ji7) < (x5_1.length : Int)) = true := decide_eq_true c9
                  clear c9
                  replace H := Option.bind_eq_some_iff.mp H
                  obtain ⟨t126, A100, H⟩ := H
                  replace H : (if t126 = true then (span_joined.l0 k1 a1 (x5_1.set ((ji7) : Int).toNat (⟨(rd_T23 x5_1 (ji7)).f0, (rd_T23 x5_1 (ji7)).f1, (rd_T23 l0 x11_1).f2, (rd_T23 x5_1 (ji7)).f3⟩ : S23)) l0 (l0.length : Int) (wrap64 (x11_1 + 1))) else (if x5_1.length < 4398046511104 then (span_joined.l0 k1 a1 (x5_1 ++ [(⟨(rd_T23 l0 x11_1).f0, (rd_T23 l0 x11_1).f1, (rd_T23 l0 x11_1).f2, (rd_T23 l0 x11_1).f3⟩ : S23)]) l0 (l0.length : Int) (wrap64 (x11_1 + 1))) else (none))) = some r := H
                  have A10 := Aside0.mk A100
                  clear A100
                  by_cases c11 : t126 = true
                  · subst c11
                    have H1 : (span_joined.l0 k1 a1 (x5_1.set ((ji7) : Int).toNat (⟨(rd_T23 x5_1 (ji7)).f0, (rd_T23 x5_1 (ji7)).f1, (rd_T23 l0 x11_1).f2, (rd_T23 x5_1 (ji7)).f3⟩ : S23)) l0 (l0.length : Int) (wrap64 (x11_1 + 1))) = some r := by rw [if_pos rfl] at H; exact H
                    clear H
                    have H := H1
                    clear H1
                    obtain ⟨y127, hy127⟩ : ∃ y_ : List (S23), y_ = (x5_1.set ((ji7) : Int).toNat (⟨(rd_T23 x5_1 (ji7)).f0, (rd_T23 x5_1 (ji7)).f1, (rd_T23 l0 x11_1).f2, (rd_T23 x5_1 (ji7)).f3⟩ : S23)) := ⟨_, rfl⟩
                    replace H : (span_joined.l0 k1 a1 y127 l0 (l0.length : Int) (wrap64 (x11_1 + 1))) = some r := by first | (rw [hy127]; with_reducible exact H) | (have H2_ := (Option.bind_some _ _).symm.trans H; rw [hy127]; with_reducible exact H2_) | (have H2_ := (Option.bind_some _ _).symm.trans H; with_reducible exact H2_) | with_reducible exact H | (rw [hy127]; exact H) | exact H
                    have Ny127 := Aside0.mk hy127
                    clear hy127
                    have H' := Aside0.mk H
                    clear H
                    have p123 : 0 ≤ (x11_1 : Int) := odt
                    have q123 : x11_1 < (l0.length : Int) := odt
                    obtain ⟨ad123, e123, hx123_0, hx123_1, hx123_2, hx123_3⟩ := at_T23 HR0.out x11_1 p123 q123
                    cases e123
                    replace hx123_0 := (HB.out.cell (World.block_lt_of_cell? w _ hx123_0)).trans hx123_0
                    replace hx123_1 := (HB.out.cell (World.block_lt_of_cell? w _ hx123_1)).trans hx123_1
                    replace hx123_2 := (HB.out.cell (World.block_lt_of_cell? w _ hx123_2)).trans hx123_2
                    replace hx123_3 := (HB.out.cell (World.block_lt_of_cell? w _ hx123_3)).trans hx123_3
                    replace p123 := eq_true p123
                    replace q123 := eq_true q123
                    try go_wp2_with (first | ((with_reducible refine gate_dst (N := 7) rfl ?_); refine box_event ?hg (N := 7) ?hd (cs := #[.int .i64 0, .int .i64 0, .int .i64 0, .int .i64 0]) (t := 23) ?hr ?_; (case hd => rfl); (case hg => rfl); (case hr => first | (go_simp; done) | (go_simp; rfl)); intro gb124 hg w13 hbox hb; have n0_ := Aside0.mk (Kd.R_below (Kd.R_elderB (rdm HO_5.out) gb124 (Nat.le_of_eq hg.symm)) hb); have n1_ := Aside0.mk (below_step (hbm HB.out) hb); have n2_ := Aside0.mk (hbox); have n3_ := Aside0.mk ((by rw [hg]; exact (below_size (hbm HB.out)) : w.heap.size ≤ gb124)); have n4_ := Aside0.mk ((by rw [hg]; exact (below_size (hbm HB.out)) : w.heap.size ≤ gb124)); clear HO_5; clear HB; have HO_5 := n0_; have HB := n1_; have BK124 := n2_; have GW124 := n3_; have GE124 := n4_; clear n0_ n1_ n2_ n3_ n4_; clear hb hbox hg; have hcz14_0 : w13.cell? ⟨gb124, 0, none⟩ = some (.int .i64 0) := (blk_cell BK124.out 0).trans rfl; have hcz14_1 : w13.cell? ⟨gb124, 1, none⟩ = some (.int .i64 0) := (blk_cell BK124.out 1).trans rfl; have hcz14_2 : w13.cell? ⟨gb124, 2, none⟩ = some (.int .i64 0) := (blk_cell BK124.out 2).trans rfl; have hcz14_3 : w13.cell? ⟨gb124, 3, none⟩ = some (.int .i64 0) := (blk_cell BK124.out 3).trans rfl; have hfz14_0 := blk_frozen BK124.out 0; have hfz14_1 := blk_frozen BK124.out 1; have hfz14_2 := blk_frozen BK124.out 2; have hfz14_3 := blk_frozen BK124.out 3; obtain ⟨Ao15, co15, eo15⟩ := Kd.R_slice HO_5.out; subst eo15))
                    have n0_ : Aside0 (Kd.R k23 23 ((((w13.setCell ⟨gb124, 0, none⟩ (.int .i64 ((rd_T23 l0 x11_1).f0))).setCell ⟨gb124, 1, none⟩ (.int .i64 ((rd_T23 l0 x11_1).f1))).setCell ⟨gb124, 2, none⟩ (.int .i64 ((rd_T23 l0 x11_1).f2))).setCell ⟨gb124, 3, none⟩ (.int .i64 ((rd_T23 l0 x11_1).f3))) w.heap.size (fun k_ => k_ ≠ gb124) (.slice Ao15 x5_1.length co15) x5_1) := ⟨by (with_reducible repeat (first | apply Kd.R_alloc | apply Kd.R_drewN | apply Kd.R_drew)); exact Kd.R_mono (Kd.R_far (p := ⟨gb124, 3, none⟩) (Kd.R_far (p := ⟨gb124, 2, none⟩) (Kd.R_far (p := ⟨gb124, 1, none⟩) (Kd.R_far (p := ⟨gb124, 0, none⟩) (Kd.R_mono HO_5.out (fun k_ hk => (⟨hk, hk.2⟩ : _ ∧ k_ ≠ gb124))) (fun _ hk => hk.2) (.int .i64 ((rd_T23 l0 x11_1).f0))) (fun _ hk => hk.2) (.int .i64 ((rd_T23 l0 x11_1).f1))) (fun _ hk => hk.2) (.int .i64 ((rd_T23 l0 x11_1).f2))) (fun _ hk => hk.2) (.int .i64 ((rd_T23 l0 x11_1).f3))) (fun _ hk => hk.1.2)⟩
                    have n1_ : Aside0 (((((w13.setCell ⟨gb124, 0, none⟩ (.int .i64 ((rd_T23 l0 x11_1).f0))).setCell ⟨gb124, 1, none⟩ (.int .i64 ((rd_T23 l0 x11_1).f1))).setCell ⟨gb124, 2, none⟩ (.int .i64 ((rd_T23 l0 x11_1).f2))).setCell ⟨gb124, 3, none⟩ (.int .i64 ((rd_T23 l0 x11_1).f3))).heap[gb124]? = some (.cells #[.int .i64 ((rd_T23 l0 x11_1).f0), .int .i64 ((rd_T23 l0 x11_1).f1), .int .i64 ((rd_T23 l0 x11_1).f2), .int .i64 ((rd_T23 l0 x11_1).f3)] 23 (0, 0))) := ⟨by (with_reducible repeat (first | refine blk_drewN ?_ _ | refine blk_drew ?_ | refine blk_alloc ?_ _)); refine blk_put (cs := #[.int .i64 ((rd_T23 l0 x11_1).f0), .int .i64 ((rd_T23 l0 x11_1).f1), .int .i64 ((rd_T23 l0 x11_1).f2), .int .i64 0]) ?_ 3 _ rfl; (with_reducible repeat (first | refine blk_drewN ?_ _ | refine blk_drew ?_ | refine blk_alloc ?_ _)); refine blk_put (cs := #[.int .i64 ((rd_T23 l0 x11_1).f0), .int .i64 ((rd_T23 l0 x11_1).f1), .int .i64 0, .int .i64 0]) ?_ 2 _ rfl; (with_reducible repeat (first | refine blk_drewN ?_ _ | refine blk_drew ?_ | refine blk_alloc ?_ _)); refine blk_put (cs := #[.int .i64 ((rd_T23 l0 x11_1).f0), .int .i64 0, .int .i64 0, .int .i64 0]) ?_ 1 _ rfl; (with_reducible repeat (first | refine blk_drewN ?_ _ | refine blk_drew ?_ | refine blk_alloc ?_ _)); refine blk_put (cs := #[.int .i64 0, .int .i64 0, .int .i64 0, .int .i64 0]) ?_ 0 _ rfl; (with_reducible repeat (first | refine blk_drewN ?_ _ | refine blk_drew ?_ | refine blk_alloc ?_ _)); exact BK124.out⟩
                    have n2_ : Aside0 (Below w.heap.size w ((((w13.setCell ⟨gb124, 0, none⟩ (.int .i64 ((rd_T23 l0 x11_1).f0))).setCell ⟨gb124, 1, none⟩ (.int .i64 ((rd_T23 l0 x11_1).f1))).setCell ⟨gb124, 2, none⟩ (.int .i64 ((rd_T23 l0 x11_1).f2))).setCell ⟨gb124, 3, none⟩ (.int .i64 ((rd_T23 l0 x11_1).f3)))) := ⟨hbm HB.out⟩
                    (try clear HO_5)
                    (try clear BK124)
                    (try clear HB)
                    generalize ((((w13.setCell ⟨gb124, 0, none⟩ (.int .i64 ((rd_T23 l0 x11_1).f0))).setCell ⟨gb124, 1, none⟩ (.int .i64 ((rd_T23 l0 x11_1).f1))).setCell ⟨gb124, 2, none⟩ (.int .i64 ((rd_T23 l0 x11_1).f2))).setCell ⟨gb124, 3, none⟩ (.int .i64 ((rd_T23 l0 x11_1).f3))) = w16 at n0_ n1_ n2_ ⊢
                    have HO_5 := n0_
                    have BK124 := n1_
                    have HB := n2_
                    clear n0_ n1_ n2_
                    have n0_ := Aside0.mk (Kd.R_drew HO_5.out)
                    have n1_ := Aside0.mk (blk_drew BK124.out)
                    have n2_ := Aside0.mk (below_drew1 HB.out)
                    clear HO_5
                    clear BK124
                    clear HB
                    have HO_5 := n0_
                    have BK124 := n1_
                    have HB := n2_
                    clear n0_ n1_ n2_
                    have p125 : 0 ≤ ((ji7) : Int) := odt
                    have q125 : (ji7) < (x5_1.length : Int) := odt
                    obtain ⟨ad125, e125, hx125_0, hx125_1, hx125_2, hx125_3⟩ := at_T23 (Kd.R_reads' HO_5.out).2.2 (ji7) p125 q125
                    cases e125
                    replace p125 := eq_true p125
                    replace q125 := eq_true q125
                    refine start_ (n := 12) (S := fun w' => w'.cell? ⟨gb124, 0, none⟩ = some (.int .i64 ((rd_T23 l0 x11_1).f0)) ∧ w'.cell? ⟨gb124, 1, none⟩ = some (.int .i64 ((rd_T23 l0 x11_1).f1)) ∧ w'.cell? ⟨gb124, 2, none⟩ = some (.int .i64 ((rd_T23 l0 x11_1).f2)) ∧ w'.cell? ⟨gb124, 3, none⟩ = some (.int .i64 ((rd_T23 l0 x11_1).f3)) ∧ w'.cell? (ad125.add (((ji7)).toNat * 4)) = some (.int .i64 ((rd_T23 x5_1 (ji7)).f0)) ∧ w'.cell? ⟨(ad125.add (((ji7)).toNat * 4)).block, (ad125.add (((ji7)).toNat * 4)).off + 1, none⟩ = some (.int .i64 ((rd_T23 x5_1 (ji7)).f1)) ∧ w'.cell? ⟨(ad125.add (((ji7)).toNat * 4)).block, (ad125.add (((ji7)).toNat * 4)).off + 2, none⟩ = some (.int .i64 ((rd_T23 x5_1 (ji7)).f2)) ∧ w'.cell? ⟨(ad125.add (((ji7)).toNat * 4)).block, (ad125.add (((ji7)).toNat * 4)).off + 3, none⟩ = some (.int .i64 ((rd_T23 x5_1 (ji7)).f3))) (ds := []) #[false, false, false, false, false, false, false, false, false, false, false, false] (by kernel_rfl) rfl rfl ⟨(blk_cell BK124.out 0).trans rfl, (blk_cell BK124.out 1).trans rfl, (blk_cell BK124.out 2).trans rfl, (blk_cell BK124.out 3).trans rfl, hx125_0, hx125_1, hx125_2, hx125_3⟩ (fun hHeld => ?_); refine with_tabW span_joined.tab6 span_joined.bits6 (fun HT_ HW_ => ?_)
                    generalize w16.drew = w17 at HO_5 BK124 HB hx125_0 hx125_1 hx125_2 hx125_3 hHeld ⊢
                    refine pure_ (i := 0) (N := some 17) (v := ?_) (a' := ?_) #[true, false, false, false, false, false, false, false, false, false, false, false] rfl rfl (any_of HT_.out (by kernel_rfl)) (fun _ _ _ h => h) (Or.inl ⟨by rfl, ?_⟩) ?_ ?_
                    rotate_left
                    · intro w'
                      go_simp
                      with_reducible rfl
                    rotate_left
                    · simp only [Act.put, List.setIfInBounds_toArray, List.set_cons_zero, List.set_cons_succ, i64_w, i32_w]
                      rfl
                    refine pure_ (i := 1) (N := some 18) (v := ?_) (a' := ?_) #[true, true, false, false, false, false, false, false, false, false, false, false] rfl rfl (any_of HT_.out (by kernel_rfl)) (fun _ _ _ h => h) (Or.inl ⟨by rfl, ?_⟩) ?_ ?_
                    rotate_left
                    · intro w'
                      go_simp
                      with_reducible rfl
                    rotate_left
                    · simp only [Act.put, List.setIfInBounds_toArray, List.set_cons_zero, List.set_cons_succ, i64_w, i32_w]
                      rfl
                    refine pure_ (i := 2) (N := some 19) (v := ?_) (a' := ?_) #[true, true, true, false, false, false, false, false, false, false, false, false] rfl rfl (any_of HT_.out (by kernel_rfl)) (fun _ _ _ h => h) (Or.inl ⟨by rfl, ?_⟩) ?_ ?_
                    rotate_left
                    · intro w'
                      go_simp
                      with_reducible rfl
                    rotate_left
                    · simp only [Act.put, List.setIfInBounds_toArray, List.set_cons_zero, List.set_cons_succ, i64_w, i32_w]
                      rfl
                    refine pure_ (i := 3) (N := some 20) (v := ?_) (a' := ?_) #[true, true, true, true, false, false, false, false, false, false, false, false] rfl rfl (any_of HT_.out (by kernel_rfl)) (fun _ _ _ h => h) (Or.inl ⟨by rfl, ?_⟩) ?_ ?_
                    rotate_left
                    · intro w'
                      go_simp
                      with_reducible rfl
                    rotate_left
                    · simp only [Act.put, List.setIfInBounds_toArray, List.set_cons_zero, List.set_cons_succ, i64_w, i32_w]
                      rfl
                    refine pure_ (i := 4) (N := some 21) (v := ?_) (a' := ?_) #[true, true, true, true, true, false, false, false, false, false, false, false] rfl rfl (any_of HT_.out (by kernel_rfl)) (fun _ _ _ h => h) (Or.inl ⟨by rfl, ?_⟩) ?_ ?_
                    rotate_left
                    · intro w'
                      go_simp
                      with_reducible rfl
                    rotate_left
                    · simp only [Act.put, List.setIfInBounds_toArray, List.set_cons_zero, List.set_cons_succ, i64_w, i32_w]
                      rfl
                    refine pure_ (i := 5) (N := some 22) (v := ?_) (a' := ?_) #[true, true, true, true, true, true, false, false, false, false, false, false] rfl rfl (any_of HT_.out (by kernel_rfl)) (fun _ _ _ h => h) (Or.inl ⟨by rfl, ?_⟩) ?_ ?_
                    rotate_left
                    · intro w'
                      go_simp
                      with_reducible rfl
                    rotate_left
                    · simp only [Act.put, List.setIfInBounds_toArray, List.set_cons_zero, List.set_cons_succ, i64_w, i32_w]
                      rfl
                    refine pure_ (i := 6) (N := some 23) (v := ?_) (a' := ?_) #[true, true, true, true, true, true, true, false, false, false, false, false] rfl rfl (any_of HT_.out (by kernel_rfl)) (fun _ _ _ h => h) (Or.inl ⟨by rfl, ?_⟩) ?_ ?_
                    rotate_left
                    · intro w'
                      go_simp
                      with_reducible rfl
                    rotate_left
                    · simp only [Act.put, List.setIfInBounds_toArray, List.set_cons_zero, List.set_cons_succ, i64_w, i32_w]
                      rfl
                    refine pure_ (i := 9) (N := some 26) (v := ?_) (a' := ?_) #[true, true, true, true, true, true, true, false, false, true, false, false] rfl rfl (any_of HT_.out (by kernel_rfl)) (fun _ _ _ h => h) (Or.inl ⟨by rfl, ?_⟩) ?_ ?_
                    rotate_left
                    · intro w'
                      go_simp
                      with_reducible rfl
                    rotate_left
                    · simp only [Act.put, List.setIfInBounds_toArray, List.set_cons_zero, List.set_cons_succ, i64_w, i32_w]
                      rfl
                    refine take_ (i := 7) (N := some 24) (v := ?_) (a' := ?_) #[true, true, true, true, true, true, true, true, false, true, false, false] rfl rfl (take_ofW HT_.out HW_.out (by kernel_rfl)) (fun _ _ _ h => h) (Or.inl ⟨by rfl, ?_⟩) hHeld ?_ ?_
                    rotate_left
                    · rintro w' ⟨s0, s1, s2, s3, s4, s5, s6, s7⟩
                      go_simp
                      with_reducible rfl
                    rotate_left
                    · simp only [Act.put, List.setIfInBounds_toArray, List.set_cons_zero, List.set_cons_succ, i64_w, i32_w]
                      rfl
                    refine take_ (i := 8) (N := some 25) (v := ?_) (a' := ?_) #[true, true, true, true, true, true, true, true, true, true, false, false] rfl rfl (take_ofW HT_.out HW_.out (by kernel_rfl)) (fun _ _ _ h => h) (Or.inl ⟨by rfl, ?_⟩) hHeld ?_ ?_
                    rotate_left
                    · rintro w' ⟨s0, s1, s2, s3, s4, s5, s6, s7⟩
                      go_simp
                      with_reducible rfl
                    rotate_left
                    · simp only [Act.put, List.setIfInBounds_toArray, List.set_cons_zero, List.set_cons_succ, i64_w, i32_w]
                      rfl
                    refine one_ (i := 10) (N := some 27) #[true, true, true, true, true, true, true, true, true, true, true, false] rfl rfl (one_of HT_.out (by kernel_rfl)) (by decide) (fun K hK => ?_)
                    refine goes_ Try.func32 (by kernel_rfl) rfl #[.agg #[.int .i64 ((rd_T23 x5_1 (ji7)).f0), .int .i64 ((rd_T23 x5_1 (ji7)).f1), .int .i64 ((rd_T23 x5_1 (ji7)).f2), .int .i64 ((rd_T23 x5_1 (ji7)).f3)], .agg #[.int .i64 ((rd_T23 l0 x11_1).f0), .int .i64 ((rd_T23 l0 x11_1).f1), .int .i64 ((rd_T23 l0 x11_1).f2), .int .i64 ((rd_T23 l0 x11_1).f3)], .bool a1] (by rfl) rfl rfl (by (try simp only [List.map_toArray, List.map_cons, List.map_nil]); first | done | (simp only [hji7]; rfl) | rfl | (simp only [List.length_drop, List.length_take]; rfl)) ?_
                    with_reducible refine (span_joins.calls ((rd_T23 x5_1 (ji7)).f0) ((rd_T23 x5_1 (ji7)).f1) ((rd_T23 x5_1 (ji7)).f2) ((rd_T23 x5_1 (ji7)).f3) ((rd_T23 l0 x11_1).f0) ((rd_T23 l0 x11_1).f1) ((rd_T23 l0 x11_1).f2) ((rd_T23 l0 x11_1).f3) a1 true _ A10.out).mono ?_
                    rintro e w18 ⟨rfl, hb⟩
                    have HS4_ := (hb.cell (World.block_lt_of_cell? _ _ (hHeld.2.2.2.2.1))).trans (hHeld.2.2.2.2.1)
                    have HS5_ := (hb.cell (World.block_lt_of_cell? _ _ (hHeld.2.2.2.2.2.1))).trans (hHeld.2.2.2.2.2.1)
                    have HS6_ := (hb.cell (World.block_lt_of_cell? _ _ (hHeld.2.2.2.2.2.2.1))).trans (hHeld.2.2.2.2.2.2.1)
                    have HS7_ := (hb.cell (World.block_lt_of_cell? _ _ (hHeld.2.2.2.2.2.2.2))).trans (hHeld.2.2.2.2.2.2.2)
                    refine ⟨_, rfl, ?_⟩
                    have n0_ := Aside0.mk (Kd.R_below (rdm HO_5.out) hb)
                    have n1_ := Aside0.mk (blk_below (g := gb124) (o := .cells #[.int .i64 ((rd_T23 l0 x11_1).f0), .int .i64 ((rd_T23 l0 x11_1).f1), .int .i64 ((rd_T23 l0 x11_1).f2), .int .i64 ((rd_T23 l0 x11_1).f3)] 23 (0, 0)) (bkm BK124.out) hb)
                    have n2_ := Aside0.mk (below_step (hbm HB.out) hb)
                    clear HO_5
                    clear BK124
                    clear HB
                    have HO_5 := n0_
                    have BK124 := n1_
                    have HB := n2_
                    clear n0_ n1_ n2_
                    (try clear hb)
                    (try clear hb2)
                    (try clear hk)
                    (try clear hi)
                    refine hK.out _ _ ⟨(blk_cell BK124.out 0).trans rfl, (blk_cell BK124.out 1).trans rfl, (blk_cell BK124.out 2).trans rfl, (blk_cell BK124.out 3).trans rfl, HS4_, HS5_, HS6_, HS7_⟩ (fun hHeld => ?_)
                    clear hK K
                    refine norm_ (a' := ?_) ?_ ?_
                    rotate_left
                    · show Act.put _ (some 27) _ = _
                      simp only [Act.put, List.setIfInBounds_toArray, List.set_cons_zero, List.set_cons_succ, i64_w, i32_w]
                      rfl
                    refine pure_ (i := 11) (N := some 28) (v := ?_) (a' := ?_) #[true, true, true, true, true, true, true, true, true, true, true, true] rfl rfl (any_of HT_.out (by kernel_rfl)) (fun _ _ _ h => h) (Or.inl ⟨by rfl, ?_⟩) ?_ ?_
                    rotate_left
                    · intro w'
                      go_simp
                      with_reducible rfl
                    rotate_left
                    · simp only [Act.put, List.setIfInBounds_toArray, List.set_cons_zero, List.set_cons_succ, i64_w, i32_w]
                      rfl
                    refine done_ (done_of HT_.out (by kernel_rfl)) ?_
                    have hcz19_0 : w18.cell? ⟨gb124, 0, none⟩ = some (.int .i64 ((rd_T23 l0 x11_1).f0)) := (blk_cell BK124.out 0).trans rfl
                    have hcz19_1 : w18.cell? ⟨gb124, 1, none⟩ = some (.int .i64 ((rd_T23 l0 x11_1).f1)) := (blk_cell BK124.out 1).trans rfl
                    have hcz19_2 : w18.cell? ⟨gb124, 2, none⟩ = some (.int .i64 ((rd_T23 l0 x11_1).f2)) := (blk_cell BK124.out 2).trans rfl
                    have hcz19_3 : w18.cell? ⟨gb124, 3, none⟩ = some (.int .i64 ((rd_T23 l0 x11_1).f3)) := (blk_cell BK124.out 3).trans rfl
                    have hfz19_0 := blk_frozen BK124.out 0
                    have hfz19_1 := blk_frozen BK124.out 1
                    have hfz19_2 := blk_frozen BK124.out 2
                    have hfz19_3 := blk_frozen BK124.out 3
                    have p12 : 0 ≤ ((ji7) : Int) := odt
                    have q12 : ((ji7) : Int) < ((x5_1.length : Int) : Int) := odt
                    obtain ⟨go12, co12, eo12, gb12, gl12, cl12, HG12⟩ := Kd.R_form HO_5.out (by omega)
                    (first | cases eo12 | (injection eo12 with ea_ en_ ec_; (first | subst ea_ | (injection ea_ with ea_; subst ea_)); subst ec_; clear en_))
                    have GB12 := Aside0.mk gb12
                    have GG12 := Aside0.mk HG12
                    clear gb12 gl12 HG12
                    (first | simp only [add_plain] at hx125_0 | skip)
                    (first | simp only [add_plain] at hx125_1 | skip)
                    (first | simp only [add_plain] at hx125_2 | skip)
                    (first | simp only [add_plain] at hx125_3 | skip)
                    obtain ⟨ce12, hcl12, hM12, hcc12, hfr12⟩ := Kd.R_elem HO_5.out z23 ((ji7) : Int) p12 q12
                    obtain rfl := k23_openM hM12
                    have hx12_0 : w18.cell? ⟨go12, ((ji7) : Int).toNat * 4, none⟩ = some (.int .i64 ((rd_T23 x5_1 (ji7)).f0)) := hcc12 0 _ rfl
                    have hx12_1 : w18.cell? ⟨go12, ((ji7) : Int).toNat * 4 + 1, none⟩ = some (.int .i64 ((rd_T23 x5_1 (ji7)).f1)) := hcc12 1 _ rfl
                    have hx12_2 : w18.cell? ⟨go12, ((ji7) : Int).toNat * 4 + 2, none⟩ = some (.int .i64 ((rd_T23 x5_1 (ji7)).f2)) := hcc12 2 _ rfl
                    have hx12_3 : w18.cell? ⟨go12, ((ji7) : Int).toNat * 4 + 3, none⟩ = some (.int .i64 ((rd_T23 x5_1 (ji7)).f3)) := hcc12 3 _ rfl
                    have hf12_0 : w18.frozen? ⟨go12, ((ji7) : Int).toNat * 4, none⟩ = false := hfr12 0
                    have hf12_1 : w18.frozen? ⟨go12, ((ji7) : Int).toNat * 4 + 1, none⟩ = false := hfr12 1
                    have hf12_2 : w18.frozen? ⟨go12, ((ji7) : Int).toNat * 4 + 2, none⟩ = false := hfr12 2
                    have hf12_3 : w18.frozen? ⟨go12, ((ji7) : Int).toNat * 4 + 3, none⟩ = false := hfr12 3
                    clear hcl12 hcc12 hfr12 hM12
                    replace p12 := eq_true p12
                    replace q12 := eq_true q12
                    have HX20 := Aside0.mk (show Kd.R k23 23 w18 w.heap.size (fun k_ => k_ ≠ gb124) (.slice (some ⟨go12, 0, none⟩) x5_1.length co15) x5_1 from (rdm HO_5.out))
                    obtain ⟨ce20, hcl20, hM20, hcc20, hfr20⟩ := Kd.R_elem HX20.out z23 ((ji7) : Int) (odt) (by have h_ : ((ji7) : Int) < ((x5_1.length : Int) : Int) := odt; first | exact h_ | (have e_ := (Kd.R_reads' HO_5.out).1; omega) | simpa using h_)
                    obtain rfl := k23_openM hM20
                    have HP20 := Kd.R_seg HX20.out ((ji7) : Int) (odt) (by have h_ : ((ji7) : Int) < ((x5_1.length : Int) : Int) := odt; first | exact h_ | (have e_ := (Kd.R_reads' HO_5.out).1; omega) | simpa using h_) (seg := [.int .i64 ((rd_T23 l0 x11_1).f2)]) (j := 2) hcl20 hcc20 (show 3 ≤ 4 from by decide) (x' := (⟨(rd_T23 x5_1 (ji7)).f0, (rd_T23 x5_1 (ji7)).f1, (rd_T23 l0 x11_1).f2, (rd_T23 x5_1 (ji7)).f3⟩ : S23)) (k23_mkM _ _ _ (⟨(rd_T23 x5_1 (ji7)).f0, (rd_T23 x5_1 (ji7)).f1, (rd_T23 l0 x11_1).f2, (rd_T23 x5_1 (ji7)).f3⟩ : S23) ) (fun _ hk => hk)
                    have hx20_2 := hcc20 2 _ rfl
                    (try simp only [show (k23).sz = 4 from rfl, Nat.mul_one, Nat.add_zero] at hx20_2)
                    have hf20_2 := hfr20 2
                    (try simp only [show (k23).sz = 4 from rfl, Nat.mul_one, Nat.add_zero] at hf20_2)
                    clear hcl20 hcc20 hfr20 hM20
                    try go_wp2_with (first | ((with_reducible refine gate_store (t := 3) (p := 35) rfl ?_); refine store_event (t := 3) (p := 35) (v := ?vo_w21) (w1 := (w18.setCell ⟨go12, ((ji7) : Int).toNat * 4 + 2, none⟩ (.int .i64 ((rd_T23 l0 x11_1).f2)))) ?hg ?ho ?hn ?hr ?_; (case ho => rfl); (case hg => rfl); (case hn => rfl); (case hr => first | (go_simp; done) | (go_simp; rfl)); intro w21 hw; have hg : w18.grownBy w21 (some go12) := (by rw [hw]; exact HP20.2); have hp_ : Kd.R k23 23 w21 w.heap.size (fun k_ => k_ ≠ gb124) (.slice (some ⟨go12, 0, none⟩) x5_1.length co15) y127 := (by rw [hw, Ny127.out]; exact HP20.1); clear HP20; have n0_ := Aside0.mk (hp_); have n1_ := Aside0.mk (blk_grown (g := gb124) (o := .cells #[.int .i64 ((rd_T23 l0 x11_1).f0), .int .i64 ((rd_T23 l0 x11_1).f1), .int .i64 ((rd_T23 l0 x11_1).f2), .int .i64 ((rd_T23 l0 x11_1).f3)] 23 (0, 0)) (bkm BK124.out) hg (Kd.R_away HO_5.out (fun _ hk => hk))); have n2_ := Aside0.mk ((by rw [hw]; exact below_set (HB.out) GB12.out : Below w.heap.size w w21)); clear HO_5; clear BK124; clear HB; have HO_5 := n0_; have BK124 := n1_; have HB := n2_; clear n0_ n1_ n2_; clear hg hw hp_))
                    go_roundg k1
                    case measure => have := HK1.out; omega
                    case rel => exact ⟨(y127), (wrap64 (x11_1 + 1)), (by first | rfl | (simp; done) | (simp [*]; done)), H', ⟨by have := HK1.out; omega⟩, ⟨by (with_reducible repeat (first | apply Kd.R_alloc | apply Kd.R_drewN | apply Kd.R_drew)); exact Kd.R_mono HO_5.out (fun _ hk => trivial)⟩, ⟨hbm HB.out⟩⟩
                  · replace c11 := Bool.eq_false_iff.mpr c11
                    subst c11
                    have H1 : (if x5_1.length < 4398046511104 then (span_joined.l0 k1 a1 (x5_1 ++ [(⟨(rd_T23 l0 x11_1).f0, (rd_T23 l0 x11_1).f1, (rd_T23 l0 x11_1).f2, (rd_T23 l0 x11_1).f3⟩ : S23)]) l0 (l0.length : Int) (wrap64 (x11_1 + 1))) else (none)) = some r := by rw [if_neg (show ¬ (false = true) by decide)] at H; exact H
                    clear H
                    have H := H1
                    clear H1
                    by_cases c22 : x5_1.length < 4398046511104
                    · rw [if_pos c22] at H
                      have LMc22 := Aside0.mk c22
                      clear c22
                      obtain ⟨y128, hy128⟩ : ∃ y_ : List (S23), y_ = (x5_1 ++ [(⟨(rd_T23 l0 x11_1).f0, (rd_T23 l0 x11_1).f1, (rd_T23 l0 x11_1).f2, (rd_T23 l0 x11_1).f3⟩ : S23)]) := ⟨_, rfl⟩
                      replace H : (span_joined.l0 k1 a1 y128 l0 (l0.length : Int) (wrap64 (x11_1 + 1))) = some r := by first | (rw [hy128]; with_reducible exact H) | (have H2_ := (Option.bind_some _ _).symm.trans H; rw [hy128]; with_reducible exact H2_) | (have H2_ := (Option.bind_some _ _).symm.trans H; with_reducible exact H2_) | with_reducible exact H | (rw [hy128]; exact H) | exact H
                      have Ny128 := Aside0.mk hy128
                      clear hy128
                      have H' := Aside0.mk H
                      clear H
                      have p123 : 0 ≤ (x11_1 : Int) := odt
                      have q123 : x11_1 < (l0.length : Int) := odt
                      obtain ⟨ad123, e123, hx123_0, hx123_1, hx123_2, hx123_3⟩ := at_T23 HR0.out x11_1 p123 q123
                      cases e123
                      replace hx123_0 := (HB.out.cell (World.block_lt_of_cell? w _ hx123_0)).trans hx123_0
                      replace hx123_1 := (HB.out.cell (World.block_lt_of_cell? w _ hx123_1)).trans hx123_1
                      replace hx123_2 := (HB.out.cell (World.block_lt_of_cell? w _ hx123_2)).trans hx123_2
                      replace hx123_3 := (HB.out.cell (World.block_lt_of_cell? w _ hx123_3)).trans hx123_3
                      replace p123 := eq_true p123
                      replace q123 := eq_true q123
                      try go_wp2_with (first | ((with_reducible refine gate_dst (N := 7) rfl ?_); refine box_event ?hg (N := 7) ?hd (cs := #[.int .i64 0, .int .i64 0, .int .i64 0, .int .i64 0]) (t := 23) ?hr ?_; (case hd => rfl); (case hg => rfl); (case hr => first | (go_simp; done) | (go_simp; rfl)); intro gb124 hg w23 hbox hb; have n0_ := Aside0.mk (Kd.R_below (Kd.R_elderB (rdm HO_5.out) gb124 (Nat.le_of_eq hg.symm)) hb); have n1_ := Aside0.mk (below_step (hbm HB.out) hb); have n2_ := Aside0.mk (hbox); have n3_ := Aside0.mk ((by rw [hg]; exact (below_size (hbm HB.out)) : w.heap.size ≤ gb124)); have n4_ := Aside0.mk ((by rw [hg]; exact (below_size (hbm HB.out)) : w.heap.size ≤ gb124)); clear HO_5; clear HB; have HO_5 := n0_; have HB := n1_; have BK124 := n2_; have GW124 := n3_; have GE124 := n4_; clear n0_ n1_ n2_ n3_ n4_; clear hb hbox hg; have hcz24_0 : w23.cell? ⟨gb124, 0, none⟩ = some (.int .i64 0) := (blk_cell BK124.out 0).trans rfl; have hcz24_1 : w23.cell? ⟨gb124, 1, none⟩ = some (.int .i64 0) := (blk_cell BK124.out 1).trans rfl; have hcz24_2 : w23.cell? ⟨gb124, 2, none⟩ = some (.int .i64 0) := (blk_cell BK124.out 2).trans rfl; have hcz24_3 : w23.cell? ⟨gb124, 3, none⟩ = some (.int .i64 0) := (blk_cell BK124.out 3).trans rfl; have hfz24_0 := blk_frozen BK124.out 0; have hfz24_1 := blk_frozen BK124.out 1; have hfz24_2 := blk_frozen BK124.out 2; have hfz24_3 := blk_frozen BK124.out 3; obtain ⟨Ao25, co25, eo25⟩ := Kd.R_slice HO_5.out; subst eo25))
                      have n0_ : Aside0 (Kd.R k23 23 ((((w23.setCell ⟨gb124, 0, none⟩ (.int .i64 ((rd_T23 l0 x11_1).f0))).setCell ⟨gb124, 1, none⟩ (.int .i64 ((rd_T23 l0 x11_1).f1))).setCell ⟨gb124, 2, none⟩ (.int .i64 ((rd_T23 l0 x11_1).f2))).setCell ⟨gb124, 3, none⟩ (.int .i64 ((rd_T23 l0 x11_1).f3))) w.heap.size (fun k_ => k_ ≠ gb124) (.slice Ao25 x5_1.length co25) x5_1) := ⟨by (with_reducible repeat (first | apply Kd.R_alloc | apply Kd.R_drewN | apply Kd.R_drew)); exact Kd.R_mono (Kd.R_far (p := ⟨gb124, 3, none⟩) (Kd.R_far (p := ⟨gb124, 2, none⟩) (Kd.R_far (p := ⟨gb124, 1, none⟩) (Kd.R_far (p := ⟨gb124, 0, none⟩) (Kd.R_mono HO_5.out (fun k_ hk => (⟨hk, hk.2⟩ : _ ∧ k_ ≠ gb124))) (fun _ hk => hk.2) (.int .i64 ((rd_T23 l0 x11_1).f0))) (fun _ hk => hk.2) (.int .i64 ((rd_T23 l0 x11_1).f1))) (fun _ hk => hk.2) (.int .i64 ((rd_T23 l0 x11_1).f2))) (fun _ hk => hk.2) (.int .i64 ((rd_T23 l0 x11_1).f3))) (fun _ hk => hk.1.2)⟩
                      have n1_ : Aside0 (((((w23.setCell ⟨gb124, 0, none⟩ (.int .i64 ((rd_T23 l0 x11_1).f0))).setCell ⟨gb124, 1, none⟩ (.int .i64 ((rd_T23 l0 x11_1).f1))).setCell ⟨gb124, 2, none⟩ (.int .i64 ((rd_T23 l0 x11_1).f2))).setCell ⟨gb124, 3, none⟩ (.int .i64 ((rd_T23 l0 x11_1).f3))).heap[gb124]? = some (.cells #[.int .i64 ((rd_T23 l0 x11_1).f0), .int .i64 ((rd_T23 l0 x11_1).f1), .int .i64 ((rd_T23 l0 x11_1).f2), .int .i64 ((rd_T23 l0 x11_1).f3)] 23 (0, 0))) := ⟨by (with_reducible repeat (first | refine blk_drewN ?_ _ | refine blk_drew ?_ | refine blk_alloc ?_ _)); refine blk_put (cs := #[.int .i64 ((rd_T23 l0 x11_1).f0), .int .i64 ((rd_T23 l0 x11_1).f1), .int .i64 ((rd_T23 l0 x11_1).f2), .int .i64 0]) ?_ 3 _ rfl; (with_reducible repeat (first | refine blk_drewN ?_ _ | refine blk_drew ?_ | refine blk_alloc ?_ _)); refine blk_put (cs := #[.int .i64 ((rd_T23 l0 x11_1).f0), .int .i64 ((rd_T23 l0 x11_1).f1), .int .i64 0, .int .i64 0]) ?_ 2 _ rfl; (with_reducible repeat (first | refine blk_drewN ?_ _ | refine blk_drew ?_ | refine blk_alloc ?_ _)); refine blk_put (cs := #[.int .i64 ((rd_T23 l0 x11_1).f0), .int .i64 0, .int .i64 0, .int .i64 0]) ?_ 1 _ rfl; (with_reducible repeat (first | refine blk_drewN ?_ _ | refine blk_drew ?_ | refine blk_alloc ?_ _)); refine blk_put (cs := #[.int .i64 0, .int .i64 0, .int .i64 0, .int .i64 0]) ?_ 0 _ rfl; (with_reducible repeat (first | refine blk_drewN ?_ _ | refine blk_drew ?_ | refine blk_alloc ?_ _)); exact BK124.out⟩
                      have n2_ : Aside0 (Below w.heap.size w ((((w23.setCell ⟨gb124, 0, none⟩ (.int .i64 ((rd_T23 l0 x11_1).f0))).setCell ⟨gb124, 1, none⟩ (.int .i64 ((rd_T23 l0 x11_1).f1))).setCell ⟨gb124, 2, none⟩ (.int .i64 ((rd_T23 l0 x11_1).f2))).setCell ⟨gb124, 3, none⟩ (.int .i64 ((rd_T23 l0 x11_1).f3)))) := ⟨hbm HB.out⟩
                      (try clear HO_5)
                      (try clear BK124)
                      (try clear HB)
                      generalize ((((w23.setCell ⟨gb124, 0, none⟩ (.int .i64 ((rd_T23 l0 x11_1).f0))).setCell ⟨gb124, 1, none⟩ (.int .i64 ((rd_T23 l0 x11_1).f1))).setCell ⟨gb124, 2, none⟩ (.int .i64 ((rd_T23 l0 x11_1).f2))).setCell ⟨gb124, 3, none⟩ (.int .i64 ((rd_T23 l0 x11_1).f3))) = w26 at n0_ n1_ n2_ ⊢
                      have HO_5 := n0_
                      have BK124 := n1_
                      have HB := n2_
                      clear n0_ n1_ n2_
                      have n0_ := Aside0.mk (Kd.R_drew HO_5.out)
                      have n1_ := Aside0.mk (blk_drew BK124.out)
                      have n2_ := Aside0.mk (below_drew1 HB.out)
                      clear HO_5
                      clear BK124
                      clear HB
                      have HO_5 := n0_
                      have BK124 := n1_
                      have HB := n2_
                      clear n0_ n1_ n2_
                      have p125 : 0 ≤ ((ji7) : Int) := odt
                      have q125 : (ji7) < (x5_1.length : Int) := odt
                      obtain ⟨ad125, e125, hx125_0, hx125_1, hx125_2, hx125_3⟩ := at_T23 (Kd.R_reads' HO_5.out).2.2 (ji7) p125 q125
                      cases e125
                      replace p125 := eq_true p125
                      replace q125 := eq_true q125
                      refine start_ (n := 12) (S := fun w' => w'.cell? ⟨gb124, 0, none⟩ = some (.int .i64 ((rd_T23 l0 x11_1).f0)) ∧ w'.cell? ⟨gb124, 1, none⟩ = some (.int .i64 ((rd_T23 l0 x11_1).f1)) ∧ w'.cell? ⟨gb124, 2, none⟩ = some (.int .i64 ((rd_T23 l0 x11_1).f2)) ∧ w'.cell? ⟨gb124, 3, none⟩ = some (.int .i64 ((rd_T23 l0 x11_1).f3)) ∧ w'.cell? (ad125.add (((ji7)).toNat * 4)) = some (.int .i64 ((rd_T23 x5_1 (ji7)).f0)) ∧ w'.cell? ⟨(ad125.add (((ji7)).toNat * 4)).block, (ad125.add (((ji7)).toNat * 4)).off + 1, none⟩ = some (.int .i64 ((rd_T23 x5_1 (ji7)).f1)) ∧ w'.cell? ⟨(ad125.add (((ji7)).toNat * 4)).block, (ad125.add (((ji7)).toNat * 4)).off + 2, none⟩ = some (.int .i64 ((rd_T23 x5_1 (ji7)).f2)) ∧ w'.cell? ⟨(ad125.add (((ji7)).toNat * 4)).block, (ad125.add (((ji7)).toNat * 4)).off + 3, none⟩ = some (.int .i64 ((rd_T23 x5_1 (ji7)).f3))) (ds := []) #[false, false, false, false, false, false, false, false, false, false, false, false] (by kernel_rfl) rfl rfl ⟨(blk_cell BK124.out 0).trans rfl, (blk_cell BK124.out 1).trans rfl, (blk_cell BK124.out 2).trans rfl, (blk_cell BK124.out 3).trans rfl, hx125_0, hx125_1, hx125_2, hx125_3⟩ (fun hHeld => ?_); refine with_tabW span_joined.tab6 span_joined.bits6 (fun HT_ HW_ => ?_)
                      generalize w26.drew = w27 at HO_5 BK124 HB hx125_0 hx125_1 hx125_2 hx125_3 hHeld ⊢
                      refine pure_ (i := 0) (N := some 17) (v := ?_) (a' := ?_) #[true, false, false, false, false, false, false, false, false, false, false, false] rfl rfl (any_of HT_.out (by kernel_rfl)) (fun _ _ _ h => h) (Or.inl ⟨by rfl, ?_⟩) ?_ ?_
                      rotate_left
                      · intro w'
                        go_simp
                        with_reducible rfl
                      rotate_left
                      · simp only [Act.put, List.setIfInBounds_toArray, List.set_cons_zero, List.set_cons_succ, i64_w, i32_w]
                        rfl
                      refine pure_ (i := 1) (N := some 18) (v := ?_) (a' := ?_) #[true, true, false, false, false, false, false, false, false, false, false, false] rfl rfl (any_of HT_.out (by kernel_rfl)) (fun _ _ _ h => h) (Or.inl ⟨by rfl, ?_⟩) ?_ ?_
                      rotate_left
                      · intro w'
                        go_simp
                        with_reducible rfl
                      rotate_left
                      · simp only [Act.put, List.setIfInBounds_toArray, List.set_cons_zero, List.set_cons_succ, i64_w, i32_w]
                        rfl
                      refine pure_ (i := 2) (N := some 19) (v := ?_) (a' := ?_) #[true, true, true, false, false, false, false, false, false, false, false, false] rfl rfl (any_of HT_.out (by kernel_rfl)) (fun _ _ _ h => h) (Or.inl ⟨by rfl, ?_⟩) ?_ ?_
                      rotate_left
                      · intro w'
                        go_simp
                        with_reducible rfl
                      rotate_left
                      · simp only [Act.put, List.setIfInBounds_toArray, List.set_cons_zero, List.set_cons_succ, i64_w, i32_w]
                        rfl
                      refine pure_ (i := 3) (N := some 20) (v := ?_) (a' := ?_) #[true, true, true, true, false, false, false, false, false, false, false, false] rfl rfl (any_of HT_.out (by kernel_rfl)) (fun _ _ _ h => h) (Or.inl ⟨by rfl, ?_⟩) ?_ ?_
                      rotate_left
                      · intro w'
                        go_simp
                        with_reducible rfl
                      rotate_left
                      · simp only [Act.put, List.setIfInBounds_toArray, List.set_cons_zero, List.set_cons_succ, i64_w, i32_w]
                        rfl
                      refine pure_ (i := 4) (N := some 21) (v := ?_) (a' := ?_) #[true, true, true, true, true, false, false, false, false, false, false, false] rfl rfl (any_of HT_.out (by kernel_rfl)) (fun _ _ _ h => h) (Or.inl ⟨by rfl, ?_⟩) ?_ ?_
                      rotate_left
                      · intro w'
                        go_simp
                        with_reducible rfl
                      rotate_left
                      · simp only [Act.put, List.setIfInBounds_toArray, List.set_cons_zero, List.set_cons_succ, i64_w, i32_w]
                        rfl
                      refine pure_ (i := 5) (N := some 22) (v := ?_) (a' := ?_) #[true, true, true, true, true, true, false, false, false, false, false, false] rfl rfl (any_of HT_.out (by kernel_rfl)) (fun _ _ _ h => h) (Or.inl ⟨by rfl, ?_⟩) ?_ ?_
                      rotate_left
                      · intro w'
                        go_simp
                        with_reducible rfl
                      rotate_left
                      · simp only [Act.put, List.setIfInBounds_toArray, List.set_cons_zero, List.set_cons_succ, i64_w, i32_w]
                        rfl
                      refine pure_ (i := 6) (N := some 23) (v := ?_) (a' := ?_) #[true, true, true, true, true, true, true, false, false, false, false, false] rfl rfl (any_of HT_.out (by kernel_rfl)) (fun _ _ _ h => h) (Or.inl ⟨by rfl, ?_⟩) ?_ ?_
                      rotate_left
                      · intro w'
                        go_simp
                        with_reducible rfl
                      rotate_left
                      · simp only [Act.put, List.setIfInBounds_toArray, List.set_cons_zero, List.set_cons_succ, i64_w, i32_w]
                        rfl
                      refine pure_ (i := 9) (N := some 26) (v := ?_) (a' := ?_) #[true, true, true, true, true, true, true, false, false, true, false, false] rfl rfl (any_of HT_.out (by kernel_rfl)) (fun _ _ _ h => h) (Or.inl ⟨by rfl, ?_⟩) ?_ ?_
                      rotate_left
                      · intro w'
                        go_simp
                        with_reducible rfl
                      rotate_left
                      · simp only [Act.put, List.setIfInBounds_toArray, List.set_cons_zero, List.set_cons_succ, i64_w, i32_w]
                        rfl
                      refine take_ (i := 7) (N := some 24) (v := ?_) (a' := ?_) #[true, true, true, true, true, true, true, true, false, true, false, false] rfl rfl (take_ofW HT_.out HW_.out (by kernel_rfl)) (fun _ _ _ h => h) (Or.inl ⟨by rfl, ?_⟩) hHeld ?_ ?_
                      rotate_left
                      · rintro w' ⟨s0, s1, s2, s3, s4, s5, s6, s7⟩
                        go_simp
                        with_reducible rfl
                      rotate_left
                      · simp only [Act.put, List.setIfInBounds_toArray, List.set_cons_zero, List.set_cons_succ, i64_w, i32_w]
                        rfl
                      refine take_ (i := 8) (N := some 25) (v := ?_) (a' := ?_) #[true, true, true, true, true, true, true, true, true, true, false, false] rfl rfl (take_ofW HT_.out HW_.out (by kernel_rfl)) (fun _ _ _ h => h) (Or.inl ⟨by rfl, ?_⟩) hHeld ?_ ?_
                      rotate_left
                      · rintro w' ⟨s0, s1, s2, s3, s4, s5, s6, s7⟩
                        go_simp
                        with_reducible rfl
                      rotate_left
                      · simp only [Act.put, List.setIfInBounds_toArray, List.set_cons_zero, List.set_cons_succ, i64_w, i32_w]
                        rfl
                      refine one_ (i := 10) (N := some 27) #[true, true, true, true, true, true, true, true, true, true, true, false] rfl rfl (one_of HT_.out (by kernel_rfl)) (by decide) (fun K hK => ?_)
                      refine goes_ Try.func32 (by kernel_rfl) rfl #[.agg #[.int .i64 ((rd_T23 x5_1 (ji7)).f0), .int .i64 ((rd_T23 x5_1 (ji7)).f1), .int .i64 ((rd_T23 x5_1 (ji7)).f2), .int .i64 ((rd_T23 x5_1 (ji7)).f3)], .agg #[.int .i64 ((rd_T23 l0 x11_1).f0), .int .i64 ((rd_T23 l0 x11_1).f1), .int .i64 ((rd_T23 l0 x11_1).f2), .int .i64 ((rd_T23 l0 x11_1).f3)], .bool a1] (by rfl) rfl rfl (by (try simp only [List.map_toArray, List.map_cons, List.map_nil]); first | done | (simp only [hji7]; rfl) | rfl | (simp only [List.length_drop, List.length_take]; rfl)) ?_
                      with_reducible refine (span_joins.calls ((rd_T23 x5_1 (ji7)).f0) ((rd_T23 x5_1 (ji7)).f1) ((rd_T23 x5_1 (ji7)).f2) ((rd_T23 x5_1 (ji7)).f3) ((rd_T23 l0 x11_1).f0) ((rd_T23 l0 x11_1).f1) ((rd_T23 l0 x11_1).f2) ((rd_T23 l0 x11_1).f3) a1 false _ A10.out).mono ?_
                      rintro e w28 ⟨rfl, hb⟩
                      have HS4_ := (hb.cell (World.block_lt_of_cell? _ _ (hHeld.2.2.2.2.1))).trans (hHeld.2.2.2.2.1)
                      have HS5_ := (hb.cell (World.block_lt_of_cell? _ _ (hHeld.2.2.2.2.2.1))).trans (hHeld.2.2.2.2.2.1)
                      have HS6_ := (hb.cell (World.block_lt_of_cell? _ _ (hHeld.2.2.2.2.2.2.1))).trans (hHeld.2.2.2.2.2.2.1)
                      have HS7_ := (hb.cell (World.block_lt_of_cell? _ _ (hHeld.2.2.2.2.2.2.2))).trans (hHeld.2.2.2.2.2.2.2)
                      refine ⟨_, rfl, ?_⟩
                      have n0_ := Aside0.mk (Kd.R_below (rdm HO_5.out) hb)
                      have n1_ := Aside0.mk (blk_below (g := gb124) (o := .cells #[.int .i64 ((rd_T23 l0 x11_1).f0), .int .i64 ((rd_T23 l0 x11_1).f1), .int .i64 ((rd_T23 l0 x11_1).f2), .int .i64 ((rd_T23 l0 x11_1).f3)] 23 (0, 0)) (bkm BK124.out) hb)
                      have n2_ := Aside0.mk (below_step (hbm HB.out) hb)
                      clear HO_5
                      clear BK124
                      clear HB
                      have HO_5 := n0_
                      have BK124 := n1_
                      have HB := n2_
                      clear n0_ n1_ n2_
                      (try clear hb)
                      (try clear hb2)
                      (try clear hk)
                      (try clear hi)
                      refine hK.out _ _ ⟨(blk_cell BK124.out 0).trans rfl, (blk_cell BK124.out 1).trans rfl, (blk_cell BK124.out 2).trans rfl, (blk_cell BK124.out 3).trans rfl, HS4_, HS5_, HS6_, HS7_⟩ (fun hHeld => ?_)
                      clear hK K
                      refine norm_ (a' := ?_) ?_ ?_
                      rotate_left
                      · show Act.put _ (some 27) _ = _
                        simp only [Act.put, List.setIfInBounds_toArray, List.set_cons_zero, List.set_cons_succ, i64_w, i32_w]
                        rfl
                      refine pure_ (i := 11) (N := some 28) (v := ?_) (a' := ?_) #[true, true, true, true, true, true, true, true, true, true, true, true] rfl rfl (any_of HT_.out (by kernel_rfl)) (fun _ _ _ h => h) (Or.inl ⟨by rfl, ?_⟩) ?_ ?_
                      rotate_left
                      · intro w'
                        go_simp
                        with_reducible rfl
                      rotate_left
                      · simp only [Act.put, List.setIfInBounds_toArray, List.set_cons_zero, List.set_cons_succ, i64_w, i32_w]
                        rfl
                      refine done_ (done_of HT_.out (by kernel_rfl)) ?_
                      have hcz29_0 : w28.cell? ⟨gb124, 0, none⟩ = some (.int .i64 ((rd_T23 l0 x11_1).f0)) := (blk_cell BK124.out 0).trans rfl
                      have hcz29_1 : w28.cell? ⟨gb124, 1, none⟩ = some (.int .i64 ((rd_T23 l0 x11_1).f1)) := (blk_cell BK124.out 1).trans rfl
                      have hcz29_2 : w28.cell? ⟨gb124, 2, none⟩ = some (.int .i64 ((rd_T23 l0 x11_1).f2)) := (blk_cell BK124.out 2).trans rfl
                      have hcz29_3 : w28.cell? ⟨gb124, 3, none⟩ = some (.int .i64 ((rd_T23 l0 x11_1).f3)) := (blk_cell BK124.out 3).trans rfl
                      have hfz29_0 := blk_frozen BK124.out 0
                      have hfz29_1 := blk_frozen BK124.out 1
                      have hfz29_2 := blk_frozen BK124.out 2
                      have hfz29_3 := blk_frozen BK124.out 3
                      try go_wp2_with (first | ((with_reducible refine gate_builtin (b := .append) (xs := #[.tmp 36, .tmp 38]) rfl ?_); at_builtin; refine Kd.R_append k23 (w0 := w) w.heap.size rfl (.tmp 36) (.tmp 38) 26 23 (.agg #[(.int .i64 0), (.int .i64 0), (.int .i64 0), (.int .i64 0)]) 32 rfl Try.underlying26 info23 rfl (by decide) (by omega) (.slice (some ad125) x5_1.length co25) x5_1 (⟨(rd_T23 l0 x11_1).f0, (rd_T23 l0 x11_1).f1, (rd_T23 l0 x11_1).f2, (rd_T23 l0 x11_1).f3⟩ : S23) [.int .i64 ((rd_T23 l0 x11_1).f0), .int .i64 ((rd_T23 l0 x11_1).f1), .int .i64 ((rd_T23 l0 x11_1).f2), .int .i64 ((rd_T23 l0 x11_1).f3)] (fun k_ => k_ ≠ gb124) (fun _ => False) rfl rfl ?aP (fun _ hk => hk.elim) ?aF ?aO ?aB ?aS ?aL ?_; (case aP => exact k23_mkM _ _ _ (⟨(rd_T23 l0 x11_1).f0, (rd_T23 l0 x11_1).f1, (rd_T23 l0 x11_1).f2, (rd_T23 l0 x11_1).f3⟩ : S23)); (case aB => exact (hbm HB.out)); (case aF => exact (fun k_ hk => Kd.freshB (g := gb124) (o := .cells #[.int .i64 ((rd_T23 l0 x11_1).f0), .int .i64 ((rd_T23 l0 x11_1).f1), .int .i64 ((rd_T23 l0 x11_1).f2), .int .i64 ((rd_T23 l0 x11_1).f3)] 23 (0, 0)) (bkm BK124.out) k_ hk)); (case aO => exact (rdm HO_5.out)); (case aS => exact (below_size (hbm HB.out))); (case aL => have := LMc22.out; omega); intro v129 w30 ho hb hg hat; rw [← Ny128.out] at ho; have n0_ := Aside0.mk (blk_grown (g := gb124) (o := .cells #[.int .i64 ((rd_T23 l0 x11_1).f0), .int .i64 ((rd_T23 l0 x11_1).f1), .int .i64 ((rd_T23 l0 x11_1).f2), .int .i64 ((rd_T23 l0 x11_1).f3)] 23 (0, 0)) (bkm BK124.out) hg (Kd.R_away HO_5.out (fun _ hk => hk))); have n1_ := Aside0.mk (hb); have n2_ := Aside0.mk (ho); clear BK124; clear HB; clear HO_5; have BK124 := n0_; have HB := n1_; have HO130 := n2_; clear n0_ n1_ n2_; clear ho hb hg hat))
                      go_roundg k1
                      case measure => have := HK1.out; omega
                      case rel => exact ⟨(y128), (wrap64 (x11_1 + 1)), (by first | rfl | (simp; done) | (simp [*]; done)), H', ⟨by have := HK1.out; omega⟩, ⟨by (with_reducible repeat (first | apply Kd.R_alloc | apply Kd.R_drewN | apply Kd.R_drew)); exact Kd.R_mono HO130.out (fun _ hk => trivial)⟩, ⟨hbm HB.out⟩⟩
                    · rw [if_neg c22] at H
                      exact absurd H (by simp)
                · rw [if_neg c9] at H
                  exact absurd H (by simp)
              · rw [if_neg c8] at H
                exact absurd H (by simp)
            · rw [if_neg c6] at H
              have c6b0 : decide (0 < (x5_1.length : Int)) = false := decide_eq_false c6
              have c6b1 : decide (0 < x5_1.length) = false := decide_eq_false (by omega)
              clear c6
              by_cases c31 : x5_1.length < 4398046511104
              · rw [if_pos c31] at H
                have LMc31 := Aside0.mk c31
                clear c31
                obtain ⟨y131, hy131⟩ : ∃ y_ : List (S23), y_ = (x5_1 ++ [(⟨(rd_T23 l0 x11_1).f0, (rd_T23 l0 x11_1).f1, (rd_T23 l0 x11_1).f2, (rd_T23 l0 x11_1).f3⟩ : S23)]) := ⟨_, rfl⟩
                replace H : (span_joined.l0 k1 a1 y131 l0 (l0.length : Int) (wrap64 (x11_1 + 1))) = some r := by first | (rw [hy131]; with_reducible exact H) | (have H2_ := (Option.bind_some _ _).symm.trans H; rw [hy131]; with_reducible exact H2_) | (have H2_ := (Option.bind_some _ _).symm.trans H; with_reducible exact H2_) | with_reducible exact H | (rw [hy131]; exact H) | exact H
                have Ny131 := Aside0.mk hy131
                clear hy131
                have H' := Aside0.mk H
                clear H
                have p123 : 0 ≤ (x11_1 : Int) := odt
                have q123 : x11_1 < (l0.length : Int) := odt
                obtain ⟨ad123, e123, hx123_0, hx123_1, hx123_2, hx123_3⟩ := at_T23 HR0.out x11_1 p123 q123
                cases e123
                replace hx123_0 := (HB.out.cell (World.block_lt_of_cell? w _ hx123_0)).trans hx123_0
                replace hx123_1 := (HB.out.cell (World.block_lt_of_cell? w _ hx123_1)).trans hx123_1
                replace hx123_2 := (HB.out.cell (World.block_lt_of_cell? w _ hx123_2)).trans hx123_2
                replace hx123_3 := (HB.out.cell (World.block_lt_of_cell? w _ hx123_3)).trans hx123_3
                replace p123 := eq_true p123
                replace q123 := eq_true q123
                try go_wp2_with (first | ((with_reducible refine gate_dst (N := 7) rfl ?_); refine box_event ?hg (N := 7) ?hd (cs := #[.int .i64 0, .int .i64 0, .int .i64 0, .int .i64 0]) (t := 23) ?hr ?_; (case hd => rfl); (case hg => rfl); (case hr => first | (go_simp; done) | (go_simp; rfl)); intro gb124 hg w32 hbox hb; have n0_ := Aside0.mk (Kd.R_below (Kd.R_elderB (rdm HO_5.out) gb124 (Nat.le_of_eq hg.symm)) hb); have n1_ := Aside0.mk (below_step (hbm HB.out) hb); have n2_ := Aside0.mk (hbox); have n3_ := Aside0.mk ((by rw [hg]; exact (below_size (hbm HB.out)) : w.heap.size ≤ gb124)); have n4_ := Aside0.mk ((by rw [hg]; exact (below_size (hbm HB.out)) : w.heap.size ≤ gb124)); clear HO_5; clear HB; have HO_5 := n0_; have HB := n1_; have BK124 := n2_; have GW124 := n3_; have GE124 := n4_; clear n0_ n1_ n2_ n3_ n4_; clear hb hbox hg; have hcz33_0 : w32.cell? ⟨gb124, 0, none⟩ = some (.int .i64 0) := (blk_cell BK124.out 0).trans rfl; have hcz33_1 : w32.cell? ⟨gb124, 1, none⟩ = some (.int .i64 0) := (blk_cell BK124.out 1).trans rfl; have hcz33_2 : w32.cell? ⟨gb124, 2, none⟩ = some (.int .i64 0) := (blk_cell BK124.out 2).trans rfl; have hcz33_3 : w32.cell? ⟨gb124, 3, none⟩ = some (.int .i64 0) := (blk_cell BK124.out 3).trans rfl; have hfz33_0 := blk_frozen BK124.out 0; have hfz33_1 := blk_frozen BK124.out 1; have hfz33_2 := blk_frozen BK124.out 2; have hfz33_3 := blk_frozen BK124.out 3; obtain ⟨Ao34, co34, eo34⟩ := Kd.R_slice HO_5.out; subst eo34))
                have n0_ : Aside0 (Kd.R k23 23 ((((w32.setCell ⟨gb124, 0, none⟩ (.int .i64 ((rd_T23 l0 x11_1).f0))).setCell ⟨gb124, 1, none⟩ (.int .i64 ((rd_T23 l0 x11_1).f1))).setCell ⟨gb124, 2, none⟩ (.int .i64 ((rd_T23 l0 x11_1).f2))).setCell ⟨gb124, 3, none⟩ (.int .i64 ((rd_T23 l0 x11_1).f3))) w.heap.size (fun k_ => k_ ≠ gb124) (.slice Ao34 x5_1.length co34) x5_1) := ⟨by (with_reducible repeat (first | apply Kd.R_alloc | apply Kd.R_drewN | apply Kd.R_drew)); exact Kd.R_mono (Kd.R_far (p := ⟨gb124, 3, none⟩) (Kd.R_far (p := ⟨gb124, 2, none⟩) (Kd.R_far (p := ⟨gb124, 1, none⟩) (Kd.R_far (p := ⟨gb124, 0, none⟩) (Kd.R_mono HO_5.out (fun k_ hk => (⟨hk, hk.2⟩ : _ ∧ k_ ≠ gb124))) (fun _ hk => hk.2) (.int .i64 ((rd_T23 l0 x11_1).f0))) (fun _ hk => hk.2) (.int .i64 ((rd_T23 l0 x11_1).f1))) (fun _ hk => hk.2) (.int .i64 ((rd_T23 l0 x11_1).f2))) (fun _ hk => hk.2) (.int .i64 ((rd_T23 l0 x11_1).f3))) (fun _ hk => hk.1.2)⟩
                have n1_ : Aside0 (((((w32.setCell ⟨gb124, 0, none⟩ (.int .i64 ((rd_T23 l0 x11_1).f0))).setCell ⟨gb124, 1, none⟩ (.int .i64 ((rd_T23 l0 x11_1).f1))).setCell ⟨gb124, 2, none⟩ (.int .i64 ((rd_T23 l0 x11_1).f2))).setCell ⟨gb124, 3, none⟩ (.int .i64 ((rd_T23 l0 x11_1).f3))).heap[gb124]? = some (.cells #[.int .i64 ((rd_T23 l0 x11_1).f0), .int .i64 ((rd_T23 l0 x11_1).f1), .int .i64 ((rd_T23 l0 x11_1).f2), .int .i64 ((rd_T23 l0 x11_1).f3)] 23 (0, 0))) := ⟨by (with_reducible repeat (first | refine blk_drewN ?_ _ | refine blk_drew ?_ | refine blk_alloc ?_ _)); refine blk_put (cs := #[.int .i64 ((rd_T23 l0 x11_1).f0), .int .i64 ((rd_T23 l0 x11_1).f1), .int .i64 ((rd_T23 l0 x11_1).f2), .int .i64 0]) ?_ 3 _ rfl; (with_reducible repeat (first | refine blk_drewN ?_ _ | refine blk_drew ?_ | refine blk_alloc ?_ _)); refine blk_put (cs := #[.int .i64 ((rd_T23 l0 x11_1).f0), .int .i64 ((rd_T23 l0 x11_1).f1), .int .i64 0, .int .i64 0]) ?_ 2 _ rfl; (with_reducible repeat (first | refine blk_drewN ?_ _ | refine blk_drew ?_ | refine blk_alloc ?_ _)); refine blk_put (cs := #[.int .i64 ((rd_T23 l0 x11_1).f0), .int .i64 0, .int .i64 0, .int .i64 0]) ?_ 1 _ rfl; (with_reducible repeat (first | refine blk_drewN ?_ _ | refine blk_drew ?_ | refine blk_alloc ?_ _)); refine blk_put (cs := #[.int .i64 0, .int .i64 0, .int .i64 0, .int .i64 0]) ?_ 0 _ rfl; (with_reducible repeat (first | refine blk_drewN ?_ _ | refine blk_drew ?_ | refine blk_alloc ?_ _)); exact BK124.out⟩
                have n2_ : Aside0 (Below w.heap.size w ((((w32.setCell ⟨gb124, 0, none⟩ (.int .i64 ((rd_T23 l0 x11_1).f0))).setCell ⟨gb124, 1, none⟩ (.int .i64 ((rd_T23 l0 x11_1).f1))).setCell ⟨gb124, 2, none⟩ (.int .i64 ((rd_T23 l0 x11_1).f2))).setCell ⟨gb124, 3, none⟩ (.int .i64 ((rd_T23 l0 x11_1).f3)))) := ⟨hbm HB.out⟩
                (try clear HO_5)
                (try clear BK124)
                (try clear HB)
                generalize ((((w32.setCell ⟨gb124, 0, none⟩ (.int .i64 ((rd_T23 l0 x11_1).f0))).setCell ⟨gb124, 1, none⟩ (.int .i64 ((rd_T23 l0 x11_1).f1))).setCell ⟨gb124, 2, none⟩ (.int .i64 ((rd_T23 l0 x11_1).f2))).setCell ⟨gb124, 3, none⟩ (.int .i64 ((rd_T23 l0 x11_1).f3))) = w35 at n0_ n1_ n2_ ⊢
                have HO_5 := n0_
                have BK124 := n1_
                have HB := n2_
                clear n0_ n1_ n2_
                have n0_ := Aside0.mk (Kd.R_drew HO_5.out)
                have n1_ := Aside0.mk (blk_drew BK124.out)
                have n2_ := Aside0.mk (below_drew1 HB.out)
                clear HO_5
                clear BK124
                clear HB
                have HO_5 := n0_
                have BK124 := n1_
                have HB := n2_
                clear n0_ n1_ n2_
                refine start_ (n := 12) (S := fun w' => True) (ds := []) #[false, false, false, false, false, false, false, false, false, false, false, false] (by kernel_rfl) rfl rfl trivial (fun hHeld => ?_); refine with_tabW span_joined.tab6 span_joined.bits6 (fun HT_ HW_ => ?_)
                generalize w35.drew = w36 at HO_5 BK124 HB hHeld ⊢
                refine pure_ (i := 0) (N := some 17) (v := ?_) (a' := ?_) #[true, false, false, false, false, false, false, false, false, false, false, false] rfl rfl (any_of HT_.out (by kernel_rfl)) (fun _ _ _ h => h) (Or.inl ⟨by rfl, ?_⟩) ?_ ?_
                rotate_left
                · intro w'
                  go_simp
                  with_reducible rfl
                rotate_left
                · simp only [Act.put, List.setIfInBounds_toArray, List.set_cons_zero, List.set_cons_succ, i64_w, i32_w]
                  rfl
                refine pure_ (i := 1) (N := some 18) (v := ?_) (a' := ?_) #[true, true, false, false, false, false, false, false, false, false, false, false] rfl rfl (any_of HT_.out (by kernel_rfl)) (fun _ _ _ h => h) (Or.inl ⟨by rfl, ?_⟩) ?_ ?_
                rotate_left
                · intro w'
                  go_simp
                  with_reducible rfl
                rotate_left
                · simp only [Act.put, List.setIfInBounds_toArray, List.set_cons_zero, List.set_cons_succ, i64_w, i32_w]
                  rfl
                refine pure_ (i := 2) (N := some 19) (v := ?_) (a' := ?_) #[true, true, true, false, false, false, false, false, false, false, false, false] rfl rfl (any_of HT_.out (by kernel_rfl)) (fun _ _ _ h => h) (Or.inl ⟨by rfl, ?_⟩) ?_ ?_
                rotate_left
                · intro w'
                  go_simp
                  with_reducible rfl
                rotate_left
                · simp only [Act.put, List.setIfInBounds_toArray, List.set_cons_zero, List.set_cons_succ, i64_w, i32_w]
                  rfl
                refine pure_ (i := 3) (N := some 20) (v := undef) (a' := ?_) #[true, true, true, true, false, false, false, false, false, false, false, false] rfl rfl (any_of HT_.out (by kernel_rfl)) (fun _ _ _ h => h) (Or.inr ⟨by rfl, rfl⟩) ?_ ?_
                rotate_left
                · simp only [Act.put, List.setIfInBounds_toArray, List.set_cons_zero, List.set_cons_succ, i64_w, i32_w]
                  rfl
                refine pure_ (i := 4) (N := some 21) (v := undef) (a' := ?_) #[true, true, true, true, true, false, false, false, false, false, false, false] rfl rfl (any_of HT_.out (by kernel_rfl)) (fun _ _ _ h => h) (Or.inr ⟨by rfl, rfl⟩) ?_ ?_
                rotate_left
                · simp only [Act.put, List.setIfInBounds_toArray, List.set_cons_zero, List.set_cons_succ, i64_w, i32_w]
                  rfl
                refine pure_ (i := 5) (N := some 22) (v := undef) (a' := ?_) #[true, true, true, true, true, true, false, false, false, false, false, false] rfl rfl (any_of HT_.out (by kernel_rfl)) (fun _ _ _ h => h) (Or.inr ⟨by rfl, rfl⟩) ?_ ?_
                rotate_left
                · simp only [Act.put, List.setIfInBounds_toArray, List.set_cons_zero, List.set_cons_succ, i64_w, i32_w]
                  rfl
                refine pure_ (i := 6) (N := some 23) (v := undef) (a' := ?_) #[true, true, true, true, true, true, true, false, false, false, false, false] rfl rfl (any_of HT_.out (by kernel_rfl)) (fun _ _ _ h => h) (Or.inr ⟨by rfl, rfl⟩) ?_ ?_
                rotate_left
                · simp only [Act.put, List.setIfInBounds_toArray, List.set_cons_zero, List.set_cons_succ, i64_w, i32_w]
                  rfl
                refine pure_ (i := 7) (N := some 24) (v := undef) (a' := ?_) #[true, true, true, true, true, true, true, true, false, false, false, false] rfl rfl (any_of HT_.out (by kernel_rfl)) (fun _ _ _ h => h) (Or.inr ⟨by rfl, rfl⟩) ?_ ?_
                rotate_left
                · simp only [Act.put, List.setIfInBounds_toArray, List.set_cons_zero, List.set_cons_succ, i64_w, i32_w]
                  rfl
                refine pure_ (i := 8) (N := some 25) (v := undef) (a' := ?_) #[true, true, true, true, true, true, true, true, true, false, false, false] rfl rfl (any_of HT_.out (by kernel_rfl)) (fun _ _ _ h => h) (Or.inr ⟨by rfl, rfl⟩) ?_ ?_
                rotate_left
                · simp only [Act.put, List.setIfInBounds_toArray, List.set_cons_zero, List.set_cons_succ, i64_w, i32_w]
                  rfl
                refine pure_ (i := 9) (N := some 26) (v := undef) (a' := ?_) #[true, true, true, true, true, true, true, true, true, true, false, false] rfl rfl (any_of HT_.out (by kernel_rfl)) (fun _ _ _ h => h) (Or.inr ⟨by rfl, rfl⟩) ?_ ?_
                rotate_left
                · simp only [Act.put, List.setIfInBounds_toArray, List.set_cons_zero, List.set_cons_succ, i64_w, i32_w]
                  rfl
                refine pure_ (i := 10) (N := some 27) (v := undef) (a' := ?_) #[true, true, true, true, true, true, true, true, true, true, true, false] rfl rfl (any_of HT_.out (by kernel_rfl)) (fun _ _ _ h => h) (Or.inr ⟨by rfl, rfl⟩) ?_ ?_
                rotate_left
                · simp only [Act.put, List.setIfInBounds_toArray, List.set_cons_zero, List.set_cons_succ, i64_w, i32_w]
                  rfl
                refine pure_ (i := 11) (N := some 28) (v := ?_) (a' := ?_) #[true, true, true, true, true, true, true, true, true, true, true, true] rfl rfl (any_of HT_.out (by kernel_rfl)) (fun _ _ _ h => h) (Or.inl ⟨by rfl, ?_⟩) ?_ ?_
                rotate_left
                · intro w'
                  go_simp
                  with_reducible rfl
                rotate_left
                · simp only [Act.put, List.setIfInBounds_toArray, List.set_cons_zero, List.set_cons_succ, i64_w, i32_w]
                  rfl
                refine done_ (done_of HT_.out (by kernel_rfl)) ?_
                have hcz37_0 : w36.cell? ⟨gb124, 0, none⟩ = some (.int .i64 ((rd_T23 l0 x11_1).f0)) := (blk_cell BK124.out 0).trans rfl
                have hcz37_1 : w36.cell? ⟨gb124, 1, none⟩ = some (.int .i64 ((rd_T23 l0 x11_1).f1)) := (blk_cell BK124.out 1).trans rfl
                have hcz37_2 : w36.cell? ⟨gb124, 2, none⟩ = some (.int .i64 ((rd_T23 l0 x11_1).f2)) := (blk_cell BK124.out 2).trans rfl
                have hcz37_3 : w36.cell? ⟨gb124, 3, none⟩ = some (.int .i64 ((rd_T23 l0 x11_1).f3)) := (blk_cell BK124.out 3).trans rfl
                have hfz37_0 := blk_frozen BK124.out 0
                have hfz37_1 := blk_frozen BK124.out 1
                have hfz37_2 := blk_frozen BK124.out 2
                have hfz37_3 := blk_frozen BK124.out 3
                try go_wp2_with (first | ((with_reducible refine gate_builtin (b := .append) (xs := #[.tmp 36, .tmp 38]) rfl ?_); at_builtin; refine Kd.R_append k23 (w0 := w) w.heap.size rfl (.tmp 36) (.tmp 38) 26 23 (.agg #[(.int .i64 0), (.int .i64 0), (.int .i64 0), (.int .i64 0)]) 32 rfl Try.underlying26 info23 rfl (by decide) (by omega) (.slice Ao34 x5_1.length co34) x5_1 (⟨(rd_T23 l0 x11_1).f0, (rd_T23 l0 x11_1).f1, (rd_T23 l0 x11_1).f2, (rd_T23 l0 x11_1).f3⟩ : S23) [.int .i64 ((rd_T23 l0 x11_1).f0), .int .i64 ((rd_T23 l0 x11_1).f1), .int .i64 ((rd_T23 l0 x11_1).f2), .int .i64 ((rd_T23 l0 x11_1).f3)] (fun k_ => k_ ≠ gb124) (fun _ => False) rfl rfl ?aP (fun _ hk => hk.elim) ?aF ?aO ?aB ?aS ?aL ?_; (case aP => exact k23_mkM _ _ _ (⟨(rd_T23 l0 x11_1).f0, (rd_T23 l0 x11_1).f1, (rd_T23 l0 x11_1).f2, (rd_T23 l0 x11_1).f3⟩ : S23)); (case aB => exact (hbm HB.out)); (case aF => exact (fun k_ hk => Kd.freshB (g := gb124) (o := .cells #[.int .i64 ((rd_T23 l0 x11_1).f0), .int .i64 ((rd_T23 l0 x11_1).f1), .int .i64 ((rd_T23 l0 x11_1).f2), .int .i64 ((rd_T23 l0 x11_1).f3)] 23 (0, 0)) (bkm BK124.out) k_ hk)); (case aO => exact (rdm HO_5.out)); (case aS => exact (below_size (hbm HB.out))); (case aL => have := LMc31.out; omega); intro v132 w38 ho hb hg hat; rw [← Ny131.out] at ho; have n0_ := Aside0.mk (blk_grown (g := gb124) (o := .cells #[.int .i64 ((rd_T23 l0 x11_1).f0), .int .i64 ((rd_T23 l0 x11_1).f1), .int .i64 ((rd_T23 l0 x11_1).f2), .int .i64 ((rd_T23 l0 x11_1).f3)] 23 (0, 0)) (bkm BK124.out) hg (Kd.R_away HO_5.out (fun _ hk => hk))); have n1_ := Aside0.mk (hb); have n2_ := Aside0.mk (ho); clear BK124; clear HB; clear HO_5; have BK124 := n0_; have HB := n1_; have HO133 := n2_; clear n0_ n1_ n2_; clear ho hb hg hat))
                go_roundg k1
                case measure => have := HK1.out; omega
                case rel => exact ⟨(y131), (wrap64 (x11_1 + 1)), (by first | rfl | (simp; done) | (simp [*]; done)), H', ⟨by have := HK1.out; omega⟩, ⟨by (with_reducible repeat (first | apply Kd.R_alloc | apply Kd.R_drewN | apply Kd.R_drew)); exact Kd.R_mono HO133.out (fun _ hk => trivial)⟩, ⟨hbm HB.out⟩⟩
              · rw [if_neg c31] at H
                exact absurd H (by simp)
          · rw [if_neg c5] at H
            exact absurd H (by simp)
        · rw [if_neg c4] at H
          exact absurd H (by simp)
      · rw [if_neg c3] at H
        have c3b0 : decide (x11_1 < (l0.length : Int)) = false := decide_eq_false c3
        clear c3
        obtain rfl := Option.some.inj H
        go_wp2
        go_ret
        exact ⟨_, by first | rfl | (simp [errW_none, errW_some] <;> rfl) | (simp [*, errW_none, errW_some] <;> rfl), rdm HO_5.out, hbm HB.out⟩

end Go.Proofs.Ytehknkgplldiiaa.PIs
