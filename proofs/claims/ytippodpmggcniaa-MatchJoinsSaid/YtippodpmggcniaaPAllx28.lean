-- made by xprint.py of this session
import Derived.Test.YtippodpmggcniaaPAllx0
namespace Go.Proofs.Ytippodpmggcniaa.PAll
open Go.RowKit Go.Proofs.YtippodpmggcniaaW.PrintWords Go.Proofs.YtippodpmggcniaaW.PrintLast Go.Proofs.YtippodpmggcniaaW.PrintMore
attribute [local go_sem] max2_int min2_int max_two min_two max_three min_three max_four min_four   -- for this text's walks alone
set_option linter.unusedVariables false
set_option linter.unusedSimpArgs false

/-! ### hornbookref11_Join: function 20 -/
def hornbookref11_Join.l0 : Nat → List (S49) → List Int → List Int → Int → Option (List Int)
  | 0, _, _, _, _ => none
  | k + 1, x0, x1, x5, x6 => if x6 < (x0.length : Int) then (if 0 ≤ x6 then (if 0 ≤ (mn (mx 0 ((rd_T49 x0 x6).f0)) (x1.length : Int)) then (if (mn (mx 0 ((rd_T49 x0 x6).f0)) (x1.length : Int)) ≤ (wrap64 ((mn (mx 0 ((rd_T49 x0 x6).f0)) (x1.length : Int)) + (mn (mx 0 ((rd_T49 x0 x6).f1)) (wrap64 ((x1.length : Int) - (mn (mx 0 ((rd_T49 x0 x6).f0)) (x1.length : Int))))))) then (if (wrap64 ((mn (mx 0 ((rd_T49 x0 x6).f0)) (x1.length : Int)) + (mn (mx 0 ((rd_T49 x0 x6).f1)) (wrap64 ((x1.length : Int) - (mn (mx 0 ((rd_T49 x0 x6).f0)) (x1.length : Int))))))) ≤ (x1.length : Int) then (if x5.length + ((x1.take ((wrap64 ((mn (mx 0 ((rd_T49 x0 x6).f0)) (x1.length : Int)) + (mn (mx 0 ((rd_T49 x0 x6).f1)) (wrap64 ((x1.length : Int) - (mn (mx 0 ((rd_T49 x0 x6).f0)) (x1.length : Int))))))) : Int).toNat).drop ((mn (mx 0 ((rd_T49 x0 x6).f0)) (x1.length : Int)) : Int).toNat).length < 140737488355328 then (hornbookref11_Join.l0 k x0 x1 (x5 ++ ((x1.take ((wrap64 ((mn (mx 0 ((rd_T49 x0 x6).f0)) (x1.length : Int)) + (mn (mx 0 ((rd_T49 x0 x6).f1)) (wrap64 ((x1.length : Int) - (mn (mx 0 ((rd_T49 x0 x6).f0)) (x1.length : Int))))))) : Int).toNat).drop ((mn (mx 0 ((rd_T49 x0 x6).f0)) (x1.length : Int)) : Int).toNat)) (wrap64 (x6 + 1))) else (none)) else (none)) else (none)) else (none)) else (none)) else (some x5)
def hornbookref11_Join.f (k : Nat) (l0 : List (S49)) (l1 : List Int) : Option (List Int) := hornbookref11_Join.l0 k l0 l1 ([] : List Int) 0
theorem hornbookref11_Join.mono_l : ∀ k, (∀ y0 y1 y2 y3, LeO (hornbookref11_Join.l0 k y0 y1 y2 y3) (hornbookref11_Join.l0 (k + 1) y0 y1 y2 y3))
  | 0 => fun _ _ _ _ r h => by simp [hornbookref11_Join.l0] at h
  | k + 1 => by
    have ih0 := hornbookref11_Join.mono_l k
    · intro y0 y1 y2 y3
      unfold hornbookref11_Join.l0
      repeat' first
      | (with_reducible exact ih0 _ _ _ _)
      | (with_reducible exact LeO.refl _)
      | (with_reducible exact LeO.none _)
      | (with_reducible refine LeO.ite ?_ ?_)
      | (with_reducible refine LeO.bind ?_ (fun _ => ?_))
      | exact ih0 _ _ _ _
      | exact LeO.none _
      | refine LeO.ite ?_ ?_
      | refine LeO.bind ?_ (fun _ => ?_)
theorem hornbookref11_Join.mono : ∀ a0 a1 k, LeO (hornbookref11_Join.f k a0 a1) (hornbookref11_Join.f (k + 1) a0 a1) := by
  intro a0 a1 k
  have ih0 := hornbookref11_Join.mono_l k
  unfold hornbookref11_Join.f
  repeat' first
      | (with_reducible exact ih0 _ _ _ _)
      | (with_reducible exact LeO.refl _)
      | (with_reducible exact LeO.none _)
      | (with_reducible refine LeO.ite ?_ ?_)
      | (with_reducible refine LeO.bind ?_ (fun _ => ?_))
      | exact ih0 _ _ _ _
      | exact LeO.none _
      | refine LeO.ite ?_ ?_
      | refine LeO.bind ?_ (fun _ => ?_)
set_option maxHeartbeats 8000000 in
set_option maxRecDepth 100000 in
theorem hornbookref11_Join.calls (k : Nat) (A0 : Option Addr) (c0 : Nat) (l0 : List (S49)) (A1 : Option Addr) (c1 : Nat) (l1 : List Int) (r : List Int) (w : World) (hr0 : Kd.C k49 w A0 l0.length l0) (hc0 : l0.length ≤ c0) (hr1 : Kd.C (Kd.int .u8) w A1 l1.length l1) (hc1 : l1.length ≤ c1) (h : hornbookref11_Join.f k l0 l1 = some r) :
    Calls Try.prog 20 #[.slice A0 l0.length c0, .slice A1 l1.length c1] w fun e w' => ∃ v0_ : Value, e = .returned (v0_) ∧ Kd.R (Kd.int .u8) 5 w' w.heap.size (fun _ => True) v0_ r ∧ Below w.heap.size w w' := by
  have HR0 := Aside0.mk hr0
  have HC0 := Aside0.mk hc0
  clear hr0 hc0
  have HR1 := Aside0.mk hr1
  have HC1 := Aside0.mk hc1
  clear hr1 hc1
  have HB := Aside0.mk (Below.refl w.heap.size w)
  have H : (hornbookref11_Join.l0 k l0 l1 ([] : List Int) 0) = some r := h
  clear h
  have H' := Aside0.mk H
  clear H
  go_enter Try.func20, Try.ntmps20
  go_wp2
  go_loopg [5, 6] k (fun kq v5 v6 w' => ∃ (x5_1 : List Int) (x6_1 : Int), v6 = .int .i64 x6_1 ∧ Aside0 (hornbookref11_Join.l0 kq l0 l1 x5_1 x6_1 = some r) ∧ Aside0 (kq ≤ k) ∧ Aside0 (Kd.R (Kd.int .u8) 5 w' w.heap.size (fun _ => True) v5 x5_1) ∧ Aside0 (Below w.heap.size w w'))
  case atStart => exact ⟨(([] : List Int)), (0), (by first | rfl | (simp; done) | (simp [*]; done)), H', ⟨Nat.le_refl _⟩, ⟨by first | exact Kd.R_nil _ _ _ _ _ | exact Kd.N_nil _ _ _ _ _ | exact Kd.V_nil _ _ _ _ _ | exact Kd.Q_nil _ _ _ _ _ | exact Kd.S_nil _ _ _ _ _⟩, ⟨by repeat (first | (with_reducible first | exact HB.out | apply below_alloc | apply pw_below_drewN | apply below_drew1) | exact HB.out)⟩⟩
  case round =>
    clear H'
    try clear c1
    try clear c2
    try clear p2
    obtain ⟨x5_1, x6_1, rfl, HA, HK1, HO_5, HB⟩ := hrel
    cases gk with
    | zero => exact absurd HA.out (by simp [hornbookref11_Join.l0])
    | succ k1 =>
      have H := HA.out
      clear HA
      simp only [hornbookref11_Join.l0] at H
      by_cases c3 : x6_1 < (l0.length : Int)
      · rw [if_pos c3] at H
        have c3b0 : decide (x6_1 < (l0.length : Int)) = true := decide_eq_true c3
        clear c3
        by_cases c4 : 0 ≤ x6_1
        · rw [if_pos c4] at H
          have c4b0 : decide (0 ≤ x6_1) = true := decide_eq_true c4
          clear c4
          obtain ⟨ji5, hji5⟩ : ∃ j_ : Int, (mx 0 ((rd_T49 l0 x6_1).f0)) = j_ := ⟨_, rfl⟩
          replace H : (if 0 ≤ (mn (ji5) (l1.length : Int)) then (if (mn (ji5) (l1.length : Int)) ≤ (wrap64 ((mn (ji5) (l1.length : Int)) + (mn (mx 0 ((rd_T49 l0 x6_1).f1)) (wrap64 ((l1.length : Int) - (mn (ji5) (l1.length : Int))))))) then (if (wrap64 ((mn (ji5) (l1.length : Int)) + (mn (mx 0 ((rd_T49 l0 x6_1).f1)) (wrap64 ((l1.length : Int) - (mn (ji5) (l1.length : Int))))))) ≤ (l1.length : Int) then (if x5_1.length + ((l1.take ((wrap64 ((mn (ji5) (l1.length : Int)) + (mn (mx 0 ((rd_T49 l0 x6_1).f1)) (wrap64 ((l1.length : Int) - (mn (ji5) (l1.length : Int))))))) : Int).toNat).drop ((mn (ji5) (l1.length : Int)) : Int).toNat).length < 140737488355328 then (hornbookref11_Join.l0 k1 l0 l1 (x5_1 ++ ((l1.take ((wrap64 ((mn (ji5) (l1.length : Int)) + (mn (mx 0 ((rd_T49 l0 x6_1).f1)) (wrap64 ((l1.length : Int) - (mn (ji5) (l1.length : Int))))))) : Int).toNat).drop ((mn (ji5) (l1.length : Int)) : Int).toNat)) (wrap64 (x6_1 + 1))) else (none)) else (none)) else (none)) else (none)) = some r := by first | (rw [hji5] at H; exact H) | (simp only [hji5] at H ⊢; exact H)
          have hji5_ : (if 0 < ((rd_T49 l0 x6_1).f0) then ((rd_T49 l0 x6_1).f0) else 0) = ji5 := hji5
          obtain ⟨ji6, hji6⟩ : ∃ j_ : Int, (mn (ji5) (l1.length : Int)) = j_ := ⟨_, rfl⟩
          replace H : (if 0 ≤ (ji6) then (if (ji6) ≤ (wrap64 ((ji6) + (mn (mx 0 ((rd_T49 l0 x6_1).f1)) (wrap64 ((l1.length : Int) - (ji6)))))) then (if (wrap64 ((ji6) + (mn (mx 0 ((rd_T49 l0 x6_1).f1)) (wrap64 ((l1.length : Int) - (ji6)))))) ≤ (l1.length : Int) then (if x5_1.length + ((l1.take ((wrap64 ((ji6) + (mn (mx 0 ((rd_T49 l0 x6_1).f1)) (wrap64 ((l1.length : Int) - (ji6)))))) : Int).toNat).drop ((ji6) : Int).toNat).length < 140737488355328 then (hornbookref11_Join.l0 k1 l0 l1 (x5_1 ++ ((l1.take ((wrap64 ((ji6) + (mn (mx 0 ((rd_T49 l0 x6_1).f1)) (wrap64 ((l1.length : Int) - (ji6)))))) : Int).toNat).drop ((ji6) : Int).toNat)) (wrap64 (x6_1 + 1))) else (none)) else (none)) else (none)) else (none)) = some r := by first | (rw [hji6] at H; exact H) | (simp only [hji6] at H ⊢; exact H)
          have hji6_ : (if (l1.length : Int) < (ji5) then (l1.length : Int) else (ji5)) = ji6 := hji6
          obtain ⟨ji7, hji7⟩ : ∃ j_ : Int, (mx 0 ((rd_T49 l0 x6_1).f1)) = j_ := ⟨_, rfl⟩
          replace H : (if 0 ≤ (ji6) then (if (ji6) ≤ (wrap64 ((ji6) + (mn (ji7) (wrap64 ((l1.length : Int) - (ji6)))))) then (if (wrap64 ((ji6) + (mn (ji7) (wrap64 ((l1.length : Int) - (ji6)))))) ≤ (l1.length : Int) then (if x5_1.length + ((l1.take ((wrap64 ((ji6) + (mn (ji7) (wrap64 ((l1.length : Int) - (ji6)))))) : Int).toNat).drop ((ji6) : Int).toNat).length < 140737488355328 then (hornbookref11_Join.l0 k1 l0 l1 (x5_1 ++ ((l1.take ((wrap64 ((ji6) + (mn (ji7) (wrap64 ((l1.length : Int) - (ji6)))))) : Int).toNat).drop ((ji6) : Int).toNat)) (wrap64 (x6_1 + 1))) else (none)) else (none)) else (none)) else (none)) = some r := by first | (rw [hji7] at H; exact H) | (simp only [hji7] at H ⊢; exact H)
          have hji7_ : (if 0 < ((rd_T49 l0 x6_1).f1) then ((rd_T49 l0 x6_1).f1) else 0) = ji7 := hji7
          obtain ⟨ji8, hji8⟩ : ∃ j_ : Int, (mn (ji7) (wrap64 ((l1.length : Int) - (ji6)))) = j_ := ⟨_, rfl⟩
          replace H : (if 0 ≤ (ji6) then (if (ji6) ≤ (wrap64 ((ji6) + (ji8))) then (if (wrap64 ((ji6) + (ji8))) ≤ (l1.length : Int) then (if x5_1.length + ((l1.take ((wrap64 ((ji6) + (ji8))) : Int).toNat).drop ((ji6) : Int).toNat).length < 140737488355328 then (hornbookref11_Join.l0 k1 l0 l1 (x5_1 ++ ((l1.take ((wrap64 ((ji6) + (ji8))) : Int).toNat).drop ((ji6) : Int).toNat)) (wrap64 (x6_1 + 1))) else (none)) else (none)) else (none)) else (none)) = some r := by first | (rw [hji8] at H; exact H) | (simp only [hji8] at H ⊢; exact H)
          have hji8_ : (if (wrap64 ((l1.length : Int) - (ji6))) < (ji7) then (wrap64 ((l1.length : Int) - (ji6))) else (ji7)) = ji8 := hji8
          by_cases c9 : 0 ≤ (ji6)
          · rw [if_pos c9] at H
            have c9b0 := eq_true c9
            have c9b1 : decide (0 ≤ (ji6)) = true := decide_eq_true c9
            clear c9
            by_cases c10 : (ji6) ≤ (wrap64 ((ji6) + (ji8)))
            · rw [if_pos c10] at H
              have c10b0 := eq_true c10
              have c10b1 : decide ((ji6) ≤ (wrap64 ((ji6) + (ji8)))) = true := decide_eq_true c10
              by_cases c11 : (wrap64 ((ji6) + (ji8))) ≤ (l1.length : Int)
              · rw [if_pos c11] at H
                have c11b0 := eq_true c11
                have c11b1 : decide ((wrap64 ((ji6) + (ji8))) ≤ (l1.length : Int)) = true := decide_eq_true c11
                by_cases c12 : x5_1.length + ((l1.take ((wrap64 ((ji6) + (ji8))) : Int).toNat).drop ((ji6) : Int).toNat).length < 140737488355328
                · rw [if_pos c12] at H
                  have LMc12 := Aside0.mk c12
                  clear c12
                  obtain ⟨y368, hy368⟩ : ∃ y_ : List Int, y_ = (x5_1 ++ ((l1.take ((wrap64 ((ji6) + (ji8))) : Int).toNat).drop ((ji6) : Int).toNat)) := ⟨_, rfl⟩
                  replace H : (hornbookref11_Join.l0 k1 l0 l1 y368 (wrap64 (x6_1 + 1))) = some r := by first | (rw [hy368]; with_reducible exact H) | (have H2_ := (Option.bind_some _ _).symm.trans H; rw [hy368]; with_reducible exact H2_) | (have H2_ := (Option.bind_some _ _).symm.trans H; with_reducible exact H2_) | with_reducible exact H | (rw [hy368]; exact H) | exact H
                  have Ny368 := Aside0.mk hy368
                  clear hy368
                  have H' := Aside0.mk H
                  clear H
                  have p365 : 0 ≤ (x6_1 : Int) := of_decide_eq_true (by first | (with_reducible assumption) | assumption)
                  have q365 : x6_1 < (l0.length : Int) := of_decide_eq_true (by first | (with_reducible assumption) | assumption)
                  obtain ⟨ad365, e365, hx365_0, hx365_1, hx365_2, hx365_3, hx365_4⟩ := at_T49 HR0.out x6_1 p365 q365
                  cases e365
                  replace hx365_0 := (HB.out.cell (World.block_lt_of_cell? w _ hx365_0)).trans hx365_0
                  replace hx365_1 := (HB.out.cell (World.block_lt_of_cell? w _ hx365_1)).trans hx365_1
                  replace hx365_2 := (HB.out.cell (World.block_lt_of_cell? w _ hx365_2)).trans hx365_2
                  replace hx365_3 := (HB.out.cell (World.block_lt_of_cell? w _ hx365_3)).trans hx365_3
                  replace hx365_4 := (HB.out.cell (World.block_lt_of_cell? w _ hx365_4)).trans hx365_4
                  replace p365 := eq_true p365
                  replace q365 := eq_true q365
                  have p366 : 0 ≤ (x6_1 : Int) := of_decide_eq_true (by first | (with_reducible assumption) | assumption)
                  have q366 : x6_1 < (l0.length : Int) := of_decide_eq_true (by first | (with_reducible assumption) | assumption)
                  obtain ⟨ad366, e366, hx366_0, hx366_1, hx366_2, hx366_3, hx366_4⟩ := at_T49 HR0.out x6_1 p366 q366
                  obtain rfl : ad365 = ad366 := (by injection e366)
                  replace hx366_0 := (HB.out.cell (World.block_lt_of_cell? w _ hx366_0)).trans hx366_0
                  replace hx366_1 := (HB.out.cell (World.block_lt_of_cell? w _ hx366_1)).trans hx366_1
                  replace hx366_2 := (HB.out.cell (World.block_lt_of_cell? w _ hx366_2)).trans hx366_2
                  replace hx366_3 := (HB.out.cell (World.block_lt_of_cell? w _ hx366_3)).trans hx366_3
                  replace hx366_4 := (HB.out.cell (World.block_lt_of_cell? w _ hx366_4)).trans hx366_4
                  replace p366 := eq_true p366
                  replace q366 := eq_true q366
                  obtain ⟨i013, hi013, _, hsz13, _⟩ := info_parts info5
                  obtain ⟨A13, hcut13, hA13, hC13⟩ := print_mid_of (P := Try.prog) (Value.int .u8) 0 23 5 .i64 .i64 Try.underlying23 hi013 hsz13 A1 c1 l1 (ji6) (wrap64 ((ji6) + (ji8))) (of_decide_eq_true (by first | (with_reducible assumption) | assumption)) (by first | omega | exact of_decide_eq_true (by first | (with_reducible assumption) | assumption)) (of_decide_eq_true (by first | (with_reducible assumption) | assumption)) HC1.out
                  have HR367 := Aside0.mk (Kd.C_of_reads (h1 := fun _ => rfl) (hA13 _ (Kd.reads_of_C HR1.out)))
                  have HC367 := Aside0.mk hC13
                  clear hA13 hC13 hi013 hsz13
                  go_wp2_with (first | ((with_reducible refine gate_builtin (b := .append) (xs := #[.tmp 35, .tmp 41]) rfl ?_); at_builtin; refine Kd.R_append_rows (Kd.int .u8) (w0 := w) w.heap.size rfl (.tmp 35) (.tmp 41) 23 5 (.int .u8 0) 1 rfl Try.underlying23 info5 rfl (by decide) (by omega) u5 x5_1 ((l1.take ((wrap64 ((ji6) + (ji8))) : Int).toNat).drop ((ji6) : Int).toNat) _ _ _ (fun _ => True) (fun _ => False) rfl rfl ?aO ?aR (fun _ _ h => h) (fun _ h => h.elim) ?aF ?aB ?aS ?aL ?_; (case aR => first | (rw [← show ((l1.take ((wrap64 ((ji6) + (ji8))) : Int).toNat).drop ((ji6) : Int).toNat).length = ((wrap64 ((ji6) + (ji8))).toNat - (ji6).toNat) from (by rw [List.length_drop, List.length_take]; have h_ : ((wrap64 ((ji6) + (ji8))) : Int) ≤ (l1.length : Int) := of_decide_eq_true (by first | (with_reducible assumption) | assumption); omega)]; repeat (first | exact (Kd.C_below HR367.out HB.out) | (with_reducible refine Kd.C_alloc ?_ _) | (with_reducible refine Kd.C_drewN ?_ _) | (with_reducible refine Kd.C_drew ?_))) | (repeat (first | exact (Kd.C_below HR367.out HB.out) | (with_reducible refine Kd.C_alloc ?_ _) | (with_reducible refine Kd.C_drewN ?_ _) | (with_reducible refine Kd.C_drew ?_)))); (case aB => exact (by repeat (first | (with_reducible first | exact HB.out | apply below_alloc | apply pw_below_drewN | apply below_drew1) | exact HB.out))); (case aF => exact (fun _ _ => trivial)); (case aO => exact (by (with_reducible repeat (first | apply Kd.R_alloc | apply Kd.R_drewN | apply Kd.R_drew)); exact HO_5.out)); (case aS => exact (below_size (by repeat (first | (with_reducible first | exact HB.out | apply below_alloc | apply pw_below_drewN | apply below_drew1) | exact HB.out)))); (case aL => have := LMc12.out; have hlx_ := (show ((l1.take ((wrap64 ((ji6) + (ji8))) : Int).toNat).drop ((ji6) : Int).toNat).length = ((wrap64 ((ji6) + (ji8))).toNat - (ji6).toNat) from (by rw [List.length_drop, List.length_take]; have h_ : ((wrap64 ((ji6) + (ji8))) : Int) ≤ (l1.length : Int) := of_decide_eq_true (by first | (with_reducible assumption) | assumption); omega)); omega); intro v369 w14 ho hb hg hat; rw [← Ny368.out] at ho; have n0_ := Aside0.mk (hb); have n1_ := Aside0.mk (ho); clear HB; clear HO_5; have HB := n0_; have HO370 := n1_; clear n0_ n1_; clear ho hb hg hat))
                  go_roundg k1
                  case measure => have := HK1.out; omega
                  case rel => exact ⟨(y368), (wrap64 (x6_1 + 1)), (by first | rfl | (simp; done) | (simp [*]; done)), H', ⟨by have := HK1.out; omega⟩, ⟨by (with_reducible repeat (first | apply Kd.R_alloc | apply Kd.R_drewN | apply Kd.R_drew)); exact HO370.out⟩, ⟨by repeat (first | (with_reducible first | exact HB.out | apply below_alloc | apply pw_below_drewN | apply below_drew1) | exact HB.out)⟩⟩
                · rw [if_neg c12] at H
                  exact absurd H (by simp)
              · rw [if_neg c11] at H
                exact absurd H (by simp)
            · rw [if_neg c10] at H
              exact absurd H (by simp)
          · rw [if_neg c9] at H
            exact absurd H (by simp)
        · rw [if_neg c4] at H
          exact absurd H (by simp)
      · rw [if_neg c3] at H
        have c3b0 : decide (x6_1 < (l0.length : Int)) = false := decide_eq_false c3
        clear c3
        obtain rfl := Option.some.inj H
        go_wp2
        go_ret
        exact ⟨_, by first | rfl | (simp [errW_none, errW_some] <;> rfl) | (simp [*, errW_none, errW_some] <;> rfl), by (with_reducible repeat (first | apply Kd.R_alloc | apply Kd.R_drewN | apply Kd.R_drew)); exact HO_5.out, by repeat (first | (with_reducible first | exact HB.out | apply below_alloc | apply pw_below_drewN | apply below_drew1) | exact HB.out)⟩

end Go.Proofs.Ytippodpmggcniaa.PAll
