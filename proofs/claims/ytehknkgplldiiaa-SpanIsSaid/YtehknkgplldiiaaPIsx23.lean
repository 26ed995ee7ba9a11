-- made by xprint.py of this session
import Derived.Test.YtehknkgplldiiaaPIsx0
import Derived.Test.YtehknkgplldiiaaPIsx17
import Derived.Test.YtehknkgplldiiaaPIsx19
import Derived.Test.YtehknkgplldiiaaPIsx22
namespace Go.Proofs.Ytehknkgplldiiaa.PIs
open Go.RowKit Go.Proofs.YtehknkgplldiiaaW.PrintWords Go.Proofs.YtehknkgplldiiaaW.PrintLast Go.Proofs.YtehknkgplldiiaaW.PrintMore
attribute [local go_sem] max2_int min2_int max_two min_two max_three min_three max_four min_four   -- for this text's walks alone
set_option linter.unusedVariables false
set_option linter.unusedSimpArgs false

/-! ### hornbookref07_Build: function 23 -/
mutual
def hornbookref07_Build.l0 : Nat → List (S23) → Bool → List (S23) → Int → Option ((List (S23)))
  | 0, _, _, _, _ => none
  | k + 1, x0, x1, x5, x6 => if x6 ≤ 4 then ((hornbookref07_borders.f k x0 x6 x1).bind fun t229 => (hornbookref07_Build.l1 k x0 x1 x5 x6 t229 0)) else (some x5)
def hornbookref07_Build.l1 : Nat → List (S23) → Bool → List (S23) → Int → List Int → Int → Option ((List (S23)))
  | 0, _, _, _, _, _, _ => none
  | k + 1, x0, x1, x5, x6, x7, x8 => if (wrap64 (x8 + 1)) < (x7.length : Int) then (if 0 ≤ x8 then (if x8 < (x7.length : Int) then ((hornbookref07_Last.f k x0 x6 (rd x7 x8) x1).bind fun bt233 => (if bt233.2 = true then (if 0 ≤ (wrap64 (x8 + 1)) then (if (wrap64 ((x5.length : Int) - 1)) ≥ 0 then (if 0 ≤ (wrap64 ((x5.length : Int) - 1)) then (if (wrap64 ((x5.length : Int) - 1)) < (x5.length : Int) then ((hornbookref07_joins.f ((rd_T23 x5 (wrap64 ((x5.length : Int) - 1))).f0) ((rd_T23 x5 (wrap64 ((x5.length : Int) - 1))).f1) ((rd_T23 x5 (wrap64 ((x5.length : Int) - 1))).f2) ((rd_T23 x5 (wrap64 ((x5.length : Int) - 1))).f3) x6 (rd x7 x8) (wrap64 ((rd x7 (wrap64 (x8 + 1))) - 1)) bt233.1 x1).bind fun t239 => (if t239 = true then ((some (([] : List (S23)) : List (S23))).bind fun y242 => (if (wrap64 ((x5.length : Int) - 1)) ≤ (x5.length : Int) then ((some (x5.take ((wrap64 ((x5.length : Int) - 1)) : Int).toNat : List (S23))).bind fun y245 => (if y242.length + y245.length < 4398046511104 then ((some (y242 ++ y245 : List (S23))).bind fun y249 => (if y249.length < 4398046511104 then (hornbookref07_Build.l1 k x0 x1 (y249 ++ [(⟨(rd_T23 x5 (wrap64 ((x5.length : Int) - 1))).f0, (rd_T23 x5 (wrap64 ((x5.length : Int) - 1))).f1, wrap64 ((rd x7 (wrap64 (x8 + 1))) - 1), (rd_T23 x5 (wrap64 ((x5.length : Int) - 1))).f3⟩ : S23)]) x6 x7 (wrap64 (x8 + 1))) else (none))) else (none))) else (none))) else (if x5.length < 4398046511104 then (hornbookref07_Build.l1 k x0 x1 (x5 ++ [(⟨x6, rd x7 x8, wrap64 ((rd x7 (wrap64 (x8 + 1))) - 1), bt233.1⟩ : S23)]) x6 x7 (wrap64 (x8 + 1))) else (none)))) else (none)) else (none)) else (if x5.length < 4398046511104 then (hornbookref07_Build.l1 k x0 x1 (x5 ++ [(⟨x6, rd x7 x8, wrap64 ((rd x7 (wrap64 (x8 + 1))) - 1), bt233.1⟩ : S23)]) x6 x7 (wrap64 (x8 + 1))) else (none))) else (none)) else (hornbookref07_Build.l1 k x0 x1 x5 x6 x7 (wrap64 (x8 + 1))))) else (none)) else (none)) else (hornbookref07_Build.l0 k x0 x1 x5 (wrap64 (x6 + 1)))
end
def hornbookref07_Build.f (k : Nat) (l0 : List (S23)) (a1 : Bool) : Option ((List (S23))) := hornbookref07_Build.l0 k l0 a1 ([] : List (S23)) 1
theorem hornbookref07_Build.mono_l : ∀ k, (∀ y0 y1 y2 y3, LeO (hornbookref07_Build.l0 k y0 y1 y2 y3) (hornbookref07_Build.l0 (k + 1) y0 y1 y2 y3)) ∧ (∀ y0 y1 y2 y3 y4 y5, LeO (hornbookref07_Build.l1 k y0 y1 y2 y3 y4 y5) (hornbookref07_Build.l1 (k + 1) y0 y1 y2 y3 y4 y5))
  | 0 => ⟨fun _ _ _ _ r h => by simp [hornbookref07_Build.l0] at h, fun _ _ _ _ _ _ r h => by simp [hornbookref07_Build.l1] at h⟩
  | k + 1 => by
    obtain ⟨ih0, ih1⟩ := hornbookref07_Build.mono_l k
    refine ⟨?_, ?_⟩
    · intro y0 y1 y2 y3
      unfold hornbookref07_Build.l0
      repeat' first
      | (with_reducible exact ih0 _ _ _ _)
      | (with_reducible exact ih1 _ _ _ _ _ _)
      | (with_reducible exact hornbookref07_Last.mono _ _ _ _ _)
      | (with_reducible exact hornbookref07_borders.mono _ _ _ _)
      | (with_reducible exact LeO.refl _)
      | (with_reducible exact LeO.none _)
      | (with_reducible refine LeO.ite ?_ ?_)
      | (with_reducible refine LeO.bind ?_ (fun _ => ?_))
      | exact ih0 _ _ _ _
      | exact ih1 _ _ _ _ _ _
      | exact hornbookref07_Last.mono _ _ _ _ _
      | exact hornbookref07_borders.mono _ _ _ _
      | exact LeO.none _
      | refine LeO.ite ?_ ?_
      | refine LeO.bind ?_ (fun _ => ?_)
    · intro y0 y1 y2 y3 y4 y5
      unfold hornbookref07_Build.l1
      repeat' first
      | (with_reducible exact ih0 _ _ _ _)
      | (with_reducible exact ih1 _ _ _ _ _ _)
      | (with_reducible exact hornbookref07_Last.mono _ _ _ _ _)
      | (with_reducible exact hornbookref07_borders.mono _ _ _ _)
      | (with_reducible exact LeO.refl _)
      | (with_reducible exact LeO.none _)
      | (with_reducible refine LeO.ite ?_ ?_)
      | (with_reducible refine LeO.bind ?_ (fun _ => ?_))
      | exact ih0 _ _ _ _
      | exact ih1 _ _ _ _ _ _
      | exact hornbookref07_Last.mono _ _ _ _ _
      | exact hornbookref07_borders.mono _ _ _ _
      | exact LeO.none _
      | refine LeO.ite ?_ ?_
      | refine LeO.bind ?_ (fun _ => ?_)
theorem hornbookref07_Build.mono : ∀ a0 a1 k, LeO (hornbookref07_Build.f k a0 a1) (hornbookref07_Build.f (k + 1) a0 a1) := by
  intro a0 a1 k
  obtain ⟨ih0, ih1⟩ := hornbookref07_Build.mono_l k
  unfold hornbookref07_Build.f
  repeat' first
      | (with_reducible exact ih0 _ _ _ _)
      | (with_reducible exact ih1 _ _ _ _ _ _)
      | (with_reducible exact hornbookref07_Last.mono _ _ _ _ _)
      | (with_reducible exact hornbookref07_borders.mono _ _ _ _)
      | (with_reducible exact LeO.refl _)
      | (with_reducible exact LeO.none _)
      | (with_reducible refine LeO.ite ?_ ?_)
      | (with_reducible refine LeO.bind ?_ (fun _ => ?_))
      | exact ih0 _ _ _ _
      | exact ih1 _ _ _ _ _ _
      | exact hornbookref07_Last.mono _ _ _ _ _
      | exact hornbookref07_borders.mono _ _ _ _
      | exact LeO.none _
      | refine LeO.ite ?_ ?_
      | refine LeO.bind ?_ (fun _ => ?_)
def hornbookref07_Build.T11 : Bool × List (List Nat × List Nat) := (true, [([], []), ([], []), ([], []), ([1, 2], [1, 2]), ([3], [3]), ([], []), ([], []), ([6], [6]), ([5, 7], [5, 7]), ([8], [8]), ([9], [9]), ([], []), ([0, 4, 10, 11], [0, 4, 10, 11]), ([], []), ([13, 12, 0, 1, 2, 3, 4, 5, 6, 7, 8, 9, 10, 11, 12, 13], [12, 13])])
def hornbookref07_Build.B11 : List Nat := [0, 0, 0, 6, 14, 0, 0, 64, 224, 480, 992, 0, 4095, 0, 16383]
theorem hornbookref07_Build.tab11 : rtab .any (opsOf Try.f23 11) = hornbookref07_Build.T11 := by kernel_rfl
theorem hornbookref07_Build.bits11 : waitsOk hornbookref07_Build.T11.2 hornbookref07_Build.B11 = true := by kernel_rfl
def hornbookref07_Build.T13 : Bool × List (List Nat × List Nat) := (true, [([], []), ([0], [0]), ([1], [1]), ([2], [2]), ([2], [2]), ([3, 4, 2], [2, 3, 4]), ([5, 2], [2, 5]), ([2], [2]), ([2], [2]), ([6, 7, 8, 2, 2], [2, 6, 7, 8]), ([2, 9], [2, 9])])
def hornbookref07_Build.B13 : List Nat := [0, 1, 3, 7, 7, 31, 63, 7, 7, 511, 1023]
theorem hornbookref07_Build.tab13 : rtab .any (opsOf Try.f23 13) = hornbookref07_Build.T13 := by kernel_rfl
theorem hornbookref07_Build.bits13 : waitsOk hornbookref07_Build.T13.2 hornbookref07_Build.B13 = true := by kernel_rfl
set_option maxHeartbeats 8000000 in
set_option maxRecDepth 100000 in
theorem hornbookref07_Build.calls (k : Nat) (A0 : Option Addr) (c0 : Nat) (l0 : List (S23)) (a1 : Bool) (r : List (S23)) (w : World) (hr0 : Kd.C k23 w A0 l0.length l0) (hc0 : l0.length ≤ c0) (h : hornbookref07_Build.f k l0 a1 = some r) :
    Calls Try.prog 23 #[.slice A0 l0.length c0, .bool a1] w fun e w' => ∃ v0_ : Value, e = .returned (v0_) ∧ Kd.R k23 23 w' w.heap.size (fun _ => True) v0_ r ∧ Below w.heap.size w w' := by
  have hu31 := Try.underlying31
  have hu23 := Try.underlying23
  have HR0 := Aside0.mk hr0
  have HC0 := Aside0.mk hc0
  clear hr0 hc0
  have HB := Aside0.mk (Below.refl w.heap.size w)
  have H : (hornbookref07_Build.l0 k l0 a1 ([] : List (S23)) 1) = some r := h
  clear h
  have H' := Aside0.mk H
  clear H
  go_enter Try.func23, Try.ntmps23
  go_wp2
  go_loopg [5, 6] k (fun kq v5 v6 w' => ∃ (x5_1 : List (S23)) (x6_1 : Int), v6 = .int .i64 x6_1 ∧ Aside0 (hornbookref07_Build.l0 kq l0 a1 x5_1 x6_1 = some r) ∧ Aside0 (kq ≤ k) ∧ Aside0 (Kd.R k23 23 w' w.heap.size (fun _ => True) v5 x5_1) ∧ Aside0 (Below w.heap.size w w'))
  case atStart => exact ⟨(([] : List (S23))), (1), (by first | rfl | (simp; done) | (simp [*]; done)), H', ⟨Nat.le_refl _⟩, ⟨by first | exact Kd.R_nil _ _ _ _ _ | exact Kd.N_nil _ _ _ _ _ | exact Kd.V_nil _ _ _ _ _ | exact Kd.Q_nil _ _ _ _ _ | exact Kd.S_nil _ _ _ _ _⟩, ⟨hbm HB.out⟩⟩
  case round =>
    clear H'
    try clear c2
    try clear p2
    obtain ⟨x5_1, x6_1, rfl, HA, HK1, HO_5, HB⟩ := hrel
    cases gk with
    | zero => exact absurd HA.out (by simp [hornbookref07_Build.l0])
    | succ k1 =>
      have H := HA.out
      clear HA
      simp only [hornbookref07_Build.l0] at H
      by_cases c3 : x6_1 ≤ 4
      · rw [if_pos c3] at H
        have c3b0 : decide (x6_1 ≤ 4) = true := decide_eq_true c3
        clear c3
        replace H := Option.bind_eq_some_iff.mp H
        obtain ⟨t229, A40, H⟩ := H
        replace H : (hornbookref07_Build.l1 k1 l0 a1 x5_1 x6_1 t229 0) = some r := H
        have A4 := Aside0.mk A40
        clear A40
        have H' := Aside0.mk H
        clear H
        go_wp2_with (first | ((with_reducible refine gate_callee (f := 37) rfl ?_); refine goesL_ (some 22) rfl rfl Try.func37 (by kernel_rfl) rfl #[.slice A0 l0.length c0, .int .i64 x6_1, .bool a1] rfl (by (try simp only [List.map_toArray, List.map_cons, List.map_nil]); first | done | rfl | (simp only [List.length_drop, List.length_take]; rfl)) ?_; (with_reducible refine (hornbookref07_borders.calls k1 _ _ l0 x6_1 a1 t229 _ ?side1 ?side2 A4.out).mono ?_); (case side1 => repeat (first | exact (Kd.C_below HR0.out HB.out) | (with_reducible refine Kd.C_alloc ?_ _) | (with_reducible refine Kd.C_drewN ?_ _) | (with_reducible refine Kd.C_drew ?_))); (case side2 => exact HC0.out); rintro e w5 ⟨v230, rfl, ho0, hb⟩; refine ⟨_, rfl, ?_⟩; have n0_ := Aside0.mk (Kd.R_below (rdm HO_5.out) hb); have n1_ := Aside0.mk (Kd.R_lower ho0 (below_size (hbm HB.out))); have n2_ := Aside0.mk (below_step (hbm HB.out) hb); clear HO_5; clear HB; have HO_5 := n0_; have HO231 := n1_; have HB := n2_; clear n0_ n1_ n2_; (try clear hb); (try clear hb2); (try clear hk); (try clear hi); (try clear ho0)))
        go_loopg [5, 8] k1 (fun kq v5 v8 w' => ∃ (x5_2 : List (S23)) (x8_2 : Int), v8 = .int .i64 x8_2 ∧ Aside0 (hornbookref07_Build.l1 kq l0 a1 x5_2 x6_1 t229 x8_2 = some r) ∧ Aside0 (kq ≤ k1) ∧ Aside0 (Kd.R k23 23 w' w.heap.size (fun _ => True) v5 x5_2) ∧ Aside0 (Kd.R (Kd.int .i64) 3 w' w.heap.size (fun _ => True) v230 t229) ∧ Aside0 (Below w.heap.size w w'))
        case atStart => exact ⟨(x5_1), (0), (by first | rfl | (simp; done) | (simp [*]; done)), H', ⟨Nat.le_refl _⟩, ⟨rdm HO_5.out⟩, ⟨rdm HO231.out⟩, ⟨hbm HB.out⟩⟩
        case round =>
          clear H'
          try clear c2
          try clear p2
          try clear c3
          try clear c3b0
          try clear p2
          obtain ⟨x5_2, x8_2, rfl, HA, HK2, HO_5, HO_7, HB⟩ := hrel
          cases gk with
          | zero => exact absurd HA.out (by simp [hornbookref07_Build.l1])
          | succ k2 =>
            have H := HA.out
            clear HA
            simp only [hornbookref07_Build.l1] at H
            by_cases c6 : (wrap64 (x8_2 + 1)) < (t229.length : Int)
            · rw [if_pos c6] at H
              have c6b0 : decide ((wrap64 (x8_2 + 1)) < (t229.length : Int)) = true := decide_eq_true c6
              clear c6
              by_cases c7 : 0 ≤ x8_2
              · rw [if_pos c7] at H
                have c7b0 : decide (0 ≤ x8_2) = true := decide_eq_true c7
                clear c7
                by_cases c8 : x8_2 < (t229.length : Int)
                · rw [if_pos c8] at H
                  have c8b0 : decide (x8_2 < (t229.length : Int)) = true := decide_eq_true c8
                  clear c8
                  replace H := Option.bind_eq_some_iff.mp H
                  obtain ⟨⟨t233, t234⟩, A90, H⟩ := H
                  replace H : (if t234 = true then (if 0 ≤ (wrap64 (x8_2 + 1)) then (if (wrap64 ((x5_2.length : Int) - 1)) ≥ 0 then (if 0 ≤ (wrap64 ((x5_2.length : Int) - 1)) then (if (wrap64 ((x5_2.length : Int) - 1)) < (x5_2.length : Int) then ((hornbookref07_joins.f ((rd_T23 x5_2 (wrap64 ((x5_2.length : Int) - 1))).f0) ((rd_T23 x5_2 (wrap64 ((x5_2.length : Int) - 1))).f1) ((rd_T23 x5_2 (wrap64 ((x5_2.length : Int) - 1))).f2) ((rd_T23 x5_2 (wrap64 ((x5_2.length : Int) - 1))).f3) x6_1 (rd t229 x8_2) (wrap64 ((rd t229 (wrap64 (x8_2 + 1))) - 1)) t233 a1).bind fun t239 => (if t239 = true then ((some (([] : List (S23)) : List (S23))).bind fun y242 => (if (wrap64 ((x5_2.length : Int) - 1)) ≤ (x5_2.length : Int) then ((some (x5_2.take ((wrap64 ((x5_2.length : Int) - 1)) : Int).toNat : List (S23))).bind fun y245 => (if y242.length + y245.length < 4398046511104 then ((some (y242 ++ y245 : List (S23))).bind fun y249 => (if y249.length < 4398046511104 then (hornbookref07_Build.l1 k2 l0 a1 (y249 ++ [(⟨(rd_T23 x5_2 (wrap64 ((x5_2.length : Int) - 1))).f0, (rd_T23 x5_2 (wrap64 ((x5_2.length : Int) - 1))).f1, wrap64 ((rd t229 (wrap64 (x8_2 + 1))) - 1), (rd_T23 x5_2 (wrap64 ((x5_2.length : Int) - 1))).f3⟩ : S23)]) x6_1 t229 (wrap64 (x8_2 + 1))) else (none))) else (none))) else (none))) else (if x5_2.length < 4398046511104 then (hornbookref07_Build.l1 k2 l0 a1 (x5_2 ++ [(⟨x6_1, rd t229 x8_2, wrap64 ((rd t229 (wrap64 (x8_2 + 1))) - 1), t233⟩ : S23)]) x6_1 t229 (wrap64 (x8_2 + 1))) else (none)))) else (none)) else (none)) else (if x5_2.length < 4398046511104 then (hornbookref07_Build.l1 k2 l0 a1 (x5_2 ++ [(⟨x6_1, rd t229 x8_2, wrap64 ((rd t229 (wrap64 (x8_2 + 1))) - 1), t233⟩ : S23)]) x6_1 t229 (wrap64 (x8_2 + 1))) else (none))) else (none)) else (hornbookref07_Build.l1 k2 l0 a1 x5_2 x6_1 t229 (wrap64 (x8_2 + 1)))) = some r := H
                  have A9 := Aside0.mk A90
                  clear A90
                  by_cases c10 : t234 = true
                  · subst c10
                    have H1 : (if 0 ≤ (wrap64 (x8_2 + 1)) then (if (wrap64 ((x5_2.length : Int) - 1)) ≥ 0 then (if 0 ≤ (wrap64 ((x5_2.length : Int) - 1)) then (if (wrap64 ((x5_2.length : Int) - 1)) < (x5_2.length : Int) then ((hornbookref07_joins.f ((rd_T23 x5_2 (wrap64 ((x5_2.length : Int) - 1))).f0) ((rd_T23 x5_2 (wrap64 ((x5_2.length : Int) - 1))).f1) ((rd_T23 x5_2 (wrap64 ((x5_2.length : Int) - 1))).f2) ((rd_T23 x5_2 (wrap64 ((x5_2.length : Int) - 1))).f3) x6_1 (rd t229 x8_2) (wrap64 ((rd t229 (wrap64 (x8_2 + 1))) - 1)) t233 a1).bind fun t239 => (if t239 = true then ((some (([] : List (S23)) : List (S23))).bind fun y242 => (if (wrap64 ((x5_2.length : Int) - 1)) ≤ (x5_2.length : Int) then ((some (x5_2.take ((wrap64 ((x5_2.length : Int) - 1)) : Int).toNat : List (S23))).bind fun y245 => (if y242.length + y245.length < 4398046511104 then ((some (y242 ++ y245 : List (S23))).bind fun y249 => (if y249.length < 4398046511104 then (hornbookref07_Build.l1 k2 l0 a1 (y249 ++ [(⟨(rd_T23 x5_2 (wrap64 ((x5_2.length : Int) - 1))).f0, (rd_T23 x5_2 (wrap64 ((x5_2.length : Int) - 1))).f1, wrap64 ((rd t229 (wrap64 (x8_2 + 1))) - 1), (rd_T23 x5_2 (wrap64 ((x5_2.length : Int) - 1))).f3⟩ : S23)]) x6_1 t229 (wrap64 (x8_2 + 1))) else (none))) else (none))) else (none))) else (if x5_2.length < 4398046511104 then (hornbookref07_Build.l1 k2 l0 a1 (x5_2 ++ [(⟨x6_1, rd t229 x8_2, wrap64 ((rd t229 (wrap64 (x8_2 + 1))) - 1), t233⟩ : S23)]) x6_1 t229 (wrap64 (x8_2 + 1))) else (none)))) else (none)) else (none)) else (if x5_2.length < 4398046511104 then (hornbookref07_Build.l1 k2 l0 a1 (x5_2 ++ [(⟨x6_1, rd t229 x8_2, wrap64 ((rd t229 (wrap64 (x8_2 + 1))) - 1), t233⟩ : S23)]) x6_1 t229 (wrap64 (x8_2 + 1))) else (none))) else (none)) = some r := by rw [if_pos rfl] at H; exact H
                    clear H
                    have H := H1
                    clear H1
                    obtain ⟨ji11, hji11⟩ : ∃ j_ : Int, (wrap64 (x8_2 + 1)) = j_ := ⟨_, rfl⟩
                    replace H : (if 0 ≤ (ji11) then (if (wrap64 ((x5_2.length : Int) - 1)) ≥ 0 then (if 0 ≤ (wrap64 ((x5_2.length : Int) - 1)) then (if (wrap64 ((x5_2.length : Int) - 1)) < (x5_2.length : Int) then ((hornbookref07_joins.f ((rd_T23 x5_2 (wrap64 ((x5_2.length : Int) - 1))).f0) ((rd_T23 x5_2 (wrap64 ((x5_2.length : Int) - 1))).f1) ((rd_T23 x5_2 (wrap64 ((x5_2.length : Int) - 1))).f2) ((rd_T23 x5_2 (wrap64 ((x5_2.length : Int) - 1))).f3) x6_1 (rd t229 x8_2) (wrap64 ((rd t229 (ji11)) - 1)) t233 a1).bind fun t239 => (if t239 = true then ((some (([] : List (S23)) : List (S23))).bind fun y242 => (if (wrap64 ((x5_2.length : Int) - 1)) ≤ (x5_2.length : Int) then ((some (x5_2.take ((wrap64 ((x5_2.length : Int) - 1)) : Int).toNat : List (S23))).bind fun y245 => (if y242.length + y245.length < 4398046511104 then ((some (y242 ++ y245 : List (S23))).bind fun y249 => (if y249.length < 4398046511104 then (hornbookref07_Build.l1 k2 l0 a1 (y249 ++ [(⟨(rd_T23 x5_2 (wrap64 ((x5_2.length : Int) - 1))).f0, (rd_T23 x5_2 (wrap64 ((x5_2.length : Int) - 1))).f1, wrap64 ((rd t229 (ji11)) - 1), (rd_T23 x5_2 (wrap64 ((x5_2.length : Int) - 1))).f3⟩ : S23)]) x6_1 t229 ji11) else (none))) else (none))) else (none))) else (if x5_2.length < 4398046511104 then (hornbookref07_Build.l1 k2 l0 a1 (x5_2 ++ [(⟨x6_1, rd t229 x8_2, wrap64 ((rd t229 (ji11)) - 1), t233⟩ : S23)]) x6_1 t229 ji11) else (none)))) else (none)) else (none)) else (if x5_2.length < 4398046511104 then (hornbookref07_Build.l1 k2 l0 a1 (x5_2 ++ [(⟨x6_1, rd t229 x8_2, wrap64 ((rd t229 (ji11)) - 1), t233⟩ : S23)]) x6_1 t229 ji11) else (none))) else (none)) = some r := by first | (rw [hji11] at H; exact H) | (simp only [hji11] at H ⊢; exact H)
                    (try rw [hji11] at c6b0)
                    (try rw [hji11] at A9)
                    have hji11w : (IntKind.i64.wrap (x8_2 + 1)) = ji11 := (i64_w _).trans hji11
                    by_cases c12 : 0 ≤ (ji11)
                    · rw [if_pos c12] at H
                      have c12b0 : decide (0 ≤ (ji11)) = true := decide_eq_true c12
                      clear c12
                      by_cases c13 : (wrap64 ((x5_2.length : Int) - 1)) ≥ 0
                      · rw [if_pos c13] at H
                        have c13b0 : decide (0 ≤ (wrap64 ((x5_2.length : Int) - 1))) = true := decide_eq_true c13
                        clear c13
                        obtain ⟨ji14, hji14⟩ : ∃ j_ : Int, (wrap64 ((x5_2.length : Int) - 1)) = j_ := ⟨_, rfl⟩
                        replace H : (if 0 ≤ (ji14) then (if (ji14) < (x5_2.length : Int) then ((hornbookref07_joins.f ((rd_T23 x5_2 (ji14)).f0) ((rd_T23 x5_2 (ji14)).f1) ((rd_T23 x5_2 (ji14)).f2) ((rd_T23 x5_2 (ji14)).f3) x6_1 (rd t229 x8_2) (wrap64 ((rd t229 (ji11)) - 1)) t233 a1).bind fun t239 => (if t239 = true then ((some (([] : List (S23)) : List (S23))).bind fun y242 => (if (ji14) ≤ (x5_2.length : Int) then ((some (x5_2.take ((ji14) : Int).toNat : List (S23))).bind fun y245 => (if y242.length + y245.length < 4398046511104 then ((some (y242 ++ y245 : List (S23))).bind fun y249 => (if y249.length < 4398046511104 then (hornbookref07_Build.l1 k2 l0 a1 (y249 ++ [(⟨(rd_T23 x5_2 (ji14)).f0, (rd_T23 x5_2 (ji14)).f1, wrap64 ((rd t229 (ji11)) - 1), (rd_T23 x5_2 (ji14)).f3⟩ : S23)]) x6_1 t229 ji11) else (none))) else (none))) else (none))) else (if x5_2.length < 4398046511104 then (hornbookref07_Build.l1 k2 l0 a1 (x5_2 ++ [(⟨x6_1, rd t229 x8_2, wrap64 ((rd t229 (ji11)) - 1), t233⟩ : S23)]) x6_1 t229 ji11) else (none)))) else (none)) else (none)) = some r := by first | (rw [hji14] at H; exact H) | (simp only [hji14] at H ⊢; exact H)
                        (try rw [hji14] at c13b0)
                        (try rw [hji14] at A9)
                        have hji14w : (IntKind.i64.wrap ((x5_2.length : Int) - 1)) = ji14 := (i64_w _).trans hji14
                        by_cases c15 : 0 ≤ (ji14)
                        · rw [if_pos c15] at H
                          have c15b0 : decide (0 ≤ (ji14)) = true := decide_eq_true c15
                          clear c15
                          by_cases c16 : (ji14) < (x5_2.length : Int)
                          · rw [if_pos c16] at H
                            have c16b0 : decide ((ji14) < (x5_2.length : Int)) = true := decide_eq_true c16
                            clear c16
                            replace H := Option.bind_eq_some_iff.mp H
                            obtain ⟨t239, A170, H⟩ := H
                            replace H : (if t239 = true then ((some (([] : List (S23)) : List (S23))).bind fun y242 => (if (ji14) ≤ (x5_2.length : Int) then ((some (x5_2.take ((ji14) : Int).toNat : List (S23))).bind fun y245 => (if y242.length + y245.length < 4398046511104 then ((some (y242 ++ y245 : List (S23))).bind fun y249 => (if y249.length < 4398046511104 then (hornbookref07_Build.l1 k2 l0 a1 (y249 ++ [(⟨(rd_T23 x5_2 (ji14)).f0, (rd_T23 x5_2 (ji14)).f1, wrap64 ((rd t229 (ji11)) - 1), (rd_T23 x5_2 (ji14)).f3⟩ : S23)]) x6_1 t229 ji11) else (none))) else (none))) else (none))) else (if x5_2.length < 4398046511104 then (hornbookref07_Build.l1 k2 l0 a1 (x5_2 ++ [(⟨x6_1, rd t229 x8_2, wrap64 ((rd t229 (ji11)) - 1), t233⟩ : S23)]) x6_1 t229 ji11) else (none))) = some r := H
                            have A17 := Aside0.mk A170
                            clear A170
                            by_cases c18 : t239 = true
                            · subst c18
                              have H1 : ((some (([] : List (S23)) : List (S23))).bind fun y242 => (if (ji14) ≤ (x5_2.length : Int) then ((some (x5_2.take ((ji14) : Int).toNat : List (S23))).bind fun y245 => (if y242.length + y245.length < 4398046511104 then ((some (y242 ++ y245 : List (S23))).bind fun y249 => (if y249.length < 4398046511104 then (hornbookref07_Build.l1 k2 l0 a1 (y249 ++ [(⟨(rd_T23 x5_2 (ji14)).f0, (rd_T23 x5_2 (ji14)).f1, wrap64 ((rd t229 (ji11)) - 1), (rd_T23 x5_2 (ji14)).f3⟩ : S23)]) x6_1 t229 ji11) else (none))) else (none))) else (none))) = some r := by rw [if_pos rfl] at H; exact H
                              clear H
                              have H := H1
                              clear H1
                              obtain ⟨y242, hy242⟩ : ∃ y_ : List (S23), y_ = (([] : List (S23))) := ⟨_, rfl⟩
                              replace H : (if (ji14) ≤ (x5_2.length : Int) then ((some (x5_2.take ((ji14) : Int).toNat : List (S23))).bind fun y245 => (if y242.length + y245.length < 4398046511104 then ((some (y242 ++ y245 : List (S23))).bind fun y249 => (if y249.length < 4398046511104 then (hornbookref07_Build.l1 k2 l0 a1 (y249 ++ [(⟨(rd_T23 x5_2 (ji14)).f0, (rd_T23 x5_2 (ji14)).f1, wrap64 ((rd t229 (ji11)) - 1), (rd_T23 x5_2 (ji14)).f3⟩ : S23)]) x6_1 t229 ji11) else (none))) else (none))) else (none)) = some r := by first | (rw [hy242]; with_reducible exact H) | (have H2_ := (Option.bind_some _ _).symm.trans H; rw [hy242]; with_reducible exact H2_) | (have H2_ := (Option.bind_some _ _).symm.trans H; with_reducible exact H2_) | with_reducible exact H | (rw [hy242]; exact H) | exact H
                              have Ny242 := Aside0.mk hy242
                              clear hy242
                              have c19b0 := eq_true (odt : 0 ≤ (ji14))
                              by_cases c20 : (ji14) ≤ (x5_2.length : Int)
                              · rw [if_pos c20] at H
                                have c20b0 := eq_true c20
                                have c20b1 : decide ((ji14) ≤ (x5_2.length : Int)) = true := decide_eq_true c20
                                clear c20
                                obtain ⟨y245, hy245⟩ : ∃ y_ : List (S23), y_ = (x5_2.take ((ji14) : Int).toNat) := ⟨_, rfl⟩
                                replace H : (if y242.length + y245.length < 4398046511104 then ((some (y242 ++ y245 : List (S23))).bind fun y249 => (if y249.length < 4398046511104 then (hornbookref07_Build.l1 k2 l0 a1 (y249 ++ [(⟨(rd_T23 x5_2 (ji14)).f0, (rd_T23 x5_2 (ji14)).f1, wrap64 ((rd t229 (ji11)) - 1), (rd_T23 x5_2 (ji14)).f3⟩ : S23)]) x6_1 t229 ji11) else (none))) else (none)) = some r := by first | (rw [hy245]; with_reducible exact H) | (have H2_ := (Option.bind_some _ _).symm.trans H; rw [hy245]; with_reducible exact H2_) | (have H2_ := (Option.bind_some _ _).symm.trans H; with_reducible exact H2_) | with_reducible exact H | (rw [hy245]; exact H) | exact H
                                have Ny245 := Aside0.mk hy245
                                clear hy245
                                by_cases c21 : y242.length + y245.length < 4398046511104
                                · rw [if_pos c21] at H
                                  have LMc21 := Aside0.mk c21
                                  clear c21
                                  obtain ⟨y249, hy249⟩ : ∃ y_ : List (S23), y_ = (y242 ++ y245) := ⟨_, rfl⟩
                                  replace H : (if y249.length < 4398046511104 then (hornbookref07_Build.l1 k2 l0 a1 (y249 ++ [(⟨(rd_T23 x5_2 (ji14)).f0, (rd_T23 x5_2 (ji14)).f1, wrap64 ((rd t229 (ji11)) - 1), (rd_T23 x5_2 (ji14)).f3⟩ : S23)]) x6_1 t229 ji11) else (none)) = some r := by first | (rw [hy249]; with_reducible exact H) | (have H2_ := (Option.bind_some _ _).symm.trans H; rw [hy249]; with_reducible exact H2_) | (have H2_ := (Option.bind_some _ _).symm.trans H; with_reducible exact H2_) | with_reducible exact H | (rw [hy249]; exact H) | exact H
                                  have Ny249 := Aside0.mk hy249
                                  clear hy249
                                  by_cases c22 : y249.length < 4398046511104
                                  · rw [if_pos c22] at H
                                    have LMc22 := Aside0.mk c22
                                    clear c22
                                    obtain ⟨y252, hy252⟩ : ∃ y_ : List (S23), y_ = (y249 ++ [(⟨(rd_T23 x5_2 (ji14)).f0, (rd_T23 x5_2 (ji14)).f1, wrap64 ((rd t229 (ji11)) - 1), (rd_T23 x5_2 (ji14)).f3⟩ : S23)]) := ⟨_, rfl⟩
                                    replace H : (hornbookref07_Build.l1 k2 l0 a1 y252 x6_1 t229 ji11) = some r := by first | (rw [hy252]; with_reducible exact H) | (have H2_ := (Option.bind_some _ _).symm.trans H; rw [hy252]; with_reducible exact H2_) | (have H2_ := (Option.bind_some _ _).symm.trans H; with_reducible exact H2_) | with_reducible exact H | (rw [hy252]; exact H) | exact H
                                    have Ny252 := Aside0.mk hy252
                                    clear hy252
                                    have H' := Aside0.mk H
                                    clear H
                                    obtain ⟨Ao23, co23, eo23⟩ := Kd.R_slice HO_7.out
                                    subst eo23
                                    have p232 : 0 ≤ (x8_2 : Int) := odt
                                    have q232 : x8_2 < (t229.length : Int) := odt
                                    obtain ⟨ad232, e232, hx232_0⟩ := Kd.at_int (Kd.R_reads' HO_7.out).2.2 x8_2 p232 q232
                                    cases e232
                                    replace p232 := eq_true p232
                                    replace q232 := eq_true q232
                                    try go_wp2_with (first | ((with_reducible refine gate_callee (f := 19) rfl ?_); refine goesL_ (some 39) rfl rfl Try.func19 (by kernel_rfl) rfl #[.slice A0 l0.length c0, .agg #[.int .i64 x6_1, .int .i64 (rd t229 x8_2)], .bool a1] rfl (by (try simp only [List.map_toArray, List.map_cons, List.map_nil]); first | done | rfl | (simp only [List.length_drop, List.length_take]; rfl)) ?_; (with_reducible refine (hornbookref07_Last.calls k2 _ _ l0 x6_1 (rd t229 x8_2) a1 t233 true _ ?side1 ?side2 A9.out).mono ?_); (case side1 => repeat (first | exact (Kd.C_below HR0.out HB.out) | (with_reducible refine Kd.C_alloc ?_ _) | (with_reducible refine Kd.C_drewN ?_ _) | (with_reducible refine Kd.C_drew ?_))); (case side2 => exact HC0.out); rintro e w24 ⟨rfl, hb⟩; refine ⟨_, rfl, ?_⟩; have n0_ := Aside0.mk (Kd.R_below (rdm HO_5.out) hb); have n1_ := Aside0.mk (Kd.R_below (rdm HO_7.out) hb); have n2_ := Aside0.mk (below_step (hbm HB.out) hb); clear HO_5; clear HO_7; clear HB; have HO_5 := n0_; have HO_7 := n1_; have HB := n2_; clear n0_ n1_ n2_; (try clear hb); (try clear hb2); (try clear hk); (try clear hi)))
                                    have n0_ := Aside0.mk (Kd.R_drew HO_5.out)
                                    have n1_ := Aside0.mk (Kd.R_drew HO_7.out)
                                    have n2_ := Aside0.mk (below_drew1 HB.out)
                                    clear HO_5
                                    clear HO_7
                                    clear HB
                                    have HO_5 := n0_
                                    have HO_7 := n1_
                                    have HB := n2_
                                    clear n0_ n1_ n2_
                                    have p235 : 0 ≤ (x8_2 : Int) := odt
                                    have q235 : x8_2 < (t229.length : Int) := odt
                                    obtain ⟨ad235, e235, hx235_0⟩ := Kd.at_int (Kd.R_reads' HO_7.out).2.2 x8_2 p235 q235
                                    obtain rfl : ad232 = ad235 := (by injection e235)
                                    replace p235 := eq_true p235
                                    replace q235 := eq_true q235
                                    have p236 : 0 ≤ ((ji11) : Int) := odt
                                    have q236 : (ji11) < (t229.length : Int) := odt
                                    obtain ⟨ad236, e236, hx236_0⟩ := Kd.at_int (Kd.R_reads' HO_7.out).2.2 (ji11) p236 q236
                                    obtain rfl : ad232 = ad236 := (by injection e236)
                                    replace p236 := eq_true p236
                                    replace q236 := eq_true q236
                                    refine start_ (n := 15) (S := fun w' => w'.cell? (ad232.add (x8_2).toNat) = some (.int .i64 (rd t229 x8_2)) ∧ w'.cell? (ad232.add ((ji11)).toNat) = some (.int .i64 (rd t229 (ji11)))) (ds := []) #[false, false, false, false, false, false, false, false, false, false, false, false, false, false, false] (by kernel_rfl) rfl rfl ⟨hx235_0, hx236_0⟩ (fun hHeld => ?_); refine with_tabW hornbookref07_Build.tab11 hornbookref07_Build.bits11 (fun HT_ HW_ => ?_)
                                    generalize w24.drew = w25 at HO_5 HO_7 HB hx235_0 hx236_0 hHeld ⊢
                                    refine pure_ (i := 0) (N := some 44) (v := ?_) (a' := ?_) #[true, false, false, false, false, false, false, false, false, false, false, false, false, false, false] rfl rfl (any_of HT_.out (by kernel_rfl)) (fun _ _ _ h => h) (Or.inl ⟨by rfl, ?_⟩) ?_ ?_
                                    rotate_left
                                    · intro w'
                                      go_simp
                                      with_reducible rfl
                                    rotate_left
                                    · simp only [Act.put, List.setIfInBounds_toArray, List.set_cons_zero, List.set_cons_succ, i64_w, i32_w]
                                      rfl
                                    refine pure_ (i := 1) (N := some 45) (v := ?_) (a' := ?_) #[true, true, false, false, false, false, false, false, false, false, false, false, false, false, false] rfl rfl (any_of HT_.out (by kernel_rfl)) (fun _ _ _ h => h) (Or.inl ⟨by rfl, ?_⟩) ?_ ?_
                                    rotate_left
                                    · intro w'
                                      go_simp
                                      with_reducible rfl
                                    rotate_left
                                    · simp only [Act.put, List.setIfInBounds_toArray, List.set_cons_zero, List.set_cons_succ, i64_w, i32_w]
                                      rfl
                                    refine pure_ (i := 2) (N := some 46) (v := ?_) (a' := ?_) #[true, true, true, false, false, false, false, false, false, false, false, false, false, false, false] rfl rfl (any_of HT_.out (by kernel_rfl)) (fun _ _ _ h => h) (Or.inl ⟨by rfl, ?_⟩) ?_ ?_
                                    rotate_left
                                    · intro w'
                                      go_simp
                                      with_reducible rfl
                                    rotate_left
                                    · simp only [Act.put, List.setIfInBounds_toArray, List.set_cons_zero, List.set_cons_succ, i64_w, i32_w]
                                      rfl
                                    refine pure_ (i := 3) (N := some 47) (v := ?_) (a' := ?_) #[true, true, true, true, false, false, false, false, false, false, false, false, false, false, false] rfl rfl (any_of HT_.out (by kernel_rfl)) (fun _ _ _ h => h) (Or.inl ⟨by rfl, ?_⟩) ?_ ?_
                                    rotate_left
                                    · intro w'
                                      go_simp
                                      with_reducible rfl
                                    rotate_left
                                    · simp only [Act.put, List.setIfInBounds_toArray, List.set_cons_zero, List.set_cons_succ, i64_w, i32_w]
                                      rfl
                                    refine pure_ (i := 5) (N := some 49) (v := ?_) (a' := ?_) #[true, true, true, true, false, true, false, false, false, false, false, false, false, false, false] rfl rfl (any_of HT_.out (by kernel_rfl)) (fun _ _ _ h => h) (Or.inl ⟨by rfl, ?_⟩) ?_ ?_
                                    rotate_left
                                    · intro w'
                                      go_simp
                                      with_reducible rfl
                                    rotate_left
                                    · simp only [Act.put, List.setIfInBounds_toArray, List.set_cons_zero, List.set_cons_succ, i64_w, i32_w]
                                      rfl
                                    refine pure_ (i := 6) (N := some 50) (v := ?_) (a' := ?_) #[true, true, true, true, false, true, true, false, false, false, false, false, false, false, false] rfl rfl (any_of HT_.out (by kernel_rfl)) (fun _ _ _ h => h) (Or.inl ⟨by rfl, ?_⟩) ?_ ?_
                                    rotate_left
                                    · intro w'
                                      go_simp
                                      with_reducible rfl
                                    rotate_left
                                    · simp only [Act.put, List.setIfInBounds_toArray, List.set_cons_zero, List.set_cons_succ, i64_w, i32_w]
                                      rfl
                                    refine pure_ (i := 7) (N := some 51) (v := ?_) (a' := ?_) #[true, true, true, true, false, true, true, true, false, false, false, false, false, false, false] rfl rfl (any_of HT_.out (by kernel_rfl)) (fun _ _ _ h => h) (Or.inl ⟨by rfl, ?_⟩) ?_ ?_
                                    rotate_left
                                    · intro w'
                                      go_simp
                                      with_reducible rfl
                                    rotate_left
                                    · simp only [Act.put, List.setIfInBounds_toArray, List.set_cons_zero, List.set_cons_succ, i64_w, i32_w]
                                      rfl
                                    refine pure_ (i := 8) (N := some 52) (v := ?_) (a' := ?_) #[true, true, true, true, false, true, true, true, true, false, false, false, false, false, false] rfl rfl (any_of HT_.out (by kernel_rfl)) (fun _ _ _ h => h) (Or.inl ⟨by rfl, ?_⟩) ?_ ?_
                                    rotate_left
                                    · intro w'
                                      go_simp
                                      with_reducible rfl
                                    rotate_left
                                    · simp only [Act.put, List.setIfInBounds_toArray, List.set_cons_zero, List.set_cons_succ, i64_w, i32_w]
                                      rfl
                                    refine pure_ (i := 11) (N := some 55) (v := ?_) (a' := ?_) #[true, true, true, true, false, true, true, true, true, false, false, true, false, false, false] rfl rfl (any_of HT_.out (by kernel_rfl)) (fun _ _ _ h => h) (Or.inl ⟨by rfl, ?_⟩) ?_ ?_
                                    rotate_left
                                    · intro w'
                                      go_simp
                                      with_reducible rfl
                                    rotate_left
                                    · simp only [Act.put, List.setIfInBounds_toArray, List.set_cons_zero, List.set_cons_succ, i64_w, i32_w]
                                      rfl
                                    refine take_ (i := 4) (N := some 48) (v := ?_) (a' := ?_) #[true, true, true, true, true, true, true, true, true, false, false, true, false, false, false] rfl rfl (take_ofW HT_.out HW_.out (by kernel_rfl)) (fun _ _ _ h => h) (Or.inl ⟨by rfl, ?_⟩) hHeld ?_ ?_
                                    rotate_left
                                    · rintro w' ⟨s0, s1⟩
                                      go_simp
                                      with_reducible rfl
                                    rotate_left
                                    · simp only [Act.put, List.setIfInBounds_toArray, List.set_cons_zero, List.set_cons_succ, i64_w, i32_w]
                                      rfl
                                    refine take_ (i := 9) (N := some 53) (v := ?_) (a' := ?_) #[true, true, true, true, true, true, true, true, true, true, false, true, false, false, false] rfl rfl (take_ofW HT_.out HW_.out (by kernel_rfl)) (fun _ _ _ h => h) (Or.inl ⟨by rfl, ?_⟩) hHeld ?_ ?_
                                    rotate_left
                                    · rintro w' ⟨s0, s1⟩
                                      go_simp
                                      with_reducible rfl
                                    rotate_left
                                    · simp only [Act.put, List.setIfInBounds_toArray, List.set_cons_zero, List.set_cons_succ, i64_w, i32_w]
                                      rfl
                                    refine pure_ (i := 10) (N := some 54) (v := ?_) (a' := ?_) #[true, true, true, true, true, true, true, true, true, true, true, true, false, false, false] rfl rfl (any_of HT_.out (by kernel_rfl)) (fun _ _ _ h => h) (Or.inl ⟨by rfl, ?_⟩) ?_ ?_
                                    rotate_left
                                    · intro w'
                                      go_simp
                                      with_reducible rfl
                                    rotate_left
                                    · simp only [Act.put, List.setIfInBounds_toArray, List.set_cons_zero, List.set_cons_succ, i64_w, i32_w]
                                      rfl
                                    refine pure_ (i := 12) (N := some 56) (v := ?_) (a' := ?_) #[true, true, true, true, true, true, true, true, true, true, true, true, true, false, false] rfl rfl (any_of HT_.out (by kernel_rfl)) (fun _ _ _ h => h) (Or.inl ⟨by rfl, ?_⟩) ?_ ?_
                                    rotate_left
                                    · intro w'
                                      go_simp
                                      with_reducible rfl
                                    rotate_left
                                    · simp only [Act.put, List.setIfInBounds_toArray, List.set_cons_zero, List.set_cons_succ, i64_w, i32_w]
                                      rfl
                                    refine one_ (i := 13) (N := some 11) #[true, true, true, true, true, true, true, true, true, true, true, true, true, true, false] rfl rfl (one_of HT_.out (by kernel_rfl)) (by decide) (fun K hK => ?_)
                                    refine box_step ?hg (N := 11) ?hd (cs := #[.int .i64 0, .int .i64 0, .int .i64 0, .int .i64 0]) (t := 23) ?hr ?_; (case hd => rfl); (case hg => rfl); (case hr => first | (go_simp; done) | (go_simp; rfl))
                                    intro gb237 hg w26 hbox hb
                                    have HS0_ := (hb.cell (World.block_lt_of_cell? _ _ (hHeld.1))).trans (hHeld.1)
                                    have HS1_ := (hb.cell (World.block_lt_of_cell? _ _ (hHeld.2))).trans (hHeld.2)
                                    have n0_ := Aside0.mk (Kd.R_below (Kd.R_elderB (rdm HO_5.out) gb237 (Nat.le_of_eq hg.symm)) hb)
                                    have n1_ := Aside0.mk (Kd.R_below (rdm HO_7.out) hb)
                                    have n2_ := Aside0.mk (below_step (hbm HB.out) hb)
                                    have n3_ := Aside0.mk (hbox)
                                    have n4_ := Aside0.mk ((by rw [hg]; exact (below_size (hbm HB.out)) : w.heap.size ≤ gb237))
                                    have n5_ := Aside0.mk ((by rw [hg]; exact (below_size (hbm HB.out)) : w.heap.size ≤ gb237))
                                    clear HO_5
                                    clear HO_7
                                    clear HB
                                    have HO_5 := n0_
                                    have HO_7 := n1_
                                    have HB := n2_
                                    have BK237 := n3_
                                    have GW237 := n4_
                                    have GE237 := n5_
                                    clear n0_ n1_ n2_ n3_ n4_ n5_
                                    clear hb hbox hg
                                    refine hK.out _ _ ⟨HS0_, HS1_⟩ (fun hHeld => ?_)
                                    clear hK K
                                    refine norm_ (a' := ?_) ?_ ?_
                                    rotate_left
                                    · show Act.put _ (some 11) _ = _
                                      simp only [Act.put, List.setIfInBounds_toArray, List.set_cons_zero, List.set_cons_succ, i64_w, i32_w]
                                      rfl
                                    refine one_ (i := 14) (N := none) #[true, true, true, true, true, true, true, true, true, true, true, true, true, true, true] rfl rfl (one_of HT_.out (by kernel_rfl)) (by decide) (fun K hK => ?_)
                                    have hs27 : w26.cell? ⟨gb237, 0, none⟩ = some (.int .i64 0) := (blk_cell BK237.out 0).trans rfl
                                    have hfs27 := blk_frozen BK237.out 0
                                    have hs28 : w26.cell? ⟨gb237, 1, none⟩ = some (.int .i64 0) := (blk_cell BK237.out 1).trans rfl
                                    have hfs28 := blk_frozen BK237.out 1
                                    have hs29 : w26.cell? ⟨gb237, 2, none⟩ = some (.int .i64 0) := (blk_cell BK237.out 2).trans rfl
                                    have hfs29 := blk_frozen BK237.out 2
                                    have hs30 : w26.cell? ⟨gb237, 3, none⟩ = some (.int .i64 0) := (blk_cell BK237.out 3).trans rfl
                                    have hfs30 := blk_frozen BK237.out 3
                                    refine skip_ (w1 := ?_) (by rfl) rfl ?_ ?_
                                    rotate_left
                                    · go_simp
                                      rfl
                                    refine hK.out _ _ ⟨((cell_far (p := ⟨gb237, _, none⟩) (by first | exact Kd.own_blk (Kd.R_ne HO_7.out BK237.out (by decide)) | (rw [add_block]; exact Kd.own_blk (Kd.R_ne HO_7.out BK237.out (by decide))) | (show (Addr.add _ _).block ≠ _; rw [add_block]; exact Kd.own_blk (Kd.R_ne HO_7.out BK237.out (by decide))) | (dsimp only; exact Kd.own_blk (Kd.R_ne HO_7.out BK237.out (by decide)))) _).trans (((cell_far (p := ⟨gb237, _, none⟩) (by first | exact Kd.own_blk (Kd.R_ne HO_7.out BK237.out (by decide)) | (rw [add_block]; exact Kd.own_blk (Kd.R_ne HO_7.out BK237.out (by decide))) | (show (Addr.add _ _).block ≠ _; rw [add_block]; exact Kd.own_blk (Kd.R_ne HO_7.out BK237.out (by decide))) | (dsimp only; exact Kd.own_blk (Kd.R_ne HO_7.out BK237.out (by decide)))) _).trans (((cell_far (p := ⟨gb237, _, none⟩) (by first | exact Kd.own_blk (Kd.R_ne HO_7.out BK237.out (by decide)) | (rw [add_block]; exact Kd.own_blk (Kd.R_ne HO_7.out BK237.out (by decide))) | (show (Addr.add _ _).block ≠ _; rw [add_block]; exact Kd.own_blk (Kd.R_ne HO_7.out BK237.out (by decide))) | (dsimp only; exact Kd.own_blk (Kd.R_ne HO_7.out BK237.out (by decide)))) _).trans (((cell_far (p := ⟨gb237, _, none⟩) (by first | exact Kd.own_blk (Kd.R_ne HO_7.out BK237.out (by decide)) | (rw [add_block]; exact Kd.own_blk (Kd.R_ne HO_7.out BK237.out (by decide))) | (show (Addr.add _ _).block ≠ _; rw [add_block]; exact Kd.own_blk (Kd.R_ne HO_7.out BK237.out (by decide))) | (dsimp only; exact Kd.own_blk (Kd.R_ne HO_7.out BK237.out (by decide)))) _).trans (hHeld.1)))))))), ((cell_far (p := ⟨gb237, _, none⟩) (by first | exact Kd.own_blk (Kd.R_ne HO_7.out BK237.out (by decide)) | (rw [add_block]; exact Kd.own_blk (Kd.R_ne HO_7.out BK237.out (by decide))) | (show (Addr.add _ _).block ≠ _; rw [add_block]; exact Kd.own_blk (Kd.R_ne HO_7.out BK237.out (by decide))) | (dsimp only; exact Kd.own_blk (Kd.R_ne HO_7.out BK237.out (by decide)))) _).trans (((cell_far (p := ⟨gb237, _, none⟩) (by first | exact Kd.own_blk (Kd.R_ne HO_7.out BK237.out (by decide)) | (rw [add_block]; exact Kd.own_blk (Kd.R_ne HO_7.out BK237.out (by decide))) | (show (Addr.add _ _).block ≠ _; rw [add_block]; exact Kd.own_blk (Kd.R_ne HO_7.out BK237.out (by decide))) | (dsimp only; exact Kd.own_blk (Kd.R_ne HO_7.out BK237.out (by decide)))) _).trans (((cell_far (p := ⟨gb237, _, none⟩) (by first | exact Kd.own_blk (Kd.R_ne HO_7.out BK237.out (by decide)) | (rw [add_block]; exact Kd.own_blk (Kd.R_ne HO_7.out BK237.out (by decide))) | (show (Addr.add _ _).block ≠ _; rw [add_block]; exact Kd.own_blk (Kd.R_ne HO_7.out BK237.out (by decide))) | (dsimp only; exact Kd.own_blk (Kd.R_ne HO_7.out BK237.out (by decide)))) _).trans (((cell_far (p := ⟨gb237, _, none⟩) (by first | exact Kd.own_blk (Kd.R_ne HO_7.out BK237.out (by decide)) | (rw [add_block]; exact Kd.own_blk (Kd.R_ne HO_7.out BK237.out (by decide))) | (show (Addr.add _ _).block ≠ _; rw [add_block]; exact Kd.own_blk (Kd.R_ne HO_7.out BK237.out (by decide))) | (dsimp only; exact Kd.own_blk (Kd.R_ne HO_7.out BK237.out (by decide)))) _).trans (hHeld.2))))))))⟩ (fun hHeld => ?_)
                                    clear hK K
                                    refine done_ (done_of HT_.out (by kernel_rfl)) ?_
                                    obtain ⟨Ao31, co31, eo31⟩ := Kd.R_slice HO_5.out
                                    subst eo31
                                    try go_wp2
                                    have n0_ : Aside0 (Kd.R k23 23 ((((w26.setCell ⟨gb237, 0, none⟩ (.int .i64 x6_1)).setCell ⟨gb237, 1, none⟩ (.int .i64 (rd t229 x8_2))).setCell ⟨gb237, 2, none⟩ (.int .i64 (wrap64 ((rd t229 (ji11)) - 1)))).setCell ⟨gb237, 3, none⟩ (.int .i64 t233)) w.heap.size (fun k_ => k_ ≠ gb237) (.slice Ao31 x5_2.length co31) x5_2) := ⟨by (with_reducible repeat (first | apply Kd.R_alloc | apply Kd.R_drewN | apply Kd.R_drew)); exact Kd.R_mono (Kd.R_far (p := ⟨gb237, 3, none⟩) (Kd.R_far (p := ⟨gb237, 2, none⟩) (Kd.R_far (p := ⟨gb237, 1, none⟩) (Kd.R_far (p := ⟨gb237, 0, none⟩) (Kd.R_mono HO_5.out (fun k_ hk => (⟨hk, hk.2⟩ : _ ∧ k_ ≠ gb237))) (fun _ hk => hk.2) (.int .i64 x6_1)) (fun _ hk => hk.2) (.int .i64 (rd t229 x8_2))) (fun _ hk => hk.2) (.int .i64 (wrap64 ((rd t229 (ji11)) - 1)))) (fun _ hk => hk.2) (.int .i64 t233)) (fun _ hk => hk.1.2)⟩
                                    have n1_ : Aside0 (Kd.R (Kd.int .i64) 3 ((((w26.setCell ⟨gb237, 0, none⟩ (.int .i64 x6_1)).setCell ⟨gb237, 1, none⟩ (.int .i64 (rd t229 x8_2))).setCell ⟨gb237, 2, none⟩ (.int .i64 (wrap64 ((rd t229 (ji11)) - 1)))).setCell ⟨gb237, 3, none⟩ (.int .i64 t233)) w.heap.size (fun _ => True) (.slice (some ad232) t229.length co23) t229) := ⟨by (with_reducible repeat (first | apply Kd.R_alloc | apply Kd.R_drewN | apply Kd.R_drew)); exact Kd.R_mono (Kd.R_far (p := ⟨gb237, 3, none⟩) (Kd.R_far (p := ⟨gb237, 2, none⟩) (Kd.R_far (p := ⟨gb237, 1, none⟩) (Kd.R_far (p := ⟨gb237, 0, none⟩) (Kd.R_types HO_7.out BK237.out (by decide)) (fun _ hk => hk.2) (.int .i64 x6_1)) (fun _ hk => hk.2) (.int .i64 (rd t229 x8_2))) (fun _ hk => hk.2) (.int .i64 (wrap64 ((rd t229 (ji11)) - 1)))) (fun _ hk => hk.2) (.int .i64 t233)) (fun _ hk => trivial)⟩
                                    have n2_ : Aside0 (((((w26.setCell ⟨gb237, 0, none⟩ (.int .i64 x6_1)).setCell ⟨gb237, 1, none⟩ (.int .i64 (rd t229 x8_2))).setCell ⟨gb237, 2, none⟩ (.int .i64 (wrap64 ((rd t229 (ji11)) - 1)))).setCell ⟨gb237, 3, none⟩ (.int .i64 t233)).heap[gb237]? = some (.cells #[.int .i64 x6_1, .int .i64 (rd t229 x8_2), .int .i64 (wrap64 ((rd t229 (ji11)) - 1)), .int .i64 t233] 23 (0, 0))) := ⟨by (with_reducible repeat (first | refine blk_drewN ?_ _ | refine blk_drew ?_ | refine blk_alloc ?_ _)); refine blk_put (cs := #[.int .i64 x6_1, .int .i64 (rd t229 x8_2), .int .i64 (wrap64 ((rd t229 (ji11)) - 1)), .int .i64 0]) ?_ 3 _ rfl; (with_reducible repeat (first | refine blk_drewN ?_ _ | refine blk_drew ?_ | refine blk_alloc ?_ _)); refine blk_put (cs := #[.int .i64 x6_1, .int .i64 (rd t229 x8_2), .int .i64 0, .int .i64 0]) ?_ 2 _ rfl; (with_reducible repeat (first | refine blk_drewN ?_ _ | refine blk_drew ?_ | refine blk_alloc ?_ _)); refine blk_put (cs := #[.int .i64 x6_1, .int .i64 0, .int .i64 0, .int .i64 0]) ?_ 1 _ rfl; (with_reducible repeat (first | refine blk_drewN ?_ _ | refine blk_drew ?_ | refine blk_alloc ?_ _)); refine blk_put (cs := #[.int .i64 0, .int .i64 0, .int .i64 0, .int .i64 0]) ?_ 0 _ rfl; (with_reducible repeat (first | refine blk_drewN ?_ _ | refine blk_drew ?_ | refine blk_alloc ?_ _)); exact BK237.out⟩
                                    have n3_ : Aside0 (Below w.heap.size w ((((w26.setCell ⟨gb237, 0, none⟩ (.int .i64 x6_1)).setCell ⟨gb237, 1, none⟩ (.int .i64 (rd t229 x8_2))).setCell ⟨gb237, 2, none⟩ (.int .i64 (wrap64 ((rd t229 (ji11)) - 1)))).setCell ⟨gb237, 3, none⟩ (.int .i64 t233))) := ⟨hbm HB.out⟩
                                    (try clear HO_5)
                                    (try clear HO_7)
                                    (try clear BK237)
                                    (try clear HB)
                                    generalize ((((w26.setCell ⟨gb237, 0, none⟩ (.int .i64 x6_1)).setCell ⟨gb237, 1, none⟩ (.int .i64 (rd t229 x8_2))).setCell ⟨gb237, 2, none⟩ (.int .i64 (wrap64 ((rd t229 (ji11)) - 1)))).setCell ⟨gb237, 3, none⟩ (.int .i64 t233)) = w32 at n0_ n1_ n2_ n3_ ⊢
                                    have HO_5 := n0_
                                    have HO_7 := n1_
                                    have BK237 := n2_
                                    have HB := n3_
                                    clear n0_ n1_ n2_ n3_
                                    have n0_ := Aside0.mk (Kd.R_drew HO_5.out)
                                    have n1_ := Aside0.mk (Kd.R_drew HO_7.out)
                                    have n2_ := Aside0.mk (blk_drew BK237.out)
                                    have n3_ := Aside0.mk (below_drew1 HB.out)
                                    clear HO_5
                                    clear HO_7
                                    clear BK237
                                    clear HB
                                    have HO_5 := n0_
                                    have HO_7 := n1_
                                    have BK237 := n2_
                                    have HB := n3_
                                    clear n0_ n1_ n2_ n3_
                                    have p238 : 0 ≤ ((ji14) : Int) := odt
                                    have q238 : (ji14) < (x5_2.length : Int) := odt
                                    obtain ⟨ad238, e238, hx238_0, hx238_1, hx238_2, hx238_3⟩ := at_T23 (Kd.R_reads' HO_5.out).2.2 (ji14) p238 q238
                                    cases e238
                                    replace p238 := eq_true p238
                                    replace q238 := eq_true q238
                                    refine start_ (n := 11) (S := fun w' => w'.cell? ⟨gb237, 0, none⟩ = some (.int .i64 x6_1) ∧ w'.cell? ⟨gb237, 1, none⟩ = some (.int .i64 (rd t229 x8_2)) ∧ w'.cell? ⟨gb237, 2, none⟩ = some (.int .i64 (wrap64 ((rd t229 (ji11)) - 1))) ∧ w'.cell? ⟨gb237, 3, none⟩ = some (.int .i64 t233) ∧ w'.cell? (ad238.add (((ji14)).toNat * 4)) = some (.int .i64 ((rd_T23 x5_2 (ji14)).f0)) ∧ w'.cell? ⟨(ad238.add (((ji14)).toNat * 4)).block, (ad238.add (((ji14)).toNat * 4)).off + 1, none⟩ = some (.int .i64 ((rd_T23 x5_2 (ji14)).f1)) ∧ w'.cell? ⟨(ad238.add (((ji14)).toNat * 4)).block, (ad238.add (((ji14)).toNat * 4)).off + 2, none⟩ = some (.int .i64 ((rd_T23 x5_2 (ji14)).f2)) ∧ w'.cell? ⟨(ad238.add (((ji14)).toNat * 4)).block, (ad238.add (((ji14)).toNat * 4)).off + 3, none⟩ = some (.int .i64 ((rd_T23 x5_2 (ji14)).f3))) (ds := []) #[false, false, false, false, false, false, false, false, false, false, false] (by kernel_rfl) rfl rfl ⟨(blk_cell BK237.out 0).trans rfl, (blk_cell BK237.out 1).trans rfl, (blk_cell BK237.out 2).trans rfl, (blk_cell BK237.out 3).trans rfl, hx238_0, hx238_1, hx238_2, hx238_3⟩ (fun hHeld => ?_); refine with_tabW hornbookref07_Build.tab13 hornbookref07_Build.bits13 (fun HT_ HW_ => ?_)
                                    generalize w32.drew = w33 at HO_5 HO_7 BK237 HB hx238_0 hx238_1 hx238_2 hx238_3 hHeld ⊢
                                    refine pure_ (i := 0) (N := some 60) (v := ?_) (a' := ?_) #[true, false, false, false, false, false, false, false, false, false, false] rfl rfl (any_of HT_.out (by kernel_rfl)) (fun _ _ _ h => h) (Or.inl ⟨by rfl, ?_⟩) ?_ ?_
                                    rotate_left
                                    · intro w'
                                      go_simp
                                      with_reducible rfl
                                    rotate_left
                                    · simp only [Act.put, List.setIfInBounds_toArray, List.set_cons_zero, List.set_cons_succ, i64_w, i32_w]
                                      rfl
                                    refine pure_ (i := 1) (N := some 61) (v := ?_) (a' := ?_) #[true, true, false, false, false, false, false, false, false, false, false] rfl rfl (any_of HT_.out (by kernel_rfl)) (fun _ _ _ h => h) (Or.inl ⟨by rfl, ?_⟩) ?_ ?_
                                    rotate_left
                                    · intro w'
                                      go_simp
                                      with_reducible rfl
                                    rotate_left
                                    · simp only [Act.put, List.setIfInBounds_toArray, List.set_cons_zero, List.set_cons_succ, i64_w, i32_w]
                                      rfl
                                    refine pure_ (i := 2) (N := some 62) (v := ?_) (a' := ?_) #[true, true, true, false, false, false, false, false, false, false, false] rfl rfl (any_of HT_.out (by kernel_rfl)) (fun _ _ _ h => h) (Or.inl ⟨by rfl, ?_⟩) ?_ ?_
                                    rotate_left
                                    · intro w'
                                      go_simp
                                      with_reducible rfl
                                    rotate_left
                                    · simp only [Act.put, List.setIfInBounds_toArray, List.set_cons_zero, List.set_cons_succ, i64_w, i32_w]
                                      rfl
                                    refine pure_ (i := 3) (N := some 63) (v := ?_) (a' := ?_) #[true, true, true, true, false, false, false, false, false, false, false] rfl rfl (any_of HT_.out (by kernel_rfl)) (fun _ _ _ h => h) (Or.inl ⟨by rfl, ?_⟩) ?_ ?_
                                    rotate_left
                                    · intro w'
                                      go_simp
                                      with_reducible rfl
                                    rotate_left
                                    · simp only [Act.put, List.setIfInBounds_toArray, List.set_cons_zero, List.set_cons_succ, i64_w, i32_w]
                                      rfl
                                    refine pure_ (i := 4) (N := some 64) (v := ?_) (a' := ?_) #[true, true, true, true, true, false, false, false, false, false, false] rfl rfl (any_of HT_.out (by kernel_rfl)) (fun _ _ _ h => h) (Or.inl ⟨by rfl, ?_⟩) ?_ ?_
                                    rotate_left
                                    · intro w'
                                      go_simp
                                      with_reducible rfl
                                    rotate_left
                                    · simp only [Act.put, List.setIfInBounds_toArray, List.set_cons_zero, List.set_cons_succ, i64_w, i32_w]
                                      rfl
                                    refine pure_ (i := 5) (N := some 65) (v := ?_) (a' := ?_) #[true, true, true, true, true, true, false, false, false, false, false] rfl rfl (any_of HT_.out (by kernel_rfl)) (fun _ _ _ h => h) (Or.inl ⟨by rfl, ?_⟩) ?_ ?_
                                    rotate_left
                                    · intro w'
                                      go_simp
                                      with_reducible rfl
                                    rotate_left
                                    · simp only [Act.put, List.setIfInBounds_toArray, List.set_cons_zero, List.set_cons_succ, i64_w, i32_w]
                                      rfl
                                    refine pure_ (i := 8) (N := some 68) (v := ?_) (a' := ?_) #[true, true, true, true, true, true, false, false, true, false, false] rfl rfl (any_of HT_.out (by kernel_rfl)) (fun _ _ _ h => h) (Or.inl ⟨by rfl, ?_⟩) ?_ ?_
                                    rotate_left
                                    · intro w'
                                      go_simp
                                      with_reducible rfl
                                    rotate_left
                                    · simp only [Act.put, List.setIfInBounds_toArray, List.set_cons_zero, List.set_cons_succ, i64_w, i32_w]
                                      rfl
                                    refine take_ (i := 6) (N := some 66) (v := ?_) (a' := ?_) #[true, true, true, true, true, true, true, false, true, false, false] rfl rfl (take_ofW HT_.out HW_.out (by kernel_rfl)) (fun _ _ _ h => h) (Or.inl ⟨by rfl, ?_⟩) hHeld ?_ ?_
                                    rotate_left
                                    · rintro w' ⟨s0, s1, s2, s3, s4, s5, s6, s7⟩
                                      go_simp
                                      with_reducible rfl
                                    rotate_left
                                    · simp only [Act.put, List.setIfInBounds_toArray, List.set_cons_zero, List.set_cons_succ, i64_w, i32_w]
                                      rfl
                                    refine take_ (i := 7) (N := some 67) (v := ?_) (a' := ?_) #[true, true, true, true, true, true, true, true, true, false, false] rfl rfl (take_ofW HT_.out HW_.out (by kernel_rfl)) (fun _ _ _ h => h) (Or.inl ⟨by rfl, ?_⟩) hHeld ?_ ?_
                                    rotate_left
                                    · rintro w' ⟨s0, s1, s2, s3, s4, s5, s6, s7⟩
                                      go_simp
                                      with_reducible rfl
                                    rotate_left
                                    · simp only [Act.put, List.setIfInBounds_toArray, List.set_cons_zero, List.set_cons_succ, i64_w, i32_w]
                                      rfl
                                    refine one_ (i := 9) (N := some 69) #[true, true, true, true, true, true, true, true, true, true, false] rfl rfl (one_of HT_.out (by kernel_rfl)) (by decide) (fun K hK => ?_)
                                    refine goes_ Try.func36 (by kernel_rfl) rfl #[.agg #[.int .i64 ((rd_T23 x5_2 (ji14)).f0), .int .i64 ((rd_T23 x5_2 (ji14)).f1), .int .i64 ((rd_T23 x5_2 (ji14)).f2), .int .i64 ((rd_T23 x5_2 (ji14)).f3)], .agg #[.int .i64 x6_1, .int .i64 (rd t229 x8_2), .int .i64 (wrap64 ((rd t229 (ji11)) - 1)), .int .i64 t233], .bool a1] (by rfl) rfl rfl (by (try simp only [List.map_toArray, List.map_cons, List.map_nil]); first | done | (simp only [hji11, hji14]; rfl) | rfl | (simp only [List.length_drop, List.length_take]; rfl)) ?_
                                    with_reducible refine (hornbookref07_joins.calls ((rd_T23 x5_2 (ji14)).f0) ((rd_T23 x5_2 (ji14)).f1) ((rd_T23 x5_2 (ji14)).f2) ((rd_T23 x5_2 (ji14)).f3) x6_1 (rd t229 x8_2) (wrap64 ((rd t229 (ji11)) - 1)) t233 a1 true _ A17.out).mono ?_
                                    rintro e w34 ⟨rfl, hb⟩
                                    have HS4_ := (hb.cell (World.block_lt_of_cell? _ _ (hHeld.2.2.2.2.1))).trans (hHeld.2.2.2.2.1)
                                    have HS5_ := (hb.cell (World.block_lt_of_cell? _ _ (hHeld.2.2.2.2.2.1))).trans (hHeld.2.2.2.2.2.1)
                                    have HS6_ := (hb.cell (World.block_lt_of_cell? _ _ (hHeld.2.2.2.2.2.2.1))).trans (hHeld.2.2.2.2.2.2.1)
                                    have HS7_ := (hb.cell (World.block_lt_of_cell? _ _ (hHeld.2.2.2.2.2.2.2))).trans (hHeld.2.2.2.2.2.2.2)
                                    refine ⟨_, rfl, ?_⟩
                                    have n0_ := Aside0.mk (Kd.R_below (rdm HO_5.out) hb)
                                    have n1_ := Aside0.mk (Kd.R_below (rdm HO_7.out) hb)
                                    have n2_ := Aside0.mk (blk_below (g := gb237) (o := .cells #[.int .i64 x6_1, .int .i64 (rd t229 x8_2), .int .i64 (wrap64 ((rd t229 (ji11)) - 1)), .int .i64 t233] 23 (0, 0)) (bkm BK237.out) hb)
                                    have n3_ := Aside0.mk (below_step (hbm HB.out) hb)
                                    clear HO_5
                                    clear HO_7
                                    clear BK237
                                    clear HB
                                    have HO_5 := n0_
                                    have HO_7 := n1_
                                    have BK237 := n2_
                                    have HB := n3_
                                    clear n0_ n1_ n2_ n3_
                                    (try clear hb)
                                    (try clear hb2)
                                    (try clear hk)
                                    (try clear hi)
                                    refine hK.out _ _ ⟨(blk_cell BK237.out 0).trans rfl, (blk_cell BK237.out 1).trans rfl, (blk_cell BK237.out 2).trans rfl, (blk_cell BK237.out 3).trans rfl, HS4_, HS5_, HS6_, HS7_⟩ (fun hHeld => ?_)
                                    clear hK K
                                    refine norm_ (a' := ?_) ?_ ?_
                                    rotate_left
                                    · show Act.put _ (some 69) _ = _
                                      simp only [Act.put, List.setIfInBounds_toArray, List.set_cons_zero, List.set_cons_succ, i64_w, i32_w]
                                      rfl
                                    refine pure_ (i := 10) (N := some 70) (v := ?_) (a' := ?_) #[true, true, true, true, true, true, true, true, true, true, true] rfl rfl (any_of HT_.out (by kernel_rfl)) (fun _ _ _ h => h) (Or.inl ⟨by rfl, ?_⟩) ?_ ?_
                                    rotate_left
                                    · intro w'
                                      go_simp
                                      with_reducible rfl
                                    rotate_left
                                    · simp only [Act.put, List.setIfInBounds_toArray, List.set_cons_zero, List.set_cons_succ, i64_w, i32_w]
                                      rfl
                                    refine done_ (done_of HT_.out (by kernel_rfl)) ?_
                                    have p240 : 0 ≤ ((ji14) : Int) := odt
                                    have q240 : (ji14) < (x5_2.length : Int) := odt
                                    obtain ⟨ad240, e240, hx240_0, hx240_1, hx240_2, hx240_3⟩ := at_T23 (Kd.R_reads' HO_5.out).2.2 (ji14) p240 q240
                                    obtain rfl : ad238 = ad240 := (by injection e240)
                                    replace p240 := eq_true p240
                                    replace q240 := eq_true q240
                                    try go_wp2_with (first | ((with_reducible refine gate_dst (N := 13) rfl ?_); refine box_event ?hg (N := 13) ?hd (cs := #[.int .i64 0, .int .i64 0, .int .i64 0, .int .i64 0]) (t := 23) ?hr ?_; (case hd => rfl); (case hg => rfl); (case hr => first | (go_simp; done) | (go_simp; rfl)); intro gb241 hg w35 hbox hb; have n0_ := Aside0.mk (Kd.R_below (Kd.R_elderB (rdm HO_5.out) gb241 (Nat.le_of_eq hg.symm)) hb); have n1_ := Aside0.mk (Kd.R_below (rdm HO_7.out) hb); have n2_ := Aside0.mk (blk_below (g := gb237) (o := .cells #[.int .i64 x6_1, .int .i64 (rd t229 x8_2), .int .i64 (wrap64 ((rd t229 (ji11)) - 1)), .int .i64 t233] 23 (0, 0)) (bkm BK237.out) hb); have n3_ := Aside0.mk (below_step (hbm HB.out) hb); have n4_ := Aside0.mk (hbox); have n5_ := Aside0.mk ((by rw [hg]; exact (below_size (hbm HB.out)) : w.heap.size ≤ gb241)); have n6_ := Aside0.mk ((by rw [hg]; exact (below_size (hbm HB.out)) : w.heap.size ≤ gb241)); have n7_ := Aside0.mk ((by rw [hg]; exact Nat.ne_of_lt (blk_lt (g := gb237) (o := .cells #[.int .i64 x6_1, .int .i64 (rd t229 x8_2), .int .i64 (wrap64 ((rd t229 (ji11)) - 1)), .int .i64 t233] 23 (0, 0)) (bkm BK237.out)) : gb237 ≠ gb241)); have n8_ := Aside0.mk ((by rw [hg]; exact Nat.ne_of_gt (blk_lt (g := gb237) (o := .cells #[.int .i64 x6_1, .int .i64 (rd t229 x8_2), .int .i64 (wrap64 ((rd t229 (ji11)) - 1)), .int .i64 t233] 23 (0, 0)) (bkm BK237.out)) : gb241 ≠ gb237)); clear HO_5; clear HO_7; clear BK237; clear HB; have HO_5 := n0_; have HO_7 := n1_; have BK237 := n2_; have HB := n3_; have BK241 := n4_; have GW241 := n5_; have GE241 := n6_; have NB237_241 := n7_; have NB241_237 := n8_; clear n0_ n1_ n2_ n3_ n4_ n5_ n6_ n7_ n8_; clear hb hbox hg; have hnb36 := NB241_237.out; have hnc36 := NB237_241.out; have hcz37_0 : w35.cell? ⟨gb241, 0, none⟩ = some (.int .i64 0) := (blk_cell BK241.out 0).trans rfl; have hcz37_1 : w35.cell? ⟨gb241, 1, none⟩ = some (.int .i64 0) := (blk_cell BK241.out 1).trans rfl; have hcz37_2 : w35.cell? ⟨gb241, 2, none⟩ = some (.int .i64 0) := (blk_cell BK241.out 2).trans rfl; have hcz37_3 : w35.cell? ⟨gb241, 3, none⟩ = some (.int .i64 0) := (blk_cell BK241.out 3).trans rfl; have hfz37_0 := blk_frozen BK241.out 0; have hfz37_1 := blk_frozen BK241.out 1; have hfz37_2 := blk_frozen BK241.out 2; have hfz37_3 := blk_frozen BK241.out 3; have hcz38_0 : w35.cell? ⟨gb237, 0, none⟩ = some (.int .i64 x6_1) := (blk_cell BK237.out 0).trans rfl; have hcz38_1 : w35.cell? ⟨gb237, 1, none⟩ = some (.int .i64 (rd t229 x8_2)) := (blk_cell BK237.out 1).trans rfl; have hcz38_2 : w35.cell? ⟨gb237, 2, none⟩ = some (.int .i64 (wrap64 ((rd t229 (ji11)) - 1))) := (blk_cell BK237.out 2).trans rfl; have hcz38_3 : w35.cell? ⟨gb237, 3, none⟩ = some (.int .i64 t233) := (blk_cell BK237.out 3).trans rfl; have hfz38_0 := blk_frozen BK237.out 0; have hfz38_1 := blk_frozen BK237.out 1; have hfz38_2 := blk_frozen BK237.out 2; have hfz38_3 := blk_frozen BK237.out 3) | ((with_reducible refine gate_dst (N := 78) rfl ?_); refine Kd.R_lit k23 _ 23 ?hg (N := 78) ?hd (xs := ([] : List (S23))) (inner := []) (ok := fun _ => True) (okp := fun _ => True) ?hr ?hp (fun _ hk => hk) trivial (Below.refl _ _) (Nat.le_refl _) (by simp) ?_; (case hd => rfl); (case hg => rfl); (case hr => first | (go_simp; done) | (go_simp; rfl)); (case hp => exact (Reps.none _ _)); intro v243 w39 ho40 hb hg_ hnew_; clear hg_ hnew_; (first | rw [← Ny242.out] at ho40 | (simp only [Int.reduceToNat] at ho40; rw [← Ny242.out] at ho40)); have n0_ := Aside0.mk (Kd.R_elder' (by (with_reducible repeat (first | apply Kd.R_alloc | apply Kd.R_drewN | apply Kd.R_drew)); exact (Kd.R_mono (Kd.R_far (p := ⟨gb241, 2, none⟩) (Kd.R_far (p := ⟨gb241, 3, none⟩) (Kd.R_far (p := ⟨gb241, 2, none⟩) (Kd.R_far (p := ⟨gb241, 1, none⟩) (Kd.R_far (p := ⟨gb241, 0, none⟩) (Kd.R_mono HO_5.out (fun k_ hk => (⟨hk, hk.2⟩ : _ ∧ k_ ≠ gb241))) (fun _ hk => hk.2) (.int .i64 ((rd_T23 x5_2 (ji14)).f0))) (fun _ hk => hk.2) (.int .i64 ((rd_T23 x5_2 (ji14)).f1))) (fun _ hk => hk.2) (.int .i64 ((rd_T23 x5_2 (ji14)).f2))) (fun _ hk => hk.2) (.int .i64 ((rd_T23 x5_2 (ji14)).f3))) (fun _ hk => hk.2) (.int .i64 (wrap64 ((rd t229 (ji11)) - 1)))) (fun _ h_ => h_.1))) (Kd.R_base ho40) hb); have n1_ := Aside0.mk (Kd.R_below (by (with_reducible repeat (first | apply Kd.R_alloc | apply Kd.R_drewN | apply Kd.R_drew)); exact (Kd.R_mono (Kd.R_far (p := ⟨gb241, 2, none⟩) (Kd.R_far (p := ⟨gb241, 3, none⟩) (Kd.R_far (p := ⟨gb241, 2, none⟩) (Kd.R_far (p := ⟨gb241, 1, none⟩) (Kd.R_far (p := ⟨gb241, 0, none⟩) (Kd.R_types HO_7.out BK241.out (by decide)) (fun _ hk => hk.2) (.int .i64 ((rd_T23 x5_2 (ji14)).f0))) (fun _ hk => hk.2) (.int .i64 ((rd_T23 x5_2 (ji14)).f1))) (fun _ hk => hk.2) (.int .i64 ((rd_T23 x5_2 (ji14)).f2))) (fun _ hk => hk.2) (.int .i64 ((rd_T23 x5_2 (ji14)).f3))) (fun _ hk => hk.2) (.int .i64 (wrap64 ((rd t229 (ji11)) - 1)))) (fun _ h_ => h_.1))) hb); have n2_ := Aside0.mk (Kd.R_lower (Kd.R_newB (Kd.R_newB (Kd.R_new' ho40 (Kd.R_lt (by (with_reducible repeat (first | apply Kd.R_alloc | apply Kd.R_drewN | apply Kd.R_drew)); exact (Kd.R_mono (Kd.R_far (p := ⟨gb241, 2, none⟩) (Kd.R_far (p := ⟨gb241, 3, none⟩) (Kd.R_far (p := ⟨gb241, 2, none⟩) (Kd.R_far (p := ⟨gb241, 1, none⟩) (Kd.R_far (p := ⟨gb241, 0, none⟩) (Kd.R_mono HO_5.out (fun k_ hk => (⟨hk, hk.2⟩ : _ ∧ k_ ≠ gb241))) (fun _ hk => hk.2) (.int .i64 ((rd_T23 x5_2 (ji14)).f0))) (fun _ hk => hk.2) (.int .i64 ((rd_T23 x5_2 (ji14)).f1))) (fun _ hk => hk.2) (.int .i64 ((rd_T23 x5_2 (ji14)).f2))) (fun _ hk => hk.2) (.int .i64 ((rd_T23 x5_2 (ji14)).f3))) (fun _ hk => hk.2) (.int .i64 (wrap64 ((rd t229 (ji11)) - 1)))) (fun _ h_ => h_.1))))) (g := gb237) (o := .cells #[.int .i64 x6_1, .int .i64 (rd t229 x8_2), .int .i64 (wrap64 ((rd t229 (ji11)) - 1)), .int .i64 t233] 23 (0, 0)) (by (with_reducible repeat (first | refine blk_drewN ?_ _ | refine blk_drew ?_ | refine blk_alloc ?_ _)); refine blk_far ?_ NB237_241.out _; (with_reducible repeat (first | refine blk_drewN ?_ _ | refine blk_drew ?_ | refine blk_alloc ?_ _)); refine blk_far ?_ NB237_241.out _; (with_reducible repeat (first | refine blk_drewN ?_ _ | refine blk_drew ?_ | refine blk_alloc ?_ _)); refine blk_far ?_ NB237_241.out _; (with_reducible repeat (first | refine blk_drewN ?_ _ | refine blk_drew ?_ | refine blk_alloc ?_ _)); refine blk_far ?_ NB237_241.out _; (with_reducible repeat (first | refine blk_drewN ?_ _ | refine blk_drew ?_ | refine blk_alloc ?_ _)); refine blk_far ?_ NB237_241.out _; (with_reducible repeat (first | refine blk_drewN ?_ _ | refine blk_drew ?_ | refine blk_alloc ?_ _)); exact BK237.out)) (g := gb241) (o := .cells #[.int .i64 ((rd_T23 x5_2 (ji14)).f0), .int .i64 ((rd_T23 x5_2 (ji14)).f1), .int .i64 (wrap64 ((rd t229 (ji11)) - 1)), .int .i64 ((rd_T23 x5_2 (ji14)).f3)] 23 (0, 0)) (by (with_reducible repeat (first | refine blk_drewN ?_ _ | refine blk_drew ?_ | refine blk_alloc ?_ _)); refine blk_put (cs := #[.int .i64 ((rd_T23 x5_2 (ji14)).f0), .int .i64 ((rd_T23 x5_2 (ji14)).f1), .int .i64 ((rd_T23 x5_2 (ji14)).f2), .int .i64 ((rd_T23 x5_2 (ji14)).f3)]) ?_ 2 _ rfl; (with_reducible repeat (first | refine blk_drewN ?_ _ | refine blk_drew ?_ | refine blk_alloc ?_ _)); refine blk_put (cs := #[.int .i64 ((rd_T23 x5_2 (ji14)).f0), .int .i64 ((rd_T23 x5_2 (ji14)).f1), .int .i64 ((rd_T23 x5_2 (ji14)).f2), .int .i64 0]) ?_ 3 _ rfl; (with_reducible repeat (first | refine blk_drewN ?_ _ | refine blk_drew ?_ | refine blk_alloc ?_ _)); refine blk_put (cs := #[.int .i64 ((rd_T23 x5_2 (ji14)).f0), .int .i64 ((rd_T23 x5_2 (ji14)).f1), .int .i64 0, .int .i64 0]) ?_ 2 _ rfl; (with_reducible repeat (first | refine blk_drewN ?_ _ | refine blk_drew ?_ | refine blk_alloc ?_ _)); refine blk_put (cs := #[.int .i64 ((rd_T23 x5_2 (ji14)).f0), .int .i64 0, .int .i64 0, .int .i64 0]) ?_ 1 _ rfl; (with_reducible repeat (first | refine blk_drewN ?_ _ | refine blk_drew ?_ | refine blk_alloc ?_ _)); refine blk_put (cs := #[.int .i64 0, .int .i64 0, .int .i64 0, .int .i64 0]) ?_ 0 _ rfl; (with_reducible repeat (first | refine blk_drewN ?_ _ | refine blk_drew ?_ | refine blk_alloc ?_ _)); exact BK241.out)) (below_size (hbm HB.out))); have n3_ := Aside0.mk (blk_below (g := gb237) (o := .cells #[.int .i64 x6_1, .int .i64 (rd t229 x8_2), .int .i64 (wrap64 ((rd t229 (ji11)) - 1)), .int .i64 t233] 23 (0, 0)) (by (with_reducible repeat (first | refine blk_drewN ?_ _ | refine blk_drew ?_ | refine blk_alloc ?_ _)); refine blk_far ?_ NB237_241.out _; (with_reducible repeat (first | refine blk_drewN ?_ _ | refine blk_drew ?_ | refine blk_alloc ?_ _)); refine blk_far ?_ NB237_241.out _; (with_reducible repeat (first | refine blk_drewN ?_ _ | refine blk_drew ?_ | refine blk_alloc ?_ _)); refine blk_far ?_ NB237_241.out _; (with_reducible repeat (first | refine blk_drewN ?_ _ | refine blk_drew ?_ | refine blk_alloc ?_ _)); refine blk_far ?_ NB237_241.out _; (with_reducible repeat (first | refine blk_drewN ?_ _ | refine blk_drew ?_ | refine blk_alloc ?_ _)); refine blk_far ?_ NB237_241.out _; (with_reducible repeat (first | refine blk_drewN ?_ _ | refine blk_drew ?_ | refine blk_alloc ?_ _)); exact BK237.out) hb); have n4_ := Aside0.mk (blk_below (g := gb241) (o := .cells #[.int .i64 ((rd_T23 x5_2 (ji14)).f0), .int .i64 ((rd_T23 x5_2 (ji14)).f1), .int .i64 (wrap64 ((rd t229 (ji11)) - 1)), .int .i64 ((rd_T23 x5_2 (ji14)).f3)] 23 (0, 0)) (by (with_reducible repeat (first | refine blk_drewN ?_ _ | refine blk_drew ?_ | refine blk_alloc ?_ _)); refine blk_put (cs := #[.int .i64 ((rd_T23 x5_2 (ji14)).f0), .int .i64 ((rd_T23 x5_2 (ji14)).f1), .int .i64 ((rd_T23 x5_2 (ji14)).f2), .int .i64 ((rd_T23 x5_2 (ji14)).f3)]) ?_ 2 _ rfl; (with_reducible repeat (first | refine blk_drewN ?_ _ | refine blk_drew ?_ | refine blk_alloc ?_ _)); refine blk_put (cs := #[.int .i64 ((rd_T23 x5_2 (ji14)).f0), .int .i64 ((rd_T23 x5_2 (ji14)).f1), .int .i64 ((rd_T23 x5_2 (ji14)).f2), .int .i64 0]) ?_ 3 _ rfl; (with_reducible repeat (first | refine blk_drewN ?_ _ | refine blk_drew ?_ | refine blk_alloc ?_ _)); refine blk_put (cs := #[.int .i64 ((rd_T23 x5_2 (ji14)).f0), .int .i64 ((rd_T23 x5_2 (ji14)).f1), .int .i64 0, .int .i64 0]) ?_ 2 _ rfl; (with_reducible repeat (first | refine blk_drewN ?_ _ | refine blk_drew ?_ | refine blk_alloc ?_ _)); refine blk_put (cs := #[.int .i64 ((rd_T23 x5_2 (ji14)).f0), .int .i64 0, .int .i64 0, .int .i64 0]) ?_ 1 _ rfl; (with_reducible repeat (first | refine blk_drewN ?_ _ | refine blk_drew ?_ | refine blk_alloc ?_ _)); refine blk_put (cs := #[.int .i64 0, .int .i64 0, .int .i64 0, .int .i64 0]) ?_ 0 _ rfl; (with_reducible repeat (first | refine blk_drewN ?_ _ | refine blk_drew ?_ | refine blk_alloc ?_ _)); exact BK241.out) hb); have n5_ := Aside0.mk (below_step (hbm HB.out) hb); clear HO_5; clear HO_7; clear BK237; clear BK241; clear HB; have HO_5 := n0_; have HO_7 := n1_; have HO244 := n2_; have BK237 := n3_; have BK241 := n4_; have HB := n5_; clear n0_ n1_ n2_ n3_ n4_ n5_; clear hb ho40; have q41 : ((ji14) : Int) ≤ ((x5_2.length : Int) : Int) := odt; obtain ⟨i041, hi041, _, hsz41, _⟩ := info_parts info23; have hroom41 : x5_2.length ≤ co31 := (Kd.R_reads' HO_5.out).2.1; have hC41 : Kd.C k23 _ (some ad238) x5_2.length x5_2 := (Kd.R_reads' HO_5.out).2.2; have hcut41 := cut_to (P := Try.prog) 26 23 .i64 Try.underlying26 hi041 (some ad238) x5_2.length co31 (ji14) (odt) q41 hroom41; have hr41 := Kd.C_take (m := ((ji14) : Int).toNat) hC41 (by omega); have hy41 : y245.length = ((ji14) : Int).toNat := (by rw [Ny245.out, List.length_take]; omega); rw [← Ny245.out] at hr41; rw [← hy41] at hcut41; have HR248 := Aside0.mk hr41; have HC248 := Aside0.mk (show y245.length ≤ co31 from by omega); clear hr41 hC41 hroom41 hi041 hsz41; have KY41 := Aside0.mk hy41; clear hy41; have KL41 := Aside0.mk (show ((ji14) : Int).toNat ≤ x5_2.length from by omega); replace q41 := eq_true q41) | ((with_reducible refine gate_builtin (b := .append) (xs := #[.tmp 78, .tmp 81]) rfl ?_); at_builtin; refine Kd.R_append_rows k23 (w0 := w) w.heap.size rfl (.tmp 78) (.tmp 81) 26 23 (.agg #[(.int .i64 0), (.int .i64 0), (.int .i64 0), (.int .i64 0)]) 32 rfl Try.underlying26 info23 rfl (by decide) (by omega) v243 y242 y245 _ _ _ (fun k_ => some k_ ≠ (.slice (some ad238) x5_2.length co31 : Value).ownBlock ∧ k_ ≠ gb237 ∧ k_ ≠ gb241) (fun _ => False) rfl rfl ?aO ?aR (fun _ _ h => h) (fun _ h => h.elim) ?aF ?aB ?aS ?aL ?_; (case aR => repeat (first | exact (by repeat (first | (with_reducible exact HR248.out) | (with_reducible refine Kd.C_alloc ?_ _) | (with_reducible refine Kd.C_drewN ?_ _) | (with_reducible refine Kd.C_drew ?_) | exact HR248.out)) | (with_reducible refine Kd.C_alloc ?_ _) | (with_reducible refine Kd.C_drewN ?_ _) | (with_reducible refine Kd.C_drew ?_))); (case aB => exact (hbm HB.out)); (case aF => exact (fun k_ hk => ⟨Kd.fresh' (Kd.R_lt (rdm HO_5.out)) k_ hk, Kd.freshB (g := gb237) (o := .cells #[.int .i64 x6_1, .int .i64 (rd t229 x8_2), .int .i64 (wrap64 ((rd t229 (ji11)) - 1)), .int .i64 t233] 23 (0, 0)) (bkm BK237.out) k_ hk, Kd.freshB (g := gb241) (o := .cells #[.int .i64 ((rd_T23 x5_2 (ji14)).f0), .int .i64 ((rd_T23 x5_2 (ji14)).f1), .int .i64 (wrap64 ((rd t229 (ji11)) - 1)), .int .i64 ((rd_T23 x5_2 (ji14)).f3)] 23 (0, 0)) (bkm BK241.out) k_ hk⟩)); (case aO => exact (by (with_reducible repeat (first | apply Kd.R_alloc | apply Kd.R_drewN | apply Kd.R_drew)); exact Kd.R_mono HO244.out (fun _ hk => ⟨hk.1.1.2, ⟨hk.1.2, hk.2⟩⟩))); (case aS => exact (below_size (hbm HB.out))); (case aL => have := LMc21.out; omega); intro v250 w42 ho hb hg hat; rw [← Ny249.out] at ho; have n0_ := Aside0.mk (Kd.R_after (ok := (fun k_ => k_ ≠ gb237 ∧ k_ ≠ gb241)) (rdm HO_5.out) hg hat); have n1_ := Aside0.mk (Kd.R_over' (rdm HO_7.out) (Kd.R_typed (rdm HO244.out)) (by decide) hg); have n2_ := Aside0.mk (blk_grown (g := gb237) (o := .cells #[.int .i64 x6_1, .int .i64 (rd t229 x8_2), .int .i64 (wrap64 ((rd t229 (ji11)) - 1)), .int .i64 t233] 23 (0, 0)) (bkm BK237.out) hg (Kd.R_away HO244.out (fun _ hk => hk.1.2))); have n3_ := Aside0.mk (blk_grown (g := gb241) (o := .cells #[.int .i64 ((rd_T23 x5_2 (ji14)).f0), .int .i64 ((rd_T23 x5_2 (ji14)).f1), .int .i64 (wrap64 ((rd t229 (ji11)) - 1)), .int .i64 ((rd_T23 x5_2 (ji14)).f3)] 23 (0, 0)) (bkm BK241.out) hg (Kd.R_away HO244.out (fun _ hk => hk.2))); have n4_ := Aside0.mk (hb); have n5_ := Aside0.mk ((show Kd.C k23 w42 (some ad238) y245.length y245 from by rw [Ny245.out]; exact Kd.C_take (m := ((ji14) : Int).toNat) ((Kd.R_reads' (Kd.R_after (ok := (fun k_ => k_ ≠ gb237 ∧ k_ ≠ gb241)) (rdm HO_5.out) hg hat)).2.2) KL41.out)); have n6_ := Aside0.mk (ho); clear HO_5; clear HO_7; clear BK237; clear BK241; clear HB; clear HR248; clear HO244; have HO_5 := n0_; have HO_7 := n1_; have BK237 := n2_; have BK241 := n3_; have HB := n4_; have HR248 := n5_; have HO251 := n6_; clear n0_ n1_ n2_ n3_ n4_ n5_ n6_; clear ho hb hg hat; have hcz43_0 : w42.cell? ⟨gb241, 0, none⟩ = some (.int .i64 ((rd_T23 x5_2 (ji14)).f0)) := (blk_cell BK241.out 0).trans rfl; have hcz43_1 : w42.cell? ⟨gb241, 1, none⟩ = some (.int .i64 ((rd_T23 x5_2 (ji14)).f1)) := (blk_cell BK241.out 1).trans rfl; have hcz43_2 : w42.cell? ⟨gb241, 2, none⟩ = some (.int .i64 (wrap64 ((rd t229 (ji11)) - 1))) := (blk_cell BK241.out 2).trans rfl; have hcz43_3 : w42.cell? ⟨gb241, 3, none⟩ = some (.int .i64 ((rd_T23 x5_2 (ji14)).f3)) := (blk_cell BK241.out 3).trans rfl; have hfz43_0 := blk_frozen BK241.out 0; have hfz43_1 := blk_frozen BK241.out 1; have hfz43_2 := blk_frozen BK241.out 2; have hfz43_3 := blk_frozen BK241.out 3) | ((with_reducible refine gate_builtin (b := .append) (xs := #[.tmp 83, .tmp 85]) rfl ?_); at_builtin; refine Kd.R_append k23 (w0 := w) w.heap.size rfl (.tmp 83) (.tmp 85) 26 23 (.agg #[(.int .i64 0), (.int .i64 0), (.int .i64 0), (.int .i64 0)]) 32 rfl Try.underlying26 info23 rfl (by decide) (by omega) v250 y249 (⟨(rd_T23 x5_2 (ji14)).f0, (rd_T23 x5_2 (ji14)).f1, wrap64 ((rd t229 (ji11)) - 1), (rd_T23 x5_2 (ji14)).f3⟩ : S23) [.int .i64 ((rd_T23 x5_2 (ji14)).f0), .int .i64 ((rd_T23 x5_2 (ji14)).f1), .int .i64 (wrap64 ((rd t229 (ji11)) - 1)), .int .i64 ((rd_T23 x5_2 (ji14)).f3)] (fun k_ => some k_ ≠ (.slice (some ad238) x5_2.length co31 : Value).ownBlock ∧ k_ ≠ gb237 ∧ k_ ≠ gb241) (fun _ => False) rfl rfl ?aP (fun _ hk => hk.elim) ?aF ?aO ?aB ?aS ?aL ?_; (case aP => exact k23_mkM _ _ _ (⟨(rd_T23 x5_2 (ji14)).f0, (rd_T23 x5_2 (ji14)).f1, wrap64 ((rd t229 (ji11)) - 1), (rd_T23 x5_2 (ji14)).f3⟩ : S23)); (case aB => exact (hbm HB.out)); (case aF => exact (fun k_ hk => ⟨Kd.fresh' (Kd.R_lt (rdm HO_5.out)) k_ hk, Kd.freshB (g := gb237) (o := .cells #[.int .i64 x6_1, .int .i64 (rd t229 x8_2), .int .i64 (wrap64 ((rd t229 (ji11)) - 1)), .int .i64 t233] 23 (0, 0)) (bkm BK237.out) k_ hk, Kd.freshB (g := gb241) (o := .cells #[.int .i64 ((rd_T23 x5_2 (ji14)).f0), .int .i64 ((rd_T23 x5_2 (ji14)).f1), .int .i64 (wrap64 ((rd t229 (ji11)) - 1)), .int .i64 ((rd_T23 x5_2 (ji14)).f3)] 23 (0, 0)) (bkm BK241.out) k_ hk⟩)); (case aO => exact (rdm HO251.out)); (case aS => exact (below_size (hbm HB.out))); (case aL => have := LMc22.out; omega); intro v253 w44 ho hb hg hat; rw [← Ny252.out] at ho; have n0_ := Aside0.mk (Kd.R_after (ok := (fun k_ => k_ ≠ gb237 ∧ k_ ≠ gb241)) (rdm HO_5.out) hg hat); have n1_ := Aside0.mk (Kd.R_over' (rdm HO_7.out) (Kd.R_typed (rdm HO251.out)) (by decide) hg); have n2_ := Aside0.mk (blk_grown (g := gb237) (o := .cells #[.int .i64 x6_1, .int .i64 (rd t229 x8_2), .int .i64 (wrap64 ((rd t229 (ji11)) - 1)), .int .i64 t233] 23 (0, 0)) (bkm BK237.out) hg (Kd.R_away HO251.out (fun _ hk => hk.2.1))); have n3_ := Aside0.mk (blk_grown (g := gb241) (o := .cells #[.int .i64 ((rd_T23 x5_2 (ji14)).f0), .int .i64 ((rd_T23 x5_2 (ji14)).f1), .int .i64 (wrap64 ((rd t229 (ji11)) - 1)), .int .i64 ((rd_T23 x5_2 (ji14)).f3)] 23 (0, 0)) (bkm BK241.out) hg (Kd.R_away HO251.out (fun _ hk => hk.2.2))); have n4_ := Aside0.mk (hb); have n5_ := Aside0.mk ((show Kd.C k23 w44 (some ad238) y245.length y245 from by rw [Ny245.out]; exact Kd.C_take (m := ((ji14) : Int).toNat) ((Kd.R_reads' (Kd.R_after (ok := (fun k_ => k_ ≠ gb237 ∧ k_ ≠ gb241)) (rdm HO_5.out) hg hat)).2.2) KL41.out)); have n6_ := Aside0.mk (ho); clear HO_5; clear HO_7; clear BK237; clear BK241; clear HB; clear HR248; clear HO251; have HO_5 := n0_; have HO_7 := n1_; have BK237 := n2_; have BK241 := n3_; have HB := n4_; have HR248 := n5_; have HO254 := n6_; clear n0_ n1_ n2_ n3_ n4_ n5_ n6_; clear ho hb hg hat))
                                    go_roundg k2
                                    case measure => have := HK1.out; have := HK2.out; omega
                                    case rel => exact ⟨(y252), (ji11), (by first | rfl | (simp; done) | (simp only [← hji11] <;> (first | rfl | simp)) | (simp [*]; done)), H', ⟨by have := HK1.out; have := HK2.out; omega⟩, ⟨by (with_reducible repeat (first | apply Kd.R_alloc | apply Kd.R_drewN | apply Kd.R_drew)); exact Kd.R_mono HO254.out (fun _ hk => trivial)⟩, ⟨rdm HO_7.out⟩, ⟨hbm HB.out⟩⟩
                                  · rw [if_neg c22] at H
                                    exact absurd H (by simp)
                                · rw [if_neg c21] at H
                                  exact absurd H (by simp)
                              · rw [if_neg c20] at H
                                exact absurd H (by simp)
                            · replace c18 := Bool.eq_false_iff.mpr c18
                              subst c18
                              have H1 : (if x5_2.length < 4398046511104 then (hornbookref07_Build.l1 k2 l0 a1 (x5_2 ++ [(⟨x6_1, rd t229 x8_2, wrap64 ((rd t229 (ji11)) - 1), t233⟩ : S23)]) x6_1 t229 ji11) else (none)) = some r := by rw [if_neg (show ¬ (false = true) by decide)] at H; exact H
                              clear H
                              have H := H1
                              clear H1
                              by_cases c45 : x5_2.length < 4398046511104
                              · rw [if_pos c45] at H
                                have LMc45 := Aside0.mk c45
                                clear c45
                                obtain ⟨y255, hy255⟩ : ∃ y_ : List (S23), y_ = (x5_2 ++ [(⟨x6_1, rd t229 x8_2, wrap64 ((rd t229 (ji11)) - 1), t233⟩ : S23)]) := ⟨_, rfl⟩
                                replace H : (hornbookref07_Build.l1 k2 l0 a1 y255 x6_1 t229 ji11) = some r := by first | (rw [hy255]; with_reducible exact H) | (have H2_ := (Option.bind_some _ _).symm.trans H; rw [hy255]; with_reducible exact H2_) | (have H2_ := (Option.bind_some _ _).symm.trans H; with_reducible exact H2_) | with_reducible exact H | (rw [hy255]; exact H) | exact H
                                have Ny255 := Aside0.mk hy255
                                clear hy255
                                have H' := Aside0.mk H
                                clear H
                                obtain ⟨Ao46, co46, eo46⟩ := Kd.R_slice HO_7.out
                                subst eo46
                                have p232 : 0 ≤ (x8_2 : Int) := odt
                                have q232 : x8_2 < (t229.length : Int) := odt
                                obtain ⟨ad232, e232, hx232_0⟩ := Kd.at_int (Kd.R_reads' HO_7.out).2.2 x8_2 p232 q232
                                cases e232
                                replace p232 := eq_true p232
                                replace q232 := eq_true q232
                                try go_wp2_with (first | ((with_reducible refine gate_callee (f := 19) rfl ?_); refine goesL_ (some 39) rfl rfl Try.func19 (by kernel_rfl) rfl #[.slice A0 l0.length c0, .agg #[.int .i64 x6_1, .int .i64 (rd t229 x8_2)], .bool a1] rfl (by (try simp only [List.map_toArray, List.map_cons, List.map_nil]); first | done | rfl | (simp only [List.length_drop, List.length_take]; rfl)) ?_; (with_reducible refine (hornbookref07_Last.calls k2 _ _ l0 x6_1 (rd t229 x8_2) a1 t233 true _ ?side1 ?side2 A9.out).mono ?_); (case side1 => repeat (first | exact (Kd.C_below HR0.out HB.out) | (with_reducible refine Kd.C_alloc ?_ _) | (with_reducible refine Kd.C_drewN ?_ _) | (with_reducible refine Kd.C_drew ?_))); (case side2 => exact HC0.out); rintro e w47 ⟨rfl, hb⟩; refine ⟨_, rfl, ?_⟩; have n0_ := Aside0.mk (Kd.R_below (rdm HO_5.out) hb); have n1_ := Aside0.mk (Kd.R_below (rdm HO_7.out) hb); have n2_ := Aside0.mk (below_step (hbm HB.out) hb); clear HO_5; clear HO_7; clear HB; have HO_5 := n0_; have HO_7 := n1_; have HB := n2_; clear n0_ n1_ n2_; (try clear hb); (try clear hb2); (try clear hk); (try clear hi)))
                                have n0_ := Aside0.mk (Kd.R_drew HO_5.out)
                                have n1_ := Aside0.mk (Kd.R_drew HO_7.out)
                                have n2_ := Aside0.mk (below_drew1 HB.out)
                                clear HO_5
                                clear HO_7
                                clear HB
                                have HO_5 := n0_
                                have HO_7 := n1_
                                have HB := n2_
                                clear n0_ n1_ n2_
                                have p235 : 0 ≤ (x8_2 : Int) := odt
                                have q235 : x8_2 < (t229.length : Int) := odt
                                obtain ⟨ad235, e235, hx235_0⟩ := Kd.at_int (Kd.R_reads' HO_7.out).2.2 x8_2 p235 q235
                                obtain rfl : ad232 = ad235 := (by injection e235)
                                replace p235 := eq_true p235
                                replace q235 := eq_true q235
                                have p236 : 0 ≤ ((ji11) : Int) := odt
                                have q236 : (ji11) < (t229.length : Int) := odt
                                obtain ⟨ad236, e236, hx236_0⟩ := Kd.at_int (Kd.R_reads' HO_7.out).2.2 (ji11) p236 q236
                                obtain rfl : ad232 = ad236 := (by injection e236)
                                replace p236 := eq_true p236
                                replace q236 := eq_true q236
                                refine start_ (n := 15) (S := fun w' => w'.cell? (ad232.add (x8_2).toNat) = some (.int .i64 (rd t229 x8_2)) ∧ w'.cell? (ad232.add ((ji11)).toNat) = some (.int .i64 (rd t229 (ji11)))) (ds := []) #[false, false, false, false, false, false, false, false, false, false, false, false, false, false, false] (by kernel_rfl) rfl rfl ⟨hx235_0, hx236_0⟩ (fun hHeld => ?_); refine with_tabW hornbookref07_Build.tab11 hornbookref07_Build.bits11 (fun HT_ HW_ => ?_)
                                generalize w47.drew = w48 at HO_5 HO_7 HB hx235_0 hx236_0 hHeld ⊢
                                refine pure_ (i := 0) (N := some 44) (v := ?_) (a' := ?_) #[true, false, false, false, false, false, false, false, false, false, false, false, false, false, false] rfl rfl (any_of HT_.out (by kernel_rfl)) (fun _ _ _ h => h) (Or.inl ⟨by rfl, ?_⟩) ?_ ?_
                                rotate_left
                                · intro w'
                                  go_simp
                                  with_reducible rfl
                                rotate_left
                                · simp only [Act.put, List.setIfInBounds_toArray, List.set_cons_zero, List.set_cons_succ, i64_w, i32_w]
                                  rfl
                                refine pure_ (i := 1) (N := some 45) (v := ?_) (a' := ?_) #[true, true, false, false, false, false, false, false, false, false, false, false, false, false, false] rfl rfl (any_of HT_.out (by kernel_rfl)) (fun _ _ _ h => h) (Or.inl ⟨by rfl, ?_⟩) ?_ ?_
                                rotate_left
                                · intro w'
                                  go_simp
                                  with_reducible rfl
                                rotate_left
                                · simp only [Act.put, List.setIfInBounds_toArray, List.set_cons_zero, List.set_cons_succ, i64_w, i32_w]
                                  rfl
                                refine pure_ (i := 2) (N := some 46) (v := ?_) (a' := ?_) #[true, true, true, false, false, false, false, false, false, false, false, false, false, false, false] rfl rfl (any_of HT_.out (by kernel_rfl)) (fun _ _ _ h => h) (Or.inl ⟨by rfl, ?_⟩) ?_ ?_
                                rotate_left
                                · intro w'
                                  go_simp
                                  with_reducible rfl
                                rotate_left
                                · simp only [Act.put, List.setIfInBounds_toArray, List.set_cons_zero, List.set_cons_succ, i64_w, i32_w]
                                  rfl
                                refine pure_ (i := 3) (N := some 47) (v := ?_) (a' := ?_) #[true, true, true, true, false, false, false, false, false, false, false, false, false, false, false] rfl rfl (any_of HT_.out (by kernel_rfl)) (fun _ _ _ h => h) (Or.inl ⟨by rfl, ?_⟩) ?_ ?_
                                rotate_left
                                · intro w'
                                  go_simp
                                  with_reducible rfl
                                rotate_left
                                · simp only [Act.put, List.setIfInBounds_toArray, List.set_cons_zero, List.set_cons_succ, i64_w, i32_w]
                                  rfl
                                refine pure_ (i := 5) (N := some 49) (v := ?_) (a' := ?_) #[true, true, true, true, false, true, false, false, false, false, false, false, false, false, false] rfl rfl (any_of HT_.out (by kernel_rfl)) (fun _ _ _ h => h) (Or.inl ⟨by rfl, ?_⟩) ?_ ?_
                                rotate_left
                                · intro w'
                                  go_simp
                                  with_reducible rfl
                                rotate_left
                                · simp only [Act.put, List.setIfInBounds_toArray, List.set_cons_zero, List.set_cons_succ, i64_w, i32_w]
                                  rfl
                                refine pure_ (i := 6) (N := some 50) (v := ?_) (a' := ?_) #[true, true, true, true, false, true, true, false, false, false, false, false, false, false, false] rfl rfl (any_of HT_.out (by kernel_rfl)) (fun _ _ _ h => h) (Or.inl ⟨by rfl, ?_⟩) ?_ ?_
                                rotate_left
                                · intro w'
                                  go_simp
                                  with_reducible rfl
                                rotate_left
                                · simp only [Act.put, List.setIfInBounds_toArray, List.set_cons_zero, List.set_cons_succ, i64_w, i32_w]
                                  rfl
                                refine pure_ (i := 7) (N := some 51) (v := ?_) (a' := ?_) #[true, true, true, true, false, true, true, true, false, false, false, false, false, false, false] rfl rfl (any_of HT_.out (by kernel_rfl)) (fun _ _ _ h => h) (Or.inl ⟨by rfl, ?_⟩) ?_ ?_
                                rotate_left
                                · intro w'
                                  go_simp
                                  with_reducible rfl
                                rotate_left
                                · simp only [Act.put, List.setIfInBounds_toArray, List.set_cons_zero, List.set_cons_succ, i64_w, i32_w]
                                  rfl
                                refine pure_ (i := 8) (N := some 52) (v := ?_) (a' := ?_) #[true, true, true, true, false, true, true, true, true, false, false, false, false, false, false] rfl rfl (any_of HT_.out (by kernel_rfl)) (fun _ _ _ h => h) (Or.inl ⟨by rfl, ?_⟩) ?_ ?_
                                rotate_left
                                · intro w'
                                  go_simp
                                  with_reducible rfl
                                rotate_left
                                · simp only [Act.put, List.setIfInBounds_toArray, List.set_cons_zero, List.set_cons_succ, i64_w, i32_w]
                                  rfl
                                refine pure_ (i := 11) (N := some 55) (v := ?_) (a' := ?_) #[true, true, true, true, false, true, true, true, true, false, false, true, false, false, false] rfl rfl (any_of HT_.out (by kernel_rfl)) (fun _ _ _ h => h) (Or.inl ⟨by rfl, ?_⟩) ?_ ?_
                                rotate_left
                                · intro w'
                                  go_simp
                                  with_reducible rfl
                                rotate_left
                                · simp only [Act.put, List.setIfInBounds_toArray, List.set_cons_zero, List.set_cons_succ, i64_w, i32_w]
                                  rfl
                                refine take_ (i := 4) (N := some 48) (v := ?_) (a' := ?_) #[true, true, true, true, true, true, true, true, true, false, false, true, false, false, false] rfl rfl (take_ofW HT_.out HW_.out (by kernel_rfl)) (fun _ _ _ h => h) (Or.inl ⟨by rfl, ?_⟩) hHeld ?_ ?_
                                rotate_left
                                · rintro w' ⟨s0, s1⟩
                                  go_simp
                                  with_reducible rfl
                                rotate_left
                                · simp only [Act.put, List.setIfInBounds_toArray, List.set_cons_zero, List.set_cons_succ, i64_w, i32_w]
                                  rfl
                                refine take_ (i := 9) (N := some 53) (v := ?_) (a' := ?_) #[true, true, true, true, true, true, true, true, true, true, false, true, false, false, false] rfl rfl (take_ofW HT_.out HW_.out (by kernel_rfl)) (fun _ _ _ h => h) (Or.inl ⟨by rfl, ?_⟩) hHeld ?_ ?_
                                rotate_left
                                · rintro w' ⟨s0, s1⟩
                                  go_simp
                                  with_reducible rfl
                                rotate_left
                                · simp only [Act.put, List.setIfInBounds_toArray, List.set_cons_zero, List.set_cons_succ, i64_w, i32_w]
                                  rfl
                                refine pure_ (i := 10) (N := some 54) (v := ?_) (a' := ?_) #[true, true, true, true, true, true, true, true, true, true, true, true, false, false, false] rfl rfl (any_of HT_.out (by kernel_rfl)) (fun _ _ _ h => h) (Or.inl ⟨by rfl, ?_⟩) ?_ ?_
                                rotate_left
                                · intro w'
                                  go_simp
                                  with_reducible rfl
                                rotate_left
                                · simp only [Act.put, List.setIfInBounds_toArray, List.set_cons_zero, List.set_cons_succ, i64_w, i32_w]
                                  rfl
                                refine pure_ (i := 12) (N := some 56) (v := ?_) (a' := ?_) #[true, true, true, true, true, true, true, true, true, true, true, true, true, false, false] rfl rfl (any_of HT_.out (by kernel_rfl)) (fun _ _ _ h => h) (Or.inl ⟨by rfl, ?_⟩) ?_ ?_
                                rotate_left
                                · intro w'
                                  go_simp
                                  with_reducible rfl
                                rotate_left
                                · simp only [Act.put, List.setIfInBounds_toArray, List.set_cons_zero, List.set_cons_succ, i64_w, i32_w]
                                  rfl
                                refine one_ (i := 13) (N := some 11) #[true, true, true, true, true, true, true, true, true, true, true, true, true, true, false] rfl rfl (one_of HT_.out (by kernel_rfl)) (by decide) (fun K hK => ?_)
                                refine box_step ?hg (N := 11) ?hd (cs := #[.int .i64 0, .int .i64 0, .int .i64 0, .int .i64 0]) (t := 23) ?hr ?_; (case hd => rfl); (case hg => rfl); (case hr => first | (go_simp; done) | (go_simp; rfl))
                                intro gb237 hg w49 hbox hb
                                have HS0_ := (hb.cell (World.block_lt_of_cell? _ _ (hHeld.1))).trans (hHeld.1)
                                have HS1_ := (hb.cell (World.block_lt_of_cell? _ _ (hHeld.2))).trans (hHeld.2)
                                have n0_ := Aside0.mk (Kd.R_below (Kd.R_elderB (rdm HO_5.out) gb237 (Nat.le_of_eq hg.symm)) hb)
                                have n1_ := Aside0.mk (Kd.R_below (rdm HO_7.out) hb)
                                have n2_ := Aside0.mk (below_step (hbm HB.out) hb)
                                have n3_ := Aside0.mk (hbox)
                                have n4_ := Aside0.mk ((by rw [hg]; exact (below_size (hbm HB.out)) : w.heap.size ≤ gb237))
                                have n5_ := Aside0.mk ((by rw [hg]; exact (below_size (hbm HB.out)) : w.heap.size ≤ gb237))
                                clear HO_5
                                clear HO_7
                                clear HB
                                have HO_5 := n0_
                                have HO_7 := n1_
                                have HB := n2_
                                have BK237 := n3_
                                have GW237 := n4_
                                have GE237 := n5_
                                clear n0_ n1_ n2_ n3_ n4_ n5_
                                clear hb hbox hg
                                refine hK.out _ _ ⟨HS0_, HS1_⟩ (fun hHeld => ?_)
                                clear hK K
                                refine norm_ (a' := ?_) ?_ ?_
                                rotate_left
                                · show Act.put _ (some 11) _ = _
                                  simp only [Act.put, List.setIfInBounds_toArray, List.set_cons_zero, List.set_cons_succ, i64_w, i32_w]
                                  rfl
                                refine one_ (i := 14) (N := none) #[true, true, true, true, true, true, true, true, true, true, true, true, true, true, true] rfl rfl (one_of HT_.out (by kernel_rfl)) (by decide) (fun K hK => ?_)
                                have hs50 : w49.cell? ⟨gb237, 0, none⟩ = some (.int .i64 0) := (blk_cell BK237.out 0).trans rfl
                                have hfs50 := blk_frozen BK237.out 0
                                have hs51 : w49.cell? ⟨gb237, 1, none⟩ = some (.int .i64 0) := (blk_cell BK237.out 1).trans rfl
                                have hfs51 := blk_frozen BK237.out 1
                                have hs52 : w49.cell? ⟨gb237, 2, none⟩ = some (.int .i64 0) := (blk_cell BK237.out 2).trans rfl
                                have hfs52 := blk_frozen BK237.out 2
                                have hs53 : w49.cell? ⟨gb237, 3, none⟩ = some (.int .i64 0) := (blk_cell BK237.out 3).trans rfl
                                have hfs53 := blk_frozen BK237.out 3
                                refine skip_ (w1 := ?_) (by rfl) rfl ?_ ?_
                                rotate_left
                                · go_simp
                                  rfl
                                refine hK.out _ _ ⟨((cell_far (p := ⟨gb237, _, none⟩) (by first | exact Kd.own_blk (Kd.R_ne HO_7.out BK237.out (by decide)) | (rw [add_block]; exact Kd.own_blk (Kd.R_ne HO_7.out BK237.out (by decide))) | (show (Addr.add _ _).block ≠ _; rw [add_block]; exact Kd.own_blk (Kd.R_ne HO_7.out BK237.out (by decide))) | (dsimp only; exact Kd.own_blk (Kd.R_ne HO_7.out BK237.out (by decide)))) _).trans (((cell_far (p := ⟨gb237, _, none⟩) (by first | exact Kd.own_blk (Kd.R_ne HO_7.out BK237.out (by decide)) | (rw [add_block]; exact Kd.own_blk (Kd.R_ne HO_7.out BK237.out (by decide))) | (show (Addr.add _ _).block ≠ _; rw [add_block]; exact Kd.own_blk (Kd.R_ne HO_7.out BK237.out (by decide))) | (dsimp only; exact Kd.own_blk (Kd.R_ne HO_7.out BK237.out (by decide)))) _).trans (((cell_far (p := ⟨gb237, _, none⟩) (by first | exact Kd.own_blk (Kd.R_ne HO_7.out BK237.out (by decide)) | (rw [add_block]; exact Kd.own_blk (Kd.R_ne HO_7.out BK237.out (by decide))) | (show (Addr.add _ _).block ≠ _; rw [add_block]; exact Kd.own_blk (Kd.R_ne HO_7.out BK237.out (by decide))) | (dsimp only; exact Kd.own_blk (Kd.R_ne HO_7.out BK237.out (by decide)))) _).trans (((cell_far (p := ⟨gb237, _, none⟩) (by first | exact Kd.own_blk (Kd.R_ne HO_7.out BK237.out (by decide)) | (rw [add_block]; exact Kd.own_blk (Kd.R_ne HO_7.out BK237.out (by decide))) | (show (Addr.add _ _).block ≠ _; rw [add_block]; exact Kd.own_blk (Kd.R_ne HO_7.out BK237.out (by decide))) | (dsimp only; exact Kd.own_blk (Kd.R_ne HO_7.out BK237.out (by decide)))) _).trans (hHeld.1)))))))), ((cell_far (p := ⟨gb237, _, none⟩) (by first | exact Kd.own_blk (Kd.R_ne HO_7.out BK237.out (by decide)) | (rw [add_block]; exact Kd.own_blk (Kd.R_ne HO_7.out BK237.out (by decide))) | (show (Addr.add _ _).block ≠ _; rw [add_block]; exact Kd.own_blk (Kd.R_ne HO_7.out BK237.out (by decide))) | (dsimp only; exact Kd.own_blk (Kd.R_ne HO_7.out BK237.out (by decide)))) _).trans (((cell_far (p := ⟨gb237, _, none⟩) (by first | exact Kd.own_blk (Kd.R_ne HO_7.out BK237.out (by decide)) | (rw [add_block]; exact Kd.own_blk (Kd.R_ne HO_7.out BK237.out (by decide))) | (show (Addr.add _ _).block ≠ _; rw [add_block]; exact Kd.own_blk (Kd.R_ne HO_7.out BK237.out (by decide))) | (dsimp only; exact Kd.own_blk (Kd.R_ne HO_7.out BK237.out (by decide)))) _).trans (((cell_far (p := ⟨gb237, _, none⟩) (by first | exact Kd.own_blk (Kd.R_ne HO_7.out BK237.out (by decide)) | (rw [add_block]; exact Kd.own_blk (Kd.R_ne HO_7.out BK237.out (by decide))) | (show (Addr.add _ _).block ≠ _; rw [add_block]; exact Kd.own_blk (Kd.R_ne HO_7.out BK237.out (by decide))) | (dsimp only; exact Kd.own_blk (Kd.R_ne HO_7.out BK237.out (by decide)))) _).trans (((cell_far (p := ⟨gb237, _, none⟩) (by first | exact Kd.own_blk (Kd.R_ne HO_7.out BK237.out (by decide)) | (rw [add_block]; exact Kd.own_blk (Kd.R_ne HO_7.out BK237.out (by decide))) | (show (Addr.add _ _).block ≠ _; rw [add_block]; exact Kd.own_blk (Kd.R_ne HO_7.out BK237.out (by decide))) | (dsimp only; exact Kd.own_blk (Kd.R_ne HO_7.out BK237.out (by decide)))) _).trans (hHeld.2))))))))⟩ (fun hHeld => ?_)
                                clear hK K
                                refine done_ (done_of HT_.out (by kernel_rfl)) ?_
                                obtain ⟨Ao54, co54, eo54⟩ := Kd.R_slice HO_5.out
                                subst eo54
                                try go_wp2
                                have n0_ : Aside0 (Kd.R k23 23 ((((w49.setCell ⟨gb237, 0, none⟩ (.int .i64 x6_1)).setCell ⟨gb237, 1, none⟩ (.int .i64 (rd t229 x8_2))).setCell ⟨gb237, 2, none⟩ (.int .i64 (wrap64 ((rd t229 (ji11)) - 1)))).setCell ⟨gb237, 3, none⟩ (.int .i64 t233)) w.heap.size (fun k_ => k_ ≠ gb237) (.slice Ao54 x5_2.length co54) x5_2) := ⟨by (with_reducible repeat (first | apply Kd.R_alloc | apply Kd.R_drewN | apply Kd.R_drew)); exact Kd.R_mono (Kd.R_far (p := ⟨gb237, 3, none⟩) (Kd.R_far (p := ⟨gb237, 2, none⟩) (Kd.R_far (p := ⟨gb237, 1, none⟩) (Kd.R_far (p := ⟨gb237, 0, none⟩) (Kd.R_mono HO_5.out (fun k_ hk => (⟨hk, hk.2⟩ : _ ∧ k_ ≠ gb237))) (fun _ hk => hk.2) (.int .i64 x6_1)) (fun _ hk => hk.2) (.int .i64 (rd t229 x8_2))) (fun _ hk => hk.2) (.int .i64 (wrap64 ((rd t229 (ji11)) - 1)))) (fun _ hk => hk.2) (.int .i64 t233)) (fun _ hk => hk.1.2)⟩
                                have n1_ : Aside0 (Kd.R (Kd.int .i64) 3 ((((w49.setCell ⟨gb237, 0, none⟩ (.int .i64 x6_1)).setCell ⟨gb237, 1, none⟩ (.int .i64 (rd t229 x8_2))).setCell ⟨gb237, 2, none⟩ (.int .i64 (wrap64 ((rd t229 (ji11)) - 1)))).setCell ⟨gb237, 3, none⟩ (.int .i64 t233)) w.heap.size (fun _ => True) (.slice (some ad232) t229.length co46) t229) := ⟨by (with_reducible repeat (first | apply Kd.R_alloc | apply Kd.R_drewN | apply Kd.R_drew)); exact Kd.R_mono (Kd.R_far (p := ⟨gb237, 3, none⟩) (Kd.R_far (p := ⟨gb237, 2, none⟩) (Kd.R_far (p := ⟨gb237, 1, none⟩) (Kd.R_far (p := ⟨gb237, 0, none⟩) (Kd.R_types HO_7.out BK237.out (by decide)) (fun _ hk => hk.2) (.int .i64 x6_1)) (fun _ hk => hk.2) (.int .i64 (rd t229 x8_2))) (fun _ hk => hk.2) (.int .i64 (wrap64 ((rd t229 (ji11)) - 1)))) (fun _ hk => hk.2) (.int .i64 t233)) (fun _ hk => trivial)⟩
                                have n2_ : Aside0 (((((w49.setCell ⟨gb237, 0, none⟩ (.int .i64 x6_1)).setCell ⟨gb237, 1, none⟩ (.int .i64 (rd t229 x8_2))).setCell ⟨gb237, 2, none⟩ (.int .i64 (wrap64 ((rd t229 (ji11)) - 1)))).setCell ⟨gb237, 3, none⟩ (.int .i64 t233)).heap[gb237]? = some (.cells #[.int .i64 x6_1, .int .i64 (rd t229 x8_2), .int .i64 (wrap64 ((rd t229 (ji11)) - 1)), .int .i64 t233] 23 (0, 0))) := ⟨by (with_reducible repeat (first | refine blk_drewN ?_ _ | refine blk_drew ?_ | refine blk_alloc ?_ _)); refine blk_put (cs := #[.int .i64 x6_1, .int .i64 (rd t229 x8_2), .int .i64 (wrap64 ((rd t229 (ji11)) - 1)), .int .i64 0]) ?_ 3 _ rfl; (with_reducible repeat (first | refine blk_drewN ?_ _ | refine blk_drew ?_ | refine blk_alloc ?_ _)); refine blk_put (cs := #[.int .i64 x6_1, .int .i64 (rd t229 x8_2), .int .i64 0, .int .i64 0]) ?_ 2 _ rfl; (with_reducible repeat (first | refine blk_drewN ?_ _ | refine blk_drew ?_ | refine blk_alloc ?_ _)); refine blk_put (cs := #[.int .i64 x6_1, .int .i64 0, .int .i64 0, .int .i64 0]) ?_ 1 _ rfl; (with_reducible repeat (first | refine blk_drewN ?_ _ | refine blk_drew ?_ | refine blk_alloc ?_ _)); refine blk_put (cs := #[.int .i64 0, .int .i64 0, .int .i64 0, .int .i64 0]) ?_ 0 _ rfl; (with_reducible repeat (first | refine blk_drewN ?_ _ | refine blk_drew ?_ | refine blk_alloc ?_ _)); exact BK237.out⟩
                                have n3_ : Aside0 (Below w.heap.size w ((((w49.setCell ⟨gb237, 0, none⟩ (.int .i64 x6_1)).setCell ⟨gb237, 1, none⟩ (.int .i64 (rd t229 x8_2))).setCell ⟨gb237, 2, none⟩ (.int .i64 (wrap64 ((rd t229 (ji11)) - 1)))).setCell ⟨gb237, 3, none⟩ (.int .i64 t233))) := ⟨hbm HB.out⟩
                                (try clear HO_5)
                                (try clear HO_7)
                                (try clear BK237)
                                (try clear HB)
                                generalize ((((w49.setCell ⟨gb237, 0, none⟩ (.int .i64 x6_1)).setCell ⟨gb237, 1, none⟩ (.int .i64 (rd t229 x8_2))).setCell ⟨gb237, 2, none⟩ (.int .i64 (wrap64 ((rd t229 (ji11)) - 1)))).setCell ⟨gb237, 3, none⟩ (.int .i64 t233)) = w55 at n0_ n1_ n2_ n3_ ⊢
                                have HO_5 := n0_
                                have HO_7 := n1_
                                have BK237 := n2_
                                have HB := n3_
                                clear n0_ n1_ n2_ n3_
                                have n0_ := Aside0.mk (Kd.R_drew HO_5.out)
                                have n1_ := Aside0.mk (Kd.R_drew HO_7.out)
                                have n2_ := Aside0.mk (blk_drew BK237.out)
                                have n3_ := Aside0.mk (below_drew1 HB.out)
                                clear HO_5
                                clear HO_7
                                clear BK237
                                clear HB
                                have HO_5 := n0_
                                have HO_7 := n1_
                                have BK237 := n2_
                                have HB := n3_
                                clear n0_ n1_ n2_ n3_
                                have p238 : 0 ≤ ((ji14) : Int) := odt
                                have q238 : (ji14) < (x5_2.length : Int) := odt
                                obtain ⟨ad238, e238, hx238_0, hx238_1, hx238_2, hx238_3⟩ := at_T23 (Kd.R_reads' HO_5.out).2.2 (ji14) p238 q238
                                cases e238
                                replace p238 := eq_true p238
                                replace q238 := eq_true q238
                                refine start_ (n := 11) (S := fun w' => w'.cell? ⟨gb237, 0, none⟩ = some (.int .i64 x6_1) ∧ w'.cell? ⟨gb237, 1, none⟩ = some (.int .i64 (rd t229 x8_2)) ∧ w'.cell? ⟨gb237, 2, none⟩ = some (.int .i64 (wrap64 ((rd t229 (ji11)) - 1))) ∧ w'.cell? ⟨gb237, 3, none⟩ = some (.int .i64 t233) ∧ w'.cell? (ad238.add (((ji14)).toNat * 4)) = some (.int .i64 ((rd_T23 x5_2 (ji14)).f0)) ∧ w'.cell? ⟨(ad238.add (((ji14)).toNat * 4)).block, (ad238.add (((ji14)).toNat * 4)).off + 1, none⟩ = some (.int .i64 ((rd_T23 x5_2 (ji14)).f1)) ∧ w'.cell? ⟨(ad238.add (((ji14)).toNat * 4)).block, (ad238.add (((ji14)).toNat * 4)).off + 2, none⟩ = some (.int .i64 ((rd_T23 x5_2 (ji14)).f2)) ∧ w'.cell? ⟨(ad238.add (((ji14)).toNat * 4)).block, (ad238.add (((ji14)).toNat * 4)).off + 3, none⟩ = some (.int .i64 ((rd_T23 x5_2 (ji14)).f3))) (ds := []) #[false, false, false, false, false, false, false, false, false, false, false] (by kernel_rfl) rfl rfl ⟨(blk_cell BK237.out 0).trans rfl, (blk_cell BK237.out 1).trans rfl, (blk_cell BK237.out 2).trans rfl, (blk_cell BK237.out 3).trans rfl, hx238_0, hx238_1, hx238_2, hx238_3⟩ (fun hHeld => ?_); refine with_tabW hornbookref07_Build.tab13 hornbookref07_Build.bits13 (fun HT_ HW_ => ?_)
                                generalize w55.drew = w56 at HO_5 HO_7 BK237 HB hx238_0 hx238_1 hx238_2 hx238_3 hHeld ⊢
                                refine pure_ (i := 0) (N := some 60) (v := ?_) (a' := ?_) #[true, false, false, false, false, false, false, false, false, false, false] rfl rfl (any_of HT_.out (by kernel_rfl)) (fun _ _ _ h => h) (Or.inl ⟨by rfl, ?_⟩) ?_ ?_
                                rotate_left
                                · intro w'
                                  go_simp
                                  with_reducible rfl
                                rotate_left
                                · simp only [Act.put, List.setIfInBounds_toArray, List.set_cons_zero, List.set_cons_succ, i64_w, i32_w]
                                  rfl
                                refine pure_ (i := 1) (N := some 61) (v := ?_) (a' := ?_) #[true, true, false, false, false, false, false, false, false, false, false] rfl rfl (any_of HT_.out (by kernel_rfl)) (fun _ _ _ h => h) (Or.inl ⟨by rfl, ?_⟩) ?_ ?_
                                rotate_left
                                · intro w'
                                  go_simp
                                  with_reducible rfl
                                rotate_left
                                · simp only [Act.put, List.setIfInBounds_toArray, List.set_cons_zero, List.set_cons_succ, i64_w, i32_w]
                                  rfl
                                refine pure_ (i := 2) (N := some 62) (v := ?_) (a' := ?_) #[true, true, true, false, false, false, false, false, false, false, false] rfl rfl (any_of HT_.out (by kernel_rfl)) (fun _ _ _ h => h) (Or.inl ⟨by rfl, ?_⟩) ?_ ?_
                                rotate_left
                                · intro w'
                                  go_simp
                                  with_reducible rfl
                                rotate_left
                                · simp only [Act.put, List.setIfInBounds_toArray, List.set_cons_zero, List.set_cons_succ, i64_w, i32_w]
                                  rfl
                                refine pure_ (i := 3) (N := some 63) (v := ?_) (a' := ?_) #[true, true, true, true, false, false, false, false, false, false, false] rfl rfl (any_of HT_.out (by kernel_rfl)) (fun _ _ _ h => h) (Or.inl ⟨by rfl, ?_⟩) ?_ ?_
                                rotate_left
                                · intro w'
                                  go_simp
                                  with_reducible rfl
                                rotate_left
                                · simp only [Act.put, List.setIfInBounds_toArray, List.set_cons_zero, List.set_cons_succ, i64_w, i32_w]
                                  rfl
                                refine pure_ (i := 4) (N := some 64) (v := ?_) (a' := ?_) #[true, true, true, true, true, false, false, false, false, false, false] rfl rfl (any_of HT_.out (by kernel_rfl)) (fun _ _ _ h => h) (Or.inl ⟨by rfl, ?_⟩) ?_ ?_
                                rotate_left
                                · intro w'
                                  go_simp
                                  with_reducible rfl
                                rotate_left
                                · simp only [Act.put, List.setIfInBounds_toArray, List.set_cons_zero, List.set_cons_succ, i64_w, i32_w]
                                  rfl
                                refine pure_ (i := 5) (N := some 65) (v := ?_) (a' := ?_) #[true, true, true, true, true, true, false, false, false, false, false] rfl rfl (any_of HT_.out (by kernel_rfl)) (fun _ _ _ h => h) (Or.inl ⟨by rfl, ?_⟩) ?_ ?_
                                rotate_left
                                · intro w'
                                  go_simp
                                  with_reducible rfl
                                rotate_left
                                · simp only [Act.put, List.setIfInBounds_toArray, List.set_cons_zero, List.set_cons_succ, i64_w, i32_w]
                                  rfl
                                refine pure_ (i := 8) (N := some 68) (v := ?_) (a' := ?_) #[true, true, true, true, true, true, false, false, true, false, false] rfl rfl (any_of HT_.out (by kernel_rfl)) (fun _ _ _ h => h) (Or.inl ⟨by rfl, ?_⟩) ?_ ?_
                                rotate_left
                                · intro w'
                                  go_simp
                                  with_reducible rfl
                                rotate_left
                                · simp only [Act.put, List.setIfInBounds_toArray, List.set_cons_zero, List.set_cons_succ, i64_w, i32_w]
                                  rfl
                                refine take_ (i := 6) (N := some 66) (v := ?_) (a' := ?_) #[true, true, true, true, true, true, true, false, true, false, false] rfl rfl (take_ofW HT_.out HW_.out (by kernel_rfl)) (fun _ _ _ h => h) (Or.inl ⟨by rfl, ?_⟩) hHeld ?_ ?_
                                rotate_left
                                · rintro w' ⟨s0, s1, s2, s3, s4, s5, s6, s7⟩
                                  go_simp
                                  with_reducible rfl
                                rotate_left
                                · simp only [Act.put, List.setIfInBounds_toArray, List.set_cons_zero, List.set_cons_succ, i64_w, i32_w]
                                  rfl
                                refine take_ (i := 7) (N := some 67) (v := ?_) (a' := ?_) #[true, true, true, true, true, true, true, true, true, false, false] rfl rfl (take_ofW HT_.out HW_.out (by kernel_rfl)) (fun _ _ _ h => h) (Or.inl ⟨by rfl, ?_⟩) hHeld ?_ ?_
                                rotate_left
                                · rintro w' ⟨s0, s1, s2, s3, s4, s5, s6, s7⟩
                                  go_simp
                                  with_reducible rfl
                                rotate_left
                                · simp only [Act.put, List.setIfInBounds_toArray, List.set_cons_zero, List.set_cons_succ, i64_w, i32_w]
                                  rfl
                                refine one_ (i := 9) (N := some 69) #[true, true, true, true, true, true, true, true, true, true, false] rfl rfl (one_of HT_.out (by kernel_rfl)) (by decide) (fun K hK => ?_)
                                refine goes_ Try.func36 (by kernel_rfl) rfl #[.agg #[.int .i64 ((rd_T23 x5_2 (ji14)).f0), .int .i64 ((rd_T23 x5_2 (ji14)).f1), .int .i64 ((rd_T23 x5_2 (ji14)).f2), .int .i64 ((rd_T23 x5_2 (ji14)).f3)], .agg #[.int .i64 x6_1, .int .i64 (rd t229 x8_2), .int .i64 (wrap64 ((rd t229 (ji11)) - 1)), .int .i64 t233], .bool a1] (by rfl) rfl rfl (by (try simp only [List.map_toArray, List.map_cons, List.map_nil]); first | done | (simp only [hji11, hji14]; rfl) | rfl | (simp only [List.length_drop, List.length_take]; rfl)) ?_
                                with_reducible refine (hornbookref07_joins.calls ((rd_T23 x5_2 (ji14)).f0) ((rd_T23 x5_2 (ji14)).f1) ((rd_T23 x5_2 (ji14)).f2) ((rd_T23 x5_2 (ji14)).f3) x6_1 (rd t229 x8_2) (wrap64 ((rd t229 (ji11)) - 1)) t233 a1 false _ A17.out).mono ?_
                                rintro e w57 ⟨rfl, hb⟩
                                have HS4_ := (hb.cell (World.block_lt_of_cell? _ _ (hHeld.2.2.2.2.1))).trans (hHeld.2.2.2.2.1)
                                have HS5_ := (hb.cell (World.block_lt_of_cell? _ _ (hHeld.2.2.2.2.2.1))).trans (hHeld.2.2.2.2.2.1)
                                have HS6_ := (hb.cell (World.block_lt_of_cell? _ _ (hHeld.2.2.2.2.2.2.1))).trans (hHeld.2.2.2.2.2.2.1)
                                have HS7_ := (hb.cell (World.block_lt_of_cell? _ _ (hHeld.2.2.2.2.2.2.2))).trans (hHeld.2.2.2.2.2.2.2)
                                refine ⟨_, rfl, ?_⟩
                                have n0_ := Aside0.mk (Kd.R_below (rdm HO_5.out) hb)
                                have n1_ := Aside0.mk (Kd.R_below (rdm HO_7.out) hb)
                                have n2_ := Aside0.mk (blk_below (g := gb237) (o := .cells #[.int .i64 x6_1, .int .i64 (rd t229 x8_2), .int .i64 (wrap64 ((rd t229 (ji11)) - 1)), .int .i64 t233] 23 (0, 0)) (bkm BK237.out) hb)
                                have n3_ := Aside0.mk (below_step (hbm HB.out) hb)
                                clear HO_5
                                clear HO_7
                                clear BK237
                                clear HB
                                have HO_5 := n0_
                                have HO_7 := n1_
                                have BK237 := n2_
                                have HB := n3_
                                clear n0_ n1_ n2_ n3_
                                (try clear hb)
                                (try clear hb2)
                                (try clear hk)
                                (try clear hi)
                                refine hK.out _ _ ⟨(blk_cell BK237.out 0).trans rfl, (blk_cell BK237.out 1).trans rfl, (blk_cell BK237.out 2).trans rfl, (blk_cell BK237.out 3).trans rfl, HS4_, HS5_, HS6_, HS7_⟩ (fun hHeld => ?_)
                                clear hK K
                                refine norm_ (a' := ?_) ?_ ?_
                                rotate_left
                                · show Act.put _ (some 69) _ = _
                                  simp only [Act.put, List.setIfInBounds_toArray, List.set_cons_zero, List.set_cons_succ, i64_w, i32_w]
                                  rfl
                                refine pure_ (i := 10) (N := some 70) (v := ?_) (a' := ?_) #[true, true, true, true, true, true, true, true, true, true, true] rfl rfl (any_of HT_.out (by kernel_rfl)) (fun _ _ _ h => h) (Or.inl ⟨by rfl, ?_⟩) ?_ ?_
                                rotate_left
                                · intro w'
                                  go_simp
                                  with_reducible rfl
                                rotate_left
                                · simp only [Act.put, List.setIfInBounds_toArray, List.set_cons_zero, List.set_cons_succ, i64_w, i32_w]
                                  rfl
                                refine done_ (done_of HT_.out (by kernel_rfl)) ?_
                                have hcz58_0 : w57.cell? ⟨gb237, 0, none⟩ = some (.int .i64 x6_1) := (blk_cell BK237.out 0).trans rfl
                                have hcz58_1 : w57.cell? ⟨gb237, 1, none⟩ = some (.int .i64 (rd t229 x8_2)) := (blk_cell BK237.out 1).trans rfl
                                have hcz58_2 : w57.cell? ⟨gb237, 2, none⟩ = some (.int .i64 (wrap64 ((rd t229 (ji11)) - 1))) := (blk_cell BK237.out 2).trans rfl
                                have hcz58_3 : w57.cell? ⟨gb237, 3, none⟩ = some (.int .i64 t233) := (blk_cell BK237.out 3).trans rfl
                                have hfz58_0 := blk_frozen BK237.out 0
                                have hfz58_1 := blk_frozen BK237.out 1
                                have hfz58_2 := blk_frozen BK237.out 2
                                have hfz58_3 := blk_frozen BK237.out 3
                                try go_wp2_with (first | ((with_reducible refine gate_builtin (b := .append) (xs := #[.tmp 88, .tmp 90]) rfl ?_); at_builtin; refine Kd.R_append k23 (w0 := w) w.heap.size rfl (.tmp 88) (.tmp 90) 26 23 (.agg #[(.int .i64 0), (.int .i64 0), (.int .i64 0), (.int .i64 0)]) 32 rfl Try.underlying26 info23 rfl (by decide) (by omega) (.slice (some ad238) x5_2.length co54) x5_2 (⟨x6_1, rd t229 x8_2, wrap64 ((rd t229 (ji11)) - 1), t233⟩ : S23) [.int .i64 x6_1, .int .i64 (rd t229 x8_2), .int .i64 (wrap64 ((rd t229 (ji11)) - 1)), .int .i64 t233] (fun k_ => k_ ≠ gb237) (fun _ => False) rfl rfl ?aP (fun _ hk => hk.elim) ?aF ?aO ?aB ?aS ?aL ?_; (case aP => exact k23_mkM _ _ _ (⟨x6_1, rd t229 x8_2, wrap64 ((rd t229 (ji11)) - 1), t233⟩ : S23)); (case aB => exact (hbm HB.out)); (case aF => exact (fun k_ hk => Kd.freshB (g := gb237) (o := .cells #[.int .i64 x6_1, .int .i64 (rd t229 x8_2), .int .i64 (wrap64 ((rd t229 (ji11)) - 1)), .int .i64 t233] 23 (0, 0)) (bkm BK237.out) k_ hk)); (case aO => exact (rdm HO_5.out)); (case aS => exact (below_size (hbm HB.out))); (case aL => have := LMc45.out; omega); intro v256 w59 ho hb hg hat; rw [← Ny255.out] at ho; have n0_ := Aside0.mk (Kd.R_over' (rdm HO_7.out) (Kd.R_typed (rdm HO_5.out)) (by decide) hg); have n1_ := Aside0.mk (blk_grown (g := gb237) (o := .cells #[.int .i64 x6_1, .int .i64 (rd t229 x8_2), .int .i64 (wrap64 ((rd t229 (ji11)) - 1)), .int .i64 t233] 23 (0, 0)) (bkm BK237.out) hg (Kd.R_away HO_5.out (fun _ hk => hk))); have n2_ := Aside0.mk (hb); have n3_ := Aside0.mk (ho); clear HO_7; clear BK237; clear HB; clear HO_5; have HO_7 := n0_; have BK237 := n1_; have HB := n2_; have HO257 := n3_; clear n0_ n1_ n2_ n3_; clear ho hb hg hat))
                                go_roundg k2
                                case measure => have := HK1.out; have := HK2.out; omega
                                case rel => exact ⟨(y255), (ji11), (by first | rfl | (simp; done) | (simp only [← hji11] <;> (first | rfl | simp)) | (simp [*]; done)), H', ⟨by have := HK1.out; have := HK2.out; omega⟩, ⟨by (with_reducible repeat (first | apply Kd.R_alloc | apply Kd.R_drewN | apply Kd.R_drew)); exact Kd.R_mono HO257.out (fun _ hk => trivial)⟩, ⟨rdm HO_7.out⟩, ⟨hbm HB.out⟩⟩
                              · rw [if_neg c45] at H
                                exact absurd H (by simp)
                          · rw [if_neg c16] at H
                            exact absurd H (by simp)
                        · rw [if_neg c15] at H
                          exact absurd H (by simp)
                      · rw [if_neg c13] at H
                        have c13b0 : decide (0 ≤ (wrap64 ((x5_2.length : Int) - 1))) = false := decide_eq_false c13
                        clear c13
                        by_cases c60 : x5_2.length < 4398046511104
                        · rw [if_pos c60] at H
                          have LMc60 := Aside0.mk c60
                          clear c60
                          obtain ⟨y258, hy258⟩ : ∃ y_ : List (S23), y_ = (x5_2 ++ [(⟨x6_1, rd t229 x8_2, wrap64 ((rd t229 (ji11)) - 1), t233⟩ : S23)]) := ⟨_, rfl⟩
                          replace H : (hornbookref07_Build.l1 k2 l0 a1 y258 x6_1 t229 ji11) = some r := by first | (rw [hy258]; with_reducible exact H) | (have H2_ := (Option.bind_some _ _).symm.trans H; rw [hy258]; with_reducible exact H2_) | (have H2_ := (Option.bind_some _ _).symm.trans H; with_reducible exact H2_) | with_reducible exact H | (rw [hy258]; exact H) | exact H
                          have Ny258 := Aside0.mk hy258
                          clear hy258
                          have H' := Aside0.mk H
                          clear H
                          obtain ⟨Ao61, co61, eo61⟩ := Kd.R_slice HO_7.out
                          subst eo61
                          have p232 : 0 ≤ (x8_2 : Int) := odt
                          have q232 : x8_2 < (t229.length : Int) := odt
                          obtain ⟨ad232, e232, hx232_0⟩ := Kd.at_int (Kd.R_reads' HO_7.out).2.2 x8_2 p232 q232
                          cases e232
                          replace p232 := eq_true p232
                          replace q232 := eq_true q232
                          try go_wp2_with (first | ((with_reducible refine gate_callee (f := 19) rfl ?_); refine goesL_ (some 39) rfl rfl Try.func19 (by kernel_rfl) rfl #[.slice A0 l0.length c0, .agg #[.int .i64 x6_1, .int .i64 (rd t229 x8_2)], .bool a1] rfl (by (try simp only [List.map_toArray, List.map_cons, List.map_nil]); first | done | rfl | (simp only [List.length_drop, List.length_take]; rfl)) ?_; (with_reducible refine (hornbookref07_Last.calls k2 _ _ l0 x6_1 (rd t229 x8_2) a1 t233 true _ ?side1 ?side2 A9.out).mono ?_); (case side1 => repeat (first | exact (Kd.C_below HR0.out HB.out) | (with_reducible refine Kd.C_alloc ?_ _) | (with_reducible refine Kd.C_drewN ?_ _) | (with_reducible refine Kd.C_drew ?_))); (case side2 => exact HC0.out); rintro e w62 ⟨rfl, hb⟩; refine ⟨_, rfl, ?_⟩; have n0_ := Aside0.mk (Kd.R_below (rdm HO_5.out) hb); have n1_ := Aside0.mk (Kd.R_below (rdm HO_7.out) hb); have n2_ := Aside0.mk (below_step (hbm HB.out) hb); clear HO_5; clear HO_7; clear HB; have HO_5 := n0_; have HO_7 := n1_; have HB := n2_; clear n0_ n1_ n2_; (try clear hb); (try clear hb2); (try clear hk); (try clear hi)))
                          have n0_ := Aside0.mk (Kd.R_drew HO_5.out)
                          have n1_ := Aside0.mk (Kd.R_drew HO_7.out)
                          have n2_ := Aside0.mk (below_drew1 HB.out)
                          clear HO_5
                          clear HO_7
                          clear HB
                          have HO_5 := n0_
                          have HO_7 := n1_
                          have HB := n2_
                          clear n0_ n1_ n2_
                          have p235 : 0 ≤ (x8_2 : Int) := odt
                          have q235 : x8_2 < (t229.length : Int) := odt
                          obtain ⟨ad235, e235, hx235_0⟩ := Kd.at_int (Kd.R_reads' HO_7.out).2.2 x8_2 p235 q235
                          obtain rfl : ad232 = ad235 := (by injection e235)
                          replace p235 := eq_true p235
                          replace q235 := eq_true q235
                          have p236 : 0 ≤ ((ji11) : Int) := odt
                          have q236 : (ji11) < (t229.length : Int) := odt
                          obtain ⟨ad236, e236, hx236_0⟩ := Kd.at_int (Kd.R_reads' HO_7.out).2.2 (ji11) p236 q236
                          obtain rfl : ad232 = ad236 := (by injection e236)
                          replace p236 := eq_true p236
                          replace q236 := eq_true q236
                          refine start_ (n := 15) (S := fun w' => w'.cell? (ad232.add (x8_2).toNat) = some (.int .i64 (rd t229 x8_2)) ∧ w'.cell? (ad232.add ((ji11)).toNat) = some (.int .i64 (rd t229 (ji11)))) (ds := []) #[false, false, false, false, false, false, false, false, false, false, false, false, false, false, false] (by kernel_rfl) rfl rfl ⟨hx235_0, hx236_0⟩ (fun hHeld => ?_); refine with_tabW hornbookref07_Build.tab11 hornbookref07_Build.bits11 (fun HT_ HW_ => ?_)
                          generalize w62.drew = w63 at HO_5 HO_7 HB hx235_0 hx236_0 hHeld ⊢
                          refine pure_ (i := 0) (N := some 44) (v := ?_) (a' := ?_) #[true, false, false, false, false, false, false, false, false, false, false, false, false, false, false] rfl rfl (any_of HT_.out (by kernel_rfl)) (fun _ _ _ h => h) (Or.inl ⟨by rfl, ?_⟩) ?_ ?_
                          rotate_left
                          · intro w'
                            go_simp
                            with_reducible rfl
                          rotate_left
                          · simp only [Act.put, List.setIfInBounds_toArray, List.set_cons_zero, List.set_cons_succ, i64_w, i32_w]
                            rfl
                          refine pure_ (i := 1) (N := some 45) (v := ?_) (a' := ?_) #[true, true, false, false, false, false, false, false, false, false, false, false, false, false, false] rfl rfl (any_of HT_.out (by kernel_rfl)) (fun _ _ _ h => h) (Or.inl ⟨by rfl, ?_⟩) ?_ ?_
                          rotate_left
                          · intro w'
                            go_simp
                            with_reducible rfl
                          rotate_left
                          · simp only [Act.put, List.setIfInBounds_toArray, List.set_cons_zero, List.set_cons_succ, i64_w, i32_w]
                            rfl
                          refine pure_ (i := 2) (N := some 46) (v := ?_) (a' := ?_) #[true, true, true, false, false, false, false, false, false, false, false, false, false, false, false] rfl rfl (any_of HT_.out (by kernel_rfl)) (fun _ _ _ h => h) (Or.inl ⟨by rfl, ?_⟩) ?_ ?_
                          rotate_left
                          · intro w'
                            go_simp
                            with_reducible rfl
                          rotate_left
                          · simp only [Act.put, List.setIfInBounds_toArray, List.set_cons_zero, List.set_cons_succ, i64_w, i32_w]
                            rfl
                          refine pure_ (i := 3) (N := some 47) (v := ?_) (a' := ?_) #[true, true, true, true, false, false, false, false, false, false, false, false, false, false, false] rfl rfl (any_of HT_.out (by kernel_rfl)) (fun _ _ _ h => h) (Or.inl ⟨by rfl, ?_⟩) ?_ ?_
                          rotate_left
                          · intro w'
                            go_simp
                            with_reducible rfl
                          rotate_left
                          · simp only [Act.put, List.setIfInBounds_toArray, List.set_cons_zero, List.set_cons_succ, i64_w, i32_w]
                            rfl
                          refine pure_ (i := 5) (N := some 49) (v := ?_) (a' := ?_) #[true, true, true, true, false, true, false, false, false, false, false, false, false, false, false] rfl rfl (any_of HT_.out (by kernel_rfl)) (fun _ _ _ h => h) (Or.inl ⟨by rfl, ?_⟩) ?_ ?_
                          rotate_left
                          · intro w'
                            go_simp
                            with_reducible rfl
                          rotate_left
                          · simp only [Act.put, List.setIfInBounds_toArray, List.set_cons_zero, List.set_cons_succ, i64_w, i32_w]
                            rfl
                          refine pure_ (i := 6) (N := some 50) (v := ?_) (a' := ?_) #[true, true, true, true, false, true, true, false, false, false, false, false, false, false, false] rfl rfl (any_of HT_.out (by kernel_rfl)) (fun _ _ _ h => h) (Or.inl ⟨by rfl, ?_⟩) ?_ ?_
                          rotate_left
                          · intro w'
                            go_simp
                            with_reducible rfl
                          rotate_left
                          · simp only [Act.put, List.setIfInBounds_toArray, List.set_cons_zero, List.set_cons_succ, i64_w, i32_w]
                            rfl
                          refine pure_ (i := 7) (N := some 51) (v := ?_) (a' := ?_) #[true, true, true, true, false, true, true, true, false, false, false, false, false, false, false] rfl rfl (any_of HT_.out (by kernel_rfl)) (fun _ _ _ h => h) (Or.inl ⟨by rfl, ?_⟩) ?_ ?_
                          rotate_left
                          · intro w'
                            go_simp
                            with_reducible rfl
                          rotate_left
                          · simp only [Act.put, List.setIfInBounds_toArray, List.set_cons_zero, List.set_cons_succ, i64_w, i32_w]
                            rfl
                          refine pure_ (i := 8) (N := some 52) (v := ?_) (a' := ?_) #[true, true, true, true, false, true, true, true, true, false, false, false, false, false, false] rfl rfl (any_of HT_.out (by kernel_rfl)) (fun _ _ _ h => h) (Or.inl ⟨by rfl, ?_⟩) ?_ ?_
                          rotate_left
                          · intro w'
                            go_simp
                            with_reducible rfl
                          rotate_left
                          · simp only [Act.put, List.setIfInBounds_toArray, List.set_cons_zero, List.set_cons_succ, i64_w, i32_w]
                            rfl
                          refine pure_ (i := 11) (N := some 55) (v := ?_) (a' := ?_) #[true, true, true, true, false, true, true, true, true, false, false, true, false, false, false] rfl rfl (any_of HT_.out (by kernel_rfl)) (fun _ _ _ h => h) (Or.inl ⟨by rfl, ?_⟩) ?_ ?_
                          rotate_left
                          · intro w'
                            go_simp
                            with_reducible rfl
                          rotate_left
                          · simp only [Act.put, List.setIfInBounds_toArray, List.set_cons_zero, List.set_cons_succ, i64_w, i32_w]
                            rfl
                          refine take_ (i := 4) (N := some 48) (v := ?_) (a' := ?_) #[true, true, true, true, true, true, true, true, true, false, false, true, false, false, false] rfl rfl (take_ofW HT_.out HW_.out (by kernel_rfl)) (fun _ _ _ h => h) (Or.inl ⟨by rfl, ?_⟩) hHeld ?_ ?_
                          rotate_left
                          · rintro w' ⟨s0, s1⟩
                            go_simp
                            with_reducible rfl
                          rotate_left
                          · simp only [Act.put, List.setIfInBounds_toArray, List.set_cons_zero, List.set_cons_succ, i64_w, i32_w]
                            rfl
                          refine take_ (i := 9) (N := some 53) (v := ?_) (a' := ?_) #[true, true, true, true, true, true, true, true, true, true, false, true, false, false, false] rfl rfl (take_ofW HT_.out HW_.out (by kernel_rfl)) (fun _ _ _ h => h) (Or.inl ⟨by rfl, ?_⟩) hHeld ?_ ?_
                          rotate_left
                          · rintro w' ⟨s0, s1⟩
                            go_simp
                            with_reducible rfl
                          rotate_left
                          · simp only [Act.put, List.setIfInBounds_toArray, List.set_cons_zero, List.set_cons_succ, i64_w, i32_w]
                            rfl
                          refine pure_ (i := 10) (N := some 54) (v := ?_) (a' := ?_) #[true, true, true, true, true, true, true, true, true, true, true, true, false, false, false] rfl rfl (any_of HT_.out (by kernel_rfl)) (fun _ _ _ h => h) (Or.inl ⟨by rfl, ?_⟩) ?_ ?_
                          rotate_left
                          · intro w'
                            go_simp
                            with_reducible rfl
                          rotate_left
                          · simp only [Act.put, List.setIfInBounds_toArray, List.set_cons_zero, List.set_cons_succ, i64_w, i32_w]
                            rfl
                          refine pure_ (i := 12) (N := some 56) (v := ?_) (a' := ?_) #[true, true, true, true, true, true, true, true, true, true, true, true, true, false, false] rfl rfl (any_of HT_.out (by kernel_rfl)) (fun _ _ _ h => h) (Or.inl ⟨by rfl, ?_⟩) ?_ ?_
                          rotate_left
                          · intro w'
                            go_simp
                            with_reducible rfl
                          rotate_left
                          · simp only [Act.put, List.setIfInBounds_toArray, List.set_cons_zero, List.set_cons_succ, i64_w, i32_w]
                            rfl
                          refine one_ (i := 13) (N := some 11) #[true, true, true, true, true, true, true, true, true, true, true, true, true, true, false] rfl rfl (one_of HT_.out (by kernel_rfl)) (by decide) (fun K hK => ?_)
                          refine box_step ?hg (N := 11) ?hd (cs := #[.int .i64 0, .int .i64 0, .int .i64 0, .int .i64 0]) (t := 23) ?hr ?_; (case hd => rfl); (case hg => rfl); (case hr => first | (go_simp; done) | (go_simp; rfl))
                          intro gb237 hg w64 hbox hb
                          have HS0_ := (hb.cell (World.block_lt_of_cell? _ _ (hHeld.1))).trans (hHeld.1)
                          have HS1_ := (hb.cell (World.block_lt_of_cell? _ _ (hHeld.2))).trans (hHeld.2)
                          have n0_ := Aside0.mk (Kd.R_below (Kd.R_elderB (rdm HO_5.out) gb237 (Nat.le_of_eq hg.symm)) hb)
                          have n1_ := Aside0.mk (Kd.R_below (rdm HO_7.out) hb)
                          have n2_ := Aside0.mk (below_step (hbm HB.out) hb)
                          have n3_ := Aside0.mk (hbox)
                          have n4_ := Aside0.mk ((by rw [hg]; exact (below_size (hbm HB.out)) : w.heap.size ≤ gb237))
                          have n5_ := Aside0.mk ((by rw [hg]; exact (below_size (hbm HB.out)) : w.heap.size ≤ gb237))
                          clear HO_5
                          clear HO_7
                          clear HB
                          have HO_5 := n0_
                          have HO_7 := n1_
                          have HB := n2_
                          have BK237 := n3_
                          have GW237 := n4_
                          have GE237 := n5_
                          clear n0_ n1_ n2_ n3_ n4_ n5_
                          clear hb hbox hg
                          refine hK.out _ _ ⟨HS0_, HS1_⟩ (fun hHeld => ?_)
                          clear hK K
                          refine norm_ (a' := ?_) ?_ ?_
                          rotate_left
                          · show Act.put _ (some 11) _ = _
                            simp only [Act.put, List.setIfInBounds_toArray, List.set_cons_zero, List.set_cons_succ, i64_w, i32_w]
                            rfl
                          refine one_ (i := 14) (N := none) #[true, true, true, true, true, true, true, true, true, true, true, true, true, true, true] rfl rfl (one_of HT_.out (by kernel_rfl)) (by decide) (fun K hK => ?_)
                          have hs65 : w64.cell? ⟨gb237, 0, none⟩ = some (.int .i64 0) := (blk_cell BK237.out 0).trans rfl
                          have hfs65 := blk_frozen BK237.out 0
                          have hs66 : w64.cell? ⟨gb237, 1, none⟩ = some (.int .i64 0) := (blk_cell BK237.out 1).trans rfl
                          have hfs66 := blk_frozen BK237.out 1
                          have hs67 : w64.cell? ⟨gb237, 2, none⟩ = some (.int .i64 0) := (blk_cell BK237.out 2).trans rfl
                          have hfs67 := blk_frozen BK237.out 2
                          have hs68 : w64.cell? ⟨gb237, 3, none⟩ = some (.int .i64 0) := (blk_cell BK237.out 3).trans rfl
                          have hfs68 := blk_frozen BK237.out 3
                          refine skip_ (w1 := ?_) (by rfl) rfl ?_ ?_
                          rotate_left
                          · go_simp
                            rfl
                          refine hK.out _ _ ⟨((cell_far (p := ⟨gb237, _, none⟩) (by first | exact Kd.own_blk (Kd.R_ne HO_7.out BK237.out (by decide)) | (rw [add_block]; exact Kd.own_blk (Kd.R_ne HO_7.out BK237.out (by decide))) | (show (Addr.add _ _).block ≠ _; rw [add_block]; exact Kd.own_blk (Kd.R_ne HO_7.out BK237.out (by decide))) | (dsimp only; exact Kd.own_blk (Kd.R_ne HO_7.out BK237.out (by decide)))) _).trans (((cell_far (p := ⟨gb237, _, none⟩) (by first | exact Kd.own_blk (Kd.R_ne HO_7.out BK237.out (by decide)) | (rw [add_block]; exact Kd.own_blk (Kd.R_ne HO_7.out BK237.out (by decide))) | (show (Addr.add _ _).block ≠ _; rw [add_block]; exact Kd.own_blk (Kd.R_ne HO_7.out BK237.out (by decide))) | (dsimp only; exact Kd.own_blk (Kd.R_ne HO_7.out BK237.out (by decide)))) _).trans (((cell_far (p := ⟨gb237, _, none⟩) (by first | exact Kd.own_blk (Kd.R_ne HO_7.out BK237.out (by decide)) | (rw [add_block]; exact Kd.own_blk (Kd.R_ne HO_7.out BK237.out (by decide))) | (show (Addr.add _ _).block ≠ _; rw [add_block]; exact Kd.own_blk (Kd.R_ne HO_7.out BK237.out (by decide))) | (dsimp only; exact Kd.own_blk (Kd.R_ne HO_7.out BK237.out (by decide)))) _).trans (((cell_far (p := ⟨gb237, _, none⟩) (by first | exact Kd.own_blk (Kd.R_ne HO_7.out BK237.out (by decide)) | (rw [add_block]; exact Kd.own_blk (Kd.R_ne HO_7.out BK237.out (by decide))) | (show (Addr.add _ _).block ≠ _; rw [add_block]; exact Kd.own_blk (Kd.R_ne HO_7.out BK237.out (by decide))) | (dsimp only; exact Kd.own_blk (Kd.R_ne HO_7.out BK237.out (by decide)))) _).trans (hHeld.1)))))))), ((cell_far (p := ⟨gb237, _, none⟩) (by first | exact Kd.own_blk (Kd.R_ne HO_7.out BK237.out (by decide)) | (rw [add_block]; exact Kd.own_blk (Kd.R_ne HO_7.out BK237.out (by decide))) | (show (Addr.add _ _).block ≠ _; rw [add_block]; exact Kd.own_blk (Kd.R_ne HO_7.out BK237.out (by decide))) | (dsimp only; exact Kd.own_blk (Kd.R_ne HO_7.out BK237.out (by decide)))) _).trans (((cell_far (p := ⟨gb237, _, none⟩) (by first | exact Kd.own_blk (Kd.R_ne HO_7.out BK237.out (by decide)) | (rw [add_block]; exact Kd.own_blk (Kd.R_ne HO_7.out BK237.out (by decide))) | (show (Addr.add _ _).block ≠ _; rw [add_block]; exact Kd.own_blk (Kd.R_ne HO_7.out BK237.out (by decide))) | (dsimp only; exact Kd.own_blk (Kd.R_ne HO_7.out BK237.out (by decide)))) _).trans (((cell_far (p := ⟨gb237, _, none⟩) (by first | exact Kd.own_blk (Kd.R_ne HO_7.out BK237.out (by decide)) | (rw [add_block]; exact Kd.own_blk (Kd.R_ne HO_7.out BK237.out (by decide))) | (show (Addr.add _ _).block ≠ _; rw [add_block]; exact Kd.own_blk (Kd.R_ne HO_7.out BK237.out (by decide))) | (dsimp only; exact Kd.own_blk (Kd.R_ne HO_7.out BK237.out (by decide)))) _).trans (((cell_far (p := ⟨gb237, _, none⟩) (by first | exact Kd.own_blk (Kd.R_ne HO_7.out BK237.out (by decide)) | (rw [add_block]; exact Kd.own_blk (Kd.R_ne HO_7.out BK237.out (by decide))) | (show (Addr.add _ _).block ≠ _; rw [add_block]; exact Kd.own_blk (Kd.R_ne HO_7.out BK237.out (by decide))) | (dsimp only; exact Kd.own_blk (Kd.R_ne HO_7.out BK237.out (by decide)))) _).trans (hHeld.2))))))))⟩ (fun hHeld => ?_)
                          clear hK K
                          refine done_ (done_of HT_.out (by kernel_rfl)) ?_
                          obtain ⟨Ao69, co69, eo69⟩ := Kd.R_slice HO_5.out
                          subst eo69
                          try go_wp2
                          have n0_ : Aside0 (Kd.R k23 23 ((((w64.setCell ⟨gb237, 0, none⟩ (.int .i64 x6_1)).setCell ⟨gb237, 1, none⟩ (.int .i64 (rd t229 x8_2))).setCell ⟨gb237, 2, none⟩ (.int .i64 (wrap64 ((rd t229 (ji11)) - 1)))).setCell ⟨gb237, 3, none⟩ (.int .i64 t233)) w.heap.size (fun k_ => k_ ≠ gb237) (.slice Ao69 x5_2.length co69) x5_2) := ⟨by (with_reducible repeat (first | apply Kd.R_alloc | apply Kd.R_drewN | apply Kd.R_drew)); exact Kd.R_mono (Kd.R_far (p := ⟨gb237, 3, none⟩) (Kd.R_far (p := ⟨gb237, 2, none⟩) (Kd.R_far (p := ⟨gb237, 1, none⟩) (Kd.R_far (p := ⟨gb237, 0, none⟩) (Kd.R_mono HO_5.out (fun k_ hk => (⟨hk, hk.2⟩ : _ ∧ k_ ≠ gb237))) (fun _ hk => hk.2) (.int .i64 x6_1)) (fun _ hk => hk.2) (.int .i64 (rd t229 x8_2))) (fun _ hk => hk.2) (.int .i64 (wrap64 ((rd t229 (ji11)) - 1)))) (fun _ hk => hk.2) (.int .i64 t233)) (fun _ hk => hk.1.2)⟩
                          have n1_ : Aside0 (Kd.R (Kd.int .i64) 3 ((((w64.setCell ⟨gb237, 0, none⟩ (.int .i64 x6_1)).setCell ⟨gb237, 1, none⟩ (.int .i64 (rd t229 x8_2))).setCell ⟨gb237, 2, none⟩ (.int .i64 (wrap64 ((rd t229 (ji11)) - 1)))).setCell ⟨gb237, 3, none⟩ (.int .i64 t233)) w.heap.size (fun _ => True) (.slice (some ad232) t229.length co61) t229) := ⟨by (with_reducible repeat (first | apply Kd.R_alloc | apply Kd.R_drewN | apply Kd.R_drew)); exact Kd.R_mono (Kd.R_far (p := ⟨gb237, 3, none⟩) (Kd.R_far (p := ⟨gb237, 2, none⟩) (Kd.R_far (p := ⟨gb237, 1, none⟩) (Kd.R_far (p := ⟨gb237, 0, none⟩) (Kd.R_types HO_7.out BK237.out (by decide)) (fun _ hk => hk.2) (.int .i64 x6_1)) (fun _ hk => hk.2) (.int .i64 (rd t229 x8_2))) (fun _ hk => hk.2) (.int .i64 (wrap64 ((rd t229 (ji11)) - 1)))) (fun _ hk => hk.2) (.int .i64 t233)) (fun _ hk => trivial)⟩
                          have n2_ : Aside0 (((((w64.setCell ⟨gb237, 0, none⟩ (.int .i64 x6_1)).setCell ⟨gb237, 1, none⟩ (.int .i64 (rd t229 x8_2))).setCell ⟨gb237, 2, none⟩ (.int .i64 (wrap64 ((rd t229 (ji11)) - 1)))).setCell ⟨gb237, 3, none⟩ (.int .i64 t233)).heap[gb237]? = some (.cells #[.int .i64 x6_1, .int .i64 (rd t229 x8_2), .int .i64 (wrap64 ((rd t229 (ji11)) - 1)), .int .i64 t233] 23 (0, 0))) := ⟨by (with_reducible repeat (first | refine blk_drewN ?_ _ | refine blk_drew ?_ | refine blk_alloc ?_ _)); refine blk_put (cs := #[.int .i64 x6_1, .int .i64 (rd t229 x8_2), .int .i64 (wrap64 ((rd t229 (ji11)) - 1)), .int .i64 0]) ?_ 3 _ rfl; (with_reducible repeat (first | refine blk_drewN ?_ _ | refine blk_drew ?_ | refine blk_alloc ?_ _)); refine blk_put (cs := #[.int .i64 x6_1, .int .i64 (rd t229 x8_2), .int .i64 0, .int .i64 0]) ?_ 2 _ rfl; (with_reducible repeat (first | refine blk_drewN ?_ _ | refine blk_drew ?_ | refine blk_alloc ?_ _)); refine blk_put (cs := #[.int .i64 x6_1, .int .i64 0, .int .i64 0, .int .i64 0]) ?_ 1 _ rfl; (with_reducible repeat (first | refine blk_drewN ?_ _ | refine blk_drew ?_ | refine blk_alloc ?_ _)); refine blk_put (cs := #[.int .i64 0, .int .i64 0, .int .i64 0, .int .i64 0]) ?_ 0 _ rfl; (with_reducible repeat (first | refine blk_drewN ?_ _ | refine blk_drew ?_ | refine blk_alloc ?_ _)); exact BK237.out⟩
                          have n3_ : Aside0 (Below w.heap.size w ((((w64.setCell ⟨gb237, 0, none⟩ (.int .i64 x6_1)).setCell ⟨gb237, 1, none⟩ (.int .i64 (rd t229 x8_2))).setCell ⟨gb237, 2, none⟩ (.int .i64 (wrap64 ((rd t229 (ji11)) - 1)))).setCell ⟨gb237, 3, none⟩ (.int .i64 t233))) := ⟨hbm HB.out⟩
                          (try clear HO_5)
                          (try clear HO_7)
                          (try clear BK237)
                          (try clear HB)
                          generalize ((((w64.setCell ⟨gb237, 0, none⟩ (.int .i64 x6_1)).setCell ⟨gb237, 1, none⟩ (.int .i64 (rd t229 x8_2))).setCell ⟨gb237, 2, none⟩ (.int .i64 (wrap64 ((rd t229 (ji11)) - 1)))).setCell ⟨gb237, 3, none⟩ (.int .i64 t233)) = w70 at n0_ n1_ n2_ n3_ ⊢
                          have HO_5 := n0_
                          have HO_7 := n1_
                          have BK237 := n2_
                          have HB := n3_
                          clear n0_ n1_ n2_ n3_
                          have n0_ := Aside0.mk (Kd.R_drew HO_5.out)
                          have n1_ := Aside0.mk (Kd.R_drew HO_7.out)
                          have n2_ := Aside0.mk (blk_drew BK237.out)
                          have n3_ := Aside0.mk (below_drew1 HB.out)
                          clear HO_5
                          clear HO_7
                          clear BK237
                          clear HB
                          have HO_5 := n0_
                          have HO_7 := n1_
                          have BK237 := n2_
                          have HB := n3_
                          clear n0_ n1_ n2_ n3_
                          refine start_ (n := 11) (S := fun w' => True) (ds := []) #[false, false, false, false, false, false, false, false, false, false, false] (by kernel_rfl) rfl rfl trivial (fun hHeld => ?_); refine with_tabW hornbookref07_Build.tab13 hornbookref07_Build.bits13 (fun HT_ HW_ => ?_)
                          generalize w70.drew = w71 at HO_5 HO_7 BK237 HB hHeld ⊢
                          refine pure_ (i := 0) (N := some 60) (v := ?_) (a' := ?_) #[true, false, false, false, false, false, false, false, false, false, false] rfl rfl (any_of HT_.out (by kernel_rfl)) (fun _ _ _ h => h) (Or.inl ⟨by rfl, ?_⟩) ?_ ?_
                          rotate_left
                          · intro w'
                            go_simp
                            with_reducible rfl
                          rotate_left
                          · simp only [Act.put, List.setIfInBounds_toArray, List.set_cons_zero, List.set_cons_succ, i64_w, i32_w]
                            rfl
                          refine pure_ (i := 1) (N := some 61) (v := ?_) (a' := ?_) #[true, true, false, false, false, false, false, false, false, false, false] rfl rfl (any_of HT_.out (by kernel_rfl)) (fun _ _ _ h => h) (Or.inl ⟨by rfl, ?_⟩) ?_ ?_
                          rotate_left
                          · intro w'
                            go_simp
                            with_reducible rfl
                          rotate_left
                          · simp only [Act.put, List.setIfInBounds_toArray, List.set_cons_zero, List.set_cons_succ, i64_w, i32_w]
                            rfl
                          refine pure_ (i := 2) (N := some 62) (v := ?_) (a' := ?_) #[true, true, true, false, false, false, false, false, false, false, false] rfl rfl (any_of HT_.out (by kernel_rfl)) (fun _ _ _ h => h) (Or.inl ⟨by rfl, ?_⟩) ?_ ?_
                          rotate_left
                          · intro w'
                            go_simp
                            with_reducible rfl
                          rotate_left
                          · simp only [Act.put, List.setIfInBounds_toArray, List.set_cons_zero, List.set_cons_succ, i64_w, i32_w]
                            rfl
                          refine pure_ (i := 3) (N := some 63) (v := undef) (a' := ?_) #[true, true, true, true, false, false, false, false, false, false, false] rfl rfl (any_of HT_.out (by kernel_rfl)) (fun _ _ _ h => h) (Or.inr ⟨by rfl, rfl⟩) ?_ ?_
                          rotate_left
                          · simp only [Act.put, List.setIfInBounds_toArray, List.set_cons_zero, List.set_cons_succ, i64_w, i32_w]
                            rfl
                          refine pure_ (i := 4) (N := some 64) (v := undef) (a' := ?_) #[true, true, true, true, true, false, false, false, false, false, false] rfl rfl (any_of HT_.out (by kernel_rfl)) (fun _ _ _ h => h) (Or.inr ⟨by rfl, rfl⟩) ?_ ?_
                          rotate_left
                          · simp only [Act.put, List.setIfInBounds_toArray, List.set_cons_zero, List.set_cons_succ, i64_w, i32_w]
                            rfl
                          refine pure_ (i := 5) (N := some 65) (v := undef) (a' := ?_) #[true, true, true, true, true, true, false, false, false, false, false] rfl rfl (any_of HT_.out (by kernel_rfl)) (fun _ _ _ h => h) (Or.inr ⟨by rfl, rfl⟩) ?_ ?_
                          rotate_left
                          · simp only [Act.put, List.setIfInBounds_toArray, List.set_cons_zero, List.set_cons_succ, i64_w, i32_w]
                            rfl
                          refine pure_ (i := 6) (N := some 66) (v := undef) (a' := ?_) #[true, true, true, true, true, true, true, false, false, false, false] rfl rfl (any_of HT_.out (by kernel_rfl)) (fun _ _ _ h => h) (Or.inr ⟨by rfl, rfl⟩) ?_ ?_
                          rotate_left
                          · simp only [Act.put, List.setIfInBounds_toArray, List.set_cons_zero, List.set_cons_succ, i64_w, i32_w]
                            rfl
                          refine pure_ (i := 7) (N := some 67) (v := undef) (a' := ?_) #[true, true, true, true, true, true, true, true, false, false, false] rfl rfl (any_of HT_.out (by kernel_rfl)) (fun _ _ _ h => h) (Or.inr ⟨by rfl, rfl⟩) ?_ ?_
                          rotate_left
                          · simp only [Act.put, List.setIfInBounds_toArray, List.set_cons_zero, List.set_cons_succ, i64_w, i32_w]
                            rfl
                          refine pure_ (i := 8) (N := some 68) (v := undef) (a' := ?_) #[true, true, true, true, true, true, true, true, true, false, false] rfl rfl (any_of HT_.out (by kernel_rfl)) (fun _ _ _ h => h) (Or.inr ⟨by rfl, rfl⟩) ?_ ?_
                          rotate_left
                          · simp only [Act.put, List.setIfInBounds_toArray, List.set_cons_zero, List.set_cons_succ, i64_w, i32_w]
                            rfl
                          refine pure_ (i := 9) (N := some 69) (v := undef) (a' := ?_) #[true, true, true, true, true, true, true, true, true, true, false] rfl rfl (any_of HT_.out (by kernel_rfl)) (fun _ _ _ h => h) (Or.inr ⟨by rfl, rfl⟩) ?_ ?_
                          rotate_left
                          · simp only [Act.put, List.setIfInBounds_toArray, List.set_cons_zero, List.set_cons_succ, i64_w, i32_w]
                            rfl
                          refine pure_ (i := 10) (N := some 70) (v := ?_) (a' := ?_) #[true, true, true, true, true, true, true, true, true, true, true] rfl rfl (any_of HT_.out (by kernel_rfl)) (fun _ _ _ h => h) (Or.inl ⟨by rfl, ?_⟩) ?_ ?_
                          rotate_left
                          · intro w'
                            go_simp
                            with_reducible rfl
                          rotate_left
                          · simp only [Act.put, List.setIfInBounds_toArray, List.set_cons_zero, List.set_cons_succ, i64_w, i32_w]
                            rfl
                          refine done_ (done_of HT_.out (by kernel_rfl)) ?_
                          have hcz72_0 : w71.cell? ⟨gb237, 0, none⟩ = some (.int .i64 x6_1) := (blk_cell BK237.out 0).trans rfl
                          have hcz72_1 : w71.cell? ⟨gb237, 1, none⟩ = some (.int .i64 (rd t229 x8_2)) := (blk_cell BK237.out 1).trans rfl
                          have hcz72_2 : w71.cell? ⟨gb237, 2, none⟩ = some (.int .i64 (wrap64 ((rd t229 (ji11)) - 1))) := (blk_cell BK237.out 2).trans rfl
                          have hcz72_3 : w71.cell? ⟨gb237, 3, none⟩ = some (.int .i64 t233) := (blk_cell BK237.out 3).trans rfl
                          have hfz72_0 := blk_frozen BK237.out 0
                          have hfz72_1 := blk_frozen BK237.out 1
                          have hfz72_2 := blk_frozen BK237.out 2
                          have hfz72_3 := blk_frozen BK237.out 3
                          try go_wp2_with (first | ((with_reducible refine gate_builtin (b := .append) (xs := #[.tmp 88, .tmp 90]) rfl ?_); at_builtin; refine Kd.R_append k23 (w0 := w) w.heap.size rfl (.tmp 88) (.tmp 90) 26 23 (.agg #[(.int .i64 0), (.int .i64 0), (.int .i64 0), (.int .i64 0)]) 32 rfl Try.underlying26 info23 rfl (by decide) (by omega) (.slice Ao69 x5_2.length co69) x5_2 (⟨x6_1, rd t229 x8_2, wrap64 ((rd t229 (ji11)) - 1), t233⟩ : S23) [.int .i64 x6_1, .int .i64 (rd t229 x8_2), .int .i64 (wrap64 ((rd t229 (ji11)) - 1)), .int .i64 t233] (fun k_ => k_ ≠ gb237) (fun _ => False) rfl rfl ?aP (fun _ hk => hk.elim) ?aF ?aO ?aB ?aS ?aL ?_; (case aP => exact k23_mkM _ _ _ (⟨x6_1, rd t229 x8_2, wrap64 ((rd t229 (ji11)) - 1), t233⟩ : S23)); (case aB => exact (hbm HB.out)); (case aF => exact (fun k_ hk => Kd.freshB (g := gb237) (o := .cells #[.int .i64 x6_1, .int .i64 (rd t229 x8_2), .int .i64 (wrap64 ((rd t229 (ji11)) - 1)), .int .i64 t233] 23 (0, 0)) (bkm BK237.out) k_ hk)); (case aO => exact (rdm HO_5.out)); (case aS => exact (below_size (hbm HB.out))); (case aL => have := LMc60.out; omega); intro v259 w73 ho hb hg hat; rw [← Ny258.out] at ho; have n0_ := Aside0.mk (Kd.R_over' (rdm HO_7.out) (Kd.R_typed (rdm HO_5.out)) (by decide) hg); have n1_ := Aside0.mk (blk_grown (g := gb237) (o := .cells #[.int .i64 x6_1, .int .i64 (rd t229 x8_2), .int .i64 (wrap64 ((rd t229 (ji11)) - 1)), .int .i64 t233] 23 (0, 0)) (bkm BK237.out) hg (Kd.R_away HO_5.out (fun _ hk => hk))); have n2_ := Aside0.mk (hb); have n3_ := Aside0.mk (ho); clear HO_7; clear BK237; clear HB; clear HO_5; have HO_7 := n0_; have BK237 := n1_; have HB := n2_; have HO260 := n3_; clear n0_ n1_ n2_ n3_; clear ho hb hg hat))
                          go_roundg k2
                          case measure => have := HK1.out; have := HK2.out; omega
                          case rel => exact ⟨(y258), (ji11), (by first | rfl | (simp; done) | (simp only [← hji11] <;> (first | rfl | simp)) | (simp [*]; done)), H', ⟨by have := HK1.out; have := HK2.out; omega⟩, ⟨by (with_reducible repeat (first | apply Kd.R_alloc | apply Kd.R_drewN | apply Kd.R_drew)); exact Kd.R_mono HO260.out (fun _ hk => trivial)⟩, ⟨rdm HO_7.out⟩, ⟨hbm HB.out⟩⟩
                        · rw [if_neg c60] at H
                          exact absurd H (by simp)
                    · rw [if_neg c12] at H
                      exact absurd H (by simp)
                  · replace c10 := Bool.eq_false_iff.mpr c10
                    subst c10
                    have H1 : (hornbookref07_Build.l1 k2 l0 a1 x5_2 x6_1 t229 (wrap64 (x8_2 + 1))) = some r := by rw [if_neg (show ¬ (false = true) by decide)] at H; exact H
                    clear H
                    have H := H1
                    clear H1
                    have H' := Aside0.mk H
                    clear H
                    obtain ⟨Ao74, co74, eo74⟩ := Kd.R_slice HO_7.out
                    subst eo74
                    have p232 : 0 ≤ (x8_2 : Int) := odt
                    have q232 : x8_2 < (t229.length : Int) := odt
                    obtain ⟨ad232, e232, hx232_0⟩ := Kd.at_int (Kd.R_reads' HO_7.out).2.2 x8_2 p232 q232
                    cases e232
                    replace p232 := eq_true p232
                    replace q232 := eq_true q232
                    go_wp2_with (first | ((with_reducible refine gate_callee (f := 19) rfl ?_); refine goesL_ (some 39) rfl rfl Try.func19 (by kernel_rfl) rfl #[.slice A0 l0.length c0, .agg #[.int .i64 x6_1, .int .i64 (rd t229 x8_2)], .bool a1] rfl (by (try simp only [List.map_toArray, List.map_cons, List.map_nil]); first | done | rfl | (simp only [List.length_drop, List.length_take]; rfl)) ?_; (with_reducible refine (hornbookref07_Last.calls k2 _ _ l0 x6_1 (rd t229 x8_2) a1 t233 false _ ?side1 ?side2 A9.out).mono ?_); (case side1 => repeat (first | exact (Kd.C_below HR0.out HB.out) | (with_reducible refine Kd.C_alloc ?_ _) | (with_reducible refine Kd.C_drewN ?_ _) | (with_reducible refine Kd.C_drew ?_))); (case side2 => exact HC0.out); rintro e w75 ⟨rfl, hb⟩; refine ⟨_, rfl, ?_⟩; have n0_ := Aside0.mk (Kd.R_below (rdm HO_5.out) hb); have n1_ := Aside0.mk (Kd.R_below (rdm HO_7.out) hb); have n2_ := Aside0.mk (below_step (hbm HB.out) hb); clear HO_5; clear HO_7; clear HB; have HO_5 := n0_; have HO_7 := n1_; have HB := n2_; clear n0_ n1_ n2_; (try clear hb); (try clear hb2); (try clear hk); (try clear hi)))
                    go_roundg k2
                    case measure => have := HK1.out; have := HK2.out; omega
                    case rel => exact ⟨(x5_2), (wrap64 (x8_2 + 1)), (by first | rfl | (simp; done) | (simp [*]; done)), H', ⟨by have := HK1.out; have := HK2.out; omega⟩, ⟨rdm HO_5.out⟩, ⟨rdm HO_7.out⟩, ⟨hbm HB.out⟩⟩
                · rw [if_neg c8] at H
                  exact absurd H (by simp)
              · rw [if_neg c7] at H
                exact absurd H (by simp)
            · rw [if_neg c6] at H
              have c6b0 : decide ((wrap64 (x8_2 + 1)) < (t229.length : Int)) = false := decide_eq_false c6
              clear c6
              have H' := Aside0.mk H
              clear H
              obtain ⟨Ao76, co76, eo76⟩ := Kd.R_slice HO_7.out
              subst eo76
              go_wp2
              go_roundg k2
              case measure => have := HK1.out; have := HK2.out; omega
              case rel => exact ⟨(x5_2), (wrap64 (x6_1 + 1)), (by first | rfl | (simp; done) | (simp [*]; done)), H', ⟨by have := HK1.out; have := HK2.out; omega⟩, ⟨rdm HO_5.out⟩, ⟨hbm HB.out⟩⟩
      · rw [if_neg c3] at H
        have c3b0 : decide (x6_1 ≤ 4) = false := decide_eq_false c3
        clear c3
        obtain rfl := Option.some.inj H
        go_wp2
        go_ret
        exact ⟨_, by first | rfl | (simp [errW_none, errW_some] <;> rfl) | (simp [*, errW_none, errW_some] <;> rfl), rdm HO_5.out, hbm HB.out⟩

end Go.Proofs.Ytehknkgplldiiaa.PIs
