-- made by xprint.py of this session
import Derived.Test.YtehknkgplldiiaaPIsx0
import Derived.Test.YtehknkgplldiiaaPIsx4
import Derived.Test.YtehknkgplldiiaaPIsx12
import Derived.Test.YtehknkgplldiiaaPIsx18
import Derived.Test.YtehknkgplldiiaaPIsx19
import Derived.Deep.RegionHeld3
import Derived.Deep.QuietTactic
namespace Go.Proofs.Ytehknkgplldiiaa.PIs
open Go.RowKit Go.Proofs.YtehknkgplldiiaaW.PrintWords Go.Proofs.YtehknkgplldiiaaW.PrintLast Go.Proofs.YtehknkgplldiiaaW.PrintMore
attribute [local go_sem] max2_int min2_int max_two min_two max_three min_three max_four min_four   -- for this text's walks alone
set_option linter.unusedVariables false
set_option linter.unusedSimpArgs false

/-! ### EXT hornbookref07_Canon: function 22 -/
-- IMPORTS Derived.Deep.RegionHeld3;Derived.Deep.QuietTactic
/-! span.Canon: is it a table? -/
def saneR (x : S23) (step : Bool) : Bool := (hornbookref07_Sane.f 100 x.f0 x.f1 x.f2 x.f3 step).getD false
def joinsR (x y : S23) (step : Bool) : Bool := (hornbookref07_joins.f x.f0 x.f1 x.f2 x.f3 y.f0 y.f1 y.f2 y.f3 step).getD false
theorem ref01_some (n v : Int) : ∃ b, hornbookref01_Sane.f 100 n v = some b := by
  unfold hornbookref01_Sane.f
  by_cases h1 : n ≥ 1
  · by_cases h4 : n ≤ 4
    · rw [if_pos h1, if_pos h4]
      by_cases hv : v ≥ 0
      · rw [if_pos hv]
        have hn : n = 1 ∨ n = 2 ∨ n = 3 ∨ n = 4 := by omega
        rcases hn with rfl | rfl | rfl | rfl
        · exact ⟨_, by rw [show hornbookref01_Full.f 100 1 = some 256 from (by first | decide | (unfold hornbookref01_Full.f; simp [hornbookref01_Full.l0, wrap64]))]; rfl⟩
        · exact ⟨_, by rw [show hornbookref01_Full.f 100 2 = some 65536 from (by first | decide | (unfold hornbookref01_Full.f; simp [hornbookref01_Full.l0, wrap64]))]; rfl⟩
        · exact ⟨_, by rw [show hornbookref01_Full.f 100 3 = some 16777216 from (by first | decide | (unfold hornbookref01_Full.f; simp [hornbookref01_Full.l0, wrap64]))]; rfl⟩
        · exact ⟨_, by rw [show hornbookref01_Full.f 100 4 = some 4294967296 from (by first | decide | (unfold hornbookref01_Full.f; simp [hornbookref01_Full.l0, wrap64]))]; rfl⟩
      · rw [if_neg hv]
        exact ⟨_, rfl⟩
    · rw [if_pos h1, if_neg h4]
      exact ⟨_, rfl⟩
  · rw [if_neg h1]
    exact ⟨_, rfl⟩
theorem more_some (d : Int) (step : Bool) : ∃ b, hornbookref07_more.f d step = some b := by
  unfold hornbookref07_more.f
  split <;> exact ⟨_, rfl⟩
theorem saneR_is (x : S23) (step : Bool) : hornbookref07_Sane.f 100 x.f0 x.f1 x.f2 x.f3 step = some (saneR x step) := by
  have h : ∃ b, hornbookref07_Sane.f 100 x.f0 x.f1 x.f2 x.f3 step = some b := by
    unfold hornbookref07_Sane.f
    obtain ⟨b1, e1⟩ := ref01_some x.f0 x.f1
    obtain ⟨b2, e2⟩ := ref01_some x.f0 x.f2
    obtain ⟨b3, e3⟩ := more_some (wrap64 (x.f2 - x.f1)) step
    rw [e1, e2, e3]
    simp only [Option.bind_some]
    repeat' split
    all_goals exact ⟨_, rfl⟩
  obtain ⟨b, e⟩ := h
  unfold saneR
  rw [e]
  rfl
theorem joinsR_is (x y : S23) (step : Bool) : hornbookref07_joins.f x.f0 x.f1 x.f2 x.f3 y.f0 y.f1 y.f2 y.f3 step = some (joinsR x y step) := by
  have h : ∃ b, hornbookref07_joins.f x.f0 x.f1 x.f2 x.f3 y.f0 y.f1 y.f2 y.f3 step = some b := by
    unfold hornbookref07_joins.f
    obtain ⟨b3, e3⟩ := more_some (wrap64 (y.f1 - x.f1)) step
    rw [e3]
    simp only [Option.bind_some]
    repeat' split
    all_goals exact ⟨_, rfl⟩
  obtain ⟨b, e⟩ := h
  unfold joinsR
  rw [e]
  rfl
theorem saneR_any (x : S23) (step : Bool) (w : World) : Calls Try.prog 21 #[.agg #[.int .i64 x.f0, .int .i64 x.f1, .int .i64 x.f2, .int .i64 x.f3], .bool step] w fun e w' => e = .returned (.bool (saneR x step)) ∧ Below w.heap.size w w' :=
  hornbookref07_Sane.calls _ _ _ _ _ _ _ w (saneR_is x step)
theorem joinsR_any (x y : S23) (step : Bool) (w : World) : Calls Try.prog 36 #[.agg #[.int .i64 x.f0, .int .i64 x.f1, .int .i64 x.f2, .int .i64 x.f3], .agg #[.int .i64 y.f0, .int .i64 y.f1, .int .i64 y.f2, .int .i64 y.f3], .bool step] w fun e w' => e = .returned (.bool (joinsR x y step)) ∧ Below w.heap.size w w' :=
  hornbookref07_joins.calls _ _ _ _ _ _ _ _ _ _ w (joinsR_is x y step)
/-- May one not stand behind another? -/
def badR (x y : S23) (step : Bool) : Bool := decide (y.f0 < x.f0) || ((y.f0 == x.f0 && decide (y.f1 ≤ x.f2)) || joinsR x y step)
def okAtR (l : List S23) (step : Bool) : Nat → Bool
  | 0 => saneR (elS l 0) step
  | j + 1 => saneR (elS l (j + 1)) step && !badR (elS l j) (elS l (j + 1)) step
def canonR (l : List S23) (step : Bool) : Bool := (List.range l.length).all (okAtR l step)
def hornbookref07_Canon.f (l0 : List S23) (a1 : Bool) : Option Bool := if l0.length < 4294967296 then some (canonR l0 a1) else none
theorem canonR_bad {l : List S23} {step : Bool} {i : Nat} (hi : i < l.length) (h : okAtR l step i = false) : canonR l step = false :=
  Bool.eq_false_iff.mpr fun e => by
    have := List.all_eq_true.mp e i (List.mem_range.mpr hi)
    rw [h] at this
    cases this
set_option maxRecDepth 100000 in
set_option maxHeartbeats 8000000 in
theorem hornbookref07_Canon.calls (A0 : Option Addr) (c0 : Nat) (l0 : List S23) (a1 : Bool) (r : Bool) (w : World) (hr0 : Kd.C k23 w A0 l0.length l0) (hc0 : l0.length ≤ c0) (h : hornbookref07_Canon.f l0 a1 = some r) :
    Calls Try.prog 22 #[.slice A0 l0.length c0, .bool a1] w fun e w' => e = .returned (.bool r) ∧ Below w.heap.size w w' := by
  unfold hornbookref07_Canon.f at h
  by_cases hl : l0.length < 4294967296
  case neg =>
    rw [if_neg hl] at h
    cases h
  rw [if_pos hl] at h
  obtain rfl := Option.some.inj h
  have HR0 := Aside0.mk hr0
  have HC0 := Aside0.mk hc0
  have HL := Aside0.mk hl
  have HB := Aside0.mk (Below.refl w.heap.size w)
  have hu := Try.underlying23
  clear h hl hr0 hc0
  obtain ⟨step, rfl⟩ : ∃ step, a1 = step := ⟨_, rfl⟩
  go_enter Try.func22, Try.ntmps22
  go_wp2
  go_loopg [5] (l0.length + 1) (fun kq v5 w' => ∃ (i : Nat), v5 = .int .i64 (i : Nat) ∧ Aside0 (i ≤ l0.length ∧ l0.length + 1 ≤ kq + i) ∧ Aside0 (∀ j, j < i → okAtR l0 a1 j = true) ∧ Aside0 (Below w.heap.size w w'))
  case atStart => exact ⟨0, rfl, ⟨by omega⟩, ⟨fun j h => by omega⟩, HB⟩
  case round =>
    clear HB
    obtain ⟨i, rfl, HI, HOK, HB⟩ := hrel
    cases gk with
    | zero => have := HI.out; omega
    | succ k1 =>
      have hi0 := HI.out
      have hl0 := HL.out
      by_cases hi : i < l0.length
      · obtain ⟨ad, ead, _⟩ := at_T23 (Kd.C_below HR0.out HB.out) (i : Int) (by omega) (by omega)
        subst ead
        have p0 : (0 ≤ (i : Int)) = True := eq_true (by omega)
        have p1 : ((i : Int) < (l0.length : Int)) = True := eq_true (by omega)
        obtain ⟨hx0, hx1, hx2, hx3⟩ := atc_T23 (Kd.C_below HR0.out HB.out) i hi
        by_cases hsane : saneR (elS l0 i) a1 = true
        · cases i with
          | zero =>
            have hok : okAtR l0 a1 0 = true := hsane
            have ez : ad.add (0 * 4) = ad := by cases ad; rfl
            rw [ez] at hx0 hx1 hx2 hx3
            clear ez
            have HOK0 := Aside0.mk hok
            clear hok
            go_upto_region 6 with (go_at_call 21; refine (saneR_any (elS l0 0) a1 _).mono ?_; rintro e w5 ⟨rfl, hb⟩; rw [hsane]; have n0_ := Aside0.mk (below_step (hbm HB.out) hb); clear HB hb; have HB := n0_; clear n0_)
            (try simp only [Act.put, List.setIfInBounds_toArray, List.set_cons_zero, List.set_cons_succ])
            go_quiet (fail)
            go_wp2
            go_roundg k1
            case measure => omega
            case rel => exact ⟨0 + 1, by first | rfl | (simp; done), ⟨by omega⟩, ⟨fun j h => by (obtain rfl : j = 0 := by omega); exact HOK0.out⟩, ⟨hbm HB.out⟩⟩
          | succ j =>
            have hj : j < l0.length := by omega
            have hq0 : (0 : Int) ≤ (j : Int) := by omega
            have hq1 : (j : Int) < (l0.length : Int) := by omega
            have hw0 : IntKind.i64.wrap (j : Int) = (j : Int) := by rw [IntKind.wrap_i64]; omega
            have hq3 : (0 : Int) ≤ (j : Int) + 1 := by omega
            have hg0 : decide ((0 : Int) < (j : Int) + 1) = true := decide_eq_true (by omega)
            by_cases o0 : (elS l0 (j + 1)).f0 < (elS l0 j).f0
            · have o1 : decide ((elS l0 (j + 1)).f0 < (elS l0 j).f0) = true := decide_eq_true o0
              have hbad : okAtR l0 a1 (j + 1) = false := by rw [show okAtR l0 a1 (j + 1) = (saneR (elS l0 (j + 1)) a1 && !(decide ((elS l0 (j + 1)).f0 < (elS l0 j).f0) || (((elS l0 (j + 1)).f0 == (elS l0 j).f0 && decide ((elS l0 (j + 1)).f1 ≤ (elS l0 j).f2)) || joinsR (elS l0 j) (elS l0 (j + 1)) a1))) from rfl]; rw [hsane]; simp only [o1, Bool.true_and, Bool.false_or, Bool.or_false, Bool.true_or, Bool.or_true, Bool.false_and, Bool.and_false, Bool.not_true]
              have HBAD := Aside0.mk (canonR_bad hi hbad)
              clear hbad
              go_upto_region 6 with (go_at_call 21; refine (saneR_any (elS l0 (j + 1)) a1 _).mono ?_; rintro e w5 ⟨rfl, hb⟩; rw [hsane]; have n1_ := Aside0.mk (below_step (hbm HB.out) hb); clear HB hb; have HB := n1_; clear n1_)
              (try simp only [Act.put, List.setIfInBounds_toArray, List.set_cons_zero, List.set_cons_succ])
              clear hx0 hx1 hx2 hx3
              refine wp_region_held_drew (S := (fun W => (Below w.heap.size w W) ∧ W.cell? (ad.add (j * 4)) = some (.int .i64 (elS l0 j).f0) ∧ W.cell? ⟨(ad.add (j * 4)).block, (ad.add (j * 4)).off + 1, none⟩ = some (.int .i64 (elS l0 j).f1) ∧ W.cell? ⟨(ad.add (j * 4)).block, (ad.add (j * 4)).off + 2, none⟩ = some (.int .i64 (elS l0 j).f2) ∧ W.cell? ⟨(ad.add (j * 4)).block, (ad.add (j * 4)).off + 3, none⟩ = some (.int .i64 (elS l0 j).f3) ∧ W.cell? (ad.add ((j + 1) * 4)) = some (.int .i64 (elS l0 (j + 1)).f0) ∧ W.cell? ⟨(ad.add ((j + 1) * 4)).block, (ad.add ((j + 1) * 4)).off + 1, none⟩ = some (.int .i64 (elS l0 (j + 1)).f1) ∧ W.cell? ⟨(ad.add ((j + 1) * 4)).block, (ad.add ((j + 1) * 4)).off + 2, none⟩ = some (.int .i64 (elS l0 (j + 1)).f2) ∧ W.cell? ⟨(ad.add ((j + 1) * 4)).block, (ad.add ((j + 1) * 4)).off + 3, none⟩ = some (.int .i64 (elS l0 (j + 1)).f3))) (by kernel_rfl) ?_ (fun hHeld => ?_)
              · (try dsimp only); exact ⟨hbm HB.out, (atc_T23 (Kd.C_below HR0.out (hbm HB.out)) j hj).1, (atc_T23 (Kd.C_below HR0.out (hbm HB.out)) j hj).2.1, (atc_T23 (Kd.C_below HR0.out (hbm HB.out)) j hj).2.2.1, (atc_T23 (Kd.C_below HR0.out (hbm HB.out)) j hj).2.2.2, (atc_T23 (Kd.C_below HR0.out (hbm HB.out)) (j + 1) hi).1, (atc_T23 (Kd.C_below HR0.out (hbm HB.out)) (j + 1) hi).2.1, (atc_T23 (Kd.C_below HR0.out (hbm HB.out)) (j + 1) hi).2.2.1, (atc_T23 (Kd.C_below HR0.out (hbm HB.out)) (j + 1) hi).2.2.2⟩
              refine heldTake 0 rfl (v := ?_) (fun W hSw => ?_) hHeld ?_
              rotate_left
              · (try dsimp only at hSw); go_simp; (try with_reducible rfl)
              (try simp only [Act.put, List.setIfInBounds_toArray, List.set_cons_zero, List.set_cons_succ])
              refine heldTake 1 rfl (v := ?_) (fun W hSw => ?_) hHeld ?_
              rotate_left
              · (try dsimp only at hSw); go_simp; (try with_reducible rfl)
              (try simp only [Act.put, List.setIfInBounds_toArray, List.set_cons_zero, List.set_cons_succ])
              refine heldTake 2 rfl (v := ?_) (fun W hSw => ?_) hHeld ?_
              rotate_left
              · (try dsimp only at hSw); go_simp; (try with_reducible rfl)
              (try simp only [Act.put, List.setIfInBounds_toArray, List.set_cons_zero, List.set_cons_succ])
              refine heldTake 3 rfl (v := ?_) (fun W hSw => ?_) hHeld ?_
              rotate_left
              · (try dsimp only at hSw); go_simp; (try with_reducible rfl)
              (try simp only [Act.put, List.setIfInBounds_toArray, List.set_cons_zero, List.set_cons_succ])
              refine heldTake 4 rfl (v := ?_) (fun W hSw => ?_) hHeld ?_
              rotate_left
              · (try dsimp only at hSw); go_simp; (try with_reducible rfl)
              (try simp only [Act.put, List.setIfInBounds_toArray, List.set_cons_zero, List.set_cons_succ])
              refine heldTake 5 rfl (v := ?_) (fun W hSw => ?_) hHeld ?_
              rotate_left
              · (try dsimp only at hSw); go_simp; (try with_reducible rfl)
              (try simp only [Act.put, List.setIfInBounds_toArray, List.set_cons_zero, List.set_cons_succ])
              refine heldTake 6 rfl (v := ?_) (fun W hSw => ?_) hHeld ?_
              rotate_left
              · (try dsimp only at hSw); go_simp; (try with_reducible rfl)
              (try simp only [Act.put, List.setIfInBounds_toArray, List.set_cons_zero, List.set_cons_succ])
              refine heldTake 7 rfl (v := ?_) (fun W hSw => ?_) hHeld ?_
              rotate_left
              · (try dsimp only at hSw); go_simp; (try with_reducible rfl)
              (try simp only [Act.put, List.setIfInBounds_toArray, List.set_cons_zero, List.set_cons_succ])
              refine heldTake 8 rfl (v := ?_) (fun W hSw => ?_) hHeld ?_
              rotate_left
              · (try dsimp only at hSw); go_simp; (try with_reducible rfl)
              (try simp only [Act.put, List.setIfInBounds_toArray, List.set_cons_zero, List.set_cons_succ])
              refine heldTake 9 rfl (v := ?_) (fun W hSw => ?_) hHeld ?_
              rotate_left
              · (try dsimp only at hSw); go_simp; (try with_reducible rfl)
              (try simp only [Act.put, List.setIfInBounds_toArray, List.set_cons_zero, List.set_cons_succ])
              refine heldTake 10 rfl (v := ?_) (fun W hSw => ?_) hHeld ?_
              rotate_left
              · (try dsimp only at hSw); go_simp; (try with_reducible rfl)
              (try simp only [Act.put, List.setIfInBounds_toArray, List.set_cons_zero, List.set_cons_succ])
              refine heldTake 11 rfl (v := ?_) (fun W hSw => ?_) hHeld ?_
              rotate_left
              · (try dsimp only at hSw); go_simp; (try with_reducible rfl)
              (try simp only [Act.put, List.setIfInBounds_toArray, List.set_cons_zero, List.set_cons_succ])
              refine heldTake 12 rfl (v := ?_) (fun W hSw => ?_) hHeld ?_
              rotate_left
              · (try dsimp only at hSw); go_simp; (try with_reducible rfl)
              (try simp only [Act.put, List.setIfInBounds_toArray, List.set_cons_zero, List.set_cons_succ])
              refine heldTake 13 rfl (v := ?_) (fun W hSw => ?_) hHeld ?_
              rotate_left
              · (try dsimp only at hSw); go_simp; (try with_reducible rfl)
              (try simp only [Act.put, List.setIfInBounds_toArray, List.set_cons_zero, List.set_cons_succ])
              refine heldTake 14 rfl (v := ?_) (fun W hSw => ?_) hHeld ?_
              rotate_left
              · (try dsimp only at hSw); go_simp; (try with_reducible rfl)
              (try simp only [Act.put, List.setIfInBounds_toArray, List.set_cons_zero, List.set_cons_succ])
              refine heldTake 15 rfl (v := ?_) (fun W hSw => ?_) hHeld ?_
              rotate_left
              · (try dsimp only at hSw); go_simp; (try with_reducible rfl)
              (try simp only [Act.put, List.setIfInBounds_toArray, List.set_cons_zero, List.set_cons_succ])
              refine heldSkip 16 rfl hHeld ?_
              (try simp only [Act.put, List.setIfInBounds_toArray, List.set_cons_zero, List.set_cons_succ])
              refine heldSkip 17 rfl hHeld ?_
              (try simp only [Act.put, List.setIfInBounds_toArray, List.set_cons_zero, List.set_cons_succ])
              refine heldSkip 18 rfl hHeld ?_
              (try simp only [Act.put, List.setIfInBounds_toArray, List.set_cons_zero, List.set_cons_succ])
              refine heldSkip 19 rfl hHeld ?_
              (try simp only [Act.put, List.setIfInBounds_toArray, List.set_cons_zero, List.set_cons_succ])
              refine heldSkip 20 rfl hHeld ?_
              (try simp only [Act.put, List.setIfInBounds_toArray, List.set_cons_zero, List.set_cons_succ])
              refine heldSkip 21 rfl hHeld ?_
              (try simp only [Act.put, List.setIfInBounds_toArray, List.set_cons_zero, List.set_cons_succ])
              refine heldSkip 22 rfl hHeld ?_
              (try simp only [Act.put, List.setIfInBounds_toArray, List.set_cons_zero, List.set_cons_succ])
              refine heldSkip 23 rfl hHeld ?_
              (try simp only [Act.put, List.setIfInBounds_toArray, List.set_cons_zero, List.set_cons_succ])
              refine heldSkip 24 rfl hHeld ?_
              (try simp only [Act.put, List.setIfInBounds_toArray, List.set_cons_zero, List.set_cons_succ])
              refine heldSkip 25 rfl hHeld ?_
              (try simp only [Act.put, List.setIfInBounds_toArray, List.set_cons_zero, List.set_cons_succ])
              refine heldSkip 26 rfl hHeld ?_
              (try simp only [Act.put, List.setIfInBounds_toArray, List.set_cons_zero, List.set_cons_succ])
              refine heldSkip 27 rfl hHeld ?_
              (try simp only [Act.put, List.setIfInBounds_toArray, List.set_cons_zero, List.set_cons_succ])
              refine heldSkip 28 rfl hHeld ?_
              (try simp only [Act.put, List.setIfInBounds_toArray, List.set_cons_zero, List.set_cons_succ])
              refine heldSkip 29 rfl hHeld ?_
              (try simp only [Act.put, List.setIfInBounds_toArray, List.set_cons_zero, List.set_cons_succ])
              refine heldSkip 30 rfl hHeld ?_
              (try simp only [Act.put, List.setIfInBounds_toArray, List.set_cons_zero, List.set_cons_succ])
              refine heldSkip 31 rfl hHeld ?_
              (try simp only [Act.put, List.setIfInBounds_toArray, List.set_cons_zero, List.set_cons_succ])
              refine heldSkip 32 rfl hHeld ?_
              (try simp only [Act.put, List.setIfInBounds_toArray, List.set_cons_zero, List.set_cons_succ])
              refine heldSkip 33 rfl hHeld ?_
              (try simp only [Act.put, List.setIfInBounds_toArray, List.set_cons_zero, List.set_cons_succ])
              refine heldSkip 34 rfl hHeld ?_
              (try simp only [Act.put, List.setIfInBounds_toArray, List.set_cons_zero, List.set_cons_succ])
              refine heldSkip 35 rfl hHeld ?_
              (try simp only [Act.put, List.setIfInBounds_toArray, List.set_cons_zero, List.set_cons_succ])
              refine heldSkip 36 rfl hHeld ?_
              (try simp only [Act.put, List.setIfInBounds_toArray, List.set_cons_zero, List.set_cons_succ])
              refine heldSkip 37 rfl hHeld ?_
              (try simp only [Act.put, List.setIfInBounds_toArray, List.set_cons_zero, List.set_cons_succ])
              refine heldSkip 38 rfl hHeld ?_
              (try simp only [Act.put, List.setIfInBounds_toArray, List.set_cons_zero, List.set_cons_succ])
              refine heldSkip 39 rfl hHeld ?_
              (try simp only [Act.put, List.setIfInBounds_toArray, List.set_cons_zero, List.set_cons_succ])
              refine heldSkip 40 rfl hHeld ?_
              (try simp only [Act.put, List.setIfInBounds_toArray, List.set_cons_zero, List.set_cons_succ])
              refine heldSkip 41 rfl hHeld ?_
              (try simp only [Act.put, List.setIfInBounds_toArray, List.set_cons_zero, List.set_cons_succ])
              refine heldTake 42 rfl (v := ?_) (fun W hSw => ?_) hHeld ?_
              rotate_left
              · (try dsimp only at hSw); go_simp; (try with_reducible rfl)
              (try simp only [Act.put, List.setIfInBounds_toArray, List.set_cons_zero, List.set_cons_succ])
              refine heldTake 43 rfl (v := ?_) (fun W hSw => ?_) hHeld ?_
              rotate_left
              · (try dsimp only at hSw); go_simp; (try with_reducible rfl)
              (try simp only [Act.put, List.setIfInBounds_toArray, List.set_cons_zero, List.set_cons_succ])
              refine heldSkip 44 rfl hHeld ?_
              (try simp only [Act.put, List.setIfInBounds_toArray, List.set_cons_zero, List.set_cons_succ])
              refine heldSkip 45 rfl hHeld ?_
              (try simp only [Act.put, List.setIfInBounds_toArray, List.set_cons_zero, List.set_cons_succ])
              refine heldSkip 46 rfl hHeld ?_
              (try simp only [Act.put, List.setIfInBounds_toArray, List.set_cons_zero, List.set_cons_succ])
              refine heldSkip 47 rfl hHeld ?_
              (try simp only [Act.put, List.setIfInBounds_toArray, List.set_cons_zero, List.set_cons_succ])
              refine heldSkip 48 rfl hHeld ?_
              (try simp only [Act.put, List.setIfInBounds_toArray, List.set_cons_zero, List.set_cons_succ])
              refine heldSkip 49 rfl hHeld ?_
              (try simp only [Act.put, List.setIfInBounds_toArray, List.set_cons_zero, List.set_cons_succ])
              refine heldSkip 50 rfl hHeld ?_
              (try simp only [Act.put, List.setIfInBounds_toArray, List.set_cons_zero, List.set_cons_succ])
              refine heldSkip 51 rfl hHeld ?_
              (try simp only [Act.put, List.setIfInBounds_toArray, List.set_cons_zero, List.set_cons_succ])
              refine heldSkip 52 rfl hHeld ?_
              (try simp only [Act.put, List.setIfInBounds_toArray, List.set_cons_zero, List.set_cons_succ])
              refine heldSkip 53 rfl hHeld ?_
              (try simp only [Act.put, List.setIfInBounds_toArray, List.set_cons_zero, List.set_cons_succ])
              refine heldSkip 54 rfl hHeld ?_
              (try simp only [Act.put, List.setIfInBounds_toArray, List.set_cons_zero, List.set_cons_succ])
              refine heldTake 55 rfl (v := ?_) (fun W hSw => ?_) hHeld ?_
              rotate_left
              · (try dsimp only at hSw); go_simp; (try with_reducible rfl)
              (try simp only [Act.put, List.setIfInBounds_toArray, List.set_cons_zero, List.set_cons_succ])
              refine heldTake 56 rfl (v := ?_) (fun W hSw => ?_) hHeld ?_
              rotate_left
              · (try dsimp only at hSw); go_simp; (try with_reducible rfl)
              (try simp only [Act.put, List.setIfInBounds_toArray, List.set_cons_zero, List.set_cons_succ])
              refine wpAnyH_done (by kernel_rfl) ?_ _
              go_wp2
              go_ret
              exact ⟨by rw [HBAD.out]; rfl, hbm HB.out⟩
            · have o1 : decide ((elS l0 (j + 1)).f0 < (elS l0 j).f0) = false := decide_eq_false o0
              clear o0
              cases e1 : ((elS l0 (j + 1)).f0 == (elS l0 j).f0) with
              | true =>
                cases h1 : decide ((elS l0 (j + 1)).f1 ≤ (elS l0 j).f2) with
                | true =>
                  have hbad : okAtR l0 a1 (j + 1) = false := by rw [show okAtR l0 a1 (j + 1) = (saneR (elS l0 (j + 1)) a1 && !(decide ((elS l0 (j + 1)).f0 < (elS l0 j).f0) || (((elS l0 (j + 1)).f0 == (elS l0 j).f0 && decide ((elS l0 (j + 1)).f1 ≤ (elS l0 j).f2)) || joinsR (elS l0 j) (elS l0 (j + 1)) a1))) from rfl]; rw [hsane]; simp only [o1, e1, h1, Bool.true_and, Bool.false_or, Bool.or_false, Bool.true_or, Bool.or_true, Bool.false_and, Bool.and_false, Bool.not_true]
                  have HBAD := Aside0.mk (canonR_bad hi hbad)
                  clear hbad
                  go_upto_region 6 with (go_at_call 21; refine (saneR_any (elS l0 (j + 1)) a1 _).mono ?_; rintro e w5 ⟨rfl, hb⟩; rw [hsane]; have n1_ := Aside0.mk (below_step (hbm HB.out) hb); clear HB hb; have HB := n1_; clear n1_)
                  (try simp only [Act.put, List.setIfInBounds_toArray, List.set_cons_zero, List.set_cons_succ])
                  clear hx0 hx1 hx2 hx3
                  refine wp_region_held_drew (S := (fun W => (Below w.heap.size w W) ∧ W.cell? (ad.add (j * 4)) = some (.int .i64 (elS l0 j).f0) ∧ W.cell? ⟨(ad.add (j * 4)).block, (ad.add (j * 4)).off + 1, none⟩ = some (.int .i64 (elS l0 j).f1) ∧ W.cell? ⟨(ad.add (j * 4)).block, (ad.add (j * 4)).off + 2, none⟩ = some (.int .i64 (elS l0 j).f2) ∧ W.cell? ⟨(ad.add (j * 4)).block, (ad.add (j * 4)).off + 3, none⟩ = some (.int .i64 (elS l0 j).f3) ∧ W.cell? (ad.add ((j + 1) * 4)) = some (.int .i64 (elS l0 (j + 1)).f0) ∧ W.cell? ⟨(ad.add ((j + 1) * 4)).block, (ad.add ((j + 1) * 4)).off + 1, none⟩ = some (.int .i64 (elS l0 (j + 1)).f1) ∧ W.cell? ⟨(ad.add ((j + 1) * 4)).block, (ad.add ((j + 1) * 4)).off + 2, none⟩ = some (.int .i64 (elS l0 (j + 1)).f2) ∧ W.cell? ⟨(ad.add ((j + 1) * 4)).block, (ad.add ((j + 1) * 4)).off + 3, none⟩ = some (.int .i64 (elS l0 (j + 1)).f3))) (by kernel_rfl) ?_ (fun hHeld => ?_)
                  · (try dsimp only); exact ⟨hbm HB.out, (atc_T23 (Kd.C_below HR0.out (hbm HB.out)) j hj).1, (atc_T23 (Kd.C_below HR0.out (hbm HB.out)) j hj).2.1, (atc_T23 (Kd.C_below HR0.out (hbm HB.out)) j hj).2.2.1, (atc_T23 (Kd.C_below HR0.out (hbm HB.out)) j hj).2.2.2, (atc_T23 (Kd.C_below HR0.out (hbm HB.out)) (j + 1) hi).1, (atc_T23 (Kd.C_below HR0.out (hbm HB.out)) (j + 1) hi).2.1, (atc_T23 (Kd.C_below HR0.out (hbm HB.out)) (j + 1) hi).2.2.1, (atc_T23 (Kd.C_below HR0.out (hbm HB.out)) (j + 1) hi).2.2.2⟩
                  refine heldTake 0 rfl (v := ?_) (fun W hSw => ?_) hHeld ?_
                  rotate_left
                  · (try dsimp only at hSw); go_simp; (try with_reducible rfl)
                  (try simp only [Act.put, List.setIfInBounds_toArray, List.set_cons_zero, List.set_cons_succ])
                  refine heldTake 1 rfl (v := ?_) (fun W hSw => ?_) hHeld ?_
                  rotate_left
                  · (try dsimp only at hSw); go_simp; (try with_reducible rfl)
                  (try simp only [Act.put, List.setIfInBounds_toArray, List.set_cons_zero, List.set_cons_succ])
                  refine heldTake 2 rfl (v := ?_) (fun W hSw => ?_) hHeld ?_
                  rotate_left
                  · (try dsimp only at hSw); go_simp; (try with_reducible rfl)
                  (try simp only [Act.put, List.setIfInBounds_toArray, List.set_cons_zero, List.set_cons_succ])
                  refine heldTake 3 rfl (v := ?_) (fun W hSw => ?_) hHeld ?_
                  rotate_left
                  · (try dsimp only at hSw); go_simp; (try with_reducible rfl)
                  (try simp only [Act.put, List.setIfInBounds_toArray, List.set_cons_zero, List.set_cons_succ])
                  refine heldTake 4 rfl (v := ?_) (fun W hSw => ?_) hHeld ?_
                  rotate_left
                  · (try dsimp only at hSw); go_simp; (try with_reducible rfl)
                  (try simp only [Act.put, List.setIfInBounds_toArray, List.set_cons_zero, List.set_cons_succ])
                  refine heldTake 5 rfl (v := ?_) (fun W hSw => ?_) hHeld ?_
                  rotate_left
                  · (try dsimp only at hSw); go_simp; (try with_reducible rfl)
                  (try simp only [Act.put, List.setIfInBounds_toArray, List.set_cons_zero, List.set_cons_succ])
                  refine heldTake 6 rfl (v := ?_) (fun W hSw => ?_) hHeld ?_
                  rotate_left
                  · (try dsimp only at hSw); go_simp; (try with_reducible rfl)
                  (try simp only [Act.put, List.setIfInBounds_toArray, List.set_cons_zero, List.set_cons_succ])
                  refine heldTake 7 rfl (v := ?_) (fun W hSw => ?_) hHeld ?_
                  rotate_left
                  · (try dsimp only at hSw); go_simp; (try with_reducible rfl)
                  (try simp only [Act.put, List.setIfInBounds_toArray, List.set_cons_zero, List.set_cons_succ])
                  refine heldTake 8 rfl (v := ?_) (fun W hSw => ?_) hHeld ?_
                  rotate_left
                  · (try dsimp only at hSw); go_simp; (try with_reducible rfl)
                  (try simp only [Act.put, List.setIfInBounds_toArray, List.set_cons_zero, List.set_cons_succ])
                  refine heldTake 9 rfl (v := ?_) (fun W hSw => ?_) hHeld ?_
                  rotate_left
                  · (try dsimp only at hSw); go_simp; (try with_reducible rfl)
                  (try simp only [Act.put, List.setIfInBounds_toArray, List.set_cons_zero, List.set_cons_succ])
                  refine heldTake 10 rfl (v := ?_) (fun W hSw => ?_) hHeld ?_
                  rotate_left
                  · (try dsimp only at hSw); go_simp; (try with_reducible rfl)
                  (try simp only [Act.put, List.setIfInBounds_toArray, List.set_cons_zero, List.set_cons_succ])
                  refine heldTake 11 rfl (v := ?_) (fun W hSw => ?_) hHeld ?_
                  rotate_left
                  · (try dsimp only at hSw); go_simp; (try with_reducible rfl)
                  (try simp only [Act.put, List.setIfInBounds_toArray, List.set_cons_zero, List.set_cons_succ])
                  refine heldTake 12 rfl (v := ?_) (fun W hSw => ?_) hHeld ?_
                  rotate_left
                  · (try dsimp only at hSw); go_simp; (try with_reducible rfl)
                  (try simp only [Act.put, List.setIfInBounds_toArray, List.set_cons_zero, List.set_cons_succ])
                  refine heldTake 13 rfl (v := ?_) (fun W hSw => ?_) hHeld ?_
                  rotate_left
                  · (try dsimp only at hSw); go_simp; (try with_reducible rfl)
                  (try simp only [Act.put, List.setIfInBounds_toArray, List.set_cons_zero, List.set_cons_succ])
                  refine heldTake 14 rfl (v := ?_) (fun W hSw => ?_) hHeld ?_
                  rotate_left
                  · (try dsimp only at hSw); go_simp; (try with_reducible rfl)
                  (try simp only [Act.put, List.setIfInBounds_toArray, List.set_cons_zero, List.set_cons_succ])
                  refine heldTake 15 rfl (v := ?_) (fun W hSw => ?_) hHeld ?_
                  rotate_left
                  · (try dsimp only at hSw); go_simp; (try with_reducible rfl)
                  (try simp only [Act.put, List.setIfInBounds_toArray, List.set_cons_zero, List.set_cons_succ])
                  refine heldTake 16 rfl (v := ?_) (fun W hSw => ?_) hHeld ?_
                  rotate_left
                  · (try dsimp only at hSw); go_simp; (try with_reducible rfl)
                  (try simp only [Act.put, List.setIfInBounds_toArray, List.set_cons_zero, List.set_cons_succ])
                  refine heldTake 17 rfl (v := ?_) (fun W hSw => ?_) hHeld ?_
                  rotate_left
                  · (try dsimp only at hSw); go_simp; (try with_reducible rfl)
                  (try simp only [Act.put, List.setIfInBounds_toArray, List.set_cons_zero, List.set_cons_succ])
                  refine heldTake 18 rfl (v := ?_) (fun W hSw => ?_) hHeld ?_
                  rotate_left
                  · (try dsimp only at hSw); go_simp; (try with_reducible rfl)
                  (try simp only [Act.put, List.setIfInBounds_toArray, List.set_cons_zero, List.set_cons_succ])
                  refine heldTake 19 rfl (v := ?_) (fun W hSw => ?_) hHeld ?_
                  rotate_left
                  · (try dsimp only at hSw); go_simp; (try with_reducible rfl)
                  (try simp only [Act.put, List.setIfInBounds_toArray, List.set_cons_zero, List.set_cons_succ])
                  refine heldTake 20 rfl (v := ?_) (fun W hSw => ?_) hHeld ?_
                  rotate_left
                  · (try dsimp only at hSw); go_simp; (try with_reducible rfl)
                  (try simp only [Act.put, List.setIfInBounds_toArray, List.set_cons_zero, List.set_cons_succ])
                  refine heldTake 21 rfl (v := ?_) (fun W hSw => ?_) hHeld ?_
                  rotate_left
                  · (try dsimp only at hSw); go_simp; (try with_reducible rfl)
                  (try simp only [Act.put, List.setIfInBounds_toArray, List.set_cons_zero, List.set_cons_succ])
                  refine heldTake 22 rfl (v := ?_) (fun W hSw => ?_) hHeld ?_
                  rotate_left
                  · (try dsimp only at hSw); go_simp; (try with_reducible rfl)
                  (try simp only [Act.put, List.setIfInBounds_toArray, List.set_cons_zero, List.set_cons_succ])
                  refine heldTake 23 rfl (v := ?_) (fun W hSw => ?_) hHeld ?_
                  rotate_left
                  · (try dsimp only at hSw); go_simp; (try with_reducible rfl)
                  (try simp only [Act.put, List.setIfInBounds_toArray, List.set_cons_zero, List.set_cons_succ])
                  refine heldTake 24 rfl (v := ?_) (fun W hSw => ?_) hHeld ?_
                  rotate_left
                  · (try dsimp only at hSw); go_simp; (try with_reducible rfl)
                  (try simp only [Act.put, List.setIfInBounds_toArray, List.set_cons_zero, List.set_cons_succ])
                  refine heldTake 25 rfl (v := ?_) (fun W hSw => ?_) hHeld ?_
                  rotate_left
                  · (try dsimp only at hSw); go_simp; (try with_reducible rfl)
                  (try simp only [Act.put, List.setIfInBounds_toArray, List.set_cons_zero, List.set_cons_succ])
                  refine heldTake 26 rfl (v := ?_) (fun W hSw => ?_) hHeld ?_
                  rotate_left
                  · (try dsimp only at hSw); go_simp; (try with_reducible rfl)
                  (try simp only [Act.put, List.setIfInBounds_toArray, List.set_cons_zero, List.set_cons_succ])
                  refine heldTake 27 rfl (v := ?_) (fun W hSw => ?_) hHeld ?_
                  rotate_left
                  · (try dsimp only at hSw); go_simp; (try with_reducible rfl)
                  (try simp only [Act.put, List.setIfInBounds_toArray, List.set_cons_zero, List.set_cons_succ])
                  refine heldTake 28 rfl (v := ?_) (fun W hSw => ?_) hHeld ?_
                  rotate_left
                  · (try dsimp only at hSw); go_simp; (try with_reducible rfl)
                  (try simp only [Act.put, List.setIfInBounds_toArray, List.set_cons_zero, List.set_cons_succ])
                  refine heldTake 29 rfl (v := ?_) (fun W hSw => ?_) hHeld ?_
                  rotate_left
                  · (try dsimp only at hSw); go_simp; (try with_reducible rfl)
                  (try simp only [Act.put, List.setIfInBounds_toArray, List.set_cons_zero, List.set_cons_succ])
                  refine heldTake 30 rfl (v := ?_) (fun W hSw => ?_) hHeld ?_
                  rotate_left
                  · (try dsimp only at hSw); go_simp; (try with_reducible rfl)
                  (try simp only [Act.put, List.setIfInBounds_toArray, List.set_cons_zero, List.set_cons_succ])
                  refine heldTake 31 rfl (v := ?_) (fun W hSw => ?_) hHeld ?_
                  rotate_left
                  · (try dsimp only at hSw); go_simp; (try with_reducible rfl)
                  (try simp only [Act.put, List.setIfInBounds_toArray, List.set_cons_zero, List.set_cons_succ])
                  refine heldTake 32 rfl (v := ?_) (fun W hSw => ?_) hHeld ?_
                  rotate_left
                  · (try dsimp only at hSw); go_simp; (try with_reducible rfl)
                  (try simp only [Act.put, List.setIfInBounds_toArray, List.set_cons_zero, List.set_cons_succ])
                  refine heldTake 33 rfl (v := ?_) (fun W hSw => ?_) hHeld ?_
                  rotate_left
                  · (try dsimp only at hSw); go_simp; (try with_reducible rfl)
                  (try simp only [Act.put, List.setIfInBounds_toArray, List.set_cons_zero, List.set_cons_succ])
                  refine heldTake 34 rfl (v := ?_) (fun W hSw => ?_) hHeld ?_
                  rotate_left
                  · (try dsimp only at hSw); go_simp; (try with_reducible rfl)
                  (try simp only [Act.put, List.setIfInBounds_toArray, List.set_cons_zero, List.set_cons_succ])
                  refine heldTake 35 rfl (v := ?_) (fun W hSw => ?_) hHeld ?_
                  rotate_left
                  · (try dsimp only at hSw); go_simp; (try with_reducible rfl)
                  (try simp only [Act.put, List.setIfInBounds_toArray, List.set_cons_zero, List.set_cons_succ])
                  refine heldTake 36 rfl (v := ?_) (fun W hSw => ?_) hHeld ?_
                  rotate_left
                  · (try dsimp only at hSw); go_simp; (try with_reducible rfl)
                  (try simp only [Act.put, List.setIfInBounds_toArray, List.set_cons_zero, List.set_cons_succ])
                  refine heldTake 37 rfl (v := ?_) (fun W hSw => ?_) hHeld ?_
                  rotate_left
                  · (try dsimp only at hSw); go_simp; (try with_reducible rfl)
                  (try simp only [Act.put, List.setIfInBounds_toArray, List.set_cons_zero, List.set_cons_succ])
                  refine heldTake 38 rfl (v := ?_) (fun W hSw => ?_) hHeld ?_
                  rotate_left
                  · (try dsimp only at hSw); go_simp; (try with_reducible rfl)
                  (try simp only [Act.put, List.setIfInBounds_toArray, List.set_cons_zero, List.set_cons_succ])
                  refine heldTake 39 rfl (v := ?_) (fun W hSw => ?_) hHeld ?_
                  rotate_left
                  · (try dsimp only at hSw); go_simp; (try with_reducible rfl)
                  (try simp only [Act.put, List.setIfInBounds_toArray, List.set_cons_zero, List.set_cons_succ])
                  refine heldTake 40 rfl (v := ?_) (fun W hSw => ?_) hHeld ?_
                  rotate_left
                  · (try dsimp only at hSw); go_simp; (try with_reducible rfl)
                  (try simp only [Act.put, List.setIfInBounds_toArray, List.set_cons_zero, List.set_cons_succ])
                  refine heldTake 41 rfl (v := ?_) (fun W hSw => ?_) hHeld ?_
                  rotate_left
                  · (try dsimp only at hSw); go_simp; (try with_reducible rfl)
                  (try simp only [Act.put, List.setIfInBounds_toArray, List.set_cons_zero, List.set_cons_succ])
                  refine heldTake 42 rfl (v := ?_) (fun W hSw => ?_) hHeld ?_
                  rotate_left
                  · (try dsimp only at hSw); go_simp; (try with_reducible rfl)
                  (try simp only [Act.put, List.setIfInBounds_toArray, List.set_cons_zero, List.set_cons_succ])
                  refine heldTake 43 rfl (v := ?_) (fun W hSw => ?_) hHeld ?_
                  rotate_left
                  · (try dsimp only at hSw); go_simp; (try with_reducible rfl)
                  (try simp only [Act.put, List.setIfInBounds_toArray, List.set_cons_zero, List.set_cons_succ])
                  refine heldSkip 44 rfl hHeld ?_
                  (try simp only [Act.put, List.setIfInBounds_toArray, List.set_cons_zero, List.set_cons_succ])
                  refine heldSkip 45 rfl hHeld ?_
                  (try simp only [Act.put, List.setIfInBounds_toArray, List.set_cons_zero, List.set_cons_succ])
                  refine heldSkip 46 rfl hHeld ?_
                  (try simp only [Act.put, List.setIfInBounds_toArray, List.set_cons_zero, List.set_cons_succ])
                  refine heldSkip 47 rfl hHeld ?_
                  (try simp only [Act.put, List.setIfInBounds_toArray, List.set_cons_zero, List.set_cons_succ])
                  refine heldSkip 48 rfl hHeld ?_
                  (try simp only [Act.put, List.setIfInBounds_toArray, List.set_cons_zero, List.set_cons_succ])
                  refine heldSkip 49 rfl hHeld ?_
                  (try simp only [Act.put, List.setIfInBounds_toArray, List.set_cons_zero, List.set_cons_succ])
                  refine heldSkip 50 rfl hHeld ?_
                  (try simp only [Act.put, List.setIfInBounds_toArray, List.set_cons_zero, List.set_cons_succ])
                  refine heldSkip 51 rfl hHeld ?_
                  (try simp only [Act.put, List.setIfInBounds_toArray, List.set_cons_zero, List.set_cons_succ])
                  refine heldSkip 52 rfl hHeld ?_
                  (try simp only [Act.put, List.setIfInBounds_toArray, List.set_cons_zero, List.set_cons_succ])
                  refine heldSkip 53 rfl hHeld ?_
                  (try simp only [Act.put, List.setIfInBounds_toArray, List.set_cons_zero, List.set_cons_succ])
                  refine heldSkip 54 rfl hHeld ?_
                  (try simp only [Act.put, List.setIfInBounds_toArray, List.set_cons_zero, List.set_cons_succ])
                  refine heldTake 55 rfl (v := ?_) (fun W hSw => ?_) hHeld ?_
                  rotate_left
                  · (try dsimp only at hSw); go_simp; (try with_reducible rfl)
                  (try simp only [Act.put, List.setIfInBounds_toArray, List.set_cons_zero, List.set_cons_succ])
                  refine heldTake 56 rfl (v := ?_) (fun W hSw => ?_) hHeld ?_
                  rotate_left
                  · (try dsimp only at hSw); go_simp; (try with_reducible rfl)
                  (try simp only [Act.put, List.setIfInBounds_toArray, List.set_cons_zero, List.set_cons_succ])
                  refine wpAnyH_done (by kernel_rfl) ?_ _
                  go_wp2
                  go_ret
                  exact ⟨by rw [HBAD.out]; rfl, hbm HB.out⟩
                | false =>
                  obtain ⟨jb, hjb⟩ : ∃ jb, joinsR (elS l0 j) (elS l0 (j + 1)) a1 = jb := ⟨_, rfl⟩
                  have hok : okAtR l0 a1 (j + 1) = !jb := by rw [show okAtR l0 a1 (j + 1) = (saneR (elS l0 (j + 1)) a1 && !(decide ((elS l0 (j + 1)).f0 < (elS l0 j).f0) || (((elS l0 (j + 1)).f0 == (elS l0 j).f0 && decide ((elS l0 (j + 1)).f1 ≤ (elS l0 j).f2)) || joinsR (elS l0 j) (elS l0 (j + 1)) a1))) from rfl]; rw [hsane]; simp only [o1, e1, h1, hjb, Bool.true_and, Bool.false_or, Bool.or_false, Bool.false_and, Bool.and_false]
                  have HJ := Aside0.mk hjb
                  have HOKJ := Aside0.mk hok
                  clear hok hjb
                  go_upto_region 6 with (go_at_call 21; refine (saneR_any (elS l0 (j + 1)) a1 _).mono ?_; rintro e w5 ⟨rfl, hb⟩; rw [hsane]; have n1_ := Aside0.mk (below_step (hbm HB.out) hb); clear HB hb; have HB := n1_; clear n1_)
                  (try simp only [Act.put, List.setIfInBounds_toArray, List.set_cons_zero, List.set_cons_succ])
                  clear hx0 hx1 hx2 hx3
                  refine wp_region_held_drew (S := (fun W => (Below w.heap.size w W) ∧ W.cell? (ad.add (j * 4)) = some (.int .i64 (elS l0 j).f0) ∧ W.cell? ⟨(ad.add (j * 4)).block, (ad.add (j * 4)).off + 1, none⟩ = some (.int .i64 (elS l0 j).f1) ∧ W.cell? ⟨(ad.add (j * 4)).block, (ad.add (j * 4)).off + 2, none⟩ = some (.int .i64 (elS l0 j).f2) ∧ W.cell? ⟨(ad.add (j * 4)).block, (ad.add (j * 4)).off + 3, none⟩ = some (.int .i64 (elS l0 j).f3) ∧ W.cell? (ad.add ((j + 1) * 4)) = some (.int .i64 (elS l0 (j + 1)).f0) ∧ W.cell? ⟨(ad.add ((j + 1) * 4)).block, (ad.add ((j + 1) * 4)).off + 1, none⟩ = some (.int .i64 (elS l0 (j + 1)).f1) ∧ W.cell? ⟨(ad.add ((j + 1) * 4)).block, (ad.add ((j + 1) * 4)).off + 2, none⟩ = some (.int .i64 (elS l0 (j + 1)).f2) ∧ W.cell? ⟨(ad.add ((j + 1) * 4)).block, (ad.add ((j + 1) * 4)).off + 3, none⟩ = some (.int .i64 (elS l0 (j + 1)).f3))) (by kernel_rfl) ?_ (fun hHeld => ?_)
                  · (try dsimp only); exact ⟨hbm HB.out, (atc_T23 (Kd.C_below HR0.out (hbm HB.out)) j hj).1, (atc_T23 (Kd.C_below HR0.out (hbm HB.out)) j hj).2.1, (atc_T23 (Kd.C_below HR0.out (hbm HB.out)) j hj).2.2.1, (atc_T23 (Kd.C_below HR0.out (hbm HB.out)) j hj).2.2.2, (atc_T23 (Kd.C_below HR0.out (hbm HB.out)) (j + 1) hi).1, (atc_T23 (Kd.C_below HR0.out (hbm HB.out)) (j + 1) hi).2.1, (atc_T23 (Kd.C_below HR0.out (hbm HB.out)) (j + 1) hi).2.2.1, (atc_T23 (Kd.C_below HR0.out (hbm HB.out)) (j + 1) hi).2.2.2⟩
                  refine heldTake 0 rfl (v := ?_) (fun W hSw => ?_) hHeld ?_
                  rotate_left
                  · (try dsimp only at hSw); go_simp; (try with_reducible rfl)
                  (try simp only [Act.put, List.setIfInBounds_toArray, List.set_cons_zero, List.set_cons_succ])
                  refine heldTake 1 rfl (v := ?_) (fun W hSw => ?_) hHeld ?_
                  rotate_left
                  · (try dsimp only at hSw); go_simp; (try with_reducible rfl)
                  (try simp only [Act.put, List.setIfInBounds_toArray, List.set_cons_zero, List.set_cons_succ])
                  refine heldTake 2 rfl (v := ?_) (fun W hSw => ?_) hHeld ?_
                  rotate_left
                  · (try dsimp only at hSw); go_simp; (try with_reducible rfl)
                  (try simp only [Act.put, List.setIfInBounds_toArray, List.set_cons_zero, List.set_cons_succ])
                  refine heldTake 3 rfl (v := ?_) (fun W hSw => ?_) hHeld ?_
                  rotate_left
                  · (try dsimp only at hSw); go_simp; (try with_reducible rfl)
                  (try simp only [Act.put, List.setIfInBounds_toArray, List.set_cons_zero, List.set_cons_succ])
                  refine heldTake 4 rfl (v := ?_) (fun W hSw => ?_) hHeld ?_
                  rotate_left
                  · (try dsimp only at hSw); go_simp; (try with_reducible rfl)
                  (try simp only [Act.put, List.setIfInBounds_toArray, List.set_cons_zero, List.set_cons_succ])
                  refine heldTake 5 rfl (v := ?_) (fun W hSw => ?_) hHeld ?_
                  rotate_left
                  · (try dsimp only at hSw); go_simp; (try with_reducible rfl)
                  (try simp only [Act.put, List.setIfInBounds_toArray, List.set_cons_zero, List.set_cons_succ])
                  refine heldTake 6 rfl (v := ?_) (fun W hSw => ?_) hHeld ?_
                  rotate_left
                  · (try dsimp only at hSw); go_simp; (try with_reducible rfl)
                  (try simp only [Act.put, List.setIfInBounds_toArray, List.set_cons_zero, List.set_cons_succ])
                  refine heldTake 7 rfl (v := ?_) (fun W hSw => ?_) hHeld ?_
                  rotate_left
                  · (try dsimp only at hSw); go_simp; (try with_reducible rfl)
                  (try simp only [Act.put, List.setIfInBounds_toArray, List.set_cons_zero, List.set_cons_succ])
                  refine heldTake 8 rfl (v := ?_) (fun W hSw => ?_) hHeld ?_
                  rotate_left
                  · (try dsimp only at hSw); go_simp; (try with_reducible rfl)
                  (try simp only [Act.put, List.setIfInBounds_toArray, List.set_cons_zero, List.set_cons_succ])
                  refine heldTake 9 rfl (v := ?_) (fun W hSw => ?_) hHeld ?_
                  rotate_left
                  · (try dsimp only at hSw); go_simp; (try with_reducible rfl)
                  (try simp only [Act.put, List.setIfInBounds_toArray, List.set_cons_zero, List.set_cons_succ])
                  refine heldTake 10 rfl (v := ?_) (fun W hSw => ?_) hHeld ?_
                  rotate_left
                  · (try dsimp only at hSw); go_simp; (try with_reducible rfl)
                  (try simp only [Act.put, List.setIfInBounds_toArray, List.set_cons_zero, List.set_cons_succ])
                  refine heldTake 11 rfl (v := ?_) (fun W hSw => ?_) hHeld ?_
                  rotate_left
                  · (try dsimp only at hSw); go_simp; (try with_reducible rfl)
                  (try simp only [Act.put, List.setIfInBounds_toArray, List.set_cons_zero, List.set_cons_succ])
                  refine heldTake 12 rfl (v := ?_) (fun W hSw => ?_) hHeld ?_
                  rotate_left
                  · (try dsimp only at hSw); go_simp; (try with_reducible rfl)
                  (try simp only [Act.put, List.setIfInBounds_toArray, List.set_cons_zero, List.set_cons_succ])
                  refine heldTake 13 rfl (v := ?_) (fun W hSw => ?_) hHeld ?_
                  rotate_left
                  · (try dsimp only at hSw); go_simp; (try with_reducible rfl)
                  (try simp only [Act.put, List.setIfInBounds_toArray, List.set_cons_zero, List.set_cons_succ])
                  refine heldTake 14 rfl (v := ?_) (fun W hSw => ?_) hHeld ?_
                  rotate_left
                  · (try dsimp only at hSw); go_simp; (try with_reducible rfl)
                  (try simp only [Act.put, List.setIfInBounds_toArray, List.set_cons_zero, List.set_cons_succ])
                  refine heldTake 15 rfl (v := ?_) (fun W hSw => ?_) hHeld ?_
                  rotate_left
                  · (try dsimp only at hSw); go_simp; (try with_reducible rfl)
                  (try simp only [Act.put, List.setIfInBounds_toArray, List.set_cons_zero, List.set_cons_succ])
                  refine heldTake 16 rfl (v := ?_) (fun W hSw => ?_) hHeld ?_
                  rotate_left
                  · (try dsimp only at hSw); go_simp; (try with_reducible rfl)
                  (try simp only [Act.put, List.setIfInBounds_toArray, List.set_cons_zero, List.set_cons_succ])
                  refine heldTake 17 rfl (v := ?_) (fun W hSw => ?_) hHeld ?_
                  rotate_left
                  · (try dsimp only at hSw); go_simp; (try with_reducible rfl)
                  (try simp only [Act.put, List.setIfInBounds_toArray, List.set_cons_zero, List.set_cons_succ])
                  refine heldTake 18 rfl (v := ?_) (fun W hSw => ?_) hHeld ?_
                  rotate_left
                  · (try dsimp only at hSw); go_simp; (try with_reducible rfl)
                  (try simp only [Act.put, List.setIfInBounds_toArray, List.set_cons_zero, List.set_cons_succ])
                  refine heldTake 19 rfl (v := ?_) (fun W hSw => ?_) hHeld ?_
                  rotate_left
                  · (try dsimp only at hSw); go_simp; (try with_reducible rfl)
                  (try simp only [Act.put, List.setIfInBounds_toArray, List.set_cons_zero, List.set_cons_succ])
                  refine heldTake 20 rfl (v := ?_) (fun W hSw => ?_) hHeld ?_
                  rotate_left
                  · (try dsimp only at hSw); go_simp; (try with_reducible rfl)
                  (try simp only [Act.put, List.setIfInBounds_toArray, List.set_cons_zero, List.set_cons_succ])
                  refine heldTake 21 rfl (v := ?_) (fun W hSw => ?_) hHeld ?_
                  rotate_left
                  · (try dsimp only at hSw); go_simp; (try with_reducible rfl)
                  (try simp only [Act.put, List.setIfInBounds_toArray, List.set_cons_zero, List.set_cons_succ])
                  refine heldTake 22 rfl (v := ?_) (fun W hSw => ?_) hHeld ?_
                  rotate_left
                  · (try dsimp only at hSw); go_simp; (try with_reducible rfl)
                  (try simp only [Act.put, List.setIfInBounds_toArray, List.set_cons_zero, List.set_cons_succ])
                  refine heldTake 23 rfl (v := ?_) (fun W hSw => ?_) hHeld ?_
                  rotate_left
                  · (try dsimp only at hSw); go_simp; (try with_reducible rfl)
                  (try simp only [Act.put, List.setIfInBounds_toArray, List.set_cons_zero, List.set_cons_succ])
                  refine heldTake 24 rfl (v := ?_) (fun W hSw => ?_) hHeld ?_
                  rotate_left
                  · (try dsimp only at hSw); go_simp; (try with_reducible rfl)
                  (try simp only [Act.put, List.setIfInBounds_toArray, List.set_cons_zero, List.set_cons_succ])
                  refine heldTake 25 rfl (v := ?_) (fun W hSw => ?_) hHeld ?_
                  rotate_left
                  · (try dsimp only at hSw); go_simp; (try with_reducible rfl)
                  (try simp only [Act.put, List.setIfInBounds_toArray, List.set_cons_zero, List.set_cons_succ])
                  refine heldTake 26 rfl (v := ?_) (fun W hSw => ?_) hHeld ?_
                  rotate_left
                  · (try dsimp only at hSw); go_simp; (try with_reducible rfl)
                  (try simp only [Act.put, List.setIfInBounds_toArray, List.set_cons_zero, List.set_cons_succ])
                  refine heldTake 27 rfl (v := ?_) (fun W hSw => ?_) hHeld ?_
                  rotate_left
                  · (try dsimp only at hSw); go_simp; (try with_reducible rfl)
                  (try simp only [Act.put, List.setIfInBounds_toArray, List.set_cons_zero, List.set_cons_succ])
                  refine heldTake 28 rfl (v := ?_) (fun W hSw => ?_) hHeld ?_
                  rotate_left
                  · (try dsimp only at hSw); go_simp; (try with_reducible rfl)
                  (try simp only [Act.put, List.setIfInBounds_toArray, List.set_cons_zero, List.set_cons_succ])
                  refine heldTake 29 rfl (v := ?_) (fun W hSw => ?_) hHeld ?_
                  rotate_left
                  · (try dsimp only at hSw); go_simp; (try with_reducible rfl)
                  (try simp only [Act.put, List.setIfInBounds_toArray, List.set_cons_zero, List.set_cons_succ])
                  refine heldTake 30 rfl (v := ?_) (fun W hSw => ?_) hHeld ?_
                  rotate_left
                  · (try dsimp only at hSw); go_simp; (try with_reducible rfl)
                  (try simp only [Act.put, List.setIfInBounds_toArray, List.set_cons_zero, List.set_cons_succ])
                  refine heldTake 31 rfl (v := ?_) (fun W hSw => ?_) hHeld ?_
                  rotate_left
                  · (try dsimp only at hSw); go_simp; (try with_reducible rfl)
                  (try simp only [Act.put, List.setIfInBounds_toArray, List.set_cons_zero, List.set_cons_succ])
                  refine heldTake 32 rfl (v := ?_) (fun W hSw => ?_) hHeld ?_
                  rotate_left
                  · (try dsimp only at hSw); go_simp; (try with_reducible rfl)
                  (try simp only [Act.put, List.setIfInBounds_toArray, List.set_cons_zero, List.set_cons_succ])
                  refine heldTake 33 rfl (v := ?_) (fun W hSw => ?_) hHeld ?_
                  rotate_left
                  · (try dsimp only at hSw); go_simp; (try with_reducible rfl)
                  (try simp only [Act.put, List.setIfInBounds_toArray, List.set_cons_zero, List.set_cons_succ])
                  refine heldTake 34 rfl (v := ?_) (fun W hSw => ?_) hHeld ?_
                  rotate_left
                  · (try dsimp only at hSw); go_simp; (try with_reducible rfl)
                  (try simp only [Act.put, List.setIfInBounds_toArray, List.set_cons_zero, List.set_cons_succ])
                  refine heldTake 35 rfl (v := ?_) (fun W hSw => ?_) hHeld ?_
                  rotate_left
                  · (try dsimp only at hSw); go_simp; (try with_reducible rfl)
                  (try simp only [Act.put, List.setIfInBounds_toArray, List.set_cons_zero, List.set_cons_succ])
                  refine heldTake 36 rfl (v := ?_) (fun W hSw => ?_) hHeld ?_
                  rotate_left
                  · (try dsimp only at hSw); go_simp; (try with_reducible rfl)
                  (try simp only [Act.put, List.setIfInBounds_toArray, List.set_cons_zero, List.set_cons_succ])
                  refine heldTake 37 rfl (v := ?_) (fun W hSw => ?_) hHeld ?_
                  rotate_left
                  · (try dsimp only at hSw); go_simp; (try with_reducible rfl)
                  (try simp only [Act.put, List.setIfInBounds_toArray, List.set_cons_zero, List.set_cons_succ])
                  refine heldTake 38 rfl (v := ?_) (fun W hSw => ?_) hHeld ?_
                  rotate_left
                  · (try dsimp only at hSw); go_simp; (try with_reducible rfl)
                  (try simp only [Act.put, List.setIfInBounds_toArray, List.set_cons_zero, List.set_cons_succ])
                  refine heldTake 39 rfl (v := ?_) (fun W hSw => ?_) hHeld ?_
                  rotate_left
                  · (try dsimp only at hSw); go_simp; (try with_reducible rfl)
                  (try simp only [Act.put, List.setIfInBounds_toArray, List.set_cons_zero, List.set_cons_succ])
                  refine heldTake 40 rfl (v := ?_) (fun W hSw => ?_) hHeld ?_
                  rotate_left
                  · (try dsimp only at hSw); go_simp; (try with_reducible rfl)
                  (try simp only [Act.put, List.setIfInBounds_toArray, List.set_cons_zero, List.set_cons_succ])
                  refine heldTake 41 rfl (v := ?_) (fun W hSw => ?_) hHeld ?_
                  rotate_left
                  · (try dsimp only at hSw); go_simp; (try with_reducible rfl)
                  (try simp only [Act.put, List.setIfInBounds_toArray, List.set_cons_zero, List.set_cons_succ])
                  refine heldTake 42 rfl (v := ?_) (fun W hSw => ?_) hHeld ?_
                  rotate_left
                  · (try dsimp only at hSw); go_simp; (try with_reducible rfl)
                  (try simp only [Act.put, List.setIfInBounds_toArray, List.set_cons_zero, List.set_cons_succ])
                  refine heldTake 43 rfl (v := ?_) (fun W hSw => ?_) hHeld ?_
                  rotate_left
                  · (try dsimp only at hSw); go_simp; (try with_reducible rfl)
                  (try simp only [Act.put, List.setIfInBounds_toArray, List.set_cons_zero, List.set_cons_succ])
                  refine heldTake 44 rfl (v := ?_) (fun W hSw => ?_) hHeld ?_
                  rotate_left
                  · (try dsimp only at hSw); go_simp; (try with_reducible rfl)
                  (try simp only [Act.put, List.setIfInBounds_toArray, List.set_cons_zero, List.set_cons_succ])
                  refine heldTake 45 rfl (v := ?_) (fun W hSw => ?_) hHeld ?_
                  rotate_left
                  · (try dsimp only at hSw); go_simp; (try with_reducible rfl)
                  (try simp only [Act.put, List.setIfInBounds_toArray, List.set_cons_zero, List.set_cons_succ])
                  refine heldTake 46 rfl (v := ?_) (fun W hSw => ?_) hHeld ?_
                  rotate_left
                  · (try dsimp only at hSw); go_simp; (try with_reducible rfl)
                  (try simp only [Act.put, List.setIfInBounds_toArray, List.set_cons_zero, List.set_cons_succ])
                  refine heldTake 47 rfl (v := ?_) (fun W hSw => ?_) hHeld ?_
                  rotate_left
                  · (try dsimp only at hSw); go_simp; (try with_reducible rfl)
                  (try simp only [Act.put, List.setIfInBounds_toArray, List.set_cons_zero, List.set_cons_succ])
                  refine heldTake 48 rfl (v := ?_) (fun W hSw => ?_) hHeld ?_
                  rotate_left
                  · (try dsimp only at hSw); go_simp; (try with_reducible rfl)
                  (try simp only [Act.put, List.setIfInBounds_toArray, List.set_cons_zero, List.set_cons_succ])
                  refine heldTake 49 rfl (v := ?_) (fun W hSw => ?_) hHeld ?_
                  rotate_left
                  · (try dsimp only at hSw); go_simp; (try with_reducible rfl)
                  (try simp only [Act.put, List.setIfInBounds_toArray, List.set_cons_zero, List.set_cons_succ])
                  refine heldTake 50 rfl (v := ?_) (fun W hSw => ?_) hHeld ?_
                  rotate_left
                  · (try dsimp only at hSw); go_simp; (try with_reducible rfl)
                  (try simp only [Act.put, List.setIfInBounds_toArray, List.set_cons_zero, List.set_cons_succ])
                  refine heldTake 51 rfl (v := ?_) (fun W hSw => ?_) hHeld ?_
                  rotate_left
                  · (try dsimp only at hSw); go_simp; (try with_reducible rfl)
                  (try simp only [Act.put, List.setIfInBounds_toArray, List.set_cons_zero, List.set_cons_succ])
                  refine heldTake 52 rfl (v := ?_) (fun W hSw => ?_) hHeld ?_
                  rotate_left
                  · (try dsimp only at hSw); go_simp; (try with_reducible rfl)
                  (try simp only [Act.put, List.setIfInBounds_toArray, List.set_cons_zero, List.set_cons_succ])
                  refine heldTake 53 rfl (v := ?_) (fun W hSw => ?_) hHeld ?_
                  rotate_left
                  · (try dsimp only at hSw); go_simp; (try with_reducible rfl)
                  (try simp only [Act.put, List.setIfInBounds_toArray, List.set_cons_zero, List.set_cons_succ])
                  refine heldCall (i := 54) rfl (by kernel_rfl) (by rfl) (fun K hK => ?_)
                  go_simp
                  (go_at_call 36; (with_reducible refine (joinsR_any (elS l0 j) (elS l0 (j + 1)) a1 _).mono ?_); rintro e w6 ⟨rfl, hb⟩; rw [HJ.out]; have n1_ := Aside0.mk (below_step (hbm HB.out) hb); clear HB hb; have HB := n1_; clear n1_)
                  go_wp2_with fail
                  refine hK.out _ _ ?_ (fun hHeld2 => ?_)
                  · (try dsimp only); exact ⟨hbm HB.out, (atc_T23 (Kd.C_below HR0.out (hbm HB.out)) j hj).1, (atc_T23 (Kd.C_below HR0.out (hbm HB.out)) j hj).2.1, (atc_T23 (Kd.C_below HR0.out (hbm HB.out)) j hj).2.2.1, (atc_T23 (Kd.C_below HR0.out (hbm HB.out)) j hj).2.2.2, (atc_T23 (Kd.C_below HR0.out (hbm HB.out)) (j + 1) hi).1, (atc_T23 (Kd.C_below HR0.out (hbm HB.out)) (j + 1) hi).2.1, (atc_T23 (Kd.C_below HR0.out (hbm HB.out)) (j + 1) hi).2.2.1, (atc_T23 (Kd.C_below HR0.out (hbm HB.out)) (j + 1) hi).2.2.2⟩
                  clear hK K hHeld
                  have hHeld := hHeld2
                  clear hHeld2
                  (try simp only [Act.put, List.setIfInBounds_toArray, List.set_cons_zero, List.set_cons_succ])
                  refine heldTake 55 rfl (v := ?_) (fun W hSw => ?_) hHeld ?_
                  rotate_left
                  · (try dsimp only at hSw); go_simp; (try with_reducible rfl)
                  (try simp only [Act.put, List.setIfInBounds_toArray, List.set_cons_zero, List.set_cons_succ])
                  refine heldTake 56 rfl (v := ?_) (fun W hSw => ?_) hHeld ?_
                  rotate_left
                  · (try dsimp only at hSw); go_simp; (try with_reducible rfl)
                  (try simp only [Act.put, List.setIfInBounds_toArray, List.set_cons_zero, List.set_cons_succ])
                  refine wpAnyH_done (by kernel_rfl) ?_ _
                  cases jb with
                  | true =>
                    have HBAD := Aside0.mk (canonR_bad hi HOKJ.out)
                    go_wp2
                    go_ret
                    exact ⟨by rw [HBAD.out]; rfl, hbm HB.out⟩
                  | false =>
                    go_wp2
                    go_roundg k1
                    case measure => omega
                    case rel => exact ⟨j + 1 + 1, by first | rfl | (simp; done), ⟨by omega⟩, ⟨fun q h => by (rcases Nat.lt_or_ge q (j + 1) with h2 | h2); (exact HOK.out q h2); ((obtain rfl : q = j + 1 := by omega); exact HOKJ.out)⟩, ⟨hbm HB.out⟩⟩
              | false =>
                obtain ⟨jb, hjb⟩ : ∃ jb, joinsR (elS l0 j) (elS l0 (j + 1)) a1 = jb := ⟨_, rfl⟩
                have hok : okAtR l0 a1 (j + 1) = !jb := by rw [show okAtR l0 a1 (j + 1) = (saneR (elS l0 (j + 1)) a1 && !(decide ((elS l0 (j + 1)).f0 < (elS l0 j).f0) || (((elS l0 (j + 1)).f0 == (elS l0 j).f0 && decide ((elS l0 (j + 1)).f1 ≤ (elS l0 j).f2)) || joinsR (elS l0 j) (elS l0 (j + 1)) a1))) from rfl]; rw [hsane]; simp only [o1, e1, hjb, Bool.true_and, Bool.false_or, Bool.or_false, Bool.false_and, Bool.and_false]
                have HJ := Aside0.mk hjb
                have HOKJ := Aside0.mk hok
                clear hok hjb
                go_upto_region 6 with (go_at_call 21; refine (saneR_any (elS l0 (j + 1)) a1 _).mono ?_; rintro e w5 ⟨rfl, hb⟩; rw [hsane]; have n1_ := Aside0.mk (below_step (hbm HB.out) hb); clear HB hb; have HB := n1_; clear n1_)
                (try simp only [Act.put, List.setIfInBounds_toArray, List.set_cons_zero, List.set_cons_succ])
                clear hx0 hx1 hx2 hx3
                refine wp_region_held_drew (S := (fun W => (Below w.heap.size w W) ∧ W.cell? (ad.add (j * 4)) = some (.int .i64 (elS l0 j).f0) ∧ W.cell? ⟨(ad.add (j * 4)).block, (ad.add (j * 4)).off + 1, none⟩ = some (.int .i64 (elS l0 j).f1) ∧ W.cell? ⟨(ad.add (j * 4)).block, (ad.add (j * 4)).off + 2, none⟩ = some (.int .i64 (elS l0 j).f2) ∧ W.cell? ⟨(ad.add (j * 4)).block, (ad.add (j * 4)).off + 3, none⟩ = some (.int .i64 (elS l0 j).f3) ∧ W.cell? (ad.add ((j + 1) * 4)) = some (.int .i64 (elS l0 (j + 1)).f0) ∧ W.cell? ⟨(ad.add ((j + 1) * 4)).block, (ad.add ((j + 1) * 4)).off + 1, none⟩ = some (.int .i64 (elS l0 (j + 1)).f1) ∧ W.cell? ⟨(ad.add ((j + 1) * 4)).block, (ad.add ((j + 1) * 4)).off + 2, none⟩ = some (.int .i64 (elS l0 (j + 1)).f2) ∧ W.cell? ⟨(ad.add ((j + 1) * 4)).block, (ad.add ((j + 1) * 4)).off + 3, none⟩ = some (.int .i64 (elS l0 (j + 1)).f3))) (by kernel_rfl) ?_ (fun hHeld => ?_)
                · (try dsimp only); exact ⟨hbm HB.out, (atc_T23 (Kd.C_below HR0.out (hbm HB.out)) j hj).1, (atc_T23 (Kd.C_below HR0.out (hbm HB.out)) j hj).2.1, (atc_T23 (Kd.C_below HR0.out (hbm HB.out)) j hj).2.2.1, (atc_T23 (Kd.C_below HR0.out (hbm HB.out)) j hj).2.2.2, (atc_T23 (Kd.C_below HR0.out (hbm HB.out)) (j + 1) hi).1, (atc_T23 (Kd.C_below HR0.out (hbm HB.out)) (j + 1) hi).2.1, (atc_T23 (Kd.C_below HR0.out (hbm HB.out)) (j + 1) hi).2.2.1, (atc_T23 (Kd.C_below HR0.out (hbm HB.out)) (j + 1) hi).2.2.2⟩
                refine heldTake 0 rfl (v := ?_) (fun W hSw => ?_) hHeld ?_
                rotate_left
                · (try dsimp only at hSw); go_simp; (try with_reducible rfl)
                (try simp only [Act.put, List.setIfInBounds_toArray, List.set_cons_zero, List.set_cons_succ])
                refine heldTake 1 rfl (v := ?_) (fun W hSw => ?_) hHeld ?_
                rotate_left
                · (try dsimp only at hSw); go_simp; (try with_reducible rfl)
                (try simp only [Act.put, List.setIfInBounds_toArray, List.set_cons_zero, List.set_cons_succ])
                refine heldTake 2 rfl (v := ?_) (fun W hSw => ?_) hHeld ?_
                rotate_left
                · (try dsimp only at hSw); go_simp; (try with_reducible rfl)
                (try simp only [Act.put, List.setIfInBounds_toArray, List.set_cons_zero, List.set_cons_succ])
                refine heldTake 3 rfl (v := ?_) (fun W hSw => ?_) hHeld ?_
                rotate_left
                · (try dsimp only at hSw); go_simp; (try with_reducible rfl)
                (try simp only [Act.put, List.setIfInBounds_toArray, List.set_cons_zero, List.set_cons_succ])
                refine heldTake 4 rfl (v := ?_) (fun W hSw => ?_) hHeld ?_
                rotate_left
                · (try dsimp only at hSw); go_simp; (try with_reducible rfl)
                (try simp only [Act.put, List.setIfInBounds_toArray, List.set_cons_zero, List.set_cons_succ])
                refine heldTake 5 rfl (v := ?_) (fun W hSw => ?_) hHeld ?_
                rotate_left
                · (try dsimp only at hSw); go_simp; (try with_reducible rfl)
                (try simp only [Act.put, List.setIfInBounds_toArray, List.set_cons_zero, List.set_cons_succ])
                refine heldTake 6 rfl (v := ?_) (fun W hSw => ?_) hHeld ?_
                rotate_left
                · (try dsimp only at hSw); go_simp; (try with_reducible rfl)
                (try simp only [Act.put, List.setIfInBounds_toArray, List.set_cons_zero, List.set_cons_succ])
                refine heldTake 7 rfl (v := ?_) (fun W hSw => ?_) hHeld ?_
                rotate_left
                · (try dsimp only at hSw); go_simp; (try with_reducible rfl)
                (try simp only [Act.put, List.setIfInBounds_toArray, List.set_cons_zero, List.set_cons_succ])
                refine heldTake 8 rfl (v := ?_) (fun W hSw => ?_) hHeld ?_
                rotate_left
                · (try dsimp only at hSw); go_simp; (try with_reducible rfl)
                (try simp only [Act.put, List.setIfInBounds_toArray, List.set_cons_zero, List.set_cons_succ])
                refine heldTake 9 rfl (v := ?_) (fun W hSw => ?_) hHeld ?_
                rotate_left
                · (try dsimp only at hSw); go_simp; (try with_reducible rfl)
                (try simp only [Act.put, List.setIfInBounds_toArray, List.set_cons_zero, List.set_cons_succ])
                refine heldTake 10 rfl (v := ?_) (fun W hSw => ?_) hHeld ?_
                rotate_left
                · (try dsimp only at hSw); go_simp; (try with_reducible rfl)
                (try simp only [Act.put, List.setIfInBounds_toArray, List.set_cons_zero, List.set_cons_succ])
                refine heldTake 11 rfl (v := ?_) (fun W hSw => ?_) hHeld ?_
                rotate_left
                · (try dsimp only at hSw); go_simp; (try with_reducible rfl)
                (try simp only [Act.put, List.setIfInBounds_toArray, List.set_cons_zero, List.set_cons_succ])
                refine heldTake 12 rfl (v := ?_) (fun W hSw => ?_) hHeld ?_
                rotate_left
                · (try dsimp only at hSw); go_simp; (try with_reducible rfl)
                (try simp only [Act.put, List.setIfInBounds_toArray, List.set_cons_zero, List.set_cons_succ])
                refine heldTake 13 rfl (v := ?_) (fun W hSw => ?_) hHeld ?_
                rotate_left
                · (try dsimp only at hSw); go_simp; (try with_reducible rfl)
                (try simp only [Act.put, List.setIfInBounds_toArray, List.set_cons_zero, List.set_cons_succ])
                refine heldTake 14 rfl (v := ?_) (fun W hSw => ?_) hHeld ?_
                rotate_left
                · (try dsimp only at hSw); go_simp; (try with_reducible rfl)
                (try simp only [Act.put, List.setIfInBounds_toArray, List.set_cons_zero, List.set_cons_succ])
                refine heldTake 15 rfl (v := ?_) (fun W hSw => ?_) hHeld ?_
                rotate_left
                · (try dsimp only at hSw); go_simp; (try with_reducible rfl)
                (try simp only [Act.put, List.setIfInBounds_toArray, List.set_cons_zero, List.set_cons_succ])
                refine heldTake 16 rfl (v := ?_) (fun W hSw => ?_) hHeld ?_
                rotate_left
                · (try dsimp only at hSw); go_simp; (try with_reducible rfl)
                (try simp only [Act.put, List.setIfInBounds_toArray, List.set_cons_zero, List.set_cons_succ])
                refine heldTake 17 rfl (v := ?_) (fun W hSw => ?_) hHeld ?_
                rotate_left
                · (try dsimp only at hSw); go_simp; (try with_reducible rfl)
                (try simp only [Act.put, List.setIfInBounds_toArray, List.set_cons_zero, List.set_cons_succ])
                refine heldTake 18 rfl (v := ?_) (fun W hSw => ?_) hHeld ?_
                rotate_left
                · (try dsimp only at hSw); go_simp; (try with_reducible rfl)
                (try simp only [Act.put, List.setIfInBounds_toArray, List.set_cons_zero, List.set_cons_succ])
                refine heldTake 19 rfl (v := ?_) (fun W hSw => ?_) hHeld ?_
                rotate_left
                · (try dsimp only at hSw); go_simp; (try with_reducible rfl)
                (try simp only [Act.put, List.setIfInBounds_toArray, List.set_cons_zero, List.set_cons_succ])
                refine heldTake 20 rfl (v := ?_) (fun W hSw => ?_) hHeld ?_
                rotate_left
                · (try dsimp only at hSw); go_simp; (try with_reducible rfl)
                (try simp only [Act.put, List.setIfInBounds_toArray, List.set_cons_zero, List.set_cons_succ])
                refine heldTake 21 rfl (v := ?_) (fun W hSw => ?_) hHeld ?_
                rotate_left
                · (try dsimp only at hSw); go_simp; (try with_reducible rfl)
                (try simp only [Act.put, List.setIfInBounds_toArray, List.set_cons_zero, List.set_cons_succ])
                refine heldTake 22 rfl (v := ?_) (fun W hSw => ?_) hHeld ?_
                rotate_left
                · (try dsimp only at hSw); go_simp; (try with_reducible rfl)
                (try simp only [Act.put, List.setIfInBounds_toArray, List.set_cons_zero, List.set_cons_succ])
                refine heldTake 23 rfl (v := ?_) (fun W hSw => ?_) hHeld ?_
                rotate_left
                · (try dsimp only at hSw); go_simp; (try with_reducible rfl)
                (try simp only [Act.put, List.setIfInBounds_toArray, List.set_cons_zero, List.set_cons_succ])
                refine heldTake 24 rfl (v := ?_) (fun W hSw => ?_) hHeld ?_
                rotate_left
                · (try dsimp only at hSw); go_simp; (try with_reducible rfl)
                (try simp only [Act.put, List.setIfInBounds_toArray, List.set_cons_zero, List.set_cons_succ])
                refine heldTake 25 rfl (v := ?_) (fun W hSw => ?_) hHeld ?_
                rotate_left
                · (try dsimp only at hSw); go_simp; (try with_reducible rfl)
                (try simp only [Act.put, List.setIfInBounds_toArray, List.set_cons_zero, List.set_cons_succ])
                refine heldTake 26 rfl (v := ?_) (fun W hSw => ?_) hHeld ?_
                rotate_left
                · (try dsimp only at hSw); go_simp; (try with_reducible rfl)
                (try simp only [Act.put, List.setIfInBounds_toArray, List.set_cons_zero, List.set_cons_succ])
                refine heldTake 27 rfl (v := ?_) (fun W hSw => ?_) hHeld ?_
                rotate_left
                · (try dsimp only at hSw); go_simp; (try with_reducible rfl)
                (try simp only [Act.put, List.setIfInBounds_toArray, List.set_cons_zero, List.set_cons_succ])
                refine heldTake 28 rfl (v := ?_) (fun W hSw => ?_) hHeld ?_
                rotate_left
                · (try dsimp only at hSw); go_simp; (try with_reducible rfl)
                (try simp only [Act.put, List.setIfInBounds_toArray, List.set_cons_zero, List.set_cons_succ])
                refine heldSkip 29 rfl hHeld ?_
                (try simp only [Act.put, List.setIfInBounds_toArray, List.set_cons_zero, List.set_cons_succ])
                refine heldSkip 30 rfl hHeld ?_
                (try simp only [Act.put, List.setIfInBounds_toArray, List.set_cons_zero, List.set_cons_succ])
                refine heldSkip 31 rfl hHeld ?_
                (try simp only [Act.put, List.setIfInBounds_toArray, List.set_cons_zero, List.set_cons_succ])
                refine heldSkip 32 rfl hHeld ?_
                (try simp only [Act.put, List.setIfInBounds_toArray, List.set_cons_zero, List.set_cons_succ])
                refine heldSkip 33 rfl hHeld ?_
                (try simp only [Act.put, List.setIfInBounds_toArray, List.set_cons_zero, List.set_cons_succ])
                refine heldSkip 34 rfl hHeld ?_
                (try simp only [Act.put, List.setIfInBounds_toArray, List.set_cons_zero, List.set_cons_succ])
                refine heldSkip 35 rfl hHeld ?_
                (try simp only [Act.put, List.setIfInBounds_toArray, List.set_cons_zero, List.set_cons_succ])
                refine heldSkip 36 rfl hHeld ?_
                (try simp only [Act.put, List.setIfInBounds_toArray, List.set_cons_zero, List.set_cons_succ])
                refine heldSkip 37 rfl hHeld ?_
                (try simp only [Act.put, List.setIfInBounds_toArray, List.set_cons_zero, List.set_cons_succ])
                refine heldSkip 38 rfl hHeld ?_
                (try simp only [Act.put, List.setIfInBounds_toArray, List.set_cons_zero, List.set_cons_succ])
                refine heldSkip 39 rfl hHeld ?_
                (try simp only [Act.put, List.setIfInBounds_toArray, List.set_cons_zero, List.set_cons_succ])
                refine heldSkip 40 rfl hHeld ?_
                (try simp only [Act.put, List.setIfInBounds_toArray, List.set_cons_zero, List.set_cons_succ])
                refine heldTake 41 rfl (v := ?_) (fun W hSw => ?_) hHeld ?_
                rotate_left
                · (try dsimp only at hSw); go_simp; (try with_reducible rfl)
                (try simp only [Act.put, List.setIfInBounds_toArray, List.set_cons_zero, List.set_cons_succ])
                refine heldTake 42 rfl (v := ?_) (fun W hSw => ?_) hHeld ?_
                rotate_left
                · (try dsimp only at hSw); go_simp; (try with_reducible rfl)
                (try simp only [Act.put, List.setIfInBounds_toArray, List.set_cons_zero, List.set_cons_succ])
                refine heldTake 43 rfl (v := ?_) (fun W hSw => ?_) hHeld ?_
                rotate_left
                · (try dsimp only at hSw); go_simp; (try with_reducible rfl)
                (try simp only [Act.put, List.setIfInBounds_toArray, List.set_cons_zero, List.set_cons_succ])
                refine heldTake 44 rfl (v := ?_) (fun W hSw => ?_) hHeld ?_
                rotate_left
                · (try dsimp only at hSw); go_simp; (try with_reducible rfl)
                (try simp only [Act.put, List.setIfInBounds_toArray, List.set_cons_zero, List.set_cons_succ])
                refine heldTake 45 rfl (v := ?_) (fun W hSw => ?_) hHeld ?_
                rotate_left
                · (try dsimp only at hSw); go_simp; (try with_reducible rfl)
                (try simp only [Act.put, List.setIfInBounds_toArray, List.set_cons_zero, List.set_cons_succ])
                refine heldTake 46 rfl (v := ?_) (fun W hSw => ?_) hHeld ?_
                rotate_left
                · (try dsimp only at hSw); go_simp; (try with_reducible rfl)
                (try simp only [Act.put, List.setIfInBounds_toArray, List.set_cons_zero, List.set_cons_succ])
                refine heldTake 47 rfl (v := ?_) (fun W hSw => ?_) hHeld ?_
                rotate_left
                · (try dsimp only at hSw); go_simp; (try with_reducible rfl)
                (try simp only [Act.put, List.setIfInBounds_toArray, List.set_cons_zero, List.set_cons_succ])
                refine heldTake 48 rfl (v := ?_) (fun W hSw => ?_) hHeld ?_
                rotate_left
                · (try dsimp only at hSw); go_simp; (try with_reducible rfl)
                (try simp only [Act.put, List.setIfInBounds_toArray, List.set_cons_zero, List.set_cons_succ])
                refine heldTake 49 rfl (v := ?_) (fun W hSw => ?_) hHeld ?_
                rotate_left
                · (try dsimp only at hSw); go_simp; (try with_reducible rfl)
                (try simp only [Act.put, List.setIfInBounds_toArray, List.set_cons_zero, List.set_cons_succ])
                refine heldTake 50 rfl (v := ?_) (fun W hSw => ?_) hHeld ?_
                rotate_left
                · (try dsimp only at hSw); go_simp; (try with_reducible rfl)
                (try simp only [Act.put, List.setIfInBounds_toArray, List.set_cons_zero, List.set_cons_succ])
                refine heldTake 51 rfl (v := ?_) (fun W hSw => ?_) hHeld ?_
                rotate_left
                · (try dsimp only at hSw); go_simp; (try with_reducible rfl)
                (try simp only [Act.put, List.setIfInBounds_toArray, List.set_cons_zero, List.set_cons_succ])
                refine heldTake 52 rfl (v := ?_) (fun W hSw => ?_) hHeld ?_
                rotate_left
                · (try dsimp only at hSw); go_simp; (try with_reducible rfl)
                (try simp only [Act.put, List.setIfInBounds_toArray, List.set_cons_zero, List.set_cons_succ])
                refine heldTake 53 rfl (v := ?_) (fun W hSw => ?_) hHeld ?_
                rotate_left
                · (try dsimp only at hSw); go_simp; (try with_reducible rfl)
                (try simp only [Act.put, List.setIfInBounds_toArray, List.set_cons_zero, List.set_cons_succ])
                refine heldCall (i := 54) rfl (by kernel_rfl) (by rfl) (fun K hK => ?_)
                go_simp
                (go_at_call 36; (with_reducible refine (joinsR_any (elS l0 j) (elS l0 (j + 1)) a1 _).mono ?_); rintro e w6 ⟨rfl, hb⟩; rw [HJ.out]; have n1_ := Aside0.mk (below_step (hbm HB.out) hb); clear HB hb; have HB := n1_; clear n1_)
                go_wp2_with fail
                refine hK.out _ _ ?_ (fun hHeld2 => ?_)
                · (try dsimp only); exact ⟨hbm HB.out, (atc_T23 (Kd.C_below HR0.out (hbm HB.out)) j hj).1, (atc_T23 (Kd.C_below HR0.out (hbm HB.out)) j hj).2.1, (atc_T23 (Kd.C_below HR0.out (hbm HB.out)) j hj).2.2.1, (atc_T23 (Kd.C_below HR0.out (hbm HB.out)) j hj).2.2.2, (atc_T23 (Kd.C_below HR0.out (hbm HB.out)) (j + 1) hi).1, (atc_T23 (Kd.C_below HR0.out (hbm HB.out)) (j + 1) hi).2.1, (atc_T23 (Kd.C_below HR0.out (hbm HB.out)) (j + 1) hi).2.2.1, (atc_T23 (Kd.C_below HR0.out (hbm HB.out)) (j + 1) hi).2.2.2⟩
                clear hK K hHeld
                have hHeld := hHeld2
                clear hHeld2
                (try simp only [Act.put, List.setIfInBounds_toArray, List.set_cons_zero, List.set_cons_succ])
                refine heldTake 55 rfl (v := ?_) (fun W hSw => ?_) hHeld ?_
                rotate_left
                · (try dsimp only at hSw); go_simp; (try with_reducible rfl)
                (try simp only [Act.put, List.setIfInBounds_toArray, List.set_cons_zero, List.set_cons_succ])
                refine heldTake 56 rfl (v := ?_) (fun W hSw => ?_) hHeld ?_
                rotate_left
                · (try dsimp only at hSw); go_simp; (try with_reducible rfl)
                (try simp only [Act.put, List.setIfInBounds_toArray, List.set_cons_zero, List.set_cons_succ])
                refine wpAnyH_done (by kernel_rfl) ?_ _
                cases jb with
                | true =>
                  have HBAD := Aside0.mk (canonR_bad hi HOKJ.out)
                  go_wp2
                  go_ret
                  exact ⟨by rw [HBAD.out]; rfl, hbm HB.out⟩
                | false =>
                  go_wp2
                  go_roundg k1
                  case measure => omega
                  case rel => exact ⟨j + 1 + 1, by first | rfl | (simp; done), ⟨by omega⟩, ⟨fun q h => by (rcases Nat.lt_or_ge q (j + 1) with h2 | h2); (exact HOK.out q h2); ((obtain rfl : q = j + 1 := by omega); exact HOKJ.out)⟩, ⟨hbm HB.out⟩⟩
        · have hsf : saneR (elS l0 i) a1 = false := Bool.eq_false_iff.mpr hsane
          have hbad : okAtR l0 a1 i = false := by
            cases i with
            | zero => exact hsf
            | succ j => simp [okAtR, hsf]
          have HBAD := Aside0.mk (canonR_bad hi hbad)
          clear hbad hsane
          go_wp2_with (go_at_call 21; refine (saneR_any (elS l0 i) a1 _).mono ?_; rintro e w5 ⟨rfl, hb⟩; rw [hsf]; have n0_ := Aside0.mk (below_step (hbm HB.out) hb); clear HB hb; have HB := n0_; clear n0_)
          go_ret
          exact ⟨by rw [HBAD.out]; rfl, hbm HB.out⟩
      · obtain rfl : i = l0.length := by omega
        have hall : canonR l0 a1 = true := List.all_eq_true.mpr fun j hj => HOK.out j (List.mem_range.mp hj)
        have HALL := Aside0.mk hall
        clear hall
        go_wp2
        go_ret
        exact ⟨by rw [HALL.out]; rfl, hbm HB.out⟩

end Go.Proofs.Ytehknkgplldiiaa.PIs
