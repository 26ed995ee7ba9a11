-- made by xprint.py of this session
import Derived.Test.YtehknkgplldiiaaPIsx0
import Derived.Test.YtehknkgplldiiaaPIsx4
import Derived.Test.YtehknkgplldiiaaPIsx11
import Derived.Test.YtehknkgplldiiaaPIsx12
import Derived.Deep.RegionHeld3
namespace Go.Proofs.Ytehknkgplldiiaa.PIs
open Go.RowKit Go.Proofs.YtehknkgplldiiaaW.PrintWords Go.Proofs.YtehknkgplldiiaaW.PrintLast Go.Proofs.YtehknkgplldiiaaW.PrintMore
attribute [local go_sem] max2_int min2_int max_two min_two max_three min_three max_four min_four   -- for this text's walks alone
set_option linter.unusedVariables false
set_option linter.unusedSimpArgs false

/-! ### EXT span_Find: function 13 -/
-- IMPORTS Derived.Deep.RegionHeld3
/-! span.Find: what a code goes to, by a table. -/
def toS (x : S23) (n v : Int) (step : Bool) : Int × Bool := (span_To.f x.f0 x.f1 x.f2 x.f3 n v step).getD (0, false)
theorem toS_is (x : S23) (n v : Int) (step : Bool) : span_To.f x.f0 x.f1 x.f2 x.f3 n v step = some (toS x n v step) := by
  have h : ∃ b, span_To.f x.f0 x.f1 x.f2 x.f3 n v step = some b := by
    unfold span_To.f
    rw [saneS_is]
    obtain ⟨b1, e1⟩ := hexSane_some n v
    obtain ⟨b3, e3⟩ := rise_some (wrap64 (v - x.f1)) step
    rw [e1, e3]
    simp only [Option.bind_some]
    repeat' split
    all_goals exact ⟨_, rfl⟩
  obtain ⟨b, e⟩ := h
  unfold toS
  rw [e]
  rfl
theorem to_any (x : S23) (n v : Int) (step : Bool) (w : World) : Calls Try.prog 12 #[.agg #[.int .i64 x.f0, .int .i64 x.f1, .int .i64 x.f2, .int .i64 x.f3], .agg #[.int .i64 n, .int .i64 v], .bool step] w fun e w' => e = .returned (.tuple #[.int .i64 (toS x n v step).1, .bool (toS x n v step).2]) ∧ Below w.heap.size w w' :=
  span_To.calls _ _ _ _ _ _ _ _ _ w (toS_is x n v step)
def findV (l : List S23) (n v : Int) (step : Bool) : Int × Bool :=
  if canonS l step = true then
    if findS l ⟨n, v, 0, 0⟩ < l.length ∧ ordS (elS l (findS l ⟨n, v, 0, 0⟩)) ⟨n, v, 0, 0⟩ = 0 then toS (elS l (findS l ⟨n, v, 0, 0⟩)) n v step
    else if findS l ⟨n, v, 0, 0⟩ = 0 then (0, false) else toS (elS l (findS l ⟨n, v, 0, 0⟩ - 1)) n v step
  else (0, false)
def span_Find.f (l0 : List S23) (a1_0 : Int) (a1_1 : Int) (a2 : Bool) : Option (Int × Bool) := if l0.length < 4294967296 then some (findV l0 a1_0 a1_1 a2) else none
theorem findS_le_ (l : List S23) (t : S23) : ∀ n i j, i ≤ j → bsS l t n i j ≤ j
  | 0, i, j, h => h
  | n + 1, i, j, h => by
    unfold bsS
    split
    · rename_i hlt
      split
      · exact findS_le_ l t n _ _ (by omega)
      · exact Nat.le_trans (findS_le_ l t n _ _ (by omega)) (by omega)
    · exact h
set_option maxRecDepth 100000 in
set_option maxHeartbeats 8000000 in
theorem span_Find.calls (A0 : Option Addr) (c0 : Nat) (l0 : List S23) (a1_0 : Int) (a1_1 : Int) (a2 : Bool) (r1 : Int) (r2 : Bool) (w : World) (hr0 : Kd.C k23 w A0 l0.length l0) (hc0 : l0.length ≤ c0) (h : span_Find.f l0 a1_0 a1_1 a2 = some (r1, r2)) :
    Calls Try.prog 13 #[.slice A0 l0.length c0, .agg #[.int .i64 a1_0, .int .i64 a1_1], .bool a2] w fun e w' => e = .returned (.tuple #[.int .i64 r1, .bool r2]) ∧ Below w.heap.size w w' := by
  unfold span_Find.f at h
  by_cases hl : l0.length < 4294967296
  case neg =>
    rw [if_neg hl] at h
    cases h
  rw [if_pos hl] at h
  have hv := Option.some.inj h
  have hcan0 : span_Canon.f l0 a2 = some (canonS l0 a2) := by unfold span_Canon.f; rw [if_pos hl]
  have hfl : findS l0 (⟨a1_0, a1_1, 0, 0⟩ : S23) ≤ l0.length := findS_le_ l0 _ _ _ _ (Nat.zero_le _)
  have hu := Try.underlying23
  have hu2 := Try.underlying31
  have HR0 := Aside0.mk hr0
  have HC0 := Aside0.mk hc0
  have HL := Aside0.mk hl
  have HB := Aside0.mk (Below.refl w.heap.size w)
  clear h hl hr0 hc0
  unfold findV at hv
  by_cases hcan : canonS l0 a2 = true
  case neg =>
    rw [if_neg hcan] at hv
    cases hv
    have hcf : canonS l0 a2 = false := Bool.eq_false_iff.mpr hcan
    rw [hcf] at hcan0
    have CAN0 := Aside0.mk hcan0
    clear hcan hcf hcan0 hfl
    go_enter Try.func13, Try.ntmps13
    go_wp2_with (first | ((with_reducible refine gate_dst (N := 4) rfl ?_); refine box_event ?hg (N := 4) ?hd (cs := #[.int .i64 a1_0, .int .i64 a1_1]) (t := 31) ?hr ?_; (case hd => rfl); (case hg => rfl); (case hr => first | (go_simp; done) | (go_simp; rfl)); intro gx hg w4 hbox hb; have n0_ := Aside0.mk (below_step (hbm HB.out) hb); have n1_ := Aside0.mk hbox; clear HB; have HB := n0_; have BKx := n1_; clear n0_ n1_ hb hbox hg) | (go_at_call 16; refine (span_Canon.calls A0 c0 l0 a2 _ _ (Kd.C_below HR0.out (hbm HB.out)) HC0.out CAN0.out).mono ?_; rintro e W5 ⟨rfl, hb⟩; have n0_ := Aside0.mk (blk_below (g := gx) (o := .cells #[.int .i64 a1_0, .int .i64 a1_1] 31 (0, 0)) (bkm BKx.out) hb); have n1_ := Aside0.mk (below_step (hbm HB.out) hb); clear BKx HB hb; have BKx := n0_; have HB := n1_; clear n0_ n1_; have hcc0 : W5.cell? ⟨gx, 0, none⟩ = some (.int .i64 a1_0) := (blk_cell BKx.out 0).trans rfl; have hcc1 : W5.cell? ⟨gx, 1, none⟩ = some (.int .i64 a1_1) := (blk_cell BKx.out 1).trans rfl))
    go_ret2
    exact ⟨rfl, hbm HB.out⟩
  rw [if_pos hcan] at hv
  rw [hcan] at hcan0
  have CAN0 := Aside0.mk hcan0
  clear hcan hcan0
  obtain ⟨fi, hfi⟩ : ∃ fi, fi = findS l0 (⟨a1_0, a1_1, 0, 0⟩ : S23) := ⟨_, rfl⟩
  rw [← hfi] at hv hfl
  by_cases hok : fi < l0.length ∧ ordS (elS l0 fi) (⟨a1_0, a1_1, 0, 0⟩ : S23) = 0
  ·
    rw [if_pos hok] at hv
    have hj : fi < l0.length := hok.1
    have hq0 : (0 : Int) ≤ (fi : Int) := by omega
    have hq1 : (fi : Int) < (l0.length : Int) := by omega
    have hq2 : decide ((fi : Int) < 0) = false := decide_eq_false (by omega)
    have HOKD := Aside0.mk (show decide (fi < l0.length ∧ ordS (elS l0 fi) (⟨a1_0, a1_1, 0, 0⟩ : S23) = 0) = true from decide_eq_true hok)
    have HFI := Aside0.mk hfi
    clear hok hfl hfi
    have et1 : (toS (elS l0 fi) a1_0 a1_1 a2).1 = r1 := by rw [hv]
    have et2 : (toS (elS l0 fi) a1_0 a1_1 a2).2 = r2 := by rw [hv]
    subst et1
    subst et2
    clear hv
    go_enter Try.func13, Try.ntmps13
    go_wp2_with (first | ((with_reducible refine gate_dst (N := 4) rfl ?_); refine box_event ?hg (N := 4) ?hd (cs := #[.int .i64 a1_0, .int .i64 a1_1]) (t := 31) ?hr ?_; (case hd => rfl); (case hg => rfl); (case hr => first | (go_simp; done) | (go_simp; rfl)); intro gx hg w4 hbox hb; have n0_ := Aside0.mk (below_step (hbm HB.out) hb); have n1_ := Aside0.mk hbox; clear HB; have HB := n0_; have BKx := n1_; clear n0_ n1_ hb hbox hg) | (go_at_call 16; refine (span_Canon.calls A0 c0 l0 a2 _ _ (Kd.C_below HR0.out (hbm HB.out)) HC0.out CAN0.out).mono ?_; rintro e W5 ⟨rfl, hb⟩; have n0_ := Aside0.mk (blk_below (g := gx) (o := .cells #[.int .i64 a1_0, .int .i64 a1_1] 31 (0, 0)) (bkm BKx.out) hb); have n1_ := Aside0.mk (below_step (hbm HB.out) hb); clear BKx HB hb; have BKx := n0_; have HB := n1_; clear n0_ n1_; have hcc0 : W5.cell? ⟨gx, 0, none⟩ = some (.int .i64 a1_0) := (blk_cell BKx.out 0).trans rfl; have hcc1 : W5.cell? ⟨gx, 1, none⟩ = some (.int .i64 a1_1) := (blk_cell BKx.out 1).trans rfl) | (go_at_call 29; refine (slices_BSF_Span.calls A0 c0 l0 (⟨a1_0, a1_1, 0, 0⟩ : S23) _ (Kd.C_below HR0.out (hbm HB.out)) HC0.out HL.out).mono ?_; rintro e W6 ⟨rfl, hb⟩; have n0_ := Aside0.mk (blk_below (g := gx) (o := .cells #[.int .i64 a1_0, .int .i64 a1_1] 31 (0, 0)) (bkm BKx.out) hb); have n1_ := Aside0.mk (below_step (hbm HB.out) hb); clear BKx HB hb; have BKx := n0_; have HB := n1_; clear n0_ n1_; rw [← HFI.out, HOKD.out]))
    obtain ⟨ad, ead, _⟩ := at_T23 (Kd.C_below HR0.out HB.out) ((fi : Nat) : Int) (by omega) (by omega)
    subst ead
    go_region_held3 (fun W => (W.heap[gx]? = some (.cells #[.int .i64 a1_0, .int .i64 a1_1] 31 (0, 0))) ∧ (Below w.heap.size w W) ∧ W.cell? ⟨gx, 0, none⟩ = some (.int .i64 a1_0) ∧ W.cell? ⟨gx, 1, none⟩ = some (.int .i64 a1_1) ∧ W.cell? (ad.add (fi * 4)) = some (.int .i64 (elS l0 fi).f0) ∧ W.cell? ⟨(ad.add (fi * 4)).block, (ad.add (fi * 4)).off + 1, none⟩ = some (.int .i64 (elS l0 fi).f1) ∧ W.cell? ⟨(ad.add (fi * 4)).block, (ad.add (fi * 4)).off + 2, none⟩ = some (.int .i64 (elS l0 fi).f2) ∧ W.cell? ⟨(ad.add (fi * 4)).block, (ad.add (fi * 4)).off + 3, none⟩ = some (.int .i64 (elS l0 fi).f3)) (exact ⟨(bkm BKx.out), hbm HB.out, (blk_cell (bkm BKx.out) 0).trans rfl, (blk_cell (bkm BKx.out) 1).trans rfl, (atc_T23 (Kd.C_below HR0.out (hbm HB.out)) fi hj).1, (atc_T23 (Kd.C_below HR0.out (hbm HB.out)) fi hj).2.1, (atc_T23 (Kd.C_below HR0.out (hbm HB.out)) fi hj).2.2.1, (atc_T23 (Kd.C_below HR0.out (hbm HB.out)) fi hj).2.2.2⟩) (first | (go_at_call 12; (with_reducible refine (to_any (elS l0 fi) a1_0 a1_1 a2 _).mono ?_); rintro e w7 ⟨rfl, hb⟩; have n0_ := Aside0.mk (blk_below (g := gx) (o := .cells #[.int .i64 a1_0, .int .i64 a1_1] 31 (0, 0)) (bkm BKx.out) hb); have n1_ := Aside0.mk (below_step (hbm HB.out) hb); clear BKx HB hb; have BKx := n0_; have HB := n1_; clear n0_ n1_))
    all_goals go_wp2
    go_ret2
    exact ⟨rfl, hbm HB.out⟩
  ·
    rw [if_neg hok] at hv
    have HOKD := Aside0.mk (show decide (fi < l0.length ∧ ordS (elS l0 fi) (⟨a1_0, a1_1, 0, 0⟩ : S23) = 0) = false from decide_eq_false hok)
    have HFI := Aside0.mk hfi
    clear hok hfi
    cases fi with
    | zero =>
      rw [if_pos rfl] at hv
      cases hv
      clear hfl
      go_enter Try.func13, Try.ntmps13
      go_wp2_with (first | ((with_reducible refine gate_dst (N := 4) rfl ?_); refine box_event ?hg (N := 4) ?hd (cs := #[.int .i64 a1_0, .int .i64 a1_1]) (t := 31) ?hr ?_; (case hd => rfl); (case hg => rfl); (case hr => first | (go_simp; done) | (go_simp; rfl)); intro gx hg w4 hbox hb; have n0_ := Aside0.mk (below_step (hbm HB.out) hb); have n1_ := Aside0.mk hbox; clear HB; have HB := n0_; have BKx := n1_; clear n0_ n1_ hb hbox hg) | (go_at_call 16; refine (span_Canon.calls A0 c0 l0 a2 _ _ (Kd.C_below HR0.out (hbm HB.out)) HC0.out CAN0.out).mono ?_; rintro e W5 ⟨rfl, hb⟩; have n0_ := Aside0.mk (blk_below (g := gx) (o := .cells #[.int .i64 a1_0, .int .i64 a1_1] 31 (0, 0)) (bkm BKx.out) hb); have n1_ := Aside0.mk (below_step (hbm HB.out) hb); clear BKx HB hb; have BKx := n0_; have HB := n1_; clear n0_ n1_; have hcc0 : W5.cell? ⟨gx, 0, none⟩ = some (.int .i64 a1_0) := (blk_cell BKx.out 0).trans rfl; have hcc1 : W5.cell? ⟨gx, 1, none⟩ = some (.int .i64 a1_1) := (blk_cell BKx.out 1).trans rfl) | (go_at_call 29; refine (slices_BSF_Span.calls A0 c0 l0 (⟨a1_0, a1_1, 0, 0⟩ : S23) _ (Kd.C_below HR0.out (hbm HB.out)) HC0.out HL.out).mono ?_; rintro e W6 ⟨rfl, hb⟩; have n0_ := Aside0.mk (blk_below (g := gx) (o := .cells #[.int .i64 a1_0, .int .i64 a1_1] 31 (0, 0)) (bkm BKx.out) hb); have n1_ := Aside0.mk (below_step (hbm HB.out) hb); clear BKx HB hb; have BKx := n0_; have HB := n1_; clear n0_ n1_; rw [← HFI.out, HOKD.out]))
      go_ret2
      exact ⟨rfl, hbm HB.out⟩
    | succ j =>
      rw [if_neg (Nat.succ_ne_zero j), Nat.add_sub_cancel] at hv
      have hj : j < l0.length := hfl
      have hq0 : (0 : Int) ≤ (j : Int) := by omega
      have hq1 : (j : Int) < (l0.length : Int) := by omega
      have hq2 : decide ((j : Int) < 0) = false := decide_eq_false (by omega)
      have hq4 : ¬ ((j : Int) < 0) := by omega
      have hl2 := HL.out
      have hw0 : IntKind.i64.wrap (j : Int) = (j : Int) := by rw [IntKind.wrap_i64]; omega
      clear hfl hl2
      have et1 : (toS (elS l0 j) a1_0 a1_1 a2).1 = r1 := by rw [hv]
      have et2 : (toS (elS l0 j) a1_0 a1_1 a2).2 = r2 := by rw [hv]
      subst et1
      subst et2
      clear hv
      go_enter Try.func13, Try.ntmps13
      go_wp2_with (first | ((with_reducible refine gate_dst (N := 4) rfl ?_); refine box_event ?hg (N := 4) ?hd (cs := #[.int .i64 a1_0, .int .i64 a1_1]) (t := 31) ?hr ?_; (case hd => rfl); (case hg => rfl); (case hr => first | (go_simp; done) | (go_simp; rfl)); intro gx hg w4 hbox hb; have n0_ := Aside0.mk (below_step (hbm HB.out) hb); have n1_ := Aside0.mk hbox; clear HB; have HB := n0_; have BKx := n1_; clear n0_ n1_ hb hbox hg) | (go_at_call 16; refine (span_Canon.calls A0 c0 l0 a2 _ _ (Kd.C_below HR0.out (hbm HB.out)) HC0.out CAN0.out).mono ?_; rintro e W5 ⟨rfl, hb⟩; have n0_ := Aside0.mk (blk_below (g := gx) (o := .cells #[.int .i64 a1_0, .int .i64 a1_1] 31 (0, 0)) (bkm BKx.out) hb); have n1_ := Aside0.mk (below_step (hbm HB.out) hb); clear BKx HB hb; have BKx := n0_; have HB := n1_; clear n0_ n1_; have hcc0 : W5.cell? ⟨gx, 0, none⟩ = some (.int .i64 a1_0) := (blk_cell BKx.out 0).trans rfl; have hcc1 : W5.cell? ⟨gx, 1, none⟩ = some (.int .i64 a1_1) := (blk_cell BKx.out 1).trans rfl) | (go_at_call 29; refine (slices_BSF_Span.calls A0 c0 l0 (⟨a1_0, a1_1, 0, 0⟩ : S23) _ (Kd.C_below HR0.out (hbm HB.out)) HC0.out HL.out).mono ?_; rintro e W6 ⟨rfl, hb⟩; have n0_ := Aside0.mk (blk_below (g := gx) (o := .cells #[.int .i64 a1_0, .int .i64 a1_1] 31 (0, 0)) (bkm BKx.out) hb); have n1_ := Aside0.mk (below_step (hbm HB.out) hb); clear BKx HB hb; have BKx := n0_; have HB := n1_; clear n0_ n1_; rw [← HFI.out, HOKD.out]))
      obtain ⟨ad, ead, _⟩ := at_T23 (Kd.C_below HR0.out HB.out) ((j : Nat) : Int) (by omega) (by omega)
      subst ead
      go_region_held3 (fun W => (W.heap[gx]? = some (.cells #[.int .i64 a1_0, .int .i64 a1_1] 31 (0, 0))) ∧ (Below w.heap.size w W) ∧ W.cell? ⟨gx, 0, none⟩ = some (.int .i64 a1_0) ∧ W.cell? ⟨gx, 1, none⟩ = some (.int .i64 a1_1) ∧ W.cell? (ad.add (j * 4)) = some (.int .i64 (elS l0 j).f0) ∧ W.cell? ⟨(ad.add (j * 4)).block, (ad.add (j * 4)).off + 1, none⟩ = some (.int .i64 (elS l0 j).f1) ∧ W.cell? ⟨(ad.add (j * 4)).block, (ad.add (j * 4)).off + 2, none⟩ = some (.int .i64 (elS l0 j).f2) ∧ W.cell? ⟨(ad.add (j * 4)).block, (ad.add (j * 4)).off + 3, none⟩ = some (.int .i64 (elS l0 j).f3)) (exact ⟨(bkm BKx.out), hbm HB.out, (blk_cell (bkm BKx.out) 0).trans rfl, (blk_cell (bkm BKx.out) 1).trans rfl, (atc_T23 (Kd.C_below HR0.out (hbm HB.out)) j hj).1, (atc_T23 (Kd.C_below HR0.out (hbm HB.out)) j hj).2.1, (atc_T23 (Kd.C_below HR0.out (hbm HB.out)) j hj).2.2.1, (atc_T23 (Kd.C_below HR0.out (hbm HB.out)) j hj).2.2.2⟩) (first | (go_at_call 12; (with_reducible refine (to_any (elS l0 j) a1_0 a1_1 a2 _).mono ?_); rintro e w7 ⟨rfl, hb⟩; have n0_ := Aside0.mk (blk_below (g := gx) (o := .cells #[.int .i64 a1_0, .int .i64 a1_1] 31 (0, 0)) (bkm BKx.out) hb); have n1_ := Aside0.mk (below_step (hbm HB.out) hb); clear BKx HB hb; have BKx := n0_; have HB := n1_; clear n0_ n1_))
      all_goals go_wp2
      go_ret2
      exact ⟨rfl, hbm HB.out⟩


end Go.Proofs.Ytehknkgplldiiaa.PIs
