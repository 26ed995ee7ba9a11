-- made by xprint.py of this session
import Derived.Test.YtehknkgplldiiaaPIsx0
import Derived.Test.YtehknkgplldiiaaPIsx11
import Derived.Test.YtehknkgplldiiaaPIsx12
import Derived.Test.YtehknkgplldiiaaPIsx13
namespace Go.Proofs.Ytehknkgplldiiaa.PIs
open Go.RowKit Go.Proofs.YtehknkgplldiiaaW.PrintWords Go.Proofs.YtehknkgplldiiaaW.PrintLast Go.Proofs.YtehknkgplldiiaaW.PrintMore
attribute [local go_sem] max2_int min2_int max_two min_two max_three min_three max_four min_four   -- for this text's walks alone
set_option linter.unusedVariables false
set_option linter.unusedSimpArgs false

/-! ### hornbooklaw07_awake: function 9 -/
def hornbooklaw07_awake.f (k : Nat)  : Option (Bool) := (span_Build.f k (([(⟨1, 10, 20, 5⟩ : S23), (⟨1, 15, 15, 99⟩ : S23)] : List (S23))) true).bind fun t151 => ((span_Find.f t151 1 16 true).bind fun bt154 => (if (t151.length : Int) = 3 then (if bt154.2 = true then (if bt154.1 = 11 then ((span_Canon.f t151 true).bind fun t156 => (some t156)) else (none)) else (none)) else (none)))
theorem hornbooklaw07_awake.mono : ∀ k, LeO (hornbooklaw07_awake.f k ) (hornbooklaw07_awake.f (k + 1) ) := by
  intro  k
  unfold hornbooklaw07_awake.f
  repeat' first
      | (with_reducible exact span_Build.mono _ _ _)
      | (with_reducible exact LeO.refl _)
      | (with_reducible exact LeO.none _)
      | (with_reducible refine LeO.ite ?_ ?_)
      | (with_reducible refine LeO.bind ?_ (fun _ => ?_))
      | exact span_Build.mono _ _ _
      | exact LeO.none _
      | refine LeO.ite ?_ ?_
      | refine LeO.bind ?_ (fun _ => ?_)
set_option maxHeartbeats 8000000 in
set_option maxRecDepth 100000 in
theorem hornbooklaw07_awake.calls (k : Nat)  (r : Bool) (w : World) (h : hornbooklaw07_awake.f k  = some r) :
    Calls Try.prog 9 #[] w fun e w' => e = .returned (.bool r) ∧ Below w.heap.size w w' := by
  have hu23 := Try.underlying23
  have hu31 := Try.underlying31
  have HB := Aside0.mk (Below.refl w.heap.size w)
  have H : ((span_Build.f k (([(⟨1, 10, 20, 5⟩ : S23), (⟨1, 15, 15, 99⟩ : S23)] : List (S23))) true).bind fun t151 => ((span_Find.f t151 1 16 true).bind fun bt154 => (if (t151.length : Int) = 3 then (if bt154.2 = true then (if bt154.1 = 11 then ((span_Canon.f t151 true).bind fun t156 => (some t156)) else (none)) else (none)) else (none)))) = some r := h
  clear h
  obtain ⟨y148, hy148⟩ : ∃ y_ : List (S23), y_ = (([(⟨1, 10, 20, 5⟩ : S23), (⟨1, 15, 15, 99⟩ : S23)] : List (S23))) := ⟨_, rfl⟩
  replace H : ((span_Build.f k y148 true).bind fun t151 => ((span_Find.f t151 1 16 true).bind fun bt154 => (if (t151.length : Int) = 3 then (if bt154.2 = true then (if bt154.1 = 11 then ((span_Canon.f t151 true).bind fun t156 => (some t156)) else (none)) else (none)) else (none)))) = some r := by first | (rw [hy148]; with_reducible exact H) | (have H2_ := (Option.bind_some _ _).symm.trans H; rw [hy148]; with_reducible exact H2_) | (have H2_ := (Option.bind_some _ _).symm.trans H; with_reducible exact H2_) | with_reducible exact H | (rw [hy148]; exact H) | exact H
  have Ny148 := Aside0.mk hy148
  clear hy148
  replace H := Option.bind_eq_some_iff.mp H
  obtain ⟨t151, A10, H⟩ := H
  replace H : ((span_Find.f t151 1 16 true).bind fun bt154 => (if (t151.length : Int) = 3 then (if bt154.2 = true then (if bt154.1 = 11 then ((span_Canon.f t151 true).bind fun t156 => (some t156)) else (none)) else (none)) else (none))) = some r := H
  have A1 := Aside0.mk A10
  clear A10
  replace H := Option.bind_eq_some_iff.mp H
  obtain ⟨⟨t154, t155⟩, A20, H⟩ := H
  replace H : (if (t151.length : Int) = 3 then (if t155 = true then (if t154 = 11 then ((span_Canon.f t151 true).bind fun t156 => (some t156)) else (none)) else (none)) else (none)) = some r := H
  have A2 := Aside0.mk A20
  clear A20
  by_cases c3 : (t151.length : Int) = 3
  · rw [if_pos c3] at H
    have c3b0 : ((t151.length : Int) == 3) = true := beq_iff_eq.mpr c3
    have c3b1 : ((t151.length : Int) != 3) = false := bne_eq_false_iff_eq.mpr c3
    clear c3
    by_cases c4 : t155 = true
    · subst c4
      have H1 : (if t154 = 11 then ((span_Canon.f t151 true).bind fun t156 => (some t156)) else (none)) = some r := by rw [if_pos rfl] at H; exact H
      clear H
      have H := H1
      clear H1
      by_cases c5 : t154 = 11
      · rw [if_pos c5] at H
        first
        | (exfalso; simp at H; done)
        | have c5b0 : (t154 == 11) = true := beq_iff_eq.mpr c5
          have c5b1 : (t154 != 11) = false := bne_eq_false_iff_eq.mpr c5
          clear c5
          replace H := Option.bind_eq_some_iff.mp H
          obtain ⟨t156, A60, H⟩ := H
          replace H : (some t156) = some r := H
          have A6 := Aside0.mk A60
          clear A60
          obtain rfl := Option.some.inj H
          go_enter Try.func9, Try.ntmps9
          go_wp2_with (first | ((with_reducible refine gate_dst (N := 6) rfl ?_); refine Kd.R_lit k23 _ 23 ?hg (N := 6) ?hd (xs := ([(⟨1, 10, 20, 5⟩ : S23), (⟨1, 15, 15, 99⟩ : S23)] : List (S23))) (inner := [.int .i64 1, .int .i64 10, .int .i64 20, .int .i64 5, .int .i64 1, .int .i64 15, .int .i64 15, .int .i64 99]) (ok := fun _ => True) (okp := fun _ => True) ?hr ?hp (fun _ hk => hk) trivial (Below.refl _ _) (Nat.le_refl _) (by simp) ?_; (case hd => rfl); (case hg => rfl); (case hr => first | (go_simp; done) | (go_simp; rfl)); (case hp => exact (Reps.c4 (show Kd.M k23 _ _ _ (⟨1, 10, 20, 5⟩ : S23) [.int .i64 1, .int .i64 10, .int .i64 20, .int .i64 5] from (k23_mkM _ _ _ (⟨1, 10, 20, 5⟩ : S23) )) (Reps.c4 (show Kd.M k23 _ _ _ (⟨1, 15, 15, 99⟩ : S23) [.int .i64 1, .int .i64 15, .int .i64 15, .int .i64 99] from (k23_mkM _ _ _ (⟨1, 15, 15, 99⟩ : S23) )) (Reps.none _ _)))); intro v149 w7 ho8 hb hg_ hnew_; clear hg_ hnew_; (first | rw [← Ny148.out] at ho8 | (simp only [Int.reduceToNat] at ho8; rw [← Ny148.out] at ho8)); have n0_ := Aside0.mk (Kd.R_lower ho8 (below_size (hbm HB.out))); have n1_ := Aside0.mk (below_step (hbm HB.out) hb); clear HB; have HO150 := n0_; have HB := n1_; clear n0_ n1_; clear hb ho8; obtain ⟨Ao9, co9, eo9⟩ := Kd.R_slice HO150.out; subst eo9) | ((with_reducible refine gate_callee (f := 11) rfl ?_); refine goesL_ (some 7) rfl rfl Try.func11 (by kernel_rfl) rfl #[.slice Ao9 y148.length co9, .bool true] rfl (by (try simp only [List.map_toArray, List.map_cons, List.map_nil]); first | done | rfl | (simp only [List.length_drop, List.length_take]; rfl)) ?_; (with_reducible refine (span_Build.calls k _ _ y148 true t151 _ ?side1 ?side2 A1.out).mono ?_); (case side1 => repeat (first | exact (Kd.R_reads' HO150.out).2.2 | (with_reducible refine Kd.C_alloc ?_ _) | (with_reducible refine Kd.C_drewN ?_ _) | (with_reducible refine Kd.C_drew ?_))); (case side2 => exact (Kd.R_reads' HO150.out).2.1); rintro e w10 ⟨v152, rfl, ho0, hb⟩; refine ⟨_, rfl, ?_⟩; have n0_ := Aside0.mk (Kd.R_elder' (rdm HO150.out) (Kd.R_base ho0) hb); have n1_ := Aside0.mk (Kd.R_lower (Kd.R_new' ho0 (Kd.R_lt (rdm HO150.out))) (below_size (hbm HB.out))); have n2_ := Aside0.mk (below_step (hbm HB.out) hb); clear HO150; clear HB; have HO150 := n0_; have HO153 := n1_; have HB := n2_; clear n0_ n1_ n2_; (try clear hb); (try clear hb2); (try clear hk); (try clear hi); (try clear ho0); obtain ⟨Ao11, co11, eo11⟩ := Kd.R_slice HO153.out; subst eo11) | ((with_reducible refine gate_callee (f := 13) rfl ?_); refine goesL_ (some 11) rfl rfl Try.func13 (by kernel_rfl) rfl #[.slice Ao11 t151.length co11, .agg #[.int .i64 1, .int .i64 16], .bool true] rfl (by (try simp only [List.map_toArray, List.map_cons, List.map_nil]); first | done | rfl | (simp only [List.length_drop, List.length_take]; rfl)) ?_; (with_reducible refine (span_Find.calls _ _ t151 1 16 true t154 true _ ?side1 ?side2 A2.out).mono ?_); (case side1 => repeat (first | exact (Kd.R_reads' HO153.out).2.2 | (with_reducible refine Kd.C_alloc ?_ _) | (with_reducible refine Kd.C_drewN ?_ _) | (with_reducible refine Kd.C_drew ?_))); (case side2 => exact (Kd.R_reads' HO153.out).2.1); rintro e w12 ⟨rfl, hb⟩; refine ⟨_, rfl, ?_⟩; have n0_ := Aside0.mk (Kd.R_below (rdm HO150.out) hb); have n1_ := Aside0.mk (Kd.R_below (rdm HO153.out) hb); have n2_ := Aside0.mk (below_step (hbm HB.out) hb); clear HO150; clear HO153; clear HB; have HO150 := n0_; have HO153 := n1_; have HB := n2_; clear n0_ n1_ n2_; (try clear hb); (try clear hb2); (try clear hk); (try clear hi)) | (go_at_call 16; (with_reducible refine (span_Canon.calls _ _ t151 true t156 _ ?side1 ?side2 A6.out).mono ?_); (case side1 => repeat (first | exact (Kd.R_reads' HO153.out).2.2 | (with_reducible refine Kd.C_alloc ?_ _) | (with_reducible refine Kd.C_drewN ?_ _) | (with_reducible refine Kd.C_drew ?_))); (case side2 => exact (Kd.R_reads' HO153.out).2.1); rintro e w13 ⟨rfl, hb⟩; have n0_ := Aside0.mk (Kd.R_below (rdm HO150.out) hb); have n1_ := Aside0.mk (Kd.R_below (rdm HO153.out) hb); have n2_ := Aside0.mk (below_step (hbm HB.out) hb); clear HO150; clear HO153; clear HB; have HO150 := n0_; have HO153 := n1_; have HB := n2_; clear n0_ n1_ n2_; (try clear hb); (try clear hb2); (try clear hk); (try clear hi)))
          go_ret
          exact ⟨by first | rfl | (simp [errW_none, errW_some] <;> rfl) | (simp [*, errW_none, errW_some] <;> rfl), hbm HB.out⟩
      · rw [if_neg c5] at H
        exact absurd H (by simp)
    · rw [if_neg c4] at H
      exact absurd H (by simp)
  · rw [if_neg c3] at H
    exact absurd H (by simp)
end Go.Proofs.Ytehknkgplldiiaa.PIs
