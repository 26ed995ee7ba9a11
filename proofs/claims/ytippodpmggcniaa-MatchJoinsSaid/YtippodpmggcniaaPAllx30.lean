-- made by xprint.py of this session
import Derived.Test.YtippodpmggcniaaPAllx0
import Derived.Test.YtippodpmggcniaaPAllx3
import Derived.Test.YtippodpmggcniaaPAllx13
import Derived.Test.YtippodpmggcniaaPAllx25
import Derived.Test.YtippodpmggcniaaPAllx26
namespace Go.Proofs.Ytippodpmggcniaa.PAll
open Go.RowKit Go.Proofs.YtippodpmggcniaaW.PrintWords Go.Proofs.YtippodpmggcniaaW.PrintLast Go.Proofs.YtippodpmggcniaaW.PrintMore
attribute [local go_sem] max2_int min2_int max_two min_two max_three min_three max_four min_four   -- for this text's walks alone
set_option linter.unusedVariables false
set_option linter.unusedSimpArgs false

attribute [local go_sem high] eqA49
/-! ### hornbooklaw11_MatchJoins: function 7 -/
mutual
def hornbooklaw11_MatchJoins.j0 : Nat → List (S35) → List Int → Int → Bool → Bool → Option (Bool)
  | 0, _, _, _, _, _ => none
  | k + 1, x0, x1, x2, x7, x23 => if x23 = true then (some x7) else ((match_All.f k x0 x1).bind fun t396 => (hornbooklaw11_MatchJoins.l0 k x0 x1 x2 x7 t396 0 0))
def hornbooklaw11_MatchJoins.l0 : Nat → List (S35) → List Int → Int → Bool → List (S30) → Int → Int → Option (Bool)
  | 0, _, _, _, _, _, _, _ => none
  | k + 1, x0, x1, x2, x7, x8, x9, x10 => if x10 < (x8.length : Int) then (if 0 ≤ x10 then (if ((rd_T30 x8 x10).f0) = x9 then (if ((rd_T30 x8 x10).f1) < 1 then (some false) else (if ((rd_T30 x8 x10).f1) > 4 then (some false) else (hornbooklaw11_MatchJoins.l0 k x0 x1 x2 x7 x8 (wrap64 (x9 + ((rd_T30 x8 x10).f1))) (wrap64 (x10 + 1))))) else (some false)) else (none)) else (if x9 = (x1.length : Int) then ((match_Join.f k x8 x1).bind fun t403 => (if (strOfNums t403).toList = (strOfNums x1).toList then (hornbooklaw11_MatchJoins.j2 k x0 x1 x2 x7 x8 ((x8.length : Int) == 0)) else (hornbooklaw11_MatchJoins.j2 k x0 x1 x2 x7 x8 true))) else (hornbooklaw11_MatchJoins.j2 k x0 x1 x2 x7 x8 true))
def hornbooklaw11_MatchJoins.j2 : Nat → List (S35) → List Int → Int → Bool → List (S30) → Bool → Option (Bool)
  | 0, _, _, _, _, _, _ => none
  | k + 1, x0, x1, x2, x7, x8, x81 => if x81 = true then (if x7 = true then (if (x1.length : Int) = 0 then (some ((x8.length : Int) == 0)) else (some false)) else (some false)) else (if (x8.length : Int) = 0 then (none) else (if 0 ≤ (Int.tmod (Go.bits .and .i64 x2 65535) (x8.length : Int)) then (if (Int.tmod (Go.bits .and .i64 x2 65535) (x8.length : Int)) < (x8.length : Int) then (if 0 ≤ ((rd_T30 x8 (Int.tmod (Go.bits .and .i64 x2 65535) (x8.length : Int))).f0) then (if ((rd_T30 x8 (Int.tmod (Go.bits .and .i64 x2 65535) (x8.length : Int))).f0) ≤ (x1.length : Int) then ((match_All.f k x0 (x1.drop (((rd_T30 x8 (Int.tmod (Go.bits .and .i64 x2 65535) (x8.length : Int))).f0) : Int).toNat)).bind fun t408 => ((hornbooklaw11_cut.f k t408).bind fun t411 => (if (t411.length : Int) = (wrap64 ((x8.length : Int) - (Int.tmod (Go.bits .and .i64 x2 65535) (x8.length : Int)))) then (hornbooklaw11_MatchJoins.l1 k x7 x8 (Int.tmod (Go.bits .and .i64 x2 65535) (x8.length : Int)) t411 0) else (some false)))) else (none)) else (none)) else (none)) else (none)))
def hornbooklaw11_MatchJoins.l1 : Nat → Bool → List (S30) → Int → List (S49) → Int → Option (Bool)
  | 0, _, _, _, _, _ => none
  | k + 1, x7, x8, x11, x12, x13 => if x13 < (x12.length : Int) then (if 0 ≤ (wrap64 (x11 + x13)) then (if (wrap64 (x11 + x13)) ≤ (wrap64 ((wrap64 (x11 + x13)) + 1)) then (if (wrap64 ((wrap64 (x11 + x13)) + 1)) ≤ (x8.length : Int) then ((hornbooklaw11_cut.f k ((x8.take ((wrap64 ((wrap64 (x11 + x13)) + 1)) : Int).toNat).drop ((wrap64 (x11 + x13)) : Int).toNat)).bind fun t418 => (if 0 < (t418.length : Int) then (if 0 ≤ x11 then (if x11 < (x8.length : Int) then (if 0 ≤ x13 then (if (!((wrap64 (((rd_T49 t418 0).f0) - ((rd_T30 x8 x11).f0))) == ((rd_T49 x12 x13).f0)) || (!(((rd_T49 t418 0).f1) == ((rd_T49 x12 x13).f1)) || (!(((rd_T49 t418 0).f2) == ((rd_T49 x12 x13).f2)) || ((!(((rd_T49 t418 0).f3.f0) == ((rd_T49 x12 x13).f3.f0)) || (!(((rd_T49 t418 0).f3.f1) == ((rd_T49 x12 x13).f3.f1)))))))) = true then (some false) else (hornbooklaw11_MatchJoins.l1 k x7 x8 x11 x12 (wrap64 (x13 + 1)))) else (none)) else (none)) else (none)) else (none))) else (none)) else (none)) else (none)) else (some x7)
end
def hornbooklaw11_MatchJoins.f (k : Nat) (l0 : List (S35)) (l1 : List Int) (a2 : Int) : Option (Bool) := (hornbooklaw11_awake.f k).bind fun t395 => (if (l0.length : Int) > 60 then (hornbooklaw11_MatchJoins.j0 k l0 l1 a2 t395 true) else (hornbooklaw11_MatchJoins.j0 k l0 l1 a2 t395 (decide ((l1.length : Int) > 300))))
theorem hornbooklaw11_MatchJoins.mono_l : ∀ k, (∀ y0 y1 y2 y3 y4, LeO (hornbooklaw11_MatchJoins.j0 k y0 y1 y2 y3 y4) (hornbooklaw11_MatchJoins.j0 (k + 1) y0 y1 y2 y3 y4)) ∧ (∀ y0 y1 y2 y3 y4 y5 y6, LeO (hornbooklaw11_MatchJoins.l0 k y0 y1 y2 y3 y4 y5 y6) (hornbooklaw11_MatchJoins.l0 (k + 1) y0 y1 y2 y3 y4 y5 y6)) ∧ (∀ y0 y1 y2 y3 y4 y5, LeO (hornbooklaw11_MatchJoins.j2 k y0 y1 y2 y3 y4 y5) (hornbooklaw11_MatchJoins.j2 (k + 1) y0 y1 y2 y3 y4 y5)) ∧ (∀ y0 y1 y2 y3 y4, LeO (hornbooklaw11_MatchJoins.l1 k y0 y1 y2 y3 y4) (hornbooklaw11_MatchJoins.l1 (k + 1) y0 y1 y2 y3 y4))
  | 0 => ⟨fun _ _ _ _ _ r h => by simp [hornbooklaw11_MatchJoins.j0] at h, fun _ _ _ _ _ _ _ r h => by simp [hornbooklaw11_MatchJoins.l0] at h, fun _ _ _ _ _ _ r h => by simp [hornbooklaw11_MatchJoins.j2] at h, fun _ _ _ _ _ r h => by simp [hornbooklaw11_MatchJoins.l1] at h⟩
  | k + 1 => by
    obtain ⟨ih0, ih1, ih2, ih3⟩ := hornbooklaw11_MatchJoins.mono_l k
    refine ⟨?_, ?_, ?_, ?_⟩
    · intro y0 y1 y2 y3 y4
      unfold hornbooklaw11_MatchJoins.j0
      repeat' first
      | (with_reducible exact ih0 _ _ _ _ _)
      | (with_reducible exact ih1 _ _ _ _ _ _ _)
      | (with_reducible exact ih2 _ _ _ _ _ _)
      | (with_reducible exact ih3 _ _ _ _ _)
      | (with_reducible exact hornbooklaw11_awake.mono _)
      | (with_reducible exact hornbooklaw11_cut.mono _ _)
      | (with_reducible exact match_All.mono _ _ _)
      | (with_reducible exact match_Join.mono _ _ _)
      | (with_reducible exact LeO.refl _)
      | (with_reducible exact LeO.none _)
      | (with_reducible refine LeO.ite ?_ ?_)
      | (with_reducible refine LeO.bind ?_ (fun _ => ?_))
      | exact ih0 _ _ _ _ _
      | exact ih1 _ _ _ _ _ _ _
      | exact ih2 _ _ _ _ _ _
      | exact ih3 _ _ _ _ _
      | exact hornbooklaw11_awake.mono _
      | exact hornbooklaw11_cut.mono _ _
      | exact match_All.mono _ _ _
      | exact match_Join.mono _ _ _
      | exact LeO.none _
      | refine LeO.ite ?_ ?_
      | refine LeO.bind ?_ (fun _ => ?_)
    · intro y0 y1 y2 y3 y4 y5 y6
      unfold hornbooklaw11_MatchJoins.l0
      repeat' first
      | (with_reducible exact ih0 _ _ _ _ _)
      | (with_reducible exact ih1 _ _ _ _ _ _ _)
      | (with_reducible exact ih2 _ _ _ _ _ _)
      | (with_reducible exact ih3 _ _ _ _ _)
      | (with_reducible exact hornbooklaw11_awake.mono _)
      | (with_reducible exact hornbooklaw11_cut.mono _ _)
      | (with_reducible exact match_All.mono _ _ _)
      | (with_reducible exact match_Join.mono _ _ _)
      | (with_reducible exact LeO.refl _)
      | (with_reducible exact LeO.none _)
      | (with_reducible refine LeO.ite ?_ ?_)
      | (with_reducible refine LeO.bind ?_ (fun _ => ?_))
      | exact ih0 _ _ _ _ _
      | exact ih1 _ _ _ _ _ _ _
      | exact ih2 _ _ _ _ _ _
      | exact ih3 _ _ _ _ _
      | exact hornbooklaw11_awake.mono _
      | exact hornbooklaw11_cut.mono _ _
      | exact match_All.mono _ _ _
      | exact match_Join.mono _ _ _
      | exact LeO.none _
      | refine LeO.ite ?_ ?_
      | refine LeO.bind ?_ (fun _ => ?_)
    · intro y0 y1 y2 y3 y4 y5
      unfold hornbooklaw11_MatchJoins.j2
      repeat' first
      | (with_reducible exact ih0 _ _ _ _ _)
      | (with_reducible exact ih1 _ _ _ _ _ _ _)
      | (with_reducible exact ih2 _ _ _ _ _ _)
      | (with_reducible exact ih3 _ _ _ _ _)
      | (with_reducible exact hornbooklaw11_awake.mono _)
      | (with_reducible exact hornbooklaw11_cut.mono _ _)
      | (with_reducible exact match_All.mono _ _ _)
      | (with_reducible exact match_Join.mono _ _ _)
      | (with_reducible exact LeO.refl _)
      | (with_reducible exact LeO.none _)
      | (with_reducible refine LeO.ite ?_ ?_)
      | (with_reducible refine LeO.bind ?_ (fun _ => ?_))
      | exact ih0 _ _ _ _ _
      | exact ih1 _ _ _ _ _ _ _
      | exact ih2 _ _ _ _ _ _
      | exact ih3 _ _ _ _ _
      | exact hornbooklaw11_awake.mono _
      | exact hornbooklaw11_cut.mono _ _
      | exact match_All.mono _ _ _
      | exact match_Join.mono _ _ _
      | exact LeO.none _
      | refine LeO.ite ?_ ?_
      | refine LeO.bind ?_ (fun _ => ?_)
    · intro y0 y1 y2 y3 y4
      unfold hornbooklaw11_MatchJoins.l1
      repeat' first
      | (with_reducible exact ih0 _ _ _ _ _)
      | (with_reducible exact ih1 _ _ _ _ _ _ _)
      | (with_reducible exact ih2 _ _ _ _ _ _)
      | (with_reducible exact ih3 _ _ _ _ _)
      | (with_reducible exact hornbooklaw11_awake.mono _)
      | (with_reducible exact hornbooklaw11_cut.mono _ _)
      | (with_reducible exact match_All.mono _ _ _)
      | (with_reducible exact match_Join.mono _ _ _)
      | (with_reducible exact LeO.refl _)
      | (with_reducible exact LeO.none _)
      | (with_reducible refine LeO.ite ?_ ?_)
      | (with_reducible refine LeO.bind ?_ (fun _ => ?_))
      | exact ih0 _ _ _ _ _
      | exact ih1 _ _ _ _ _ _ _
      | exact ih2 _ _ _ _ _ _
      | exact ih3 _ _ _ _ _
      | exact hornbooklaw11_awake.mono _
      | exact hornbooklaw11_cut.mono _ _
      | exact match_All.mono _ _ _
      | exact match_Join.mono _ _ _
      | exact LeO.none _
      | refine LeO.ite ?_ ?_
      | refine LeO.bind ?_ (fun _ => ?_)
theorem hornbooklaw11_MatchJoins.mono : ∀ a0 a1 a2 k, LeO (hornbooklaw11_MatchJoins.f k a0 a1 a2) (hornbooklaw11_MatchJoins.f (k + 1) a0 a1 a2) := by
  intro a0 a1 a2 k
  obtain ⟨ih0, ih1, ih2, ih3⟩ := hornbooklaw11_MatchJoins.mono_l k
  unfold hornbooklaw11_MatchJoins.f
  repeat' first
      | (with_reducible exact ih0 _ _ _ _ _)
      | (with_reducible exact ih1 _ _ _ _ _ _ _)
      | (with_reducible exact ih2 _ _ _ _ _ _)
      | (with_reducible exact ih3 _ _ _ _ _)
      | (with_reducible exact hornbooklaw11_awake.mono _)
      | (with_reducible exact hornbooklaw11_cut.mono _ _)
      | (with_reducible exact match_All.mono _ _ _)
      | (with_reducible exact match_Join.mono _ _ _)
      | (with_reducible exact LeO.refl _)
      | (with_reducible exact LeO.none _)
      | (with_reducible refine LeO.ite ?_ ?_)
      | (with_reducible refine LeO.bind ?_ (fun _ => ?_))
      | exact ih0 _ _ _ _ _
      | exact ih1 _ _ _ _ _ _ _
      | exact ih2 _ _ _ _ _ _
      | exact ih3 _ _ _ _ _
      | exact hornbooklaw11_awake.mono _
      | exact hornbooklaw11_cut.mono _ _
      | exact match_All.mono _ _ _
      | exact match_Join.mono _ _ _
      | exact LeO.none _
      | refine LeO.ite ?_ ?_
      | refine LeO.bind ?_ (fun _ => ?_)
def hornbooklaw11_MatchJoins.T12 : Bool × List (List Nat × List Nat) := (true, [([], []), ([], []), ([1], [1]), ([0, 2], [0, 2]), ([3], [3]), ([4], [4]), ([4], [4]), ([5, 6, 4, 4], [4, 5, 6]), ([7, 4], [4, 7]), ([4], [4]), ([9, 4], [4, 9]), ([8, 10, 4], [4, 8, 10]), ([4, 11], [4, 11]), ([12, 7], [12]), ([13], [13]), ([14, 13], [13, 14]), ([15, 13], [13, 15]), ([13, 16], [13, 16])])
def hornbooklaw11_MatchJoins.B12 : List Nat := [0, 0, 2, 7, 15, 31, 31, 127, 255, 31, 543, 2047, 4095, 8191, 16383, 32767, 65535, 131071]
theorem hornbooklaw11_MatchJoins.tab12 : rtab .any (opsOf Try.f7 12) = hornbooklaw11_MatchJoins.T12 := by kernel_rfl
theorem hornbooklaw11_MatchJoins.bits12 : waitsOk hornbooklaw11_MatchJoins.T12.2 hornbooklaw11_MatchJoins.B12 = true := by kernel_rfl
def hornbooklaw11_MatchJoins.T22 : Bool × List (List Nat × List Nat) := (true, [([], []), ([0], [0]), ([], []), ([], []), ([2, 3], [2, 3]), ([4], [4]), ([5], [5]), ([1, 6], [1, 6]), ([0, 1, 2, 3, 4, 5, 6, 7], []), ([8, 7, 0, 1, 2, 3, 4, 5, 6, 7], [7, 8])])
def hornbooklaw11_MatchJoins.B22 : List Nat := [0, 1, 0, 0, 12, 28, 60, 127, 255, 511]
theorem hornbooklaw11_MatchJoins.tab22 : rtab .any (opsOf Try.f7 22) = hornbooklaw11_MatchJoins.T22 := by kernel_rfl
theorem hornbooklaw11_MatchJoins.bits22 : waitsOk hornbooklaw11_MatchJoins.T22.2 hornbooklaw11_MatchJoins.B22 = true := by kernel_rfl
set_option maxHeartbeats 8000000 in
set_option maxRecDepth 100000 in
theorem hornbooklaw11_MatchJoins.calls (k : Nat) (A0 : Option Addr) (c0 : Nat) (l0 : List (S35)) (A1 : Option Addr) (c1 : Nat) (l1 : List Int) (a2 : Int) (r : Bool) (w : World) (hr0 : Kd.C k35 w A0 l0.length l0) (hc0 : l0.length ≤ c0) (hr1 : Kd.C (Kd.int .u8) w A1 l1.length l1) (hc1 : l1.length ≤ c1) (h : hornbooklaw11_MatchJoins.f k l0 l1 a2 = some r) :
    Calls Try.prog 7 #[.slice A0 l0.length c0, .slice A1 l1.length c1, .int .i64 a2] w fun e w' => e = .returned (.bool r) ∧ Below w.heap.size w w' := by
  have hu49 := Try.underlying49
  have HR0 := Aside0.mk hr0
  have HC0 := Aside0.mk hc0
  clear hr0 hc0
  have HR1 := Aside0.mk hr1
  have HC1 := Aside0.mk hc1
  clear hr1 hc1
  have HB := Aside0.mk (Below.refl w.heap.size w)
  have H : ((hornbooklaw11_awake.f k).bind fun t395 => (if (l0.length : Int) > 60 then (hornbooklaw11_MatchJoins.j0 k l0 l1 a2 t395 true) else (hornbooklaw11_MatchJoins.j0 k l0 l1 a2 t395 (decide ((l1.length : Int) > 300))))) = some r := h
  clear h
  replace H := Option.bind_eq_some_iff.mp H
  obtain ⟨t395, A40, H⟩ := H
  replace H : (if (l0.length : Int) > 60 then (hornbooklaw11_MatchJoins.j0 k l0 l1 a2 t395 true) else (hornbooklaw11_MatchJoins.j0 k l0 l1 a2 t395 (decide ((l1.length : Int) > 300)))) = some r := H
  have A4 := Aside0.mk A40
  clear A40
  have HC5 := Aside0.mk H
  clear H
  go_enter Try.func7, Try.ntmps7
  go_upto_region 2 with (first | ((with_reducible refine gate_callee (f := 9) rfl ?_); refine goesL_ (some 15) rfl rfl Try.func9 (by kernel_rfl) rfl #[] rfl (by (try simp only [List.map_toArray, List.map_cons, List.map_nil]); first | done | rfl | (simp only [List.length_drop, List.length_take]; rfl)) ?_; (with_reducible refine (hornbooklaw11_awake.calls k  t395 _ A4.out).mono ?_); rintro e w6 ⟨rfl, hb⟩; refine ⟨_, rfl, ?_⟩; have n0_ := Aside0.mk (below_step (by repeat (first | (with_reducible first | exact HB.out | apply below_alloc | apply pw_below_drewN | apply below_drew1) | exact HB.out)) hb); clear HB; have HB := n0_; clear n0_; (try clear hb); (try clear hb2); (try clear hk); (try clear hi)))
  (try simp only [Act.put, List.setIfInBounds_toArray, List.set_cons_zero, List.set_cons_succ])
  go_cut [23] (fun v23 wc => ∃ (kq : Nat) (x23_4 : Bool), v23 = .bool x23_4 ∧ Aside0 (hornbooklaw11_MatchJoins.j0 kq l0 l1 a2 t395 x23_4 = some r) ∧ Aside0 (kq ≤ k) ∧ Aside0 (Below w.heap.size w wc))
  case first =>
    have H := HC5.out
    clear HC5
    by_cases c7 : (l0.length : Int) > 60
    · rw [if_pos c7] at H
      have c7b0 : decide (60 < (l0.length : Int)) = true := decide_eq_true c7
      have c7b1 : decide (60 < l0.length) = true := decide_eq_true (by omega)
      clear c7
      (first | rw [c7b0] | (simp only [i64_w, i32_w]; rw [c7b0]) | skip)
      have H' := Aside0.mk H
      clear H
      go_wp2
      go_meet
      case rel => exact ⟨_, (true), (by first | rfl | (simp; done) | (simp [*]; done)), H', ⟨by first | omega | exact Nat.le_refl _⟩, ⟨by repeat (first | (with_reducible first | exact HB.out | apply below_alloc | apply pw_below_drewN | apply below_drew1) | exact HB.out)⟩⟩
    · rw [if_neg c7] at H
      have c7b0 : decide (60 < (l0.length : Int)) = false := decide_eq_false c7
      have c7b1 : decide (60 < l0.length) = false := decide_eq_false (by omega)
      clear c7
      (first | rw [c7b0] | (simp only [i64_w, i32_w]; rw [c7b0]) | skip)
      have H' := Aside0.mk H
      clear H
      go_wp2
      go_meet
      case rel => exact ⟨_, (decide ((l1.length : Int) > 300)), (by first | rfl | (simp; done) | (simp [*]; done)), H', ⟨by first | omega | exact Nat.le_refl _⟩, ⟨by repeat (first | (with_reducible first | exact HB.out | apply below_alloc | apply pw_below_drewN | apply below_drew1) | exact HB.out)⟩⟩
  case rest =>
    clear HC5
    try clear c1
    try clear p2
    try clear c7
    try clear c7b0
    try clear c7b1
    obtain ⟨kq, x23_4, rfl, HA, HJ4, HB⟩ := hcut
    cases kq with
    | zero => exact absurd HA.out (by simp [hornbooklaw11_MatchJoins.j0])
    | succ kj4 =>
      have H := HA.out
      clear HA
      simp only [hornbooklaw11_MatchJoins.j0] at H
      by_cases c8 : x23_4 = true
      · subst c8
        have H1 : (some t395) = some r := by rw [if_pos rfl] at H; exact H
        clear H
        have H := H1
        clear H1
        obtain rfl := Option.some.inj H
        go_wp2
        go_ret
        exact ⟨by first | rfl | (simp [errW_none, errW_some] <;> rfl) | (simp [*, errW_none, errW_some] <;> rfl), by repeat (first | (with_reducible first | exact HB.out | apply below_alloc | apply pw_below_drewN | apply below_drew1) | exact HB.out)⟩
      · replace c8 := Bool.eq_false_iff.mpr c8
        subst c8
        have H1 : ((match_All.f kj4 l0 l1).bind fun t396 => (hornbooklaw11_MatchJoins.l0 kj4 l0 l1 a2 t395 t396 0 0)) = some r := by rw [if_neg (show ¬ (false = true) by decide)] at H; exact H
        clear H
        have H := H1
        clear H1
        replace H := Option.bind_eq_some_iff.mp H
        obtain ⟨t396, A90, H⟩ := H
        replace H : (hornbooklaw11_MatchJoins.l0 kj4 l0 l1 a2 t395 t396 0 0) = some r := H
        have A9 := Aside0.mk A90
        clear A90
        have H' := Aside0.mk H
        clear H
        go_wp2_with (first | ((with_reducible refine gate_callee (f := 10) rfl ?_); refine goesL_ (some 27) rfl rfl Try.func10 (by kernel_rfl) rfl #[.slice A0 l0.length c0, .slice A1 l1.length c1] rfl (by (try simp only [List.map_toArray, List.map_cons, List.map_nil]); first | done | rfl | (simp only [List.length_drop, List.length_take]; rfl)) ?_; (with_reducible refine (match_All.calls kj4 _ _ l0 _ _ l1 t396 _ ?side1 ?side2 ?side3 ?side4 A9.out).mono ?_); (case side1 => repeat (first | exact (Kd.C_below HR0.out HB.out) | (with_reducible refine Kd.C_alloc ?_ _) | (with_reducible refine Kd.C_drewN ?_ _) | (with_reducible refine Kd.C_drew ?_))); (case side2 => exact HC0.out); (case side3 => repeat (first | exact (Kd.C_below HR1.out HB.out) | (with_reducible refine Kd.C_alloc ?_ _) | (with_reducible refine Kd.C_drewN ?_ _) | (with_reducible refine Kd.C_drew ?_))); (case side4 => exact HC1.out); rintro e w10 ⟨v397, rfl, ho0, hb⟩; refine ⟨_, rfl, ?_⟩; have n0_ := Aside0.mk (Kd.R_lower ho0 (below_size (by repeat (first | (with_reducible first | exact HB.out | apply below_alloc | apply pw_below_drewN | apply below_drew1) | exact HB.out)))); have n1_ := Aside0.mk (below_step (by repeat (first | (with_reducible first | exact HB.out | apply below_alloc | apply pw_below_drewN | apply below_drew1) | exact HB.out)) hb); clear HB; have HO398 := n0_; have HB := n1_; clear n0_ n1_; (try clear hb); (try clear hb2); (try clear hk); (try clear hi); (try clear ho0)))
        go_loopg [9, 10] kj4 (fun kq v9 v10 w' => ∃ (x9_2 : Int) (x10_2 : Int), v9 = .int .i64 x9_2 ∧ v10 = .int .i64 x10_2 ∧ Aside0 (hornbooklaw11_MatchJoins.l0 kq l0 l1 a2 t395 t396 x9_2 x10_2 = some r) ∧ Aside0 (kq ≤ kj4) ∧ Aside0 (Kd.R k30 30 w' w.heap.size (fun _ => True) v397 t396) ∧ Aside0 (Below w.heap.size w w'))
        case atStart => exact ⟨(0), (0), (by first | rfl | (simp; done) | (simp [*]; done)), (by first | rfl | (simp; done) | (simp [*]; done)), H', ⟨Nat.le_refl _⟩, ⟨by (with_reducible repeat (first | apply Kd.R_alloc | apply Kd.R_drewN | apply Kd.R_drew)); exact HO398.out⟩, ⟨by repeat (first | (with_reducible first | exact HB.out | apply below_alloc | apply pw_below_drewN | apply below_drew1) | exact HB.out)⟩⟩
        case round =>
          clear H'
          try clear c1
          try clear p2
          try clear c7
          try clear c7b0
          try clear c7b1
          try clear c8
          try clear c9
          try clear c10
          try clear p2
          obtain ⟨x9_2, x10_2, rfl, rfl, HA, HK2, HO_8, HB⟩ := hrel
          cases gk with
          | zero => exact absurd HA.out (by simp [hornbooklaw11_MatchJoins.l0])
          | succ k2 =>
            have H := HA.out
            clear HA
            simp only [hornbooklaw11_MatchJoins.l0] at H
            by_cases c11 : x10_2 < (t396.length : Int)
            · rw [if_pos c11] at H
              have c11b0 : decide (x10_2 < (t396.length : Int)) = true := decide_eq_true c11
              clear c11
              by_cases c12 : 0 ≤ x10_2
              · rw [if_pos c12] at H
                have c12b0 : decide (0 ≤ x10_2) = true := decide_eq_true c12
                clear c12
                by_cases c13 : ((rd_T30 t396 x10_2).f0) = x9_2
                · rw [if_pos c13] at H
                  have c13b0 : (((rd_T30 t396 x10_2).f0) == x9_2) = true := beq_iff_eq.mpr c13
                  have c13b1 : (((rd_T30 t396 x10_2).f0) != x9_2) = false := bne_eq_false_iff_eq.mpr c13
                  clear c13
                  by_cases c14 : ((rd_T30 t396 x10_2).f1) < 1
                  · rw [if_pos c14] at H
                    have c14b0 : decide (((rd_T30 t396 x10_2).f1) < 1) = true := decide_eq_true c14
                    clear c14
                    obtain rfl := Option.some.inj H
                    obtain ⟨Ao15, co15, eo15⟩ := Kd.R_slice HO_8.out
                    subst eo15
                    have p399 : 0 ≤ (x10_2 : Int) := of_decide_eq_true (by first | (with_reducible assumption) | assumption)
                    have q399 : x10_2 < (t396.length : Int) := of_decide_eq_true (by first | (with_reducible assumption) | assumption)
                    obtain ⟨ad399, e399, hx399_0, hx399_1, hx399_2, hx399_3, hx399_4⟩ := at_T30 (Kd.R_reads' HO_8.out).2.2 x10_2 p399 q399
                    cases e399
                    replace p399 := eq_true p399
                    replace q399 := eq_true q399
                    have p400 : 0 ≤ (x10_2 : Int) := of_decide_eq_true (by first | (with_reducible assumption) | assumption)
                    have q400 : x10_2 < (t396.length : Int) := of_decide_eq_true (by first | (with_reducible assumption) | assumption)
                    obtain ⟨ad400, e400, hx400_0, hx400_1, hx400_2, hx400_3, hx400_4⟩ := at_T30 (Kd.R_reads' HO_8.out).2.2 x10_2 p400 q400
                    obtain rfl : ad399 = ad400 := (by injection e400)
                    replace p400 := eq_true p400
                    replace q400 := eq_true q400
                    go_wp2
                    go_ret
                    exact ⟨by first | rfl | (simp [errW_none, errW_some] <;> rfl) | (simp [*, errW_none, errW_some] <;> rfl), by repeat (first | (with_reducible first | exact HB.out | apply below_alloc | apply pw_below_drewN | apply below_drew1) | exact HB.out)⟩
                  · rw [if_neg c14] at H
                    have c14b0 : decide (((rd_T30 t396 x10_2).f1) < 1) = false := decide_eq_false c14
                    clear c14
                    by_cases c16 : ((rd_T30 t396 x10_2).f1) > 4
                    · rw [if_pos c16] at H
                      have c16b0 : decide (4 < ((rd_T30 t396 x10_2).f1)) = true := decide_eq_true c16
                      clear c16
                      obtain rfl := Option.some.inj H
                      obtain ⟨Ao17, co17, eo17⟩ := Kd.R_slice HO_8.out
                      subst eo17
                      have p399 : 0 ≤ (x10_2 : Int) := of_decide_eq_true (by first | (with_reducible assumption) | assumption)
                      have q399 : x10_2 < (t396.length : Int) := of_decide_eq_true (by first | (with_reducible assumption) | assumption)
                      obtain ⟨ad399, e399, hx399_0, hx399_1, hx399_2, hx399_3, hx399_4⟩ := at_T30 (Kd.R_reads' HO_8.out).2.2 x10_2 p399 q399
                      cases e399
                      replace p399 := eq_true p399
                      replace q399 := eq_true q399
                      have p400 : 0 ≤ (x10_2 : Int) := of_decide_eq_true (by first | (with_reducible assumption) | assumption)
                      have q400 : x10_2 < (t396.length : Int) := of_decide_eq_true (by first | (with_reducible assumption) | assumption)
                      obtain ⟨ad400, e400, hx400_0, hx400_1, hx400_2, hx400_3, hx400_4⟩ := at_T30 (Kd.R_reads' HO_8.out).2.2 x10_2 p400 q400
                      obtain rfl : ad399 = ad400 := (by injection e400)
                      replace p400 := eq_true p400
                      replace q400 := eq_true q400
                      have p401 : 0 ≤ (x10_2 : Int) := of_decide_eq_true (by first | (with_reducible assumption) | assumption)
                      have q401 : x10_2 < (t396.length : Int) := of_decide_eq_true (by first | (with_reducible assumption) | assumption)
                      obtain ⟨ad401, e401, hx401_0, hx401_1, hx401_2, hx401_3, hx401_4⟩ := at_T30 (Kd.R_reads' HO_8.out).2.2 x10_2 p401 q401
                      obtain rfl : ad399 = ad401 := (by injection e401)
                      replace p401 := eq_true p401
                      replace q401 := eq_true q401
                      go_wp2
                      go_ret
                      exact ⟨by first | rfl | (simp [errW_none, errW_some] <;> rfl) | (simp [*, errW_none, errW_some] <;> rfl), by repeat (first | (with_reducible first | exact HB.out | apply below_alloc | apply pw_below_drewN | apply below_drew1) | exact HB.out)⟩
                    · rw [if_neg c16] at H
                      have c16b0 : decide (4 < ((rd_T30 t396 x10_2).f1)) = false := decide_eq_false c16
                      clear c16
                      have H' := Aside0.mk H
                      clear H
                      obtain ⟨Ao18, co18, eo18⟩ := Kd.R_slice HO_8.out
                      subst eo18
                      have p399 : 0 ≤ (x10_2 : Int) := of_decide_eq_true (by first | (with_reducible assumption) | assumption)
                      have q399 : x10_2 < (t396.length : Int) := of_decide_eq_true (by first | (with_reducible assumption) | assumption)
                      obtain ⟨ad399, e399, hx399_0, hx399_1, hx399_2, hx399_3, hx399_4⟩ := at_T30 (Kd.R_reads' HO_8.out).2.2 x10_2 p399 q399
                      cases e399
                      replace p399 := eq_true p399
                      replace q399 := eq_true q399
                      have p400 : 0 ≤ (x10_2 : Int) := of_decide_eq_true (by first | (with_reducible assumption) | assumption)
                      have q400 : x10_2 < (t396.length : Int) := of_decide_eq_true (by first | (with_reducible assumption) | assumption)
                      obtain ⟨ad400, e400, hx400_0, hx400_1, hx400_2, hx400_3, hx400_4⟩ := at_T30 (Kd.R_reads' HO_8.out).2.2 x10_2 p400 q400
                      obtain rfl : ad399 = ad400 := (by injection e400)
                      replace p400 := eq_true p400
                      replace q400 := eq_true q400
                      have p401 : 0 ≤ (x10_2 : Int) := of_decide_eq_true (by first | (with_reducible assumption) | assumption)
                      have q401 : x10_2 < (t396.length : Int) := of_decide_eq_true (by first | (with_reducible assumption) | assumption)
                      obtain ⟨ad401, e401, hx401_0, hx401_1, hx401_2, hx401_3, hx401_4⟩ := at_T30 (Kd.R_reads' HO_8.out).2.2 x10_2 p401 q401
                      obtain rfl : ad399 = ad401 := (by injection e401)
                      replace p401 := eq_true p401
                      replace q401 := eq_true q401
                      have p402 : 0 ≤ (x10_2 : Int) := of_decide_eq_true (by first | (with_reducible assumption) | assumption)
                      have q402 : x10_2 < (t396.length : Int) := of_decide_eq_true (by first | (with_reducible assumption) | assumption)
                      obtain ⟨ad402, e402, hx402_0, hx402_1, hx402_2, hx402_3, hx402_4⟩ := at_T30 (Kd.R_reads' HO_8.out).2.2 x10_2 p402 q402
                      obtain rfl : ad399 = ad402 := (by injection e402)
                      replace p402 := eq_true p402
                      replace q402 := eq_true q402
                      go_wp2
                      go_roundg k2
                      case measure => have := HJ4.out; have := HK2.out; omega
                      case rel => exact ⟨(wrap64 (x9_2 + ((rd_T30 t396 x10_2).f1))), (wrap64 (x10_2 + 1)), (by first | rfl | (simp; done) | (simp [*]; done)), (by first | rfl | (simp; done) | (simp [*]; done)), H', ⟨by have := HJ4.out; have := HK2.out; omega⟩, ⟨by (with_reducible repeat (first | apply Kd.R_alloc | apply Kd.R_drewN | apply Kd.R_drew)); exact HO_8.out⟩, ⟨by repeat (first | (with_reducible first | exact HB.out | apply below_alloc | apply pw_below_drewN | apply below_drew1) | exact HB.out)⟩⟩
                · rw [if_neg c13] at H
                  have c13b0 : (((rd_T30 t396 x10_2).f0) == x9_2) = false := beq_eq_false_iff_ne.mpr c13
                  have c13b1 : (((rd_T30 t396 x10_2).f0) != x9_2) = true := bne_iff_ne.mpr c13
                  obtain rfl := Option.some.inj H
                  obtain ⟨Ao19, co19, eo19⟩ := Kd.R_slice HO_8.out
                  subst eo19
                  have p399 : 0 ≤ (x10_2 : Int) := of_decide_eq_true (by first | (with_reducible assumption) | assumption)
                  have q399 : x10_2 < (t396.length : Int) := of_decide_eq_true (by first | (with_reducible assumption) | assumption)
                  obtain ⟨ad399, e399, hx399_0, hx399_1, hx399_2, hx399_3, hx399_4⟩ := at_T30 (Kd.R_reads' HO_8.out).2.2 x10_2 p399 q399
                  cases e399
                  replace p399 := eq_true p399
                  replace q399 := eq_true q399
                  go_wp2
                  go_ret
                  exact ⟨by first | rfl | (simp [errW_none, errW_some] <;> rfl) | (simp [*, errW_none, errW_some] <;> rfl), by repeat (first | (with_reducible first | exact HB.out | apply below_alloc | apply pw_below_drewN | apply below_drew1) | exact HB.out)⟩
              · rw [if_neg c12] at H
                exact absurd H (by simp)
            · rw [if_neg c11] at H
              have c11b0 : decide (x10_2 < (t396.length : Int)) = false := decide_eq_false c11
              clear c11
              have HC20 := Aside0.mk H
              clear H
              obtain ⟨Ao21, co21, eo21⟩ := Kd.R_slice HO_8.out
              subst eo21
              go_upto_region 12 with (fail)
              go_cut [81] (fun v81 wc => ∃ (kq : Nat) (x81_19 : Bool), v81 = .bool x81_19 ∧ Aside0 (hornbooklaw11_MatchJoins.j2 kq l0 l1 a2 t395 t396 x81_19 = some r) ∧ Aside0 (kq ≤ k2) ∧ Aside0 (Kd.R k30 30 wc w.heap.size (fun _ => True) (.slice Ao21 t396.length co21) t396) ∧ Aside0 (Below w.heap.size w wc))
              case first =>
                have H := HC20.out
                clear HC20
                by_cases c22 : x9_2 = (l1.length : Int)
                · rw [if_pos c22] at H
                  have c22b0 : (x9_2 == (l1.length : Int)) = true := beq_iff_eq.mpr c22
                  have c22b1 : (x9_2 != (l1.length : Int)) = false := bne_eq_false_iff_eq.mpr c22
                  clear c22
                  (first | rw [c22b0] | (simp only [i64_w, i32_w]; rw [c22b0]) | skip)
                  replace H := Option.bind_eq_some_iff.mp H
                  obtain ⟨t403, A230, H⟩ := H
                  replace H : (if (strOfNums t403).toList = (strOfNums l1).toList then (hornbooklaw11_MatchJoins.j2 k2 l0 l1 a2 t395 t396 ((t396.length : Int) == 0)) else (hornbooklaw11_MatchJoins.j2 k2 l0 l1 a2 t395 t396 true)) = some r := H
                  have A23 := Aside0.mk A230
                  clear A230
                  by_cases c24 : (strOfNums t403).toList = (strOfNums l1).toList
                  · rw [if_pos c24] at H
                    have c24b0 : ((strOfNums t403).toList == (strOfNums l1).toList) = true := beq_iff_eq.mpr c24
                    have c24b1 : ((strOfNums t403).toList != (strOfNums l1).toList) = false := bne_eq_false_iff_eq.mpr c24
                    clear c24
                    have H' := Aside0.mk H
                    clear H
                    try go_wp2
                    have n0_ := Aside0.mk (Kd.R_drew HO_8.out)
                    have n1_ := Aside0.mk (below_drew1 HB.out)
                    clear HO_8
                    clear HB
                    have HO_8 := n0_
                    have HB := n1_
                    clear n0_ n1_
                    refine start_ (n := 18) (S := fun w' => True) (ds := []) #[false, false, false, false, false, false, false, false, false, false, false, false, false, false, false, false, false, false] (by kernel_rfl) rfl rfl trivial (fun hHeld => ?_); refine with_tabW hornbooklaw11_MatchJoins.tab12 hornbooklaw11_MatchJoins.bits12 (fun HT_ HW_ => ?_)
                    generalize wr.drew = w25 at HO_8 HB hHeld ⊢
                    refine pure_ (i := 0) (N := some 64) (v := ?_) (a' := ?_) #[true, false, false, false, false, false, false, false, false, false, false, false, false, false, false, false, false, false] rfl rfl (any_of HT_.out (by kernel_rfl)) (fun _ _ _ h => h) (Or.inl ⟨by rfl, ?_⟩) ?_ ?_
                    rotate_left
                    · intro w'
                      go_simp
                      with_reducible rfl
                    rotate_left
                    · simp only [Act.put, List.setIfInBounds_toArray, List.set_cons_zero, List.set_cons_succ, i64_w, i32_w]
                      rfl
                    refine pure_ (i := 1) (N := some 65) (v := ?_) (a' := ?_) #[true, true, false, false, false, false, false, false, false, false, false, false, false, false, false, false, false, false] rfl rfl (any_of HT_.out (by kernel_rfl)) (fun _ _ _ h => h) (Or.inl ⟨by rfl, ?_⟩) ?_ ?_
                    rotate_left
                    · intro w'
                      go_simp
                      with_reducible rfl
                    rotate_left
                    · simp only [Act.put, List.setIfInBounds_toArray, List.set_cons_zero, List.set_cons_succ, i64_w, i32_w]
                      rfl
                    refine pure_ (i := 2) (N := some 66) (v := ?_) (a' := ?_) #[true, true, true, false, false, false, false, false, false, false, false, false, false, false, false, false, false, false] rfl rfl (any_of HT_.out (by kernel_rfl)) (fun _ _ _ h => h) (Or.inl ⟨by rfl, ?_⟩) ?_ ?_
                    rotate_left
                    · intro w'
                      go_simp
                      with_reducible rfl
                    rotate_left
                    · simp only [Act.put, List.setIfInBounds_toArray, List.set_cons_zero, List.set_cons_succ, i64_w, i32_w]
                      rfl
                    refine pure_ (i := 3) (N := some 67) (v := ?_) (a' := ?_) #[true, true, true, true, false, false, false, false, false, false, false, false, false, false, false, false, false, false] rfl rfl (any_of HT_.out (by kernel_rfl)) (fun _ _ _ h => h) (Or.inl ⟨by rfl, ?_⟩) ?_ ?_
                    rotate_left
                    · intro w'
                      go_simp
                      with_reducible rfl
                    rotate_left
                    · simp only [Act.put, List.setIfInBounds_toArray, List.set_cons_zero, List.set_cons_succ, i64_w, i32_w]
                      rfl
                    refine pure_ (i := 4) (N := some 68) (v := ?_) (a' := ?_) #[true, true, true, true, true, false, false, false, false, false, false, false, false, false, false, false, false, false] rfl rfl (any_of HT_.out (by kernel_rfl)) (fun _ _ _ h => h) (Or.inl ⟨by rfl, ?_⟩) ?_ ?_
                    rotate_left
                    · intro w'
                      go_simp
                      with_reducible rfl
                    rotate_left
                    · simp only [Act.put, List.setIfInBounds_toArray, List.set_cons_zero, List.set_cons_succ, i64_w, i32_w]
                      rfl
                    refine pure_ (i := 5) (N := some 69) (v := ?_) (a' := ?_) #[true, true, true, true, true, true, false, false, false, false, false, false, false, false, false, false, false, false] rfl rfl (any_of HT_.out (by kernel_rfl)) (fun _ _ _ h => h) (Or.inl ⟨by rfl, ?_⟩) ?_ ?_
                    rotate_left
                    · intro w'
                      go_simp
                      with_reducible rfl
                    rotate_left
                    · simp only [Act.put, List.setIfInBounds_toArray, List.set_cons_zero, List.set_cons_succ, i64_w, i32_w]
                      rfl
                    refine pure_ (i := 6) (N := some 70) (v := ?_) (a' := ?_) #[true, true, true, true, true, true, true, false, false, false, false, false, false, false, false, false, false, false] rfl rfl (any_of HT_.out (by kernel_rfl)) (fun _ _ _ h => h) (Or.inl ⟨by rfl, ?_⟩) ?_ ?_
                    rotate_left
                    · intro w'
                      go_simp
                      with_reducible rfl
                    rotate_left
                    · simp only [Act.put, List.setIfInBounds_toArray, List.set_cons_zero, List.set_cons_succ, i64_w, i32_w]
                      rfl
                    refine pure_ (i := 9) (N := some 73) (v := ?_) (a' := ?_) #[true, true, true, true, true, true, true, false, false, true, false, false, false, false, false, false, false, false] rfl rfl (any_of HT_.out (by kernel_rfl)) (fun _ _ _ h => h) (Or.inl ⟨by rfl, ?_⟩) ?_ ?_
                    rotate_left
                    · intro w'
                      go_simp
                      with_reducible rfl
                    rotate_left
                    · simp only [Act.put, List.setIfInBounds_toArray, List.set_cons_zero, List.set_cons_succ, i64_w, i32_w]
                      rfl
                    refine join_ (σ := Value) 7 #[true, true, true, true, true, true, true, true, true, true, true, false, false, false, false, false, false, false] (fun s_ => [(71, s_), (72, .string (strOfNums t403)), (74, .string (strOfNums l1))]) (fun s_ w' => (Kd.R (Kd.int .u8) 5 w' w.heap.size (fun _ => True) s_ t403) ∧ (Kd.R k30 30 w' w.heap.size (fun _ => True) (.slice Ao21 t396.length co21) t396) ∧ (Below w.heap.size w w')) ?_ ?_
                    rotate_left
                    · intro hCont
                      refine two_ (i := 7) (j := 10) (Ni := some 71) (Nj := some 74) #[true, true, true, true, true, true, true, true, false, true, false, false, false, false, false, false, false, false] #[true, true, true, true, true, true, true, false, false, true, true, false, false, false, false, false, false, false] rfl rfl rfl rfl (two_of HT_.out (by kernel_rfl)) (by decide) (by decide) (fun K hK => ?_) (fun K hK => ?_)
                      · skip
                        refine goes_ Try.func18 (by kernel_rfl) rfl #[.slice Ao21 t396.length co21, .slice A1 l1.length c1] (by rfl) rfl rfl (by (try simp only [List.map_toArray, List.map_cons, List.map_nil]); first | done | rfl | (simp only [List.length_drop, List.length_take]; rfl)) ?_
                        with_reducible refine (match_Join.calls k2 _ _ t396 _ _ l1 t403 _ ?side1 ?side2 ?side3 ?side4 A23.out).mono ?_
                        (case side1 => repeat (first | exact (Kd.R_reads' HO_8.out).2.2 | (with_reducible refine Kd.C_alloc ?_ _) | (with_reducible refine Kd.C_drewN ?_ _) | (with_reducible refine Kd.C_drew ?_)))
                        (case side2 => exact (Kd.R_reads' HO_8.out).2.1)
                        (case side3 => repeat (first | exact (Kd.C_below HR1.out HB.out) | (with_reducible refine Kd.C_alloc ?_ _) | (with_reducible refine Kd.C_drewN ?_ _) | (with_reducible refine Kd.C_drew ?_)))
                        (case side4 => exact HC1.out)
                        rintro e w26 ⟨v404, rfl, ho0, hb⟩
                        refine ⟨_, rfl, ?_⟩
                        have n0_ := Aside0.mk (Kd.R_below (by (with_reducible repeat (first | apply Kd.R_alloc | apply Kd.R_drewN | apply Kd.R_drew)); exact HO_8.out) hb)
                        have n1_ := Aside0.mk (Kd.R_lower ho0 (below_size (by repeat (first | (with_reducible first | exact HB.out | apply below_alloc | apply pw_below_drewN | apply below_drew1) | exact HB.out))))
                        have n2_ := Aside0.mk (below_step (by repeat (first | (with_reducible first | exact HB.out | apply below_alloc | apply pw_below_drewN | apply below_drew1) | exact HB.out)) hb)
                        clear HO_8
                        clear HB
                        have HO_8 := n0_
                        have HO405 := n1_
                        have HB := n2_
                        clear n0_ n1_ n2_
                        (try clear hb)
                        (try clear hb2)
                        (try clear hk)
                        (try clear hi)
                        (try clear ho0)
                        refine hK.out _ _ trivial (fun hHeld => ?_)
                        clear hK K
                        refine norm_ (a' := ?_) ?_ ?_
                        rotate_left
                        · show Act.put _ (some 71) _ = _
                          simp only [Act.put, List.setIfInBounds_toArray, List.set_cons_zero, List.set_cons_succ, i64_w, i32_w]
                          rfl
                        refine two_ (i := 8) (j := 10) (Ni := some 72) (Nj := some 74) #[true, true, true, true, true, true, true, true, true, true, false, false, false, false, false, false, false, false] #[true, true, true, true, true, true, true, true, false, true, true, false, false, false, false, false, false, false] rfl rfl rfl rfl (two_of HT_.out (by kernel_rfl)) (by decide) (by decide) (fun K hK => ?_) (fun K hK => ?_)
                        · skip
                          have hcv27 := own_string (P := Try.prog) Try.underlying23 Try.underlying5 Try.underlying9 (Kd.own_of_R HO405.out)
                          refine value_ (w1 := ?_) (v := ?_) (by rfl) rfl ?_ ?_
                          rotate_left 2
                          · go_simp
                            constructor
                            · rfl
                            · rfl
                          clear hcv27
                          refine hK.out _ _ trivial (fun hHeld => ?_)
                          clear hK K
                          refine norm_ (a' := ?_) ?_ ?_
                          rotate_left
                          · show Act.put _ (some 72) _ = _
                            simp only [Act.put, List.setIfInBounds_toArray, List.set_cons_zero, List.set_cons_succ, i64_w, i32_w]
                            rfl
                          refine one_ (i := 10) (N := some 74) #[true, true, true, true, true, true, true, true, true, true, true, false, false, false, false, false, false, false] rfl rfl (one_of HT_.out (by kernel_rfl)) (by decide) (fun K hK => ?_)
                          have hcv28 := Kd.C_string (P := Try.prog) (A := A1) (c := c1) Try.underlying23 Try.underlying5 Try.underlying9 (Kd.C_below HR1.out HB.out)
                          refine value_ (w1 := ?_) (v := ?_) (by rfl) rfl ?_ ?_
                          rotate_left 2
                          · go_simp
                            constructor
                            · rfl
                            · rfl
                          clear hcv28
                          refine hK.out _ _ trivial (fun hHeld => ?_)
                          clear hK K
                          refine norm_ (a' := ?_) ?_ ?_
                          rotate_left
                          · show Act.put _ (some 74) _ = _
                            simp only [Act.put, List.setIfInBounds_toArray, List.set_cons_zero, List.set_cons_succ, i64_w, i32_w]
                            rfl
                          exact norm_ (by simp only [putAll, Act.put, List.setIfInBounds_toArray, List.set_cons_zero, List.set_cons_succ]) (hCont (v404) _ ⟨(by (with_reducible repeat (first | apply Kd.R_alloc | apply Kd.R_drewN | apply Kd.R_drew)); exact HO405.out), (by (with_reducible repeat (first | apply Kd.R_alloc | apply Kd.R_drewN | apply Kd.R_drew)); exact HO_8.out), (by repeat (first | (with_reducible first | exact HB.out | apply below_alloc | apply pw_below_drewN | apply below_drew1) | exact HB.out))⟩)
                        · skip
                          have hcv27 := Kd.C_string (P := Try.prog) (A := A1) (c := c1) Try.underlying23 Try.underlying5 Try.underlying9 (Kd.C_below HR1.out HB.out)
                          refine value_ (w1 := ?_) (v := ?_) (by rfl) rfl ?_ ?_
                          rotate_left 2
                          · go_simp
                            constructor
                            · rfl
                            · rfl
                          clear hcv27
                          refine hK.out _ _ trivial (fun hHeld => ?_)
                          clear hK K
                          refine norm_ (a' := ?_) ?_ ?_
                          rotate_left
                          · show Act.put _ (some 74) _ = _
                            simp only [Act.put, List.setIfInBounds_toArray, List.set_cons_zero, List.set_cons_succ, i64_w, i32_w]
                            rfl
                          refine one_ (i := 8) (N := some 72) #[true, true, true, true, true, true, true, true, true, true, true, false, false, false, false, false, false, false] rfl rfl (one_of HT_.out (by kernel_rfl)) (by decide) (fun K hK => ?_)
                          have hcv28 := own_string (P := Try.prog) Try.underlying23 Try.underlying5 Try.underlying9 (Kd.own_of_R HO405.out)
                          refine value_ (w1 := ?_) (v := ?_) (by rfl) rfl ?_ ?_
                          rotate_left 2
                          · go_simp
                            constructor
                            · rfl
                            · rfl
                          clear hcv28
                          refine hK.out _ _ trivial (fun hHeld => ?_)
                          clear hK K
                          refine norm_ (a' := ?_) ?_ ?_
                          rotate_left
                          · show Act.put _ (some 72) _ = _
                            simp only [Act.put, List.setIfInBounds_toArray, List.set_cons_zero, List.set_cons_succ, i64_w, i32_w]
                            rfl
                          exact norm_ (by simp only [putAll, Act.put, List.setIfInBounds_toArray, List.set_cons_zero, List.set_cons_succ]) (hCont (v404) _ ⟨(by (with_reducible repeat (first | apply Kd.R_alloc | apply Kd.R_drewN | apply Kd.R_drew)); exact HO405.out), (by (with_reducible repeat (first | apply Kd.R_alloc | apply Kd.R_drewN | apply Kd.R_drew)); exact HO_8.out), (by repeat (first | (with_reducible first | exact HB.out | apply below_alloc | apply pw_below_drewN | apply below_drew1) | exact HB.out))⟩)
                      · skip
                        have hcv26 := Kd.C_string (P := Try.prog) (A := A1) (c := c1) Try.underlying23 Try.underlying5 Try.underlying9 (Kd.C_below HR1.out HB.out)
                        refine value_ (w1 := ?_) (v := ?_) (by rfl) rfl ?_ ?_
                        rotate_left 2
                        · go_simp
                          constructor
                          · rfl
                          · rfl
                        clear hcv26
                        refine hK.out _ _ trivial (fun hHeld => ?_)
                        clear hK K
                        refine norm_ (a' := ?_) ?_ ?_
                        rotate_left
                        · show Act.put _ (some 74) _ = _
                          simp only [Act.put, List.setIfInBounds_toArray, List.set_cons_zero, List.set_cons_succ, i64_w, i32_w]
                          rfl
                        refine one_ (i := 7) (N := some 71) #[true, true, true, true, true, true, true, true, false, true, true, false, false, false, false, false, false, false] rfl rfl (one_of HT_.out (by kernel_rfl)) (by decide) (fun K hK => ?_)
                        refine goes_ Try.func18 (by kernel_rfl) rfl #[.slice Ao21 t396.length co21, .slice A1 l1.length c1] (by rfl) rfl rfl (by (try simp only [List.map_toArray, List.map_cons, List.map_nil]); first | done | rfl | (simp only [List.length_drop, List.length_take]; rfl)) ?_
                        with_reducible refine (match_Join.calls k2 _ _ t396 _ _ l1 t403 _ ?side1 ?side2 ?side3 ?side4 A23.out).mono ?_
                        (case side1 => repeat (first | exact (Kd.R_reads' HO_8.out).2.2 | (with_reducible refine Kd.C_alloc ?_ _) | (with_reducible refine Kd.C_drewN ?_ _) | (with_reducible refine Kd.C_drew ?_)))
                        (case side2 => exact (Kd.R_reads' HO_8.out).2.1)
                        (case side3 => repeat (first | exact (Kd.C_below HR1.out HB.out) | (with_reducible refine Kd.C_alloc ?_ _) | (with_reducible refine Kd.C_drewN ?_ _) | (with_reducible refine Kd.C_drew ?_)))
                        (case side4 => exact HC1.out)
                        rintro e w27 ⟨v404, rfl, ho0, hb⟩
                        refine ⟨_, rfl, ?_⟩
                        have n0_ := Aside0.mk (Kd.R_below (by (with_reducible repeat (first | apply Kd.R_alloc | apply Kd.R_drewN | apply Kd.R_drew)); exact HO_8.out) hb)
                        have n1_ := Aside0.mk (Kd.R_lower ho0 (below_size (by repeat (first | (with_reducible first | exact HB.out | apply below_alloc | apply pw_below_drewN | apply below_drew1) | exact HB.out))))
                        have n2_ := Aside0.mk (below_step (by repeat (first | (with_reducible first | exact HB.out | apply below_alloc | apply pw_below_drewN | apply below_drew1) | exact HB.out)) hb)
                        clear HO_8
                        clear HB
                        have HO_8 := n0_
                        have HO405 := n1_
                        have HB := n2_
                        clear n0_ n1_ n2_
                        (try clear hb)
                        (try clear hb2)
                        (try clear hk)
                        (try clear hi)
                        (try clear ho0)
                        refine hK.out _ _ trivial (fun hHeld => ?_)
                        clear hK K
                        refine norm_ (a' := ?_) ?_ ?_
                        rotate_left
                        · show Act.put _ (some 71) _ = _
                          simp only [Act.put, List.setIfInBounds_toArray, List.set_cons_zero, List.set_cons_succ, i64_w, i32_w]
                          rfl
                        refine one_ (i := 8) (N := some 72) #[true, true, true, true, true, true, true, true, true, true, true, false, false, false, false, false, false, false] rfl rfl (one_of HT_.out (by kernel_rfl)) (by decide) (fun K hK => ?_)
                        have hcv28 := own_string (P := Try.prog) Try.underlying23 Try.underlying5 Try.underlying9 (Kd.own_of_R HO405.out)
                        refine value_ (w1 := ?_) (v := ?_) (by rfl) rfl ?_ ?_
                        rotate_left 2
                        · go_simp
                          constructor
                          · rfl
                          · rfl
                        clear hcv28
                        refine hK.out _ _ trivial (fun hHeld => ?_)
                        clear hK K
                        refine norm_ (a' := ?_) ?_ ?_
                        rotate_left
                        · show Act.put _ (some 72) _ = _
                          simp only [Act.put, List.setIfInBounds_toArray, List.set_cons_zero, List.set_cons_succ, i64_w, i32_w]
                          rfl
                        exact norm_ (by simp only [putAll, Act.put, List.setIfInBounds_toArray, List.set_cons_zero, List.set_cons_succ]) (hCont (v404) _ ⟨(by (with_reducible repeat (first | apply Kd.R_alloc | apply Kd.R_drewN | apply Kd.R_drew)); exact HO405.out), (by (with_reducible repeat (first | apply Kd.R_alloc | apply Kd.R_drewN | apply Kd.R_drew)); exact HO_8.out), (by repeat (first | (with_reducible first | exact HB.out | apply below_alloc | apply pw_below_drewN | apply below_drew1) | exact HB.out))⟩)
                    rintro v404 w29 ⟨h0_, h1_, h2_⟩
                    have n0_ : Aside0 (Kd.R (Kd.int .u8) 5 w29 w.heap.size (fun _ => True) v404 t403) := ⟨h0_⟩
                    have n1_ : Aside0 (Kd.R k30 30 w29 w.heap.size (fun _ => True) (.slice Ao21 t396.length co21) t396) := ⟨h1_⟩
                    have n2_ : Aside0 (Below w.heap.size w w29) := ⟨h2_⟩
                    clear HO_8
                    clear HB
                    clear h0_ h1_ h2_
                    have HO405 := n0_
                    have HO_8 := n1_
                    have HB := n2_
                    clear n0_ n1_ n2_
                    have hHeld := trivial
                    refine norm_ (a' := ?_) ?_ ?_
                    rotate_left
                    · simp only [putAll, Act.put, List.setIfInBounds_toArray, List.set_cons_zero, List.set_cons_succ]
                      rfl
                    refine pure_ (i := 11) (N := some 75) (v := ?_) (a' := ?_) #[true, true, true, true, true, true, true, true, true, true, true, true, false, false, false, false, false, false] rfl rfl (any_of HT_.out (by kernel_rfl)) (fun _ _ _ h => h) (Or.inl ⟨by rfl, ?_⟩) ?_ ?_
                    rotate_left
                    · intro w'
                      go_simp
                      with_reducible rfl
                    rotate_left
                    · simp only [Act.put, List.setIfInBounds_toArray, List.set_cons_zero, List.set_cons_succ, i64_w, i32_w]
                      rfl
                    refine pure_ (i := 12) (N := some 76) (v := ?_) (a' := ?_) #[true, true, true, true, true, true, true, true, true, true, true, true, true, false, false, false, false, false] rfl rfl (any_of HT_.out (by kernel_rfl)) (fun _ _ _ h => h) (Or.inl ⟨by rfl, ?_⟩) ?_ ?_
                    rotate_left
                    · intro w'
                      go_simp
                      with_reducible rfl
                    rotate_left
                    · simp only [Act.put, List.setIfInBounds_toArray, List.set_cons_zero, List.set_cons_succ, i64_w, i32_w]
                      rfl
                    refine pure_ (i := 13) (N := some 77) (v := ?_) (a' := ?_) #[true, true, true, true, true, true, true, true, true, true, true, true, true, true, false, false, false, false] rfl rfl (any_of HT_.out (by kernel_rfl)) (fun _ _ _ h => h) (Or.inl ⟨by rfl, ?_⟩) ?_ ?_
                    rotate_left
                    · intro w'
                      go_simp
                      with_reducible rfl
                    rotate_left
                    · simp only [Act.put, List.setIfInBounds_toArray, List.set_cons_zero, List.set_cons_succ, i64_w, i32_w]
                      rfl
                    refine pure_ (i := 14) (N := some 78) (v := ?_) (a' := ?_) #[true, true, true, true, true, true, true, true, true, true, true, true, true, true, true, false, false, false] rfl rfl (any_of HT_.out (by kernel_rfl)) (fun _ _ _ h => h) (Or.inl ⟨by rfl, ?_⟩) ?_ ?_
                    rotate_left
                    · intro w'
                      go_simp
                      with_reducible rfl
                    rotate_left
                    · simp only [Act.put, List.setIfInBounds_toArray, List.set_cons_zero, List.set_cons_succ, i64_w, i32_w]
                      rfl
                    refine pure_ (i := 15) (N := some 79) (v := ?_) (a' := ?_) #[true, true, true, true, true, true, true, true, true, true, true, true, true, true, true, true, false, false] rfl rfl (any_of HT_.out (by kernel_rfl)) (fun _ _ _ h => h) (Or.inl ⟨by rfl, ?_⟩) ?_ ?_
                    rotate_left
                    · intro w'
                      go_simp
                      with_reducible rfl
                    rotate_left
                    · simp only [Act.put, List.setIfInBounds_toArray, List.set_cons_zero, List.set_cons_succ, i64_w, i32_w]
                      rfl
                    refine pure_ (i := 16) (N := some 80) (v := ?_) (a' := ?_) #[true, true, true, true, true, true, true, true, true, true, true, true, true, true, true, true, true, false] rfl rfl (any_of HT_.out (by kernel_rfl)) (fun _ _ _ h => h) (Or.inl ⟨by rfl, ?_⟩) ?_ ?_
                    rotate_left
                    · intro w'
                      go_simp
                      with_reducible rfl
                    rotate_left
                    · simp only [Act.put, List.setIfInBounds_toArray, List.set_cons_zero, List.set_cons_succ, i64_w, i32_w]
                      rfl
                    refine pure_ (i := 17) (N := some 81) (v := ?_) (a' := ?_) #[true, true, true, true, true, true, true, true, true, true, true, true, true, true, true, true, true, true] rfl rfl (any_of HT_.out (by kernel_rfl)) (fun _ _ _ h => h) (Or.inl ⟨by rfl, ?_⟩) ?_ ?_
                    rotate_left
                    · intro w'
                      go_simp
                      with_reducible rfl
                    rotate_left
                    · simp only [Act.put, List.setIfInBounds_toArray, List.set_cons_zero, List.set_cons_succ, i64_w, i32_w]
                      rfl
                    refine done_ (done_of HT_.out (by kernel_rfl)) ?_
                    try go_wp2
                    go_meet
                    case rel => exact ⟨_, (((t396.length : Int) == 0)), (by first | rfl | (simp; done) | (simp [*]; done)), H', ⟨by have := HJ4.out; have := HK2.out; first | omega | exact Nat.le_refl _⟩, ⟨by (with_reducible repeat (first | apply Kd.R_alloc | apply Kd.R_drewN | apply Kd.R_drew)); exact HO_8.out⟩, ⟨by repeat (first | (with_reducible first | exact HB.out | apply below_alloc | apply pw_below_drewN | apply below_drew1) | exact HB.out)⟩⟩
                  · rw [if_neg c24] at H
                    have c24b0 : ((strOfNums t403).toList == (strOfNums l1).toList) = false := beq_eq_false_iff_ne.mpr c24
                    have c24b1 : ((strOfNums t403).toList != (strOfNums l1).toList) = true := bne_iff_ne.mpr c24
                    have H' := Aside0.mk H
                    clear H
                    try go_wp2
                    have n0_ := Aside0.mk (Kd.R_drew HO_8.out)
                    have n1_ := Aside0.mk (below_drew1 HB.out)
                    clear HO_8
                    clear HB
                    have HO_8 := n0_
                    have HB := n1_
                    clear n0_ n1_
                    refine start_ (n := 18) (S := fun w' => True) (ds := []) #[false, false, false, false, false, false, false, false, false, false, false, false, false, false, false, false, false, false] (by kernel_rfl) rfl rfl trivial (fun hHeld => ?_); refine with_tabW hornbooklaw11_MatchJoins.tab12 hornbooklaw11_MatchJoins.bits12 (fun HT_ HW_ => ?_)
                    generalize wr.drew = w30 at HO_8 HB hHeld ⊢
                    refine pure_ (i := 0) (N := some 64) (v := ?_) (a' := ?_) #[true, false, false, false, false, false, false, false, false, false, false, false, false, false, false, false, false, false] rfl rfl (any_of HT_.out (by kernel_rfl)) (fun _ _ _ h => h) (Or.inl ⟨by rfl, ?_⟩) ?_ ?_
                    rotate_left
                    · intro w'
                      go_simp
                      with_reducible rfl
                    rotate_left
                    · simp only [Act.put, List.setIfInBounds_toArray, List.set_cons_zero, List.set_cons_succ, i64_w, i32_w]
                      rfl
                    refine pure_ (i := 1) (N := some 65) (v := ?_) (a' := ?_) #[true, true, false, false, false, false, false, false, false, false, false, false, false, false, false, false, false, false] rfl rfl (any_of HT_.out (by kernel_rfl)) (fun _ _ _ h => h) (Or.inl ⟨by rfl, ?_⟩) ?_ ?_
                    rotate_left
                    · intro w'
                      go_simp
                      with_reducible rfl
                    rotate_left
                    · simp only [Act.put, List.setIfInBounds_toArray, List.set_cons_zero, List.set_cons_succ, i64_w, i32_w]
                      rfl
                    refine pure_ (i := 2) (N := some 66) (v := ?_) (a' := ?_) #[true, true, true, false, false, false, false, false, false, false, false, false, false, false, false, false, false, false] rfl rfl (any_of HT_.out (by kernel_rfl)) (fun _ _ _ h => h) (Or.inl ⟨by rfl, ?_⟩) ?_ ?_
                    rotate_left
                    · intro w'
                      go_simp
                      with_reducible rfl
                    rotate_left
                    · simp only [Act.put, List.setIfInBounds_toArray, List.set_cons_zero, List.set_cons_succ, i64_w, i32_w]
                      rfl
                    refine pure_ (i := 3) (N := some 67) (v := ?_) (a' := ?_) #[true, true, true, true, false, false, false, false, false, false, false, false, false, false, false, false, false, false] rfl rfl (any_of HT_.out (by kernel_rfl)) (fun _ _ _ h => h) (Or.inl ⟨by rfl, ?_⟩) ?_ ?_
                    rotate_left
                    · intro w'
                      go_simp
                      with_reducible rfl
                    rotate_left
                    · simp only [Act.put, List.setIfInBounds_toArray, List.set_cons_zero, List.set_cons_succ, i64_w, i32_w]
                      rfl
                    refine pure_ (i := 4) (N := some 68) (v := ?_) (a' := ?_) #[true, true, true, true, true, false, false, false, false, false, false, false, false, false, false, false, false, false] rfl rfl (any_of HT_.out (by kernel_rfl)) (fun _ _ _ h => h) (Or.inl ⟨by rfl, ?_⟩) ?_ ?_
                    rotate_left
                    · intro w'
                      go_simp
                      with_reducible rfl
                    rotate_left
                    · simp only [Act.put, List.setIfInBounds_toArray, List.set_cons_zero, List.set_cons_succ, i64_w, i32_w]
                      rfl
                    refine pure_ (i := 5) (N := some 69) (v := ?_) (a' := ?_) #[true, true, true, true, true, true, false, false, false, false, false, false, false, false, false, false, false, false] rfl rfl (any_of HT_.out (by kernel_rfl)) (fun _ _ _ h => h) (Or.inl ⟨by rfl, ?_⟩) ?_ ?_
                    rotate_left
                    · intro w'
                      go_simp
                      with_reducible rfl
                    rotate_left
                    · simp only [Act.put, List.setIfInBounds_toArray, List.set_cons_zero, List.set_cons_succ, i64_w, i32_w]
                      rfl
                    refine pure_ (i := 6) (N := some 70) (v := ?_) (a' := ?_) #[true, true, true, true, true, true, true, false, false, false, false, false, false, false, false, false, false, false] rfl rfl (any_of HT_.out (by kernel_rfl)) (fun _ _ _ h => h) (Or.inl ⟨by rfl, ?_⟩) ?_ ?_
                    rotate_left
                    · intro w'
                      go_simp
                      with_reducible rfl
                    rotate_left
                    · simp only [Act.put, List.setIfInBounds_toArray, List.set_cons_zero, List.set_cons_succ, i64_w, i32_w]
                      rfl
                    refine pure_ (i := 9) (N := some 73) (v := ?_) (a' := ?_) #[true, true, true, true, true, true, true, false, false, true, false, false, false, false, false, false, false, false] rfl rfl (any_of HT_.out (by kernel_rfl)) (fun _ _ _ h => h) (Or.inl ⟨by rfl, ?_⟩) ?_ ?_
                    rotate_left
                    · intro w'
                      go_simp
                      with_reducible rfl
                    rotate_left
                    · simp only [Act.put, List.setIfInBounds_toArray, List.set_cons_zero, List.set_cons_succ, i64_w, i32_w]
                      rfl
                    refine join_ (σ := Value) 7 #[true, true, true, true, true, true, true, true, true, true, true, false, false, false, false, false, false, false] (fun s_ => [(71, s_), (72, .string (strOfNums t403)), (74, .string (strOfNums l1))]) (fun s_ w' => (Kd.R (Kd.int .u8) 5 w' w.heap.size (fun _ => True) s_ t403) ∧ (Kd.R k30 30 w' w.heap.size (fun _ => True) (.slice Ao21 t396.length co21) t396) ∧ (Below w.heap.size w w')) ?_ ?_
                    rotate_left
                    · intro hCont
                      refine two_ (i := 7) (j := 10) (Ni := some 71) (Nj := some 74) #[true, true, true, true, true, true, true, true, false, true, false, false, false, false, false, false, false, false] #[true, true, true, true, true, true, true, false, false, true, true, false, false, false, false, false, false, false] rfl rfl rfl rfl (two_of HT_.out (by kernel_rfl)) (by decide) (by decide) (fun K hK => ?_) (fun K hK => ?_)
                      · skip
                        refine goes_ Try.func18 (by kernel_rfl) rfl #[.slice Ao21 t396.length co21, .slice A1 l1.length c1] (by rfl) rfl rfl (by (try simp only [List.map_toArray, List.map_cons, List.map_nil]); first | done | rfl | (simp only [List.length_drop, List.length_take]; rfl)) ?_
                        with_reducible refine (match_Join.calls k2 _ _ t396 _ _ l1 t403 _ ?side1 ?side2 ?side3 ?side4 A23.out).mono ?_
                        (case side1 => repeat (first | exact (Kd.R_reads' HO_8.out).2.2 | (with_reducible refine Kd.C_alloc ?_ _) | (with_reducible refine Kd.C_drewN ?_ _) | (with_reducible refine Kd.C_drew ?_)))
                        (case side2 => exact (Kd.R_reads' HO_8.out).2.1)
                        (case side3 => repeat (first | exact (Kd.C_below HR1.out HB.out) | (with_reducible refine Kd.C_alloc ?_ _) | (with_reducible refine Kd.C_drewN ?_ _) | (with_reducible refine Kd.C_drew ?_)))
                        (case side4 => exact HC1.out)
                        rintro e w31 ⟨v404, rfl, ho0, hb⟩
                        refine ⟨_, rfl, ?_⟩
                        have n0_ := Aside0.mk (Kd.R_below (by (with_reducible repeat (first | apply Kd.R_alloc | apply Kd.R_drewN | apply Kd.R_drew)); exact HO_8.out) hb)
                        have n1_ := Aside0.mk (Kd.R_lower ho0 (below_size (by repeat (first | (with_reducible first | exact HB.out | apply below_alloc | apply pw_below_drewN | apply below_drew1) | exact HB.out))))
                        have n2_ := Aside0.mk (below_step (by repeat (first | (with_reducible first | exact HB.out | apply below_alloc | apply pw_below_drewN | apply below_drew1) | exact HB.out)) hb)
                        clear HO_8
                        clear HB
                        have HO_8 := n0_
                        have HO405 := n1_
                        have HB := n2_
                        clear n0_ n1_ n2_
                        (try clear hb)
                        (try clear hb2)
                        (try clear hk)
                        (try clear hi)
                        (try clear ho0)
                        refine hK.out _ _ trivial (fun hHeld => ?_)
                        clear hK K
                        refine norm_ (a' := ?_) ?_ ?_
                        rotate_left
                        · show Act.put _ (some 71) _ = _
                          simp only [Act.put, List.setIfInBounds_toArray, List.set_cons_zero, List.set_cons_succ, i64_w, i32_w]
                          rfl
                        refine two_ (i := 8) (j := 10) (Ni := some 72) (Nj := some 74) #[true, true, true, true, true, true, true, true, true, true, false, false, false, false, false, false, false, false] #[true, true, true, true, true, true, true, true, false, true, true, false, false, false, false, false, false, false] rfl rfl rfl rfl (two_of HT_.out (by kernel_rfl)) (by decide) (by decide) (fun K hK => ?_) (fun K hK => ?_)
                        · skip
                          have hcv32 := own_string (P := Try.prog) Try.underlying23 Try.underlying5 Try.underlying9 (Kd.own_of_R HO405.out)
                          refine value_ (w1 := ?_) (v := ?_) (by rfl) rfl ?_ ?_
                          rotate_left 2
                          · go_simp
                            constructor
                            · rfl
                            · rfl
                          clear hcv32
                          refine hK.out _ _ trivial (fun hHeld => ?_)
                          clear hK K
                          refine norm_ (a' := ?_) ?_ ?_
                          rotate_left
                          · show Act.put _ (some 72) _ = _
                            simp only [Act.put, List.setIfInBounds_toArray, List.set_cons_zero, List.set_cons_succ, i64_w, i32_w]
                            rfl
                          refine one_ (i := 10) (N := some 74) #[true, true, true, true, true, true, true, true, true, true, true, false, false, false, false, false, false, false] rfl rfl (one_of HT_.out (by kernel_rfl)) (by decide) (fun K hK => ?_)
                          have hcv33 := Kd.C_string (P := Try.prog) (A := A1) (c := c1) Try.underlying23 Try.underlying5 Try.underlying9 (Kd.C_below HR1.out HB.out)
                          refine value_ (w1 := ?_) (v := ?_) (by rfl) rfl ?_ ?_
                          rotate_left 2
                          · go_simp
                            constructor
                            · rfl
                            · rfl
                          clear hcv33
                          refine hK.out _ _ trivial (fun hHeld => ?_)
                          clear hK K
                          refine norm_ (a' := ?_) ?_ ?_
                          rotate_left
                          · show Act.put _ (some 74) _ = _
                            simp only [Act.put, List.setIfInBounds_toArray, List.set_cons_zero, List.set_cons_succ, i64_w, i32_w]
                            rfl
                          exact norm_ (by simp only [putAll, Act.put, List.setIfInBounds_toArray, List.set_cons_zero, List.set_cons_succ]) (hCont (v404) _ ⟨(by (with_reducible repeat (first | apply Kd.R_alloc | apply Kd.R_drewN | apply Kd.R_drew)); exact HO405.out), (by (with_reducible repeat (first | apply Kd.R_alloc | apply Kd.R_drewN | apply Kd.R_drew)); exact HO_8.out), (by repeat (first | (with_reducible first | exact HB.out | apply below_alloc | apply pw_below_drewN | apply below_drew1) | exact HB.out))⟩)
                        · skip
                          have hcv32 := Kd.C_string (P := Try.prog) (A := A1) (c := c1) Try.underlying23 Try.underlying5 Try.underlying9 (Kd.C_below HR1.out HB.out)
                          refine value_ (w1 := ?_) (v := ?_) (by rfl) rfl ?_ ?_
                          rotate_left 2
                          · go_simp
                            constructor
                            · rfl
                            · rfl
                          clear hcv32
                          refine hK.out _ _ trivial (fun hHeld => ?_)
                          clear hK K
                          refine norm_ (a' := ?_) ?_ ?_
                          rotate_left
                          · show Act.put _ (some 74) _ = _
                            simp only [Act.put, List.setIfInBounds_toArray, List.set_cons_zero, List.set_cons_succ, i64_w, i32_w]
                            rfl
                          refine one_ (i := 8) (N := some 72) #[true, true, true, true, true, true, true, true, true, true, true, false, false, false, false, false, false, false] rfl rfl (one_of HT_.out (by kernel_rfl)) (by decide) (fun K hK => ?_)
                          have hcv33 := own_string (P := Try.prog) Try.underlying23 Try.underlying5 Try.underlying9 (Kd.own_of_R HO405.out)
                          refine value_ (w1 := ?_) (v := ?_) (by rfl) rfl ?_ ?_
                          rotate_left 2
                          · go_simp
                            constructor
                            · rfl
                            · rfl
                          clear hcv33
                          refine hK.out _ _ trivial (fun hHeld => ?_)
                          clear hK K
                          refine norm_ (a' := ?_) ?_ ?_
                          rotate_left
                          · show Act.put _ (some 72) _ = _
                            simp only [Act.put, List.setIfInBounds_toArray, List.set_cons_zero, List.set_cons_succ, i64_w, i32_w]
                            rfl
                          exact norm_ (by simp only [putAll, Act.put, List.setIfInBounds_toArray, List.set_cons_zero, List.set_cons_succ]) (hCont (v404) _ ⟨(by (with_reducible repeat (first | apply Kd.R_alloc | apply Kd.R_drewN | apply Kd.R_drew)); exact HO405.out), (by (with_reducible repeat (first | apply Kd.R_alloc | apply Kd.R_drewN | apply Kd.R_drew)); exact HO_8.out), (by repeat (first | (with_reducible first | exact HB.out | apply below_alloc | apply pw_below_drewN | apply below_drew1) | exact HB.out))⟩)
                      · skip
                        have hcv31 := Kd.C_string (P := Try.prog) (A := A1) (c := c1) Try.underlying23 Try.underlying5 Try.underlying9 (Kd.C_below HR1.out HB.out)
                        refine value_ (w1 := ?_) (v := ?_) (by rfl) rfl ?_ ?_
                        rotate_left 2
                        · go_simp
                          constructor
                          · rfl
                          · rfl
                        clear hcv31
                        refine hK.out _ _ trivial (fun hHeld => ?_)
                        clear hK K
                        refine norm_ (a' := ?_) ?_ ?_
                        rotate_left
                        · show Act.put _ (some 74) _ = _
                          simp only [Act.put, List.setIfInBounds_toArray, List.set_cons_zero, List.set_cons_succ, i64_w, i32_w]
                          rfl
                        refine one_ (i := 7) (N := some 71) #[true, true, true, true, true, true, true, true, false, true, true, false, false, false, false, false, false, false] rfl rfl (one_of HT_.out (by kernel_rfl)) (by decide) (fun K hK => ?_)
                        refine goes_ Try.func18 (by kernel_rfl) rfl #[.slice Ao21 t396.length co21, .slice A1 l1.length c1] (by rfl) rfl rfl (by (try simp only [List.map_toArray, List.map_cons, List.map_nil]); first | done | rfl | (simp only [List.length_drop, List.length_take]; rfl)) ?_
                        with_reducible refine (match_Join.calls k2 _ _ t396 _ _ l1 t403 _ ?side1 ?side2 ?side3 ?side4 A23.out).mono ?_
                        (case side1 => repeat (first | exact (Kd.R_reads' HO_8.out).2.2 | (with_reducible refine Kd.C_alloc ?_ _) | (with_reducible refine Kd.C_drewN ?_ _) | (with_reducible refine Kd.C_drew ?_)))
                        (case side2 => exact (Kd.R_reads' HO_8.out).2.1)
                        (case side3 => repeat (first | exact (Kd.C_below HR1.out HB.out) | (with_reducible refine Kd.C_alloc ?_ _) | (with_reducible refine Kd.C_drewN ?_ _) | (with_reducible refine Kd.C_drew ?_)))
                        (case side4 => exact HC1.out)
                        rintro e w32 ⟨v404, rfl, ho0, hb⟩
                        refine ⟨_, rfl, ?_⟩
                        have n0_ := Aside0.mk (Kd.R_below (by (with_reducible repeat (first | apply Kd.R_alloc | apply Kd.R_drewN | apply Kd.R_drew)); exact HO_8.out) hb)
                        have n1_ := Aside0.mk (Kd.R_lower ho0 (below_size (by repeat (first | (with_reducible first | exact HB.out | apply below_alloc | apply pw_below_drewN | apply below_drew1) | exact HB.out))))
                        have n2_ := Aside0.mk (below_step (by repeat (first | (with_reducible first | exact HB.out | apply below_alloc | apply pw_below_drewN | apply below_drew1) | exact HB.out)) hb)
                        clear HO_8
                        clear HB
                        have HO_8 := n0_
                        have HO405 := n1_
                        have HB := n2_
                        clear n0_ n1_ n2_
                        (try clear hb)
                        (try clear hb2)
                        (try clear hk)
                        (try clear hi)
                        (try clear ho0)
                        refine hK.out _ _ trivial (fun hHeld => ?_)
                        clear hK K
                        refine norm_ (a' := ?_) ?_ ?_
                        rotate_left
                        · show Act.put _ (some 71) _ = _
                          simp only [Act.put, List.setIfInBounds_toArray, List.set_cons_zero, List.set_cons_succ, i64_w, i32_w]
                          rfl
                        refine one_ (i := 8) (N := some 72) #[true, true, true, true, true, true, true, true, true, true, true, false, false, false, false, false, false, false] rfl rfl (one_of HT_.out (by kernel_rfl)) (by decide) (fun K hK => ?_)
                        have hcv33 := own_string (P := Try.prog) Try.underlying23 Try.underlying5 Try.underlying9 (Kd.own_of_R HO405.out)
                        refine value_ (w1 := ?_) (v := ?_) (by rfl) rfl ?_ ?_
                        rotate_left 2
                        · go_simp
                          constructor
                          · rfl
                          · rfl
                        clear hcv33
                        refine hK.out _ _ trivial (fun hHeld => ?_)
                        clear hK K
                        refine norm_ (a' := ?_) ?_ ?_
                        rotate_left
                        · show Act.put _ (some 72) _ = _
                          simp only [Act.put, List.setIfInBounds_toArray, List.set_cons_zero, List.set_cons_succ, i64_w, i32_w]
                          rfl
                        exact norm_ (by simp only [putAll, Act.put, List.setIfInBounds_toArray, List.set_cons_zero, List.set_cons_succ]) (hCont (v404) _ ⟨(by (with_reducible repeat (first | apply Kd.R_alloc | apply Kd.R_drewN | apply Kd.R_drew)); exact HO405.out), (by (with_reducible repeat (first | apply Kd.R_alloc | apply Kd.R_drewN | apply Kd.R_drew)); exact HO_8.out), (by repeat (first | (with_reducible first | exact HB.out | apply below_alloc | apply pw_below_drewN | apply below_drew1) | exact HB.out))⟩)
                    rintro v404 w34 ⟨h0_, h1_, h2_⟩
                    have n0_ : Aside0 (Kd.R (Kd.int .u8) 5 w34 w.heap.size (fun _ => True) v404 t403) := ⟨h0_⟩
                    have n1_ : Aside0 (Kd.R k30 30 w34 w.heap.size (fun _ => True) (.slice Ao21 t396.length co21) t396) := ⟨h1_⟩
                    have n2_ : Aside0 (Below w.heap.size w w34) := ⟨h2_⟩
                    clear HO_8
                    clear HB
                    clear h0_ h1_ h2_
                    have HO405 := n0_
                    have HO_8 := n1_
                    have HB := n2_
                    clear n0_ n1_ n2_
                    have hHeld := trivial
                    refine norm_ (a' := ?_) ?_ ?_
                    rotate_left
                    · simp only [putAll, Act.put, List.setIfInBounds_toArray, List.set_cons_zero, List.set_cons_succ]
                      rfl
                    refine pure_ (i := 11) (N := some 75) (v := ?_) (a' := ?_) #[true, true, true, true, true, true, true, true, true, true, true, true, false, false, false, false, false, false] rfl rfl (any_of HT_.out (by kernel_rfl)) (fun _ _ _ h => h) (Or.inl ⟨by rfl, ?_⟩) ?_ ?_
                    rotate_left
                    · intro w'
                      go_simp
                      with_reducible rfl
                    rotate_left
                    · simp only [Act.put, List.setIfInBounds_toArray, List.set_cons_zero, List.set_cons_succ, i64_w, i32_w]
                      rfl
                    refine pure_ (i := 12) (N := some 76) (v := ?_) (a' := ?_) #[true, true, true, true, true, true, true, true, true, true, true, true, true, false, false, false, false, false] rfl rfl (any_of HT_.out (by kernel_rfl)) (fun _ _ _ h => h) (Or.inl ⟨by rfl, ?_⟩) ?_ ?_
                    rotate_left
                    · intro w'
                      go_simp
                      with_reducible rfl
                    rotate_left
                    · simp only [Act.put, List.setIfInBounds_toArray, List.set_cons_zero, List.set_cons_succ, i64_w, i32_w]
                      rfl
                    refine pure_ (i := 13) (N := some 77) (v := ?_) (a' := ?_) #[true, true, true, true, true, true, true, true, true, true, true, true, true, true, false, false, false, false] rfl rfl (any_of HT_.out (by kernel_rfl)) (fun _ _ _ h => h) (Or.inl ⟨by rfl, ?_⟩) ?_ ?_
                    rotate_left
                    · intro w'
                      go_simp
                      with_reducible rfl
                    rotate_left
                    · simp only [Act.put, List.setIfInBounds_toArray, List.set_cons_zero, List.set_cons_succ, i64_w, i32_w]
                      rfl
                    refine pure_ (i := 14) (N := some 78) (v := undef) (a' := ?_) #[true, true, true, true, true, true, true, true, true, true, true, true, true, true, true, false, false, false] rfl rfl (any_of HT_.out (by kernel_rfl)) (fun _ _ _ h => h) (Or.inr ⟨by rfl, rfl⟩) ?_ ?_
                    rotate_left
                    · simp only [Act.put, List.setIfInBounds_toArray, List.set_cons_zero, List.set_cons_succ, i64_w, i32_w]
                      rfl
                    refine pure_ (i := 15) (N := some 79) (v := undef) (a' := ?_) #[true, true, true, true, true, true, true, true, true, true, true, true, true, true, true, true, false, false] rfl rfl (any_of HT_.out (by kernel_rfl)) (fun _ _ _ h => h) (Or.inr ⟨by rfl, rfl⟩) ?_ ?_
                    rotate_left
                    · simp only [Act.put, List.setIfInBounds_toArray, List.set_cons_zero, List.set_cons_succ, i64_w, i32_w]
                      rfl
                    refine pure_ (i := 16) (N := some 80) (v := undef) (a' := ?_) #[true, true, true, true, true, true, true, true, true, true, true, true, true, true, true, true, true, false] rfl rfl (any_of HT_.out (by kernel_rfl)) (fun _ _ _ h => h) (Or.inr ⟨by rfl, rfl⟩) ?_ ?_
                    rotate_left
                    · simp only [Act.put, List.setIfInBounds_toArray, List.set_cons_zero, List.set_cons_succ, i64_w, i32_w]
                      rfl
                    refine pure_ (i := 17) (N := some 81) (v := ?_) (a' := ?_) #[true, true, true, true, true, true, true, true, true, true, true, true, true, true, true, true, true, true] rfl rfl (any_of HT_.out (by kernel_rfl)) (fun _ _ _ h => h) (Or.inl ⟨by rfl, ?_⟩) ?_ ?_
                    rotate_left
                    · intro w'
                      go_simp
                      with_reducible rfl
                    rotate_left
                    · simp only [Act.put, List.setIfInBounds_toArray, List.set_cons_zero, List.set_cons_succ, i64_w, i32_w]
                      rfl
                    refine done_ (done_of HT_.out (by kernel_rfl)) ?_
                    try go_wp2
                    go_meet
                    case rel => exact ⟨_, (true), (by first | rfl | (simp; done) | (simp [*]; done)), H', ⟨by have := HJ4.out; have := HK2.out; first | omega | exact Nat.le_refl _⟩, ⟨by (with_reducible repeat (first | apply Kd.R_alloc | apply Kd.R_drewN | apply Kd.R_drew)); exact HO_8.out⟩, ⟨by repeat (first | (with_reducible first | exact HB.out | apply below_alloc | apply pw_below_drewN | apply below_drew1) | exact HB.out)⟩⟩
                · rw [if_neg c22] at H
                  have c22b0 : (x9_2 == (l1.length : Int)) = false := beq_eq_false_iff_ne.mpr c22
                  have c22b1 : (x9_2 != (l1.length : Int)) = true := bne_iff_ne.mpr c22
                  (first | rw [c22b0] | (simp only [i64_w, i32_w]; rw [c22b0]) | skip)
                  have H' := Aside0.mk H
                  clear H
                  try go_wp2
                  have n0_ := Aside0.mk (Kd.R_drew HO_8.out)
                  have n1_ := Aside0.mk (below_drew1 HB.out)
                  clear HO_8
                  clear HB
                  have HO_8 := n0_
                  have HB := n1_
                  clear n0_ n1_
                  refine start_ (n := 18) (S := fun w' => True) (ds := []) #[false, false, false, false, false, false, false, false, false, false, false, false, false, false, false, false, false, false] (by kernel_rfl) rfl rfl trivial (fun hHeld => ?_); refine with_tabW hornbooklaw11_MatchJoins.tab12 hornbooklaw11_MatchJoins.bits12 (fun HT_ HW_ => ?_)
                  generalize wr.drew = w35 at HO_8 HB hHeld ⊢
                  refine pure_ (i := 0) (N := some 64) (v := ?_) (a' := ?_) #[true, false, false, false, false, false, false, false, false, false, false, false, false, false, false, false, false, false] rfl rfl (any_of HT_.out (by kernel_rfl)) (fun _ _ _ h => h) (Or.inl ⟨by rfl, ?_⟩) ?_ ?_
                  rotate_left
                  · intro w'
                    go_simp
                    with_reducible rfl
                  rotate_left
                  · simp only [Act.put, List.setIfInBounds_toArray, List.set_cons_zero, List.set_cons_succ, i64_w, i32_w]
                    rfl
                  refine pure_ (i := 1) (N := some 65) (v := ?_) (a' := ?_) #[true, true, false, false, false, false, false, false, false, false, false, false, false, false, false, false, false, false] rfl rfl (any_of HT_.out (by kernel_rfl)) (fun _ _ _ h => h) (Or.inl ⟨by rfl, ?_⟩) ?_ ?_
                  rotate_left
                  · intro w'
                    go_simp
                    with_reducible rfl
                  rotate_left
                  · simp only [Act.put, List.setIfInBounds_toArray, List.set_cons_zero, List.set_cons_succ, i64_w, i32_w]
                    rfl
                  refine pure_ (i := 2) (N := some 66) (v := ?_) (a' := ?_) #[true, true, true, false, false, false, false, false, false, false, false, false, false, false, false, false, false, false] rfl rfl (any_of HT_.out (by kernel_rfl)) (fun _ _ _ h => h) (Or.inl ⟨by rfl, ?_⟩) ?_ ?_
                  rotate_left
                  · intro w'
                    go_simp
                    with_reducible rfl
                  rotate_left
                  · simp only [Act.put, List.setIfInBounds_toArray, List.set_cons_zero, List.set_cons_succ, i64_w, i32_w]
                    rfl
                  refine pure_ (i := 3) (N := some 67) (v := ?_) (a' := ?_) #[true, true, true, true, false, false, false, false, false, false, false, false, false, false, false, false, false, false] rfl rfl (any_of HT_.out (by kernel_rfl)) (fun _ _ _ h => h) (Or.inl ⟨by rfl, ?_⟩) ?_ ?_
                  rotate_left
                  · intro w'
                    go_simp
                    with_reducible rfl
                  rotate_left
                  · simp only [Act.put, List.setIfInBounds_toArray, List.set_cons_zero, List.set_cons_succ, i64_w, i32_w]
                    rfl
                  refine pure_ (i := 4) (N := some 68) (v := ?_) (a' := ?_) #[true, true, true, true, true, false, false, false, false, false, false, false, false, false, false, false, false, false] rfl rfl (any_of HT_.out (by kernel_rfl)) (fun _ _ _ h => h) (Or.inl ⟨by rfl, ?_⟩) ?_ ?_
                  rotate_left
                  · intro w'
                    go_simp
                    with_reducible rfl
                  rotate_left
                  · simp only [Act.put, List.setIfInBounds_toArray, List.set_cons_zero, List.set_cons_succ, i64_w, i32_w]
                    rfl
                  refine pure_ (i := 5) (N := some 69) (v := undef) (a' := ?_) #[true, true, true, true, true, true, false, false, false, false, false, false, false, false, false, false, false, false] rfl rfl (any_of HT_.out (by kernel_rfl)) (fun _ _ _ h => h) (Or.inr ⟨by rfl, rfl⟩) ?_ ?_
                  rotate_left
                  · simp only [Act.put, List.setIfInBounds_toArray, List.set_cons_zero, List.set_cons_succ, i64_w, i32_w]
                    rfl
                  refine pure_ (i := 6) (N := some 70) (v := undef) (a' := ?_) #[true, true, true, true, true, true, true, false, false, false, false, false, false, false, false, false, false, false] rfl rfl (any_of HT_.out (by kernel_rfl)) (fun _ _ _ h => h) (Or.inr ⟨by rfl, rfl⟩) ?_ ?_
                  rotate_left
                  · simp only [Act.put, List.setIfInBounds_toArray, List.set_cons_zero, List.set_cons_succ, i64_w, i32_w]
                    rfl
                  refine pure_ (i := 7) (N := some 71) (v := undef) (a' := ?_) #[true, true, true, true, true, true, true, true, false, false, false, false, false, false, false, false, false, false] rfl rfl (any_of HT_.out (by kernel_rfl)) (fun _ _ _ h => h) (Or.inr ⟨by rfl, rfl⟩) ?_ ?_
                  rotate_left
                  · simp only [Act.put, List.setIfInBounds_toArray, List.set_cons_zero, List.set_cons_succ, i64_w, i32_w]
                    rfl
                  refine pure_ (i := 8) (N := some 72) (v := undef) (a' := ?_) #[true, true, true, true, true, true, true, true, true, false, false, false, false, false, false, false, false, false] rfl rfl (any_of HT_.out (by kernel_rfl)) (fun _ _ _ h => h) (Or.inr ⟨by rfl, rfl⟩) ?_ ?_
                  rotate_left
                  · simp only [Act.put, List.setIfInBounds_toArray, List.set_cons_zero, List.set_cons_succ, i64_w, i32_w]
                    rfl
                  refine pure_ (i := 9) (N := some 73) (v := undef) (a' := ?_) #[true, true, true, true, true, true, true, true, true, true, false, false, false, false, false, false, false, false] rfl rfl (any_of HT_.out (by kernel_rfl)) (fun _ _ _ h => h) (Or.inr ⟨by rfl, rfl⟩) ?_ ?_
                  rotate_left
                  · simp only [Act.put, List.setIfInBounds_toArray, List.set_cons_zero, List.set_cons_succ, i64_w, i32_w]
                    rfl
                  refine pure_ (i := 10) (N := some 74) (v := undef) (a' := ?_) #[true, true, true, true, true, true, true, true, true, true, true, false, false, false, false, false, false, false] rfl rfl (any_of HT_.out (by kernel_rfl)) (fun _ _ _ h => h) (Or.inr ⟨by rfl, rfl⟩) ?_ ?_
                  rotate_left
                  · simp only [Act.put, List.setIfInBounds_toArray, List.set_cons_zero, List.set_cons_succ, i64_w, i32_w]
                    rfl
                  refine pure_ (i := 11) (N := some 75) (v := undef) (a' := ?_) #[true, true, true, true, true, true, true, true, true, true, true, true, false, false, false, false, false, false] rfl rfl (any_of HT_.out (by kernel_rfl)) (fun _ _ _ h => h) (Or.inr ⟨by rfl, rfl⟩) ?_ ?_
                  rotate_left
                  · simp only [Act.put, List.setIfInBounds_toArray, List.set_cons_zero, List.set_cons_succ, i64_w, i32_w]
                    rfl
                  refine pure_ (i := 12) (N := some 76) (v := ?_) (a' := ?_) #[true, true, true, true, true, true, true, true, true, true, true, true, true, false, false, false, false, false] rfl rfl (any_of HT_.out (by kernel_rfl)) (fun _ _ _ h => h) (Or.inl ⟨by rfl, ?_⟩) ?_ ?_
                  rotate_left
                  · intro w'
                    go_simp
                    with_reducible rfl
                  rotate_left
                  · simp only [Act.put, List.setIfInBounds_toArray, List.set_cons_zero, List.set_cons_succ, i64_w, i32_w]
                    rfl
                  refine pure_ (i := 13) (N := some 77) (v := ?_) (a' := ?_) #[true, true, true, true, true, true, true, true, true, true, true, true, true, true, false, false, false, false] rfl rfl (any_of HT_.out (by kernel_rfl)) (fun _ _ _ h => h) (Or.inl ⟨by rfl, ?_⟩) ?_ ?_
                  rotate_left
                  · intro w'
                    go_simp
                    with_reducible rfl
                  rotate_left
                  · simp only [Act.put, List.setIfInBounds_toArray, List.set_cons_zero, List.set_cons_succ, i64_w, i32_w]
                    rfl
                  refine pure_ (i := 14) (N := some 78) (v := undef) (a' := ?_) #[true, true, true, true, true, true, true, true, true, true, true, true, true, true, true, false, false, false] rfl rfl (any_of HT_.out (by kernel_rfl)) (fun _ _ _ h => h) (Or.inr ⟨by rfl, rfl⟩) ?_ ?_
                  rotate_left
                  · simp only [Act.put, List.setIfInBounds_toArray, List.set_cons_zero, List.set_cons_succ, i64_w, i32_w]
                    rfl
                  refine pure_ (i := 15) (N := some 79) (v := undef) (a' := ?_) #[true, true, true, true, true, true, true, true, true, true, true, true, true, true, true, true, false, false] rfl rfl (any_of HT_.out (by kernel_rfl)) (fun _ _ _ h => h) (Or.inr ⟨by rfl, rfl⟩) ?_ ?_
                  rotate_left
                  · simp only [Act.put, List.setIfInBounds_toArray, List.set_cons_zero, List.set_cons_succ, i64_w, i32_w]
                    rfl
                  refine pure_ (i := 16) (N := some 80) (v := undef) (a' := ?_) #[true, true, true, true, true, true, true, true, true, true, true, true, true, true, true, true, true, false] rfl rfl (any_of HT_.out (by kernel_rfl)) (fun _ _ _ h => h) (Or.inr ⟨by rfl, rfl⟩) ?_ ?_
                  rotate_left
                  · simp only [Act.put, List.setIfInBounds_toArray, List.set_cons_zero, List.set_cons_succ, i64_w, i32_w]
                    rfl
                  refine pure_ (i := 17) (N := some 81) (v := ?_) (a' := ?_) #[true, true, true, true, true, true, true, true, true, true, true, true, true, true, true, true, true, true] rfl rfl (any_of HT_.out (by kernel_rfl)) (fun _ _ _ h => h) (Or.inl ⟨by rfl, ?_⟩) ?_ ?_
                  rotate_left
                  · intro w'
                    go_simp
                    with_reducible rfl
                  rotate_left
                  · simp only [Act.put, List.setIfInBounds_toArray, List.set_cons_zero, List.set_cons_succ, i64_w, i32_w]
                    rfl
                  refine done_ (done_of HT_.out (by kernel_rfl)) ?_
                  try go_wp2
                  go_meet
                  case rel => exact ⟨_, (true), (by first | rfl | (simp; done) | (simp [*]; done)), H', ⟨by have := HJ4.out; have := HK2.out; first | omega | exact Nat.le_refl _⟩, ⟨by (with_reducible repeat (first | apply Kd.R_alloc | apply Kd.R_drewN | apply Kd.R_drew)); exact HO_8.out⟩, ⟨by repeat (first | (with_reducible first | exact HB.out | apply below_alloc | apply pw_below_drewN | apply below_drew1) | exact HB.out)⟩⟩
              case rest =>
                clear HC20
                try clear c1
                try clear c2
                try clear p2
                try clear hcv2
                try clear hcv3
                try clear c18
                try clear c22
                try clear c22b0
                try clear c22b1
                try clear c24
                try clear c24b0
                try clear c24b1
                try clear hcv26
                try clear hcv27
                try clear hcv28
                try clear hcv31
                try clear hcv32
                try clear hcv33
                obtain ⟨kq, x81_19, rfl, HA, HJ19, HO_8, HB⟩ := hcut
                cases kq with
                | zero => exact absurd HA.out (by simp [hornbooklaw11_MatchJoins.j2])
                | succ kj19 =>
                  have H := HA.out
                  clear HA
                  simp only [hornbooklaw11_MatchJoins.j2] at H
                  by_cases c36 : x81_19 = true
                  · subst c36
                    have H1 : (if t395 = true then (if (l1.length : Int) = 0 then (some ((t396.length : Int) == 0)) else (some false)) else (some false)) = some r := by rw [if_pos rfl] at H; exact H
                    clear H
                    have H := H1
                    clear H1
                    by_cases c37 : t395 = true
                    · subst c37
                      have H1 : (if (l1.length : Int) = 0 then (some ((t396.length : Int) == 0)) else (some false)) = some r := by rw [if_pos rfl] at H; exact H
                      clear H
                      have H := H1
                      clear H1
                      by_cases c38 : (l1.length : Int) = 0
                      · rw [if_pos c38] at H
                        have c38b0 : ((l1.length : Int) == 0) = true := beq_iff_eq.mpr c38
                        have c38b1 : ((l1.length : Int) != 0) = false := bne_eq_false_iff_eq.mpr c38
                        clear c38
                        obtain rfl := Option.some.inj H
                        go_wp2
                        go_ret
                        exact ⟨by first | rfl | (simp [errW_none, errW_some] <;> rfl) | (simp [*, errW_none, errW_some] <;> rfl), by repeat (first | (with_reducible first | exact HB.out | apply below_alloc | apply pw_below_drewN | apply below_drew1) | exact HB.out)⟩
                      · rw [if_neg c38] at H
                        have c38b0 : ((l1.length : Int) == 0) = false := beq_eq_false_iff_ne.mpr c38
                        have c38b1 : ((l1.length : Int) != 0) = true := bne_iff_ne.mpr c38
                        have c38b2 : ¬ (l1 = []) := fun h_ => c38 (by rw [h_]; rfl)
                        obtain rfl := Option.some.inj H
                        go_wp2
                        go_ret
                        exact ⟨by first | rfl | (simp [errW_none, errW_some] <;> rfl) | (simp [*, errW_none, errW_some] <;> rfl), by repeat (first | (with_reducible first | exact HB.out | apply below_alloc | apply pw_below_drewN | apply below_drew1) | exact HB.out)⟩
                    · replace c37 := Bool.eq_false_iff.mpr c37
                      subst c37
                      have H1 : (some false) = some r := by rw [if_neg (show ¬ (false = true) by decide)] at H; exact H
                      clear H
                      have H := H1
                      clear H1
                      obtain rfl := Option.some.inj H
                      go_wp2
                      go_ret
                      exact ⟨by first | rfl | (simp [errW_none, errW_some] <;> rfl) | (simp [*, errW_none, errW_some] <;> rfl), by repeat (first | (with_reducible first | exact HB.out | apply below_alloc | apply pw_below_drewN | apply below_drew1) | exact HB.out)⟩
                  · replace c36 := Bool.eq_false_iff.mpr c36
                    subst c36
                    have H1 : (if (t396.length : Int) = 0 then (none) else (if 0 ≤ (Int.tmod (Go.bits .and .i64 a2 65535) (t396.length : Int)) then (if (Int.tmod (Go.bits .and .i64 a2 65535) (t396.length : Int)) < (t396.length : Int) then (if 0 ≤ ((rd_T30 t396 (Int.tmod (Go.bits .and .i64 a2 65535) (t396.length : Int))).f0) then (if ((rd_T30 t396 (Int.tmod (Go.bits .and .i64 a2 65535) (t396.length : Int))).f0) ≤ (l1.length : Int) then ((match_All.f kj19 l0 (l1.drop (((rd_T30 t396 (Int.tmod (Go.bits .and .i64 a2 65535) (t396.length : Int))).f0) : Int).toNat)).bind fun t408 => ((hornbooklaw11_cut.f kj19 t408).bind fun t411 => (if (t411.length : Int) = (wrap64 ((t396.length : Int) - (Int.tmod (Go.bits .and .i64 a2 65535) (t396.length : Int)))) then (hornbooklaw11_MatchJoins.l1 kj19 t395 t396 (Int.tmod (Go.bits .and .i64 a2 65535) (t396.length : Int)) t411 0) else (some false)))) else (none)) else (none)) else (none)) else (none))) = some r := by rw [if_neg (show ¬ (false = true) by decide)] at H; exact H
                    clear H
                    have H := H1
                    clear H1
                    by_cases c39 : (t396.length : Int) = 0
                    · rw [if_pos c39] at H
                      exact absurd H (by simp)
                    · rw [if_neg c39] at H
                      have c39b0 : ((t396.length : Int) == 0) = false := beq_eq_false_iff_ne.mpr c39
                      have c39b1 : ((t396.length : Int) != 0) = true := bne_iff_ne.mpr c39
                      have c39b2 : ¬ (t396 = []) := fun h_ => c39 (by rw [h_]; rfl)
                      obtain ⟨ji40, hji40⟩ : ∃ j_ : Int, (Int.tmod (Go.bits .and .i64 a2 65535) (t396.length : Int)) = j_ := ⟨_, rfl⟩
                      replace H : (if 0 ≤ (ji40) then (if (ji40) < (t396.length : Int) then (if 0 ≤ ((rd_T30 t396 (ji40)).f0) then (if ((rd_T30 t396 (ji40)).f0) ≤ (l1.length : Int) then ((match_All.f kj19 l0 (l1.drop (((rd_T30 t396 (ji40)).f0) : Int).toNat)).bind fun t408 => ((hornbooklaw11_cut.f kj19 t408).bind fun t411 => (if (t411.length : Int) = (wrap64 ((t396.length : Int) - (ji40))) then (hornbooklaw11_MatchJoins.l1 kj19 t395 t396 ji40 t411 0) else (some false)))) else (none)) else (none)) else (none)) else (none)) = some r := by first | (rw [hji40] at H; exact H) | (simp only [hji40] at H ⊢; exact H)
                      by_cases c41 : 0 ≤ (ji40)
                      · rw [if_pos c41] at H
                        have c41b0 : decide (0 ≤ (ji40)) = true := decide_eq_true c41
                        clear c41
                        by_cases c42 : (ji40) < (t396.length : Int)
                        · rw [if_pos c42] at H
                          have c42b0 : decide ((ji40) < (t396.length : Int)) = true := decide_eq_true c42
                          clear c42
                          by_cases c43 : 0 ≤ ((rd_T30 t396 (ji40)).f0)
                          · rw [if_pos c43] at H
                            have c43b0 := eq_true c43
                            have c43b1 : decide (0 ≤ ((rd_T30 t396 (ji40)).f0)) = true := decide_eq_true c43
                            clear c43
                            by_cases c44 : ((rd_T30 t396 (ji40)).f0) ≤ (l1.length : Int)
                            · rw [if_pos c44] at H
                              have c44b0 := eq_true c44
                              have c44b1 : decide (((rd_T30 t396 (ji40)).f0) ≤ (l1.length : Int)) = true := decide_eq_true c44
                              clear c44
                              replace H := Option.bind_eq_some_iff.mp H
                              obtain ⟨t408, A450, H⟩ := H
                              replace H : ((hornbooklaw11_cut.f kj19 t408).bind fun t411 => (if (t411.length : Int) = (wrap64 ((t396.length : Int) - (ji40))) then (hornbooklaw11_MatchJoins.l1 kj19 t395 t396 ji40 t411 0) else (some false))) = some r := H
                              have A45 := Aside0.mk A450
                              clear A450
                              replace H := Option.bind_eq_some_iff.mp H
                              obtain ⟨t411, A460, H⟩ := H
                              replace H : (if (t411.length : Int) = (wrap64 ((t396.length : Int) - (ji40))) then (hornbooklaw11_MatchJoins.l1 kj19 t395 t396 ji40 t411 0) else (some false)) = some r := H
                              have A46 := Aside0.mk A460
                              clear A460
                              by_cases c47 : (t411.length : Int) = (wrap64 ((t396.length : Int) - (ji40)))
                              · rw [if_pos c47] at H
                                have c47b0 : ((t411.length : Int) == (wrap64 ((t396.length : Int) - (ji40)))) = true := beq_iff_eq.mpr c47
                                have c47b1 : ((t411.length : Int) != (wrap64 ((t396.length : Int) - (ji40)))) = false := bne_eq_false_iff_eq.mpr c47
                                clear c47
                                have H' := Aside0.mk H
                                clear H
                                have p406 : 0 ≤ ((ji40) : Int) := of_decide_eq_true (by first | (with_reducible assumption) | assumption)
                                have q406 : (ji40) < (t396.length : Int) := of_decide_eq_true (by first | (with_reducible assumption) | assumption)
                                obtain ⟨ad406, e406, hx406_0, hx406_1, hx406_2, hx406_3, hx406_4⟩ := at_T30 (Kd.R_reads' HO_8.out).2.2 (ji40) p406 q406
                                cases e406
                                replace p406 := eq_true p406
                                replace q406 := eq_true q406
                                obtain ⟨i048, hi048, _, hsz48, _⟩ := info_parts info5
                                obtain ⟨A48, hcut48, hA48, hC48⟩ := print_drop_of (P := Try.prog) (Value.int .u8) 0 23 5 .i64 Try.underlying23 hi048 hsz48 A1 c1 l1 ((rd_T30 t396 (ji40)).f0) (of_decide_eq_true (by first | (with_reducible assumption) | assumption)) (of_decide_eq_true (by first | (with_reducible assumption) | assumption)) HC1.out
                                have HR407 := Aside0.mk (Kd.C_of_reads (h1 := fun _ => rfl) (hA48 _ (Kd.reads_of_C HR1.out)))
                                have HC407 := Aside0.mk hC48
                                clear hA48 hC48 hi048 hsz48
                                go_wp2_with (first | ((with_reducible refine gate_callee (f := 10) rfl ?_); refine goesL_ (some 106) rfl rfl Try.func10 (by kernel_rfl) rfl #[.slice A0 l0.length c0, .slice A48 (l1.drop (((rd_T30 t396 (ji40)).f0) : Int).toNat).length (c1 - ((rd_T30 t396 (ji40)).f0).toNat)] rfl (by (try simp only [List.map_toArray, List.map_cons, List.map_nil]); first | done | (rw [show (l1.drop (((rd_T30 t396 (ji40)).f0) : Int).toNat).length = (l1.length - ((rd_T30 t396 (ji40)).f0).toNat) from List.length_drop] <;> rfl) | (simp only [hji40]; rfl) | rfl | (simp only [List.length_drop, List.length_take]; rfl)) ?_; (with_reducible refine (match_All.calls kj19 _ _ l0 _ _ (l1.drop (((rd_T30 t396 (ji40)).f0) : Int).toNat) t408 _ ?side1 ?side2 ?side3 ?side4 A45.out).mono ?_); (case side1 => repeat (first | exact (Kd.C_below HR0.out HB.out) | (with_reducible refine Kd.C_alloc ?_ _) | (with_reducible refine Kd.C_drewN ?_ _) | (with_reducible refine Kd.C_drew ?_))); (case side2 => exact HC0.out); (case side3 => repeat (first | exact (Kd.C_below HR407.out HB.out) | (with_reducible refine Kd.C_alloc ?_ _) | (with_reducible refine Kd.C_drewN ?_ _) | (with_reducible refine Kd.C_drew ?_))); (case side4 => exact HC407.out); rintro e w49 ⟨v409, rfl, ho0, hb⟩; refine ⟨_, rfl, ?_⟩; have n0_ := Aside0.mk (Kd.R_elder' (by (with_reducible repeat (first | apply Kd.R_alloc | apply Kd.R_drewN | apply Kd.R_drew)); exact HO_8.out) (Kd.R_base ho0) hb); have n1_ := Aside0.mk (Kd.R_lower (Kd.R_new' ho0 (Kd.R_lt (by (with_reducible repeat (first | apply Kd.R_alloc | apply Kd.R_drewN | apply Kd.R_drew)); exact HO_8.out))) (below_size (by repeat (first | (with_reducible first | exact HB.out | apply below_alloc | apply pw_below_drewN | apply below_drew1) | exact HB.out)))); have n2_ := Aside0.mk (below_step (by repeat (first | (with_reducible first | exact HB.out | apply below_alloc | apply pw_below_drewN | apply below_drew1) | exact HB.out)) hb); clear HO_8; clear HB; have HO_8 := n0_; have HO410 := n1_; have HB := n2_; clear n0_ n1_ n2_; (try clear hb); (try clear hb2); (try clear hk); (try clear hi); (try clear ho0); obtain ⟨Ao50, co50, eo50⟩ := Kd.R_slice HO410.out; subst eo50) | ((with_reducible refine gate_callee (f := 16) rfl ?_); refine goesL_ (some 107) rfl rfl Try.func16 (by kernel_rfl) rfl #[.slice Ao50 t408.length co50] rfl (by (try simp only [List.map_toArray, List.map_cons, List.map_nil]); first | done | rfl | (simp only [List.length_drop, List.length_take]; rfl)) ?_; (with_reducible refine (hornbooklaw11_cut.calls kj19 _ _ t408 t411 _ ?side1 ?side2 A46.out).mono ?_); (case side1 => repeat (first | exact (Kd.R_reads' HO410.out).2.2 | (with_reducible refine Kd.C_alloc ?_ _) | (with_reducible refine Kd.C_drewN ?_ _) | (with_reducible refine Kd.C_drew ?_))); (case side2 => exact (Kd.R_reads' HO410.out).2.1); rintro e w51 ⟨v412, rfl, ho0, hb⟩; refine ⟨_, rfl, ?_⟩; have n0_ := Aside0.mk (Kd.R_below (by (with_reducible repeat (first | apply Kd.R_alloc | apply Kd.R_drewN | apply Kd.R_drew)); exact HO_8.out) hb); have n1_ := Aside0.mk (Kd.R_below (by (with_reducible repeat (first | apply Kd.R_alloc | apply Kd.R_drewN | apply Kd.R_drew)); exact HO410.out) hb); have n2_ := Aside0.mk (Kd.R_lower ho0 (below_size (by repeat (first | (with_reducible first | exact HB.out | apply below_alloc | apply pw_below_drewN | apply below_drew1) | exact HB.out)))); have n3_ := Aside0.mk (below_step (by repeat (first | (with_reducible first | exact HB.out | apply below_alloc | apply pw_below_drewN | apply below_drew1) | exact HB.out)) hb); clear HO_8; clear HO410; clear HB; have HO_8 := n0_; have HO410 := n1_; have HO413 := n2_; have HB := n3_; clear n0_ n1_ n2_ n3_; (try clear hb); (try clear hb2); (try clear hk); (try clear hi); (try clear ho0); obtain ⟨Ao52, co52, eo52⟩ := Kd.R_slice HO413.out; subst eo52))
                                go_loopg [13] kj19 (fun kq v13 w' => ∃ (x13_4 : Int), v13 = .int .i64 x13_4 ∧ Aside0 (hornbooklaw11_MatchJoins.l1 kq t395 t396 ji40 t411 x13_4 = some r) ∧ Aside0 (kq ≤ kj19) ∧ Aside0 (Kd.R k30 30 w' w.heap.size (fun _ => True) (.slice (some ad406) t396.length co21) t396) ∧ Aside0 (Kd.R k49 49 w' w.heap.size (fun _ => True) (.slice Ao52 t411.length co52) t411) ∧ Aside0 (Below w.heap.size w w'))
                                case atStart => exact ⟨(0), (by first | rfl | (simp; done) | (simp [*]; done)), H', ⟨Nat.le_refl _⟩, ⟨by (with_reducible repeat (first | apply Kd.R_alloc | apply Kd.R_drewN | apply Kd.R_drew)); exact Kd.R_mono HO_8.out (fun _ hk => trivial)⟩, ⟨by (with_reducible repeat (first | apply Kd.R_alloc | apply Kd.R_drewN | apply Kd.R_drew)); exact HO413.out⟩, ⟨by repeat (first | (with_reducible first | exact HB.out | apply below_alloc | apply pw_below_drewN | apply below_drew1) | exact HB.out)⟩⟩
                                case round =>
                                  clear H'
                                  try clear c1
                                  try clear c2
                                  try clear p2
                                  try clear hcv2
                                  try clear c3
                                  try clear hcv3
                                  try clear c4
                                  try clear p4
                                  try clear q4
                                  try clear hx4
                                  try clear p6
                                  try clear c10
                                  try clear c16
                                  try clear c18
                                  try clear c22
                                  try clear c22b0
                                  try clear c22b1
                                  try clear c24
                                  try clear c24b0
                                  try clear c24b1
                                  try clear hcv26
                                  try clear hcv27
                                  try clear hcv28
                                  try clear hcv31
                                  try clear hcv32
                                  try clear hcv33
                                  try clear c36
                                  try clear c37
                                  try clear c38
                                  try clear c38b0
                                  try clear c38b1
                                  try clear c38b2
                                  try clear c39
                                  try clear c39b0
                                  try clear c39b1
                                  try clear c39b2
                                  try clear p40
                                  try clear q40
                                  try clear hx40
                                  try clear c41
                                  try clear c41b0
                                  try clear c42
                                  try clear c42b0
                                  try clear c43
                                  try clear c43b0
                                  try clear c43b1
                                  try clear c44
                                  try clear c44b0
                                  try clear c44b1
                                  try clear c47
                                  try clear c47b0
                                  try clear c47b1
                                  try clear hx406_0
                                  try clear hx406_1
                                  try clear hx406_2
                                  try clear hx406_3
                                  try clear hx406_4
                                  try clear p2
                                  try clear p406
                                  try clear q406
                                  obtain ⟨x13_4, rfl, HA, HK4, HO_8, HO_12, HB⟩ := hrel
                                  cases gk with
                                  | zero => exact absurd HA.out (by simp [hornbooklaw11_MatchJoins.l1])
                                  | succ k4 =>
                                    have H := HA.out
                                    clear HA
                                    simp only [hornbooklaw11_MatchJoins.l1] at H
                                    by_cases c53 : x13_4 < (t411.length : Int)
                                    · rw [if_pos c53] at H
                                      have c53b0 : decide (x13_4 < (t411.length : Int)) = true := decide_eq_true c53
                                      clear c53
                                      obtain ⟨ji54, hji54⟩ : ∃ j_ : Int, (wrap64 (ji40 + x13_4)) = j_ := ⟨_, rfl⟩
                                      replace H : (if 0 ≤ (ji54) then (if (ji54) ≤ (wrap64 ((ji54) + 1)) then (if (wrap64 ((ji54) + 1)) ≤ (t396.length : Int) then ((hornbooklaw11_cut.f k4 ((t396.take ((wrap64 ((ji54) + 1)) : Int).toNat).drop ((ji54) : Int).toNat)).bind fun t418 => (if 0 < (t418.length : Int) then (if 0 ≤ ji40 then (if ji40 < (t396.length : Int) then (if 0 ≤ x13_4 then (if (!((wrap64 (((rd_T49 t418 0).f0) - ((rd_T30 t396 ji40).f0))) == ((rd_T49 t411 x13_4).f0)) || (!(((rd_T49 t418 0).f1) == ((rd_T49 t411 x13_4).f1)) || (!(((rd_T49 t418 0).f2) == ((rd_T49 t411 x13_4).f2)) || ((!(((rd_T49 t418 0).f3.f0) == ((rd_T49 t411 x13_4).f3.f0)) || (!(((rd_T49 t418 0).f3.f1) == ((rd_T49 t411 x13_4).f3.f1)))))))) = true then (some false) else (hornbooklaw11_MatchJoins.l1 k4 t395 t396 ji40 t411 (wrap64 (x13_4 + 1)))) else (none)) else (none)) else (none)) else (none))) else (none)) else (none)) else (none)) = some r := by first | (rw [hji54] at H; exact H) | (simp only [hji54] at H ⊢; exact H)
                                      have hji54w : (IntKind.i64.wrap (ji40 + x13_4)) = ji54 := (i64_w _).trans hji54
                                      by_cases c55 : 0 ≤ (ji54)
                                      · rw [if_pos c55] at H
                                        have c55b0 := eq_true c55
                                        have c55b1 : decide (0 ≤ (ji54)) = true := decide_eq_true c55
                                        clear c55
                                        by_cases c56 : (ji54) ≤ (wrap64 ((ji54) + 1))
                                        · rw [if_pos c56] at H
                                          have c56b0 := eq_true c56
                                          have c56b1 : decide ((ji54) ≤ (wrap64 ((ji54) + 1))) = true := decide_eq_true c56
                                          by_cases c57 : (wrap64 ((ji54) + 1)) ≤ (t396.length : Int)
                                          · rw [if_pos c57] at H
                                            have c57b0 := eq_true c57
                                            have c57b1 : decide ((wrap64 ((ji54) + 1)) ≤ (t396.length : Int)) = true := decide_eq_true c57
                                            obtain ⟨y414, hy414⟩ : ∃ y_ : List (S30), y_ = ((t396.take ((wrap64 ((ji54) + 1)) : Int).toNat).drop ((ji54) : Int).toNat) := ⟨_, rfl⟩
                                            replace H : ((hornbooklaw11_cut.f k4 y414).bind fun t418 => (if 0 < (t418.length : Int) then (if 0 ≤ ji40 then (if ji40 < (t396.length : Int) then (if 0 ≤ x13_4 then (if (!((wrap64 (((rd_T49 t418 0).f0) - ((rd_T30 t396 ji40).f0))) == ((rd_T49 t411 x13_4).f0)) || (!(((rd_T49 t418 0).f1) == ((rd_T49 t411 x13_4).f1)) || (!(((rd_T49 t418 0).f2) == ((rd_T49 t411 x13_4).f2)) || ((!(((rd_T49 t418 0).f3.f0) == ((rd_T49 t411 x13_4).f3.f0)) || (!(((rd_T49 t418 0).f3.f1) == ((rd_T49 t411 x13_4).f3.f1)))))))) = true then (some false) else (hornbooklaw11_MatchJoins.l1 k4 t395 t396 ji40 t411 (wrap64 (x13_4 + 1)))) else (none)) else (none)) else (none)) else (none))) = some r := by first | (rw [hy414]; with_reducible exact H) | (have H2_ := (Option.bind_some _ _).symm.trans H; rw [hy414]; with_reducible exact H2_) | (have H2_ := (Option.bind_some _ _).symm.trans H; with_reducible exact H2_) | with_reducible exact H | (rw [hy414]; exact H) | exact H
                                            have Ny414 := Aside0.mk hy414
                                            clear hy414
                                            replace H := Option.bind_eq_some_iff.mp H
                                            obtain ⟨t418, A580, H⟩ := H
                                            replace H : (if 0 < (t418.length : Int) then (if 0 ≤ ji40 then (if ji40 < (t396.length : Int) then (if 0 ≤ x13_4 then (if (!((wrap64 (((rd_T49 t418 0).f0) - ((rd_T30 t396 ji40).f0))) == ((rd_T49 t411 x13_4).f0)) || (!(((rd_T49 t418 0).f1) == ((rd_T49 t411 x13_4).f1)) || (!(((rd_T49 t418 0).f2) == ((rd_T49 t411 x13_4).f2)) || ((!(((rd_T49 t418 0).f3.f0) == ((rd_T49 t411 x13_4).f3.f0)) || (!(((rd_T49 t418 0).f3.f1) == ((rd_T49 t411 x13_4).f3.f1)))))))) = true then (some false) else (hornbooklaw11_MatchJoins.l1 k4 t395 t396 ji40 t411 (wrap64 (x13_4 + 1)))) else (none)) else (none)) else (none)) else (none)) = some r := H
                                            have A58 := Aside0.mk A580
                                            clear A580
                                            by_cases c59 : 0 < (t418.length : Int)
                                            · rw [if_pos c59] at H
                                              have c59b0 : decide (0 < (t418.length : Int)) = true := decide_eq_true c59
                                              have c59b1 : decide (0 < t418.length) = true := decide_eq_true (by omega)
                                              clear c59
                                              by_cases c60 : 0 ≤ ji40
                                              · rw [if_pos c60] at H
                                                have c60b0 : decide (0 ≤ ji40) = true := decide_eq_true c60
                                                clear c60
                                                by_cases c61 : ji40 < (t396.length : Int)
                                                · rw [if_pos c61] at H
                                                  have c61b0 : decide (ji40 < (t396.length : Int)) = true := decide_eq_true c61
                                                  clear c61
                                                  by_cases c62 : 0 ≤ x13_4
                                                  · rw [if_pos c62] at H
                                                    have c62b0 : decide (0 ≤ x13_4) = true := decide_eq_true c62
                                                    clear c62
                                                    by_cases c63 : (!((wrap64 (((rd_T49 t418 0).f0) - ((rd_T30 t396 ji40).f0))) == ((rd_T49 t411 x13_4).f0)) || (!(((rd_T49 t418 0).f1) == ((rd_T49 t411 x13_4).f1)) || (!(((rd_T49 t418 0).f2) == ((rd_T49 t411 x13_4).f2)) || ((!(((rd_T49 t418 0).f3.f0) == ((rd_T49 t411 x13_4).f3.f0)) || (!(((rd_T49 t418 0).f3.f1) == ((rd_T49 t411 x13_4).f3.f1)))))))) = true
                                                    · rw [if_pos c63] at H
                                                      have c63b0 : (!((wrap64 (((rd_T49 t418 0).f0) - ((rd_T30 t396 ji40).f0))) == ((rd_T49 t411 x13_4).f0)) || (!(((rd_T49 t418 0).f1) == ((rd_T49 t411 x13_4).f1)) || (!(((rd_T49 t418 0).f2) == ((rd_T49 t411 x13_4).f2)) || ((!(((rd_T49 t418 0).f3.f0) == ((rd_T49 t411 x13_4).f3.f0)) || (!(((rd_T49 t418 0).f3.f1) == ((rd_T49 t411 x13_4).f3.f1)))))))) = true := c63
                                                      clear c63
                                                      obtain rfl := Option.some.inj H
                                                      have q64 : ((wrap64 ((ji54) + 1)) : Int) ≤ ((t396.length : Int) : Int) := of_decide_eq_true (by first | (with_reducible assumption) | assumption)
                                                      obtain ⟨i064, hi064, _, hsz64, _⟩ := info_parts info30
                                                      have hroom64 : t396.length ≤ co21 := (Kd.R_reads' HO_8.out).2.1
                                                      have hC64 : Kd.C k30 _ (some ad406) t396.length t396 := (Kd.R_reads' HO_8.out).2.2
                                                      have ql64 : ((ji54) : Int) ≤ ((wrap64 ((ji54) + 1)) : Int) := of_decide_eq_true (by first | (with_reducible assumption) | assumption)
                                                      have q064 : (0 : Int) ≤ ((ji54) : Int) := of_decide_eq_true (by first | (with_reducible assumption) | assumption)
                                                      have hcut64 := cut_mid (P := Try.prog) 25 30 .i64 .i64 Try.underlying25 hi064 5 hsz64 (some ad406) t396.length co21 (ji54) (wrap64 ((ji54) + 1)) q064 ql64 q64 hroom64
                                                      have hr64 := Kd.C_mid (lo := ((ji54) : Int).toNat) (hi := ((wrap64 ((ji54) + 1)) : Int).toNat) (c := co21) hC64 (by omega) (by omega) hroom64
                                                      obtain ⟨A64, hA64⟩ : ∃ Aq_, Aq_ = (if co21 = ((ji54) : Int).toNat then (some ad406) else ((some ad406) : Option Addr).map (·.add (((ji54) : Int).toNat * 5))) := ⟨_, rfl⟩
                                                      obtain ⟨c64, hc64⟩ : ∃ cq_, cq_ = co21 - ((ji54) : Int).toNat := ⟨_, rfl⟩
                                                      have hy64 : y414.length = ((wrap64 ((ji54) + 1)) : Int).toNat - ((ji54) : Int).toNat := (by rw [Ny414.out, List.length_drop, List.length_take] <;> omega)
                                                      rw [show ((t396).take ((wrap64 ((ji54) + 1)) : Int).toNat).drop ((ji54) : Int).toNat = y414 from Ny414.out.symm] at hr64
                                                      replace hr64 : Kd.C k30 _ A64 y414.length y414 := (by rw [hA64]; exact hr64)
                                                      rw [← hy64, ← hA64, ← hc64] at hcut64
                                                      have HR417 := Aside0.mk hr64
                                                      have HC417 := Aside0.mk (show y414.length ≤ c64 from by rw [hy64, hc64]; exact Nat.sub_le_sub_right (Nat.le_trans (by omega) hroom64) _)
                                                      clear hr64 hC64 hroom64 hi064 hsz64 hc64
                                                      have KY64 := Aside0.mk hy64
                                                      have KA64 := Aside0.mk hA64
                                                      clear hy64 hA64
                                                      have KL64 := Aside0.mk (show ((wrap64 ((ji54) + 1)) : Int).toNat ≤ t396.length from by omega)
                                                      have KM64 := Aside0.mk (show ((ji54) : Int).toNat ≤ ((wrap64 ((ji54) + 1)) : Int).toNat from by omega)
                                                      replace q64 := eq_true q64
                                                      try go_wp2_with (first | ((with_reducible refine gate_callee (f := 16) rfl ?_); refine goesL_ (some 130) rfl rfl Try.func16 (by kernel_rfl) rfl #[.slice A64 y414.length c64] rfl (by (try simp only [List.map_toArray, List.map_cons, List.map_nil]); first | done | rfl | (simp only [List.length_drop, List.length_take]; rfl)) ?_; (with_reducible refine (hornbooklaw11_cut.calls k4 _ _ y414 t418 _ ?side1 ?side2 A58.out).mono ?_); (case side1 => repeat (first | exact (by repeat (first | (with_reducible exact HR417.out) | (with_reducible refine Kd.C_alloc ?_ _) | (with_reducible refine Kd.C_drewN ?_ _) | (with_reducible refine Kd.C_drew ?_) | exact HR417.out)) | (with_reducible refine Kd.C_alloc ?_ _) | (with_reducible refine Kd.C_drewN ?_ _) | (with_reducible refine Kd.C_drew ?_))); (case side2 => exact HC417.out); rintro e w65 ⟨v419, rfl, ho0, hb⟩; refine ⟨_, rfl, ?_⟩; have n0_ := Aside0.mk (Kd.R_below (by (with_reducible repeat (first | apply Kd.R_alloc | apply Kd.R_drewN | apply Kd.R_drew)); exact HO_8.out) hb); have n1_ := Aside0.mk (Kd.R_elder' (by (with_reducible repeat (first | apply Kd.R_alloc | apply Kd.R_drewN | apply Kd.R_drew)); exact HO_12.out) (Kd.R_base ho0) hb); have n2_ := Aside0.mk (Kd.R_lower (Kd.R_new' ho0 (Kd.R_lt (by (with_reducible repeat (first | apply Kd.R_alloc | apply Kd.R_drewN | apply Kd.R_drew)); exact HO_12.out))) (below_size (by repeat (first | (with_reducible first | exact HB.out | apply below_alloc | apply pw_below_drewN | apply below_drew1) | exact HB.out)))); have n3_ := Aside0.mk (Kd.C_below (by repeat (first | (with_reducible exact HR417.out) | (with_reducible refine Kd.C_alloc ?_ _) | (with_reducible refine Kd.C_drewN ?_ _) | (with_reducible refine Kd.C_drew ?_) | exact HR417.out)) hb); have n4_ := Aside0.mk (below_step (by repeat (first | (with_reducible first | exact HB.out | apply below_alloc | apply pw_below_drewN | apply below_drew1) | exact HB.out)) hb); clear HO_8; clear HO_12; clear HR417; clear HB; have HO_8 := n0_; have HO_12 := n1_; have HO420 := n2_; have HR417 := n3_; have HB := n4_; clear n0_ n1_ n2_ n3_ n4_; (try clear hb); (try clear hb2); (try clear hk); (try clear hi); (try clear ho0); obtain ⟨Ao66, co66, eo66⟩ := Kd.R_slice HO420.out; subst eo66; have p421 : 0 ≤ (0 : Int) := (by omega); have q421 : 0 < (t418.length : Int) := of_decide_eq_true (by first | (with_reducible assumption) | assumption); obtain ⟨ad421, e421, hx421_0, hx421_1, hx421_2, hx421_3, hx421_4⟩ := at_T49 (Kd.R_reads' HO420.out).2.2 0 p421 q421; cases e421; have qi421 : (0 < t418.length) = True := eq_true (by omega); (try rw [show ((0 : Int)).toNat = 0 from rfl] at hx421_0); (try rw [show 0 * 5 = 0 from rfl] at hx421_0); (try rw [Addr.add_zero'] at hx421_0); (try rw [show ((0 : Int)).toNat = 0 from rfl] at hx421_1); (try rw [show 0 * 5 = 0 from rfl] at hx421_1); (try rw [Addr.add_zero'] at hx421_1); (try rw [show ((0 : Int)).toNat = 0 from rfl] at hx421_2); (try rw [show 0 * 5 = 0 from rfl] at hx421_2); (try rw [Addr.add_zero'] at hx421_2); (try rw [show ((0 : Int)).toNat = 0 from rfl] at hx421_3); (try rw [show 0 * 5 = 0 from rfl] at hx421_3); (try rw [Addr.add_zero'] at hx421_3); (try rw [show ((0 : Int)).toNat = 0 from rfl] at hx421_4); (try rw [show 0 * 5 = 0 from rfl] at hx421_4); (try rw [Addr.add_zero'] at hx421_4); replace p421 := eq_true p421; replace q421 := eq_true q421) | ((with_reducible refine gate_dst (N := 14) rfl ?_); (try (refine gate_guard (by rfl) ?_; dsimp only)); refine box_event ?hg (N := 14) ?hd (cs := #[.int .i64 0, .int .i64 0, .bool false, .int .i64 0, .int .i64 0]) (t := 49) ?hr ?_; (case hd => rfl); (case hg => rfl); (case hr => first | (go_simp; done) | (go_simp; rfl)); intro gb422 hg w67 hbox hb; have n0_ := Aside0.mk (Kd.R_below (by (with_reducible repeat (first | apply Kd.R_alloc | apply Kd.R_drewN | apply Kd.R_drew)); exact HO_8.out) hb); have n1_ := Aside0.mk (Kd.R_below (Kd.R_elderB (by (with_reducible repeat (first | apply Kd.R_alloc | apply Kd.R_drewN | apply Kd.R_drew)); exact HO_12.out) gb422 (Nat.le_of_eq hg.symm)) hb); have n2_ := Aside0.mk (Kd.R_below (Kd.R_elderB (by (with_reducible repeat (first | apply Kd.R_alloc | apply Kd.R_drewN | apply Kd.R_drew)); exact HO420.out) gb422 (Nat.le_of_eq hg.symm)) hb); have n3_ := Aside0.mk (Kd.C_below (by repeat (first | (with_reducible exact HR417.out) | (with_reducible refine Kd.C_alloc ?_ _) | (with_reducible refine Kd.C_drewN ?_ _) | (with_reducible refine Kd.C_drew ?_) | exact HR417.out)) hb); have n4_ := Aside0.mk (below_step (by repeat (first | (with_reducible first | exact HB.out | apply below_alloc | apply pw_below_drewN | apply below_drew1) | exact HB.out)) hb); have n5_ := Aside0.mk (hbox); have n6_ := Aside0.mk ((by rw [hg]; exact (below_size (by repeat (first | (with_reducible first | exact HB.out | apply below_alloc | apply pw_below_drewN | apply below_drew1) | exact HB.out))) : w.heap.size ≤ gb422)); have n7_ := Aside0.mk ((by rw [hg]; exact (below_size (by repeat (first | (with_reducible first | exact HB.out | apply below_alloc | apply pw_below_drewN | apply below_drew1) | exact HB.out))) : w.heap.size ≤ gb422)); clear HO_8; clear HO_12; clear HO420; clear HR417; clear HB; have HO_8 := n0_; have HO_12 := n1_; have HO420 := n2_; have HR417 := n3_; have HB := n4_; have BK422 := n5_; have GW422 := n6_; have GE422 := n7_; clear n0_ n1_ n2_ n3_ n4_ n5_ n6_ n7_; clear hb hbox hg; have hcz68_0 : w67.cell? ⟨gb422, 0, none⟩ = some (.int .i64 0) := (blk_cell BK422.out 0).trans rfl; have hcz68_1 : w67.cell? ⟨gb422, 1, none⟩ = some (.int .i64 0) := (blk_cell BK422.out 1).trans rfl; have hcz68_2 : w67.cell? ⟨gb422, 2, none⟩ = some (.bool false) := (blk_cell BK422.out 2).trans rfl; have hcz68_3 : w67.cell? ⟨gb422, 3, none⟩ = some (.int .i64 0) := (blk_cell BK422.out 3).trans rfl; have hcz68_4 : w67.cell? ⟨gb422, 4, none⟩ = some (.int .i64 0) := (blk_cell BK422.out 4).trans rfl; have hfz68_0 := blk_frozen BK422.out 0; have hfz68_1 := blk_frozen BK422.out 1; have hfz68_2 := blk_frozen BK422.out 2; have hfz68_3 := blk_frozen BK422.out 3; have hfz68_4 := blk_frozen BK422.out 4))
                                                      have n0_ : Aside0 (Kd.R k30 30 (((((w67.setCell ⟨gb422, 0, none⟩ (.int .i64 ((rd_T49 t418 0).f0))).setCell ⟨gb422, 1, none⟩ (.int .i64 ((rd_T49 t418 0).f1))).setCell ⟨gb422, 2, none⟩ (.bool ((rd_T49 t418 0).f2))).setCell ⟨gb422, 3, none⟩ (.int .i64 ((rd_T49 t418 0).f3.f0))).setCell ⟨gb422, 4, none⟩ (.int .i64 ((rd_T49 t418 0).f3.f1))) w.heap.size (fun _ => True) (.slice (some ad406) t396.length co21) t396) := ⟨by (with_reducible repeat (first | apply Kd.R_alloc | apply Kd.R_drewN | apply Kd.R_drew)); exact Kd.R_mono (Kd.R_far (p := ⟨gb422, 4, none⟩) (Kd.R_far (p := ⟨gb422, 3, none⟩) (Kd.R_far (p := ⟨gb422, 2, none⟩) (Kd.R_far (p := ⟨gb422, 1, none⟩) (Kd.R_far (p := ⟨gb422, 0, none⟩) (Kd.R_types HO_8.out BK422.out (by decide)) (fun _ hk => hk.2) (.int .i64 ((rd_T49 t418 0).f0))) (fun _ hk => hk.2) (.int .i64 ((rd_T49 t418 0).f1))) (fun _ hk => hk.2) (.bool ((rd_T49 t418 0).f2))) (fun _ hk => hk.2) (.int .i64 ((rd_T49 t418 0).f3.f0))) (fun _ hk => hk.2) (.int .i64 ((rd_T49 t418 0).f3.f1))) (fun _ hk => trivial)⟩
                                                      have n1_ : Aside0 (Kd.R k49 49 (((((w67.setCell ⟨gb422, 0, none⟩ (.int .i64 ((rd_T49 t418 0).f0))).setCell ⟨gb422, 1, none⟩ (.int .i64 ((rd_T49 t418 0).f1))).setCell ⟨gb422, 2, none⟩ (.bool ((rd_T49 t418 0).f2))).setCell ⟨gb422, 3, none⟩ (.int .i64 ((rd_T49 t418 0).f3.f0))).setCell ⟨gb422, 4, none⟩ (.int .i64 ((rd_T49 t418 0).f3.f1))) w.heap.size (fun k_ => some k_ ≠ (.slice (some ad421) t418.length co66 : Value).ownBlock ∧ k_ ≠ gb422) (.slice Ao52 t411.length co52) t411) := ⟨by (with_reducible repeat (first | apply Kd.R_alloc | apply Kd.R_drewN | apply Kd.R_drew)); exact Kd.R_mono (Kd.R_far (p := ⟨gb422, 4, none⟩) (Kd.R_far (p := ⟨gb422, 3, none⟩) (Kd.R_far (p := ⟨gb422, 2, none⟩) (Kd.R_far (p := ⟨gb422, 1, none⟩) (Kd.R_far (p := ⟨gb422, 0, none⟩) (Kd.R_mono HO_12.out (fun k_ hk => (⟨hk, hk.2⟩ : _ ∧ k_ ≠ gb422))) (fun _ hk => hk.2) (.int .i64 ((rd_T49 t418 0).f0))) (fun _ hk => hk.2) (.int .i64 ((rd_T49 t418 0).f1))) (fun _ hk => hk.2) (.bool ((rd_T49 t418 0).f2))) (fun _ hk => hk.2) (.int .i64 ((rd_T49 t418 0).f3.f0))) (fun _ hk => hk.2) (.int .i64 ((rd_T49 t418 0).f3.f1))) (fun _ hk => ⟨hk.1.1.2, hk.1.2⟩)⟩
                                                      have n2_ : Aside0 (Kd.R k49 49 (((((w67.setCell ⟨gb422, 0, none⟩ (.int .i64 ((rd_T49 t418 0).f0))).setCell ⟨gb422, 1, none⟩ (.int .i64 ((rd_T49 t418 0).f1))).setCell ⟨gb422, 2, none⟩ (.bool ((rd_T49 t418 0).f2))).setCell ⟨gb422, 3, none⟩ (.int .i64 ((rd_T49 t418 0).f3.f0))).setCell ⟨gb422, 4, none⟩ (.int .i64 ((rd_T49 t418 0).f3.f1))) w.heap.size (fun k_ => some k_ ≠ (.slice Ao52 t411.length co52 : Value).ownBlock ∧ k_ ≠ gb422) (.slice (some ad421) t418.length co66) t418) := ⟨by (with_reducible repeat (first | apply Kd.R_alloc | apply Kd.R_drewN | apply Kd.R_drew)); exact Kd.R_mono (Kd.R_far (p := ⟨gb422, 4, none⟩) (Kd.R_far (p := ⟨gb422, 3, none⟩) (Kd.R_far (p := ⟨gb422, 2, none⟩) (Kd.R_far (p := ⟨gb422, 1, none⟩) (Kd.R_far (p := ⟨gb422, 0, none⟩) (Kd.R_mono HO420.out (fun k_ hk => (⟨hk, hk.2⟩ : _ ∧ k_ ≠ gb422))) (fun _ hk => hk.2) (.int .i64 ((rd_T49 t418 0).f0))) (fun _ hk => hk.2) (.int .i64 ((rd_T49 t418 0).f1))) (fun _ hk => hk.2) (.bool ((rd_T49 t418 0).f2))) (fun _ hk => hk.2) (.int .i64 ((rd_T49 t418 0).f3.f0))) (fun _ hk => hk.2) (.int .i64 ((rd_T49 t418 0).f3.f1))) (fun _ hk => ⟨hk.1.1.2, hk.1.2⟩)⟩
                                                      have n3_ : Aside0 ((((((w67.setCell ⟨gb422, 0, none⟩ (.int .i64 ((rd_T49 t418 0).f0))).setCell ⟨gb422, 1, none⟩ (.int .i64 ((rd_T49 t418 0).f1))).setCell ⟨gb422, 2, none⟩ (.bool ((rd_T49 t418 0).f2))).setCell ⟨gb422, 3, none⟩ (.int .i64 ((rd_T49 t418 0).f3.f0))).setCell ⟨gb422, 4, none⟩ (.int .i64 ((rd_T49 t418 0).f3.f1))).heap[gb422]? = some (.cells #[.int .i64 ((rd_T49 t418 0).f0), .int .i64 ((rd_T49 t418 0).f1), .bool ((rd_T49 t418 0).f2), .int .i64 ((rd_T49 t418 0).f3.f0), .int .i64 ((rd_T49 t418 0).f3.f1)] 49 (0, 0))) := ⟨by (with_reducible repeat (first | refine blk_drewN ?_ _ | refine blk_drew ?_ | refine blk_alloc ?_ _)); refine blk_put (cs := #[.int .i64 ((rd_T49 t418 0).f0), .int .i64 ((rd_T49 t418 0).f1), .bool ((rd_T49 t418 0).f2), .int .i64 ((rd_T49 t418 0).f3.f0), .int .i64 0]) ?_ 4 _ rfl; (with_reducible repeat (first | refine blk_drewN ?_ _ | refine blk_drew ?_ | refine blk_alloc ?_ _)); refine blk_put (cs := #[.int .i64 ((rd_T49 t418 0).f0), .int .i64 ((rd_T49 t418 0).f1), .bool ((rd_T49 t418 0).f2), .int .i64 0, .int .i64 0]) ?_ 3 _ rfl; (with_reducible repeat (first | refine blk_drewN ?_ _ | refine blk_drew ?_ | refine blk_alloc ?_ _)); refine blk_put (cs := #[.int .i64 ((rd_T49 t418 0).f0), .int .i64 ((rd_T49 t418 0).f1), .bool false, .int .i64 0, .int .i64 0]) ?_ 2 _ rfl; (with_reducible repeat (first | refine blk_drewN ?_ _ | refine blk_drew ?_ | refine blk_alloc ?_ _)); refine blk_put (cs := #[.int .i64 ((rd_T49 t418 0).f0), .int .i64 0, .bool false, .int .i64 0, .int .i64 0]) ?_ 1 _ rfl; (with_reducible repeat (first | refine blk_drewN ?_ _ | refine blk_drew ?_ | refine blk_alloc ?_ _)); refine blk_put (cs := #[.int .i64 0, .int .i64 0, .bool false, .int .i64 0, .int .i64 0]) ?_ 0 _ rfl; (with_reducible repeat (first | refine blk_drewN ?_ _ | refine blk_drew ?_ | refine blk_alloc ?_ _)); exact BK422.out⟩
                                                      have n4_ : Aside0 (Below w.heap.size w (((((w67.setCell ⟨gb422, 0, none⟩ (.int .i64 ((rd_T49 t418 0).f0))).setCell ⟨gb422, 1, none⟩ (.int .i64 ((rd_T49 t418 0).f1))).setCell ⟨gb422, 2, none⟩ (.bool ((rd_T49 t418 0).f2))).setCell ⟨gb422, 3, none⟩ (.int .i64 ((rd_T49 t418 0).f3.f0))).setCell ⟨gb422, 4, none⟩ (.int .i64 ((rd_T49 t418 0).f3.f1)))) := ⟨by repeat (first | (with_reducible first | exact HB.out | apply below_alloc | apply pw_below_drewN | apply below_drew1 | refine below_set ?_ GE422.out) | exact HB.out)⟩
                                                      (try clear HO_8)
                                                      (try clear HO_12)
                                                      (try clear HO420)
                                                      (try clear BK422)
                                                      (try clear HB)
                                                      generalize (((((w67.setCell ⟨gb422, 0, none⟩ (.int .i64 ((rd_T49 t418 0).f0))).setCell ⟨gb422, 1, none⟩ (.int .i64 ((rd_T49 t418 0).f1))).setCell ⟨gb422, 2, none⟩ (.bool ((rd_T49 t418 0).f2))).setCell ⟨gb422, 3, none⟩ (.int .i64 ((rd_T49 t418 0).f3.f0))).setCell ⟨gb422, 4, none⟩ (.int .i64 ((rd_T49 t418 0).f3.f1))) = w69 at n0_ n1_ n2_ n3_ n4_ ⊢
                                                      have HO_8 := n0_
                                                      have HO_12 := n1_
                                                      have HO420 := n2_
                                                      have BK422 := n3_
                                                      have HB := n4_
                                                      clear n0_ n1_ n2_ n3_ n4_
                                                      have n0_ := Aside0.mk (Kd.R_drew HO_8.out)
                                                      have n1_ := Aside0.mk (Kd.R_drew HO_12.out)
                                                      have n2_ := Aside0.mk (Kd.R_drew HO420.out)
                                                      have n3_ := Aside0.mk (blk_drew BK422.out)
                                                      have n4_ := Aside0.mk (below_drew1 HB.out)
                                                      clear HO_8
                                                      clear HO_12
                                                      clear HO420
                                                      clear BK422
                                                      clear HB
                                                      have HO_8 := n0_
                                                      have HO_12 := n1_
                                                      have HO420 := n2_
                                                      have BK422 := n3_
                                                      have HB := n4_
                                                      clear n0_ n1_ n2_ n3_ n4_
                                                      have p423 : 0 ≤ (ji40 : Int) := of_decide_eq_true (by first | (with_reducible assumption) | assumption)
                                                      have q423 : ji40 < (t396.length : Int) := of_decide_eq_true (by first | (with_reducible assumption) | assumption)
                                                      obtain ⟨ad423, e423, hx423_0, hx423_1, hx423_2, hx423_3, hx423_4⟩ := at_T30 (Kd.R_reads' HO_8.out).2.2 ji40 p423 q423
                                                      obtain rfl : ad406 = ad423 := (by injection e423)
                                                      replace p423 := eq_true p423
                                                      replace q423 := eq_true q423
                                                      refine start_ (n := 10) (S := fun w' => w'.cell? ⟨gb422, 0, none⟩ = some (.int .i64 ((rd_T49 t418 0).f0)) ∧ w'.cell? ⟨gb422, 1, none⟩ = some (.int .i64 ((rd_T49 t418 0).f1)) ∧ w'.cell? ⟨gb422, 2, none⟩ = some (.bool ((rd_T49 t418 0).f2)) ∧ w'.cell? ⟨gb422, 3, none⟩ = some (.int .i64 ((rd_T49 t418 0).f3.f0)) ∧ w'.cell? ⟨gb422, 4, none⟩ = some (.int .i64 ((rd_T49 t418 0).f3.f1)) ∧ w'.cell? (ad406.add ((ji40).toNat * 5)) = some (.int .i64 ((rd_T30 t396 ji40).f0)) ∧ w'.cell? ⟨(ad406.add ((ji40).toNat * 5)).block, (ad406.add ((ji40).toNat * 5)).off + 1, none⟩ = some (.int .i64 ((rd_T30 t396 ji40).f1)) ∧ w'.cell? ⟨(ad406.add ((ji40).toNat * 5)).block, (ad406.add ((ji40).toNat * 5)).off + 2, none⟩ = some (.bool ((rd_T30 t396 ji40).f2)) ∧ w'.cell? ⟨(ad406.add ((ji40).toNat * 5)).block, (ad406.add ((ji40).toNat * 5)).off + 3, none⟩ = some (.int .i64 ((rd_T30 t396 ji40).f3.f0)) ∧ w'.cell? ⟨(ad406.add ((ji40).toNat * 5)).block, (ad406.add ((ji40).toNat * 5)).off + 4, none⟩ = some (.int .i64 ((rd_T30 t396 ji40).f3.f1))) (ds := [9]) #[false, false, false, false, false, false, false, false, false, false] (by kernel_rfl) rfl rfl ⟨(blk_cell BK422.out 0).trans rfl, (blk_cell BK422.out 1).trans rfl, (blk_cell BK422.out 2).trans rfl, (blk_cell BK422.out 3).trans rfl, (blk_cell BK422.out 4).trans rfl, hx423_0, hx423_1, hx423_2, hx423_3, hx423_4⟩ (fun hHeld => ?_); refine with_tabW hornbooklaw11_MatchJoins.tab22 hornbooklaw11_MatchJoins.bits22 (fun HT_ HW_ => ?_)
                                                      generalize w69.drew = w70 at HO_8 HO_12 HO420 BK422 HB hx423_0 hx423_1 hx423_2 hx423_3 hx423_4 hHeld ⊢
                                                      refine pure_ (i := 0) (N := some 133) (v := ?_) (a' := ?_) #[true, false, false, false, false, false, false, false, false, false] rfl rfl (any_of HT_.out (by kernel_rfl)) (fun _ _ _ h => h) (Or.inl ⟨by rfl, ?_⟩) ?_ ?_
                                                      rotate_left
                                                      · intro w'
                                                        go_simp
                                                        with_reducible rfl
                                                      rotate_left
                                                      · simp only [Act.put, List.setIfInBounds_toArray, List.set_cons_zero, List.set_cons_succ, i64_w, i32_w]
                                                        rfl
                                                      refine pure_ (i := 2) (N := some 135) (v := ?_) (a' := ?_) #[true, false, true, false, false, false, false, false, false, false] rfl rfl (any_of HT_.out (by kernel_rfl)) (fun _ _ _ h => h) (Or.inl ⟨by rfl, ?_⟩) ?_ ?_
                                                      rotate_left
                                                      · intro w'
                                                        go_simp
                                                        with_reducible rfl
                                                      rotate_left
                                                      · simp only [Act.put, List.setIfInBounds_toArray, List.set_cons_zero, List.set_cons_succ, i64_w, i32_w]
                                                        rfl
                                                      refine pure_ (i := 3) (N := some 136) (v := ?_) (a' := ?_) #[true, false, true, true, false, false, false, false, false, false] rfl rfl (any_of HT_.out (by kernel_rfl)) (fun _ _ _ h => h) (Or.inl ⟨by rfl, ?_⟩) ?_ ?_
                                                      rotate_left
                                                      · intro w'
                                                        go_simp
                                                        with_reducible rfl
                                                      rotate_left
                                                      · simp only [Act.put, List.setIfInBounds_toArray, List.set_cons_zero, List.set_cons_succ, i64_w, i32_w]
                                                        rfl
                                                      refine pure_ (i := 4) (N := some 137) (v := ?_) (a' := ?_) #[true, false, true, true, true, false, false, false, false, false] rfl rfl (any_of HT_.out (by kernel_rfl)) (fun _ _ _ h => h) (Or.inl ⟨by rfl, ?_⟩) ?_ ?_
                                                      rotate_left
                                                      · intro w'
                                                        go_simp
                                                        with_reducible rfl
                                                      rotate_left
                                                      · simp only [Act.put, List.setIfInBounds_toArray, List.set_cons_zero, List.set_cons_succ, i64_w, i32_w]
                                                        rfl
                                                      refine pure_ (i := 5) (N := some 138) (v := ?_) (a' := ?_) #[true, false, true, true, true, true, false, false, false, false] rfl rfl (any_of HT_.out (by kernel_rfl)) (fun _ _ _ h => h) (Or.inl ⟨by rfl, ?_⟩) ?_ ?_
                                                      rotate_left
                                                      · intro w'
                                                        go_simp
                                                        with_reducible rfl
                                                      rotate_left
                                                      · simp only [Act.put, List.setIfInBounds_toArray, List.set_cons_zero, List.set_cons_succ, i64_w, i32_w]
                                                        rfl
                                                      refine take_ (i := 1) (N := some 134) (v := ?_) (a' := ?_) #[true, true, true, true, true, true, false, false, false, false] rfl rfl (take_ofW HT_.out HW_.out (by kernel_rfl)) (fun _ _ _ h => h) (Or.inl ⟨by rfl, ?_⟩) hHeld ?_ ?_
                                                      rotate_left
                                                      · rintro w' ⟨s0, s1, s2, s3, s4, s5, s6, s7, s8, s9⟩
                                                        go_simp
                                                        with_reducible rfl
                                                      rotate_left
                                                      · simp only [Act.put, List.setIfInBounds_toArray, List.set_cons_zero, List.set_cons_succ, i64_w, i32_w]
                                                        rfl
                                                      refine take_ (i := 6) (N := some 139) (v := ?_) (a' := ?_) #[true, true, true, true, true, true, true, false, false, false] rfl rfl (take_ofW HT_.out HW_.out (by kernel_rfl)) (fun _ _ _ h => h) (Or.inl ⟨by rfl, ?_⟩) hHeld ?_ ?_
                                                      rotate_left
                                                      · rintro w' ⟨s0, s1, s2, s3, s4, s5, s6, s7, s8, s9⟩
                                                        go_simp
                                                        with_reducible rfl
                                                      rotate_left
                                                      · simp only [Act.put, List.setIfInBounds_toArray, List.set_cons_zero, List.set_cons_succ, i64_w, i32_w]
                                                        rfl
                                                      refine pure_ (i := 7) (N := some 140) (v := ?_) (a' := ?_) #[true, true, true, true, true, true, true, true, false, false] rfl rfl (any_of HT_.out (by kernel_rfl)) (fun _ _ _ h => h) (Or.inl ⟨by rfl, ?_⟩) ?_ ?_
                                                      rotate_left
                                                      · intro w'
                                                        go_simp
                                                        with_reducible rfl
                                                      rotate_left
                                                      · simp only [Act.put, List.setIfInBounds_toArray, List.set_cons_zero, List.set_cons_succ, i64_w, i32_w]
                                                        rfl
                                                      refine pure_ (i := 8) (N := some 141) (v := ?_) (a' := ?_) #[true, true, true, true, true, true, true, true, true, false] rfl rfl (any_of HT_.out (by kernel_rfl)) (fun _ _ _ h => h) (Or.inl ⟨by rfl, ?_⟩) ?_ ?_
                                                      rotate_left
                                                      · intro w'
                                                        go_simp
                                                        with_reducible rfl
                                                      rotate_left
                                                      · simp only [Act.put, List.setIfInBounds_toArray, List.set_cons_zero, List.set_cons_succ, i64_w, i32_w]
                                                        rfl
                                                      refine last_ (i := 9) (N := none) #[true, true, true, true, true, true, true, true, true, true] rfl rfl (one_of HT_.out (by kernel_rfl)) (by decide) (fun K hK => ?_)
                                                      have hs71 : w70.cell? ⟨gb422, 0, none⟩ = some (.int .i64 ((rd_T49 t418 0).f0)) := (blk_cell BK422.out 0).trans rfl
                                                      have hfs71 := blk_frozen BK422.out 0
                                                      refine skip_ (w1 := ?_) (by rfl) rfl ?_ ?_
                                                      rotate_left
                                                      · go_simp
                                                        rfl
                                                      refine hK.out _ _ ?_
                                                      clear hK K
                                                      refine done_ (done_of HT_.out (by kernel_rfl)) ?_
                                                      try go_wp2
                                                      have n0_ : Aside0 (Kd.R k30 30 (w70.setCell ⟨gb422, 0, none⟩ (.int .i64 (wrap64 (((rd_T49 t418 0).f0) - ((rd_T30 t396 ji40).f0))))) w.heap.size (fun _ => True) (.slice (some ad406) t396.length co21) t396) := ⟨by (with_reducible repeat (first | apply Kd.R_alloc | apply Kd.R_drewN | apply Kd.R_drew)); exact Kd.R_mono (Kd.R_far (p := ⟨gb422, 0, none⟩) (Kd.R_types HO_8.out BK422.out (by decide)) (fun _ hk => hk.2) (.int .i64 (wrap64 (((rd_T49 t418 0).f0) - ((rd_T30 t396 ji40).f0))))) (fun _ hk => trivial)⟩
                                                      have n1_ : Aside0 (Kd.R k49 49 (w70.setCell ⟨gb422, 0, none⟩ (.int .i64 (wrap64 (((rd_T49 t418 0).f0) - ((rd_T30 t396 ji40).f0))))) w.heap.size (fun k_ => some k_ ≠ (.slice (some ad421) t418.length co66 : Value).ownBlock ∧ k_ ≠ gb422) (.slice Ao52 t411.length co52) t411) := ⟨by (with_reducible repeat (first | apply Kd.R_alloc | apply Kd.R_drewN | apply Kd.R_drew)); exact Kd.R_mono (Kd.R_far (p := ⟨gb422, 0, none⟩) (Kd.R_mono HO_12.out (fun k_ hk => (⟨hk, hk.2⟩ : _ ∧ k_ ≠ gb422))) (fun _ hk => hk.2) (.int .i64 (wrap64 (((rd_T49 t418 0).f0) - ((rd_T30 t396 ji40).f0))))) (fun _ hk => ⟨hk.1.1, hk.1.2⟩)⟩
                                                      have n2_ : Aside0 (Kd.R k49 49 (w70.setCell ⟨gb422, 0, none⟩ (.int .i64 (wrap64 (((rd_T49 t418 0).f0) - ((rd_T30 t396 ji40).f0))))) w.heap.size (fun k_ => some k_ ≠ (.slice Ao52 t411.length co52 : Value).ownBlock ∧ k_ ≠ gb422) (.slice (some ad421) t418.length co66) t418) := ⟨by (with_reducible repeat (first | apply Kd.R_alloc | apply Kd.R_drewN | apply Kd.R_drew)); exact Kd.R_mono (Kd.R_far (p := ⟨gb422, 0, none⟩) (Kd.R_mono HO420.out (fun k_ hk => (⟨hk, hk.2⟩ : _ ∧ k_ ≠ gb422))) (fun _ hk => hk.2) (.int .i64 (wrap64 (((rd_T49 t418 0).f0) - ((rd_T30 t396 ji40).f0))))) (fun _ hk => ⟨hk.1.1, hk.1.2⟩)⟩
                                                      have n3_ : Aside0 ((w70.setCell ⟨gb422, 0, none⟩ (.int .i64 (wrap64 (((rd_T49 t418 0).f0) - ((rd_T30 t396 ji40).f0))))).heap[gb422]? = some (.cells #[.int .i64 (wrap64 (((rd_T49 t418 0).f0) - ((rd_T30 t396 ji40).f0))), .int .i64 ((rd_T49 t418 0).f1), .bool ((rd_T49 t418 0).f2), .int .i64 ((rd_T49 t418 0).f3.f0), .int .i64 ((rd_T49 t418 0).f3.f1)] 49 (0, 0))) := ⟨by (with_reducible repeat (first | refine blk_drewN ?_ _ | refine blk_drew ?_ | refine blk_alloc ?_ _)); refine blk_put (cs := #[.int .i64 ((rd_T49 t418 0).f0), .int .i64 ((rd_T49 t418 0).f1), .bool ((rd_T49 t418 0).f2), .int .i64 ((rd_T49 t418 0).f3.f0), .int .i64 ((rd_T49 t418 0).f3.f1)]) ?_ 0 _ rfl; (with_reducible repeat (first | refine blk_drewN ?_ _ | refine blk_drew ?_ | refine blk_alloc ?_ _)); exact BK422.out⟩
                                                      have n4_ : Aside0 (Below w.heap.size w (w70.setCell ⟨gb422, 0, none⟩ (.int .i64 (wrap64 (((rd_T49 t418 0).f0) - ((rd_T30 t396 ji40).f0)))))) := ⟨by repeat (first | (with_reducible first | exact HB.out | apply below_alloc | apply pw_below_drewN | apply below_drew1 | refine below_set ?_ GE422.out) | exact HB.out)⟩
                                                      (try clear HO_8)
                                                      (try clear HO_12)
                                                      (try clear HO420)
                                                      (try clear BK422)
                                                      (try clear HB)
                                                      generalize (w70.setCell ⟨gb422, 0, none⟩ (.int .i64 (wrap64 (((rd_T49 t418 0).f0) - ((rd_T30 t396 ji40).f0))))) = w72 at n0_ n1_ n2_ n3_ n4_ ⊢
                                                      have HO_8 := n0_
                                                      have HO_12 := n1_
                                                      have HO420 := n2_
                                                      have BK422 := n3_
                                                      have HB := n4_
                                                      clear n0_ n1_ n2_ n3_ n4_
                                                      have n0_ := Aside0.mk (Kd.R_drew HO_8.out)
                                                      have n1_ := Aside0.mk (Kd.R_drew HO_12.out)
                                                      have n2_ := Aside0.mk (Kd.R_drew HO420.out)
                                                      have n3_ := Aside0.mk (blk_drew BK422.out)
                                                      have n4_ := Aside0.mk (below_drew1 HB.out)
                                                      clear HO_8
                                                      clear HO_12
                                                      clear HO420
                                                      clear BK422
                                                      clear HB
                                                      have HO_8 := n0_
                                                      have HO_12 := n1_
                                                      have HO420 := n2_
                                                      have BK422 := n3_
                                                      have HB := n4_
                                                      clear n0_ n1_ n2_ n3_ n4_
                                                      have p424 : 0 ≤ (x13_4 : Int) := of_decide_eq_true (by first | (with_reducible assumption) | assumption)
                                                      have q424 : x13_4 < (t411.length : Int) := of_decide_eq_true (by first | (with_reducible assumption) | assumption)
                                                      obtain ⟨ad424, e424, hx424_0, hx424_1, hx424_2, hx424_3, hx424_4⟩ := at_T49 (Kd.R_reads' HO_12.out).2.2 x13_4 p424 q424
                                                      cases e424
                                                      replace p424 := eq_true p424
                                                      replace q424 := eq_true q424
                                                      refine start_ (n := 6) (S := fun w' => w'.cell? ⟨gb422, 0, none⟩ = some (.int .i64 (wrap64 (((rd_T49 t418 0).f0) - ((rd_T30 t396 ji40).f0)))) ∧ w'.cell? ⟨gb422, 1, none⟩ = some (.int .i64 ((rd_T49 t418 0).f1)) ∧ w'.cell? ⟨gb422, 2, none⟩ = some (.bool ((rd_T49 t418 0).f2)) ∧ w'.cell? ⟨gb422, 3, none⟩ = some (.int .i64 ((rd_T49 t418 0).f3.f0)) ∧ w'.cell? ⟨gb422, 4, none⟩ = some (.int .i64 ((rd_T49 t418 0).f3.f1)) ∧ w'.cell? (ad424.add ((x13_4).toNat * 5)) = some (.int .i64 ((rd_T49 t411 x13_4).f0)) ∧ w'.cell? ⟨(ad424.add ((x13_4).toNat * 5)).block, (ad424.add ((x13_4).toNat * 5)).off + 1, none⟩ = some (.int .i64 ((rd_T49 t411 x13_4).f1)) ∧ w'.cell? ⟨(ad424.add ((x13_4).toNat * 5)).block, (ad424.add ((x13_4).toNat * 5)).off + 2, none⟩ = some (.bool ((rd_T49 t411 x13_4).f2)) ∧ w'.cell? ⟨(ad424.add ((x13_4).toNat * 5)).block, (ad424.add ((x13_4).toNat * 5)).off + 3, none⟩ = some (.int .i64 ((rd_T49 t411 x13_4).f3.f0)) ∧ w'.cell? ⟨(ad424.add ((x13_4).toNat * 5)).block, (ad424.add ((x13_4).toNat * 5)).off + 4, none⟩ = some (.int .i64 ((rd_T49 t411 x13_4).f3.f1))) (ds := []) #[false, false, false, false, false, false] (by kernel_rfl) rfl rfl ⟨(blk_cell BK422.out 0).trans rfl, (blk_cell BK422.out 1).trans rfl, (blk_cell BK422.out 2).trans rfl, (blk_cell BK422.out 3).trans rfl, (blk_cell BK422.out 4).trans rfl, hx424_0, hx424_1, hx424_2, hx424_3, hx424_4⟩ (fun hHeld => ?_)
                                                      generalize w72.drew = w73 at HO_8 HO_12 HO420 BK422 HB hx424_0 hx424_1 hx424_2 hx424_3 hx424_4 hHeld ⊢
                                                      refine pure_ (i := 1) (N := some 143) (v := ?_) (a' := ?_) #[false, true, false, false, false, false] rfl rfl (by kernel_rfl) (fun _ _ _ h => h) (Or.inl ⟨by rfl, ?_⟩) ?_ ?_
                                                      rotate_left
                                                      · intro w'
                                                        go_simp
                                                        with_reducible rfl
                                                      rotate_left
                                                      · simp only [Act.put, List.setIfInBounds_toArray, List.set_cons_zero, List.set_cons_succ, i64_w, i32_w]
                                                        rfl
                                                      refine pure_ (i := 2) (N := some 144) (v := ?_) (a' := ?_) #[false, true, true, false, false, false] rfl rfl (by kernel_rfl) (fun _ _ _ h => h) (Or.inl ⟨by rfl, ?_⟩) ?_ ?_
                                                      rotate_left
                                                      · intro w'
                                                        go_simp
                                                        with_reducible rfl
                                                      rotate_left
                                                      · simp only [Act.put, List.setIfInBounds_toArray, List.set_cons_zero, List.set_cons_succ, i64_w, i32_w]
                                                        rfl
                                                      refine pure_ (i := 3) (N := some 145) (v := ?_) (a' := ?_) #[false, true, true, true, false, false] rfl rfl (by kernel_rfl) (fun _ _ _ h => h) (Or.inl ⟨by rfl, ?_⟩) ?_ ?_
                                                      rotate_left
                                                      · intro w'
                                                        go_simp
                                                        with_reducible rfl
                                                      rotate_left
                                                      · simp only [Act.put, List.setIfInBounds_toArray, List.set_cons_zero, List.set_cons_succ, i64_w, i32_w]
                                                        rfl
                                                      refine take_ (i := 0) (N := some 142) (v := ?_) (a' := ?_) #[true, true, true, true, false, false] rfl rfl (by kernel_rfl) (fun _ _ _ h => h) (Or.inl ⟨by rfl, ?_⟩) hHeld ?_ ?_
                                                      rotate_left
                                                      · rintro w' ⟨s0, s1, s2, s3, s4, s5, s6, s7, s8, s9⟩
                                                        go_simp
                                                        with_reducible rfl
                                                      rotate_left
                                                      · simp only [Act.put, List.setIfInBounds_toArray, List.set_cons_zero, List.set_cons_succ, i64_w, i32_w]
                                                        rfl
                                                      refine take_ (i := 4) (N := some 146) (v := ?_) (a' := ?_) #[true, true, true, true, true, false] rfl rfl (by kernel_rfl) (fun _ _ _ h => h) (Or.inl ⟨by rfl, ?_⟩) hHeld ?_ ?_
                                                      rotate_left
                                                      · rintro w' ⟨s0, s1, s2, s3, s4, s5, s6, s7, s8, s9⟩
                                                        go_simp
                                                        with_reducible rfl
                                                      rotate_left
                                                      · simp only [Act.put, List.setIfInBounds_toArray, List.set_cons_zero, List.set_cons_succ, i64_w, i32_w]
                                                        rfl
                                                      refine pure_ (i := 5) (N := some 147) (v := ?_) (a' := ?_) #[true, true, true, true, true, true] rfl rfl (by kernel_rfl) (fun _ _ _ h => h) (Or.inl ⟨by rfl, ?_⟩) ?_ ?_
                                                      rotate_left
                                                      · intro w'
                                                        go_simp
                                                        with_reducible rfl
                                                      rotate_left
                                                      · simp only [Act.put, List.setIfInBounds_toArray, List.set_cons_zero, List.set_cons_succ, i64_w, i32_w]
                                                        rfl
                                                      refine done_ (by kernel_rfl) ?_
                                                      try go_wp2
                                                      go_ret
                                                      exact ⟨by first | rfl | (simp [errW_none, errW_some] <;> rfl) | (simp only [← hji40, ← hji54]; first | rfl | (simp [errW_none, errW_some] <;> rfl)) | (simp [*, errW_none, errW_some] <;> rfl), by repeat (first | (with_reducible first | exact HB.out | apply below_alloc | apply pw_below_drewN | apply below_drew1 | refine below_set ?_ GE422.out) | exact HB.out)⟩
                                                    · rw [if_neg c63] at H
                                                      have c63b0 : (!((wrap64 (((rd_T49 t418 0).f0) - ((rd_T30 t396 ji40).f0))) == ((rd_T49 t411 x13_4).f0)) || (!(((rd_T49 t418 0).f1) == ((rd_T49 t411 x13_4).f1)) || (!(((rd_T49 t418 0).f2) == ((rd_T49 t411 x13_4).f2)) || ((!(((rd_T49 t418 0).f3.f0) == ((rd_T49 t411 x13_4).f3.f0)) || (!(((rd_T49 t418 0).f3.f1) == ((rd_T49 t411 x13_4).f3.f1)))))))) = false := by simpa using c63
                                                      clear c63
                                                      have H' := Aside0.mk H
                                                      clear H
                                                      have q74 : ((wrap64 ((ji54) + 1)) : Int) ≤ ((t396.length : Int) : Int) := of_decide_eq_true (by first | (with_reducible assumption) | assumption)
                                                      obtain ⟨i074, hi074, _, hsz74, _⟩ := info_parts info30
                                                      have hroom74 : t396.length ≤ co21 := (Kd.R_reads' HO_8.out).2.1
                                                      have hC74 : Kd.C k30 _ (some ad406) t396.length t396 := (Kd.R_reads' HO_8.out).2.2
                                                      have ql74 : ((ji54) : Int) ≤ ((wrap64 ((ji54) + 1)) : Int) := of_decide_eq_true (by first | (with_reducible assumption) | assumption)
                                                      have q074 : (0 : Int) ≤ ((ji54) : Int) := of_decide_eq_true (by first | (with_reducible assumption) | assumption)
                                                      have hcut74 := cut_mid (P := Try.prog) 25 30 .i64 .i64 Try.underlying25 hi074 5 hsz74 (some ad406) t396.length co21 (ji54) (wrap64 ((ji54) + 1)) q074 ql74 q74 hroom74
                                                      have hr74 := Kd.C_mid (lo := ((ji54) : Int).toNat) (hi := ((wrap64 ((ji54) + 1)) : Int).toNat) (c := co21) hC74 (by omega) (by omega) hroom74
                                                      obtain ⟨A74, hA74⟩ : ∃ Aq_, Aq_ = (if co21 = ((ji54) : Int).toNat then (some ad406) else ((some ad406) : Option Addr).map (·.add (((ji54) : Int).toNat * 5))) := ⟨_, rfl⟩
                                                      obtain ⟨c74, hc74⟩ : ∃ cq_, cq_ = co21 - ((ji54) : Int).toNat := ⟨_, rfl⟩
                                                      have hy74 : y414.length = ((wrap64 ((ji54) + 1)) : Int).toNat - ((ji54) : Int).toNat := (by rw [Ny414.out, List.length_drop, List.length_take] <;> omega)
                                                      rw [show ((t396).take ((wrap64 ((ji54) + 1)) : Int).toNat).drop ((ji54) : Int).toNat = y414 from Ny414.out.symm] at hr74
                                                      replace hr74 : Kd.C k30 _ A74 y414.length y414 := (by rw [hA74]; exact hr74)
                                                      rw [← hy74, ← hA74, ← hc74] at hcut74
                                                      have HR417 := Aside0.mk hr74
                                                      have HC417 := Aside0.mk (show y414.length ≤ c74 from by rw [hy74, hc74]; exact Nat.sub_le_sub_right (Nat.le_trans (by omega) hroom74) _)
                                                      clear hr74 hC74 hroom74 hi074 hsz74 hc74
                                                      have KY74 := Aside0.mk hy74
                                                      have KA74 := Aside0.mk hA74
                                                      clear hy74 hA74
                                                      have KL74 := Aside0.mk (show ((wrap64 ((ji54) + 1)) : Int).toNat ≤ t396.length from by omega)
                                                      have KM74 := Aside0.mk (show ((ji54) : Int).toNat ≤ ((wrap64 ((ji54) + 1)) : Int).toNat from by omega)
                                                      replace q74 := eq_true q74
                                                      try go_wp2_with (first | ((with_reducible refine gate_callee (f := 16) rfl ?_); refine goesL_ (some 130) rfl rfl Try.func16 (by kernel_rfl) rfl #[.slice A74 y414.length c74] rfl (by (try simp only [List.map_toArray, List.map_cons, List.map_nil]); first | done | rfl | (simp only [List.length_drop, List.length_take]; rfl)) ?_; (with_reducible refine (hornbooklaw11_cut.calls k4 _ _ y414 t418 _ ?side1 ?side2 A58.out).mono ?_); (case side1 => repeat (first | exact (by repeat (first | (with_reducible exact HR417.out) | (with_reducible refine Kd.C_alloc ?_ _) | (with_reducible refine Kd.C_drewN ?_ _) | (with_reducible refine Kd.C_drew ?_) | exact HR417.out)) | (with_reducible refine Kd.C_alloc ?_ _) | (with_reducible refine Kd.C_drewN ?_ _) | (with_reducible refine Kd.C_drew ?_))); (case side2 => exact HC417.out); rintro e w75 ⟨v419, rfl, ho0, hb⟩; refine ⟨_, rfl, ?_⟩; have n0_ := Aside0.mk (Kd.R_below (by (with_reducible repeat (first | apply Kd.R_alloc | apply Kd.R_drewN | apply Kd.R_drew)); exact HO_8.out) hb); have n1_ := Aside0.mk (Kd.R_elder' (by (with_reducible repeat (first | apply Kd.R_alloc | apply Kd.R_drewN | apply Kd.R_drew)); exact HO_12.out) (Kd.R_base ho0) hb); have n2_ := Aside0.mk (Kd.R_lower (Kd.R_new' ho0 (Kd.R_lt (by (with_reducible repeat (first | apply Kd.R_alloc | apply Kd.R_drewN | apply Kd.R_drew)); exact HO_12.out))) (below_size (by repeat (first | (with_reducible first | exact HB.out | apply below_alloc | apply pw_below_drewN | apply below_drew1) | exact HB.out)))); have n3_ := Aside0.mk (Kd.C_below (by repeat (first | (with_reducible exact HR417.out) | (with_reducible refine Kd.C_alloc ?_ _) | (with_reducible refine Kd.C_drewN ?_ _) | (with_reducible refine Kd.C_drew ?_) | exact HR417.out)) hb); have n4_ := Aside0.mk (below_step (by repeat (first | (with_reducible first | exact HB.out | apply below_alloc | apply pw_below_drewN | apply below_drew1) | exact HB.out)) hb); clear HO_8; clear HO_12; clear HR417; clear HB; have HO_8 := n0_; have HO_12 := n1_; have HO420 := n2_; have HR417 := n3_; have HB := n4_; clear n0_ n1_ n2_ n3_ n4_; (try clear hb); (try clear hb2); (try clear hk); (try clear hi); (try clear ho0); obtain ⟨Ao76, co76, eo76⟩ := Kd.R_slice HO420.out; subst eo76; have p421 : 0 ≤ (0 : Int) := (by omega); have q421 : 0 < (t418.length : Int) := of_decide_eq_true (by first | (with_reducible assumption) | assumption); obtain ⟨ad421, e421, hx421_0, hx421_1, hx421_2, hx421_3, hx421_4⟩ := at_T49 (Kd.R_reads' HO420.out).2.2 0 p421 q421; cases e421; have qi421 : (0 < t418.length) = True := eq_true (by omega); (try rw [show ((0 : Int)).toNat = 0 from rfl] at hx421_0); (try rw [show 0 * 5 = 0 from rfl] at hx421_0); (try rw [Addr.add_zero'] at hx421_0); (try rw [show ((0 : Int)).toNat = 0 from rfl] at hx421_1); (try rw [show 0 * 5 = 0 from rfl] at hx421_1); (try rw [Addr.add_zero'] at hx421_1); (try rw [show ((0 : Int)).toNat = 0 from rfl] at hx421_2); (try rw [show 0 * 5 = 0 from rfl] at hx421_2); (try rw [Addr.add_zero'] at hx421_2); (try rw [show ((0 : Int)).toNat = 0 from rfl] at hx421_3); (try rw [show 0 * 5 = 0 from rfl] at hx421_3); (try rw [Addr.add_zero'] at hx421_3); (try rw [show ((0 : Int)).toNat = 0 from rfl] at hx421_4); (try rw [show 0 * 5 = 0 from rfl] at hx421_4); (try rw [Addr.add_zero'] at hx421_4); replace p421 := eq_true p421; replace q421 := eq_true q421) | ((with_reducible refine gate_dst (N := 14) rfl ?_); (try (refine gate_guard (by rfl) ?_; dsimp only)); refine box_event ?hg (N := 14) ?hd (cs := #[.int .i64 0, .int .i64 0, .bool false, .int .i64 0, .int .i64 0]) (t := 49) ?hr ?_; (case hd => rfl); (case hg => rfl); (case hr => first | (go_simp; done) | (go_simp; rfl)); intro gb422 hg w77 hbox hb; have n0_ := Aside0.mk (Kd.R_below (by (with_reducible repeat (first | apply Kd.R_alloc | apply Kd.R_drewN | apply Kd.R_drew)); exact HO_8.out) hb); have n1_ := Aside0.mk (Kd.R_below (Kd.R_elderB (by (with_reducible repeat (first | apply Kd.R_alloc | apply Kd.R_drewN | apply Kd.R_drew)); exact HO_12.out) gb422 (Nat.le_of_eq hg.symm)) hb); have n2_ := Aside0.mk (Kd.R_below (Kd.R_elderB (by (with_reducible repeat (first | apply Kd.R_alloc | apply Kd.R_drewN | apply Kd.R_drew)); exact HO420.out) gb422 (Nat.le_of_eq hg.symm)) hb); have n3_ := Aside0.mk (Kd.C_below (by repeat (first | (with_reducible exact HR417.out) | (with_reducible refine Kd.C_alloc ?_ _) | (with_reducible refine Kd.C_drewN ?_ _) | (with_reducible refine Kd.C_drew ?_) | exact HR417.out)) hb); have n4_ := Aside0.mk (below_step (by repeat (first | (with_reducible first | exact HB.out | apply below_alloc | apply pw_below_drewN | apply below_drew1) | exact HB.out)) hb); have n5_ := Aside0.mk (hbox); have n6_ := Aside0.mk ((by rw [hg]; exact (below_size (by repeat (first | (with_reducible first | exact HB.out | apply below_alloc | apply pw_below_drewN | apply below_drew1) | exact HB.out))) : w.heap.size ≤ gb422)); have n7_ := Aside0.mk ((by rw [hg]; exact (below_size (by repeat (first | (with_reducible first | exact HB.out | apply below_alloc | apply pw_below_drewN | apply below_drew1) | exact HB.out))) : w.heap.size ≤ gb422)); clear HO_8; clear HO_12; clear HO420; clear HR417; clear HB; have HO_8 := n0_; have HO_12 := n1_; have HO420 := n2_; have HR417 := n3_; have HB := n4_; have BK422 := n5_; have GW422 := n6_; have GE422 := n7_; clear n0_ n1_ n2_ n3_ n4_ n5_ n6_ n7_; clear hb hbox hg; have hcz78_0 : w77.cell? ⟨gb422, 0, none⟩ = some (.int .i64 0) := (blk_cell BK422.out 0).trans rfl; have hcz78_1 : w77.cell? ⟨gb422, 1, none⟩ = some (.int .i64 0) := (blk_cell BK422.out 1).trans rfl; have hcz78_2 : w77.cell? ⟨gb422, 2, none⟩ = some (.bool false) := (blk_cell BK422.out 2).trans rfl; have hcz78_3 : w77.cell? ⟨gb422, 3, none⟩ = some (.int .i64 0) := (blk_cell BK422.out 3).trans rfl; have hcz78_4 : w77.cell? ⟨gb422, 4, none⟩ = some (.int .i64 0) := (blk_cell BK422.out 4).trans rfl; have hfz78_0 := blk_frozen BK422.out 0; have hfz78_1 := blk_frozen BK422.out 1; have hfz78_2 := blk_frozen BK422.out 2; have hfz78_3 := blk_frozen BK422.out 3; have hfz78_4 := blk_frozen BK422.out 4))
                                                      have n0_ : Aside0 (Kd.R k30 30 (((((w77.setCell ⟨gb422, 0, none⟩ (.int .i64 ((rd_T49 t418 0).f0))).setCell ⟨gb422, 1, none⟩ (.int .i64 ((rd_T49 t418 0).f1))).setCell ⟨gb422, 2, none⟩ (.bool ((rd_T49 t418 0).f2))).setCell ⟨gb422, 3, none⟩ (.int .i64 ((rd_T49 t418 0).f3.f0))).setCell ⟨gb422, 4, none⟩ (.int .i64 ((rd_T49 t418 0).f3.f1))) w.heap.size (fun _ => True) (.slice (some ad406) t396.length co21) t396) := ⟨by (with_reducible repeat (first | apply Kd.R_alloc | apply Kd.R_drewN | apply Kd.R_drew)); exact Kd.R_mono (Kd.R_far (p := ⟨gb422, 4, none⟩) (Kd.R_far (p := ⟨gb422, 3, none⟩) (Kd.R_far (p := ⟨gb422, 2, none⟩) (Kd.R_far (p := ⟨gb422, 1, none⟩) (Kd.R_far (p := ⟨gb422, 0, none⟩) (Kd.R_types HO_8.out BK422.out (by decide)) (fun _ hk => hk.2) (.int .i64 ((rd_T49 t418 0).f0))) (fun _ hk => hk.2) (.int .i64 ((rd_T49 t418 0).f1))) (fun _ hk => hk.2) (.bool ((rd_T49 t418 0).f2))) (fun _ hk => hk.2) (.int .i64 ((rd_T49 t418 0).f3.f0))) (fun _ hk => hk.2) (.int .i64 ((rd_T49 t418 0).f3.f1))) (fun _ hk => trivial)⟩
                                                      have n1_ : Aside0 (Kd.R k49 49 (((((w77.setCell ⟨gb422, 0, none⟩ (.int .i64 ((rd_T49 t418 0).f0))).setCell ⟨gb422, 1, none⟩ (.int .i64 ((rd_T49 t418 0).f1))).setCell ⟨gb422, 2, none⟩ (.bool ((rd_T49 t418 0).f2))).setCell ⟨gb422, 3, none⟩ (.int .i64 ((rd_T49 t418 0).f3.f0))).setCell ⟨gb422, 4, none⟩ (.int .i64 ((rd_T49 t418 0).f3.f1))) w.heap.size (fun k_ => some k_ ≠ (.slice (some ad421) t418.length co76 : Value).ownBlock ∧ k_ ≠ gb422) (.slice Ao52 t411.length co52) t411) := ⟨by (with_reducible repeat (first | apply Kd.R_alloc | apply Kd.R_drewN | apply Kd.R_drew)); exact Kd.R_mono (Kd.R_far (p := ⟨gb422, 4, none⟩) (Kd.R_far (p := ⟨gb422, 3, none⟩) (Kd.R_far (p := ⟨gb422, 2, none⟩) (Kd.R_far (p := ⟨gb422, 1, none⟩) (Kd.R_far (p := ⟨gb422, 0, none⟩) (Kd.R_mono HO_12.out (fun k_ hk => (⟨hk, hk.2⟩ : _ ∧ k_ ≠ gb422))) (fun _ hk => hk.2) (.int .i64 ((rd_T49 t418 0).f0))) (fun _ hk => hk.2) (.int .i64 ((rd_T49 t418 0).f1))) (fun _ hk => hk.2) (.bool ((rd_T49 t418 0).f2))) (fun _ hk => hk.2) (.int .i64 ((rd_T49 t418 0).f3.f0))) (fun _ hk => hk.2) (.int .i64 ((rd_T49 t418 0).f3.f1))) (fun _ hk => ⟨hk.1.1.2, hk.1.2⟩)⟩
                                                      have n2_ : Aside0 (Kd.R k49 49 (((((w77.setCell ⟨gb422, 0, none⟩ (.int .i64 ((rd_T49 t418 0).f0))).setCell ⟨gb422, 1, none⟩ (.int .i64 ((rd_T49 t418 0).f1))).setCell ⟨gb422, 2, none⟩ (.bool ((rd_T49 t418 0).f2))).setCell ⟨gb422, 3, none⟩ (.int .i64 ((rd_T49 t418 0).f3.f0))).setCell ⟨gb422, 4, none⟩ (.int .i64 ((rd_T49 t418 0).f3.f1))) w.heap.size (fun k_ => some k_ ≠ (.slice Ao52 t411.length co52 : Value).ownBlock ∧ k_ ≠ gb422) (.slice (some ad421) t418.length co76) t418) := ⟨by (with_reducible repeat (first | apply Kd.R_alloc | apply Kd.R_drewN | apply Kd.R_drew)); exact Kd.R_mono (Kd.R_far (p := ⟨gb422, 4, none⟩) (Kd.R_far (p := ⟨gb422, 3, none⟩) (Kd.R_far (p := ⟨gb422, 2, none⟩) (Kd.R_far (p := ⟨gb422, 1, none⟩) (Kd.R_far (p := ⟨gb422, 0, none⟩) (Kd.R_mono HO420.out (fun k_ hk => (⟨hk, hk.2⟩ : _ ∧ k_ ≠ gb422))) (fun _ hk => hk.2) (.int .i64 ((rd_T49 t418 0).f0))) (fun _ hk => hk.2) (.int .i64 ((rd_T49 t418 0).f1))) (fun _ hk => hk.2) (.bool ((rd_T49 t418 0).f2))) (fun _ hk => hk.2) (.int .i64 ((rd_T49 t418 0).f3.f0))) (fun _ hk => hk.2) (.int .i64 ((rd_T49 t418 0).f3.f1))) (fun _ hk => ⟨hk.1.1.2, hk.1.2⟩)⟩
                                                      have n3_ : Aside0 ((((((w77.setCell ⟨gb422, 0, none⟩ (.int .i64 ((rd_T49 t418 0).f0))).setCell ⟨gb422, 1, none⟩ (.int .i64 ((rd_T49 t418 0).f1))).setCell ⟨gb422, 2, none⟩ (.bool ((rd_T49 t418 0).f2))).setCell ⟨gb422, 3, none⟩ (.int .i64 ((rd_T49 t418 0).f3.f0))).setCell ⟨gb422, 4, none⟩ (.int .i64 ((rd_T49 t418 0).f3.f1))).heap[gb422]? = some (.cells #[.int .i64 ((rd_T49 t418 0).f0), .int .i64 ((rd_T49 t418 0).f1), .bool ((rd_T49 t418 0).f2), .int .i64 ((rd_T49 t418 0).f3.f0), .int .i64 ((rd_T49 t418 0).f3.f1)] 49 (0, 0))) := ⟨by (with_reducible repeat (first | refine blk_drewN ?_ _ | refine blk_drew ?_ | refine blk_alloc ?_ _)); refine blk_put (cs := #[.int .i64 ((rd_T49 t418 0).f0), .int .i64 ((rd_T49 t418 0).f1), .bool ((rd_T49 t418 0).f2), .int .i64 ((rd_T49 t418 0).f3.f0), .int .i64 0]) ?_ 4 _ rfl; (with_reducible repeat (first | refine blk_drewN ?_ _ | refine blk_drew ?_ | refine blk_alloc ?_ _)); refine blk_put (cs := #[.int .i64 ((rd_T49 t418 0).f0), .int .i64 ((rd_T49 t418 0).f1), .bool ((rd_T49 t418 0).f2), .int .i64 0, .int .i64 0]) ?_ 3 _ rfl; (with_reducible repeat (first | refine blk_drewN ?_ _ | refine blk_drew ?_ | refine blk_alloc ?_ _)); refine blk_put (cs := #[.int .i64 ((rd_T49 t418 0).f0), .int .i64 ((rd_T49 t418 0).f1), .bool false, .int .i64 0, .int .i64 0]) ?_ 2 _ rfl; (with_reducible repeat (first | refine blk_drewN ?_ _ | refine blk_drew ?_ | refine blk_alloc ?_ _)); refine blk_put (cs := #[.int .i64 ((rd_T49 t418 0).f0), .int .i64 0, .bool false, .int .i64 0, .int .i64 0]) ?_ 1 _ rfl; (with_reducible repeat (first | refine blk_drewN ?_ _ | refine blk_drew ?_ | refine blk_alloc ?_ _)); refine blk_put (cs := #[.int .i64 0, .int .i64 0, .bool false, .int .i64 0, .int .i64 0]) ?_ 0 _ rfl; (with_reducible repeat (first | refine blk_drewN ?_ _ | refine blk_drew ?_ | refine blk_alloc ?_ _)); exact BK422.out⟩
                                                      have n4_ : Aside0 (Below w.heap.size w (((((w77.setCell ⟨gb422, 0, none⟩ (.int .i64 ((rd_T49 t418 0).f0))).setCell ⟨gb422, 1, none⟩ (.int .i64 ((rd_T49 t418 0).f1))).setCell ⟨gb422, 2, none⟩ (.bool ((rd_T49 t418 0).f2))).setCell ⟨gb422, 3, none⟩ (.int .i64 ((rd_T49 t418 0).f3.f0))).setCell ⟨gb422, 4, none⟩ (.int .i64 ((rd_T49 t418 0).f3.f1)))) := ⟨by repeat (first | (with_reducible first | exact HB.out | apply below_alloc | apply pw_below_drewN | apply below_drew1 | refine below_set ?_ GE422.out) | exact HB.out)⟩
                                                      (try clear HO_8)
                                                      (try clear HO_12)
                                                      (try clear HO420)
                                                      (try clear BK422)
                                                      (try clear HB)
                                                      generalize (((((w77.setCell ⟨gb422, 0, none⟩ (.int .i64 ((rd_T49 t418 0).f0))).setCell ⟨gb422, 1, none⟩ (.int .i64 ((rd_T49 t418 0).f1))).setCell ⟨gb422, 2, none⟩ (.bool ((rd_T49 t418 0).f2))).setCell ⟨gb422, 3, none⟩ (.int .i64 ((rd_T49 t418 0).f3.f0))).setCell ⟨gb422, 4, none⟩ (.int .i64 ((rd_T49 t418 0).f3.f1))) = w79 at n0_ n1_ n2_ n3_ n4_ ⊢
                                                      have HO_8 := n0_
                                                      have HO_12 := n1_
                                                      have HO420 := n2_
                                                      have BK422 := n3_
                                                      have HB := n4_
                                                      clear n0_ n1_ n2_ n3_ n4_
                                                      have n0_ := Aside0.mk (Kd.R_drew HO_8.out)
                                                      have n1_ := Aside0.mk (Kd.R_drew HO_12.out)
                                                      have n2_ := Aside0.mk (Kd.R_drew HO420.out)
                                                      have n3_ := Aside0.mk (blk_drew BK422.out)
                                                      have n4_ := Aside0.mk (below_drew1 HB.out)
                                                      clear HO_8
                                                      clear HO_12
                                                      clear HO420
                                                      clear BK422
                                                      clear HB
                                                      have HO_8 := n0_
                                                      have HO_12 := n1_
                                                      have HO420 := n2_
                                                      have BK422 := n3_
                                                      have HB := n4_
                                                      clear n0_ n1_ n2_ n3_ n4_
                                                      have p423 : 0 ≤ (ji40 : Int) := of_decide_eq_true (by first | (with_reducible assumption) | assumption)
                                                      have q423 : ji40 < (t396.length : Int) := of_decide_eq_true (by first | (with_reducible assumption) | assumption)
                                                      obtain ⟨ad423, e423, hx423_0, hx423_1, hx423_2, hx423_3, hx423_4⟩ := at_T30 (Kd.R_reads' HO_8.out).2.2 ji40 p423 q423
                                                      obtain rfl : ad406 = ad423 := (by injection e423)
                                                      replace p423 := eq_true p423
                                                      replace q423 := eq_true q423
                                                      refine start_ (n := 10) (S := fun w' => w'.cell? ⟨gb422, 0, none⟩ = some (.int .i64 ((rd_T49 t418 0).f0)) ∧ w'.cell? ⟨gb422, 1, none⟩ = some (.int .i64 ((rd_T49 t418 0).f1)) ∧ w'.cell? ⟨gb422, 2, none⟩ = some (.bool ((rd_T49 t418 0).f2)) ∧ w'.cell? ⟨gb422, 3, none⟩ = some (.int .i64 ((rd_T49 t418 0).f3.f0)) ∧ w'.cell? ⟨gb422, 4, none⟩ = some (.int .i64 ((rd_T49 t418 0).f3.f1)) ∧ w'.cell? (ad406.add ((ji40).toNat * 5)) = some (.int .i64 ((rd_T30 t396 ji40).f0)) ∧ w'.cell? ⟨(ad406.add ((ji40).toNat * 5)).block, (ad406.add ((ji40).toNat * 5)).off + 1, none⟩ = some (.int .i64 ((rd_T30 t396 ji40).f1)) ∧ w'.cell? ⟨(ad406.add ((ji40).toNat * 5)).block, (ad406.add ((ji40).toNat * 5)).off + 2, none⟩ = some (.bool ((rd_T30 t396 ji40).f2)) ∧ w'.cell? ⟨(ad406.add ((ji40).toNat * 5)).block, (ad406.add ((ji40).toNat * 5)).off + 3, none⟩ = some (.int .i64 ((rd_T30 t396 ji40).f3.f0)) ∧ w'.cell? ⟨(ad406.add ((ji40).toNat * 5)).block, (ad406.add ((ji40).toNat * 5)).off + 4, none⟩ = some (.int .i64 ((rd_T30 t396 ji40).f3.f1))) (ds := [9]) #[false, false, false, false, false, false, false, false, false, false] (by kernel_rfl) rfl rfl ⟨(blk_cell BK422.out 0).trans rfl, (blk_cell BK422.out 1).trans rfl, (blk_cell BK422.out 2).trans rfl, (blk_cell BK422.out 3).trans rfl, (blk_cell BK422.out 4).trans rfl, hx423_0, hx423_1, hx423_2, hx423_3, hx423_4⟩ (fun hHeld => ?_); refine with_tabW hornbooklaw11_MatchJoins.tab22 hornbooklaw11_MatchJoins.bits22 (fun HT_ HW_ => ?_)
                                                      generalize w79.drew = w80 at HO_8 HO_12 HO420 BK422 HB hx423_0 hx423_1 hx423_2 hx423_3 hx423_4 hHeld ⊢
                                                      refine pure_ (i := 0) (N := some 133) (v := ?_) (a' := ?_) #[true, false, false, false, false, false, false, false, false, false] rfl rfl (any_of HT_.out (by kernel_rfl)) (fun _ _ _ h => h) (Or.inl ⟨by rfl, ?_⟩) ?_ ?_
                                                      rotate_left
                                                      · intro w'
                                                        go_simp
                                                        with_reducible rfl
                                                      rotate_left
                                                      · simp only [Act.put, List.setIfInBounds_toArray, List.set_cons_zero, List.set_cons_succ, i64_w, i32_w]
                                                        rfl
                                                      refine pure_ (i := 2) (N := some 135) (v := ?_) (a' := ?_) #[true, false, true, false, false, false, false, false, false, false] rfl rfl (any_of HT_.out (by kernel_rfl)) (fun _ _ _ h => h) (Or.inl ⟨by rfl, ?_⟩) ?_ ?_
                                                      rotate_left
                                                      · intro w'
                                                        go_simp
                                                        with_reducible rfl
                                                      rotate_left
                                                      · simp only [Act.put, List.setIfInBounds_toArray, List.set_cons_zero, List.set_cons_succ, i64_w, i32_w]
                                                        rfl
                                                      refine pure_ (i := 3) (N := some 136) (v := ?_) (a' := ?_) #[true, false, true, true, false, false, false, false, false, false] rfl rfl (any_of HT_.out (by kernel_rfl)) (fun _ _ _ h => h) (Or.inl ⟨by rfl, ?_⟩) ?_ ?_
                                                      rotate_left
                                                      · intro w'
                                                        go_simp
                                                        with_reducible rfl
                                                      rotate_left
                                                      · simp only [Act.put, List.setIfInBounds_toArray, List.set_cons_zero, List.set_cons_succ, i64_w, i32_w]
                                                        rfl
                                                      refine pure_ (i := 4) (N := some 137) (v := ?_) (a' := ?_) #[true, false, true, true, true, false, false, false, false, false] rfl rfl (any_of HT_.out (by kernel_rfl)) (fun _ _ _ h => h) (Or.inl ⟨by rfl, ?_⟩) ?_ ?_
                                                      rotate_left
                                                      · intro w'
                                                        go_simp
                                                        with_reducible rfl
                                                      rotate_left
                                                      · simp only [Act.put, List.setIfInBounds_toArray, List.set_cons_zero, List.set_cons_succ, i64_w, i32_w]
                                                        rfl
                                                      refine pure_ (i := 5) (N := some 138) (v := ?_) (a' := ?_) #[true, false, true, true, true, true, false, false, false, false] rfl rfl (any_of HT_.out (by kernel_rfl)) (fun _ _ _ h => h) (Or.inl ⟨by rfl, ?_⟩) ?_ ?_
                                                      rotate_left
                                                      · intro w'
                                                        go_simp
                                                        with_reducible rfl
                                                      rotate_left
                                                      · simp only [Act.put, List.setIfInBounds_toArray, List.set_cons_zero, List.set_cons_succ, i64_w, i32_w]
                                                        rfl
                                                      refine take_ (i := 1) (N := some 134) (v := ?_) (a' := ?_) #[true, true, true, true, true, true, false, false, false, false] rfl rfl (take_ofW HT_.out HW_.out (by kernel_rfl)) (fun _ _ _ h => h) (Or.inl ⟨by rfl, ?_⟩) hHeld ?_ ?_
                                                      rotate_left
                                                      · rintro w' ⟨s0, s1, s2, s3, s4, s5, s6, s7, s8, s9⟩
                                                        go_simp
                                                        with_reducible rfl
                                                      rotate_left
                                                      · simp only [Act.put, List.setIfInBounds_toArray, List.set_cons_zero, List.set_cons_succ, i64_w, i32_w]
                                                        rfl
                                                      refine take_ (i := 6) (N := some 139) (v := ?_) (a' := ?_) #[true, true, true, true, true, true, true, false, false, false] rfl rfl (take_ofW HT_.out HW_.out (by kernel_rfl)) (fun _ _ _ h => h) (Or.inl ⟨by rfl, ?_⟩) hHeld ?_ ?_
                                                      rotate_left
                                                      · rintro w' ⟨s0, s1, s2, s3, s4, s5, s6, s7, s8, s9⟩
                                                        go_simp
                                                        with_reducible rfl
                                                      rotate_left
                                                      · simp only [Act.put, List.setIfInBounds_toArray, List.set_cons_zero, List.set_cons_succ, i64_w, i32_w]
                                                        rfl
                                                      refine pure_ (i := 7) (N := some 140) (v := ?_) (a' := ?_) #[true, true, true, true, true, true, true, true, false, false] rfl rfl (any_of HT_.out (by kernel_rfl)) (fun _ _ _ h => h) (Or.inl ⟨by rfl, ?_⟩) ?_ ?_
                                                      rotate_left
                                                      · intro w'
                                                        go_simp
                                                        with_reducible rfl
                                                      rotate_left
                                                      · simp only [Act.put, List.setIfInBounds_toArray, List.set_cons_zero, List.set_cons_succ, i64_w, i32_w]
                                                        rfl
                                                      refine pure_ (i := 8) (N := some 141) (v := ?_) (a' := ?_) #[true, true, true, true, true, true, true, true, true, false] rfl rfl (any_of HT_.out (by kernel_rfl)) (fun _ _ _ h => h) (Or.inl ⟨by rfl, ?_⟩) ?_ ?_
                                                      rotate_left
                                                      · intro w'
                                                        go_simp
                                                        with_reducible rfl
                                                      rotate_left
                                                      · simp only [Act.put, List.setIfInBounds_toArray, List.set_cons_zero, List.set_cons_succ, i64_w, i32_w]
                                                        rfl
                                                      refine last_ (i := 9) (N := none) #[true, true, true, true, true, true, true, true, true, true] rfl rfl (one_of HT_.out (by kernel_rfl)) (by decide) (fun K hK => ?_)
                                                      have hs81 : w80.cell? ⟨gb422, 0, none⟩ = some (.int .i64 ((rd_T49 t418 0).f0)) := (blk_cell BK422.out 0).trans rfl
                                                      have hfs81 := blk_frozen BK422.out 0
                                                      refine skip_ (w1 := ?_) (by rfl) rfl ?_ ?_
                                                      rotate_left
                                                      · go_simp
                                                        rfl
                                                      refine hK.out _ _ ?_
                                                      clear hK K
                                                      refine done_ (done_of HT_.out (by kernel_rfl)) ?_
                                                      try go_wp2
                                                      have n0_ : Aside0 (Kd.R k30 30 (w80.setCell ⟨gb422, 0, none⟩ (.int .i64 (wrap64 (((rd_T49 t418 0).f0) - ((rd_T30 t396 ji40).f0))))) w.heap.size (fun _ => True) (.slice (some ad406) t396.length co21) t396) := ⟨by (with_reducible repeat (first | apply Kd.R_alloc | apply Kd.R_drewN | apply Kd.R_drew)); exact Kd.R_mono (Kd.R_far (p := ⟨gb422, 0, none⟩) (Kd.R_types HO_8.out BK422.out (by decide)) (fun _ hk => hk.2) (.int .i64 (wrap64 (((rd_T49 t418 0).f0) - ((rd_T30 t396 ji40).f0))))) (fun _ hk => trivial)⟩
                                                      have n1_ : Aside0 (Kd.R k49 49 (w80.setCell ⟨gb422, 0, none⟩ (.int .i64 (wrap64 (((rd_T49 t418 0).f0) - ((rd_T30 t396 ji40).f0))))) w.heap.size (fun k_ => some k_ ≠ (.slice (some ad421) t418.length co76 : Value).ownBlock ∧ k_ ≠ gb422) (.slice Ao52 t411.length co52) t411) := ⟨by (with_reducible repeat (first | apply Kd.R_alloc | apply Kd.R_drewN | apply Kd.R_drew)); exact Kd.R_mono (Kd.R_far (p := ⟨gb422, 0, none⟩) (Kd.R_mono HO_12.out (fun k_ hk => (⟨hk, hk.2⟩ : _ ∧ k_ ≠ gb422))) (fun _ hk => hk.2) (.int .i64 (wrap64 (((rd_T49 t418 0).f0) - ((rd_T30 t396 ji40).f0))))) (fun _ hk => ⟨hk.1.1, hk.1.2⟩)⟩
                                                      have n2_ : Aside0 (Kd.R k49 49 (w80.setCell ⟨gb422, 0, none⟩ (.int .i64 (wrap64 (((rd_T49 t418 0).f0) - ((rd_T30 t396 ji40).f0))))) w.heap.size (fun k_ => some k_ ≠ (.slice Ao52 t411.length co52 : Value).ownBlock ∧ k_ ≠ gb422) (.slice (some ad421) t418.length co76) t418) := ⟨by (with_reducible repeat (first | apply Kd.R_alloc | apply Kd.R_drewN | apply Kd.R_drew)); exact Kd.R_mono (Kd.R_far (p := ⟨gb422, 0, none⟩) (Kd.R_mono HO420.out (fun k_ hk => (⟨hk, hk.2⟩ : _ ∧ k_ ≠ gb422))) (fun _ hk => hk.2) (.int .i64 (wrap64 (((rd_T49 t418 0).f0) - ((rd_T30 t396 ji40).f0))))) (fun _ hk => ⟨hk.1.1, hk.1.2⟩)⟩
                                                      have n3_ : Aside0 ((w80.setCell ⟨gb422, 0, none⟩ (.int .i64 (wrap64 (((rd_T49 t418 0).f0) - ((rd_T30 t396 ji40).f0))))).heap[gb422]? = some (.cells #[.int .i64 (wrap64 (((rd_T49 t418 0).f0) - ((rd_T30 t396 ji40).f0))), .int .i64 ((rd_T49 t418 0).f1), .bool ((rd_T49 t418 0).f2), .int .i64 ((rd_T49 t418 0).f3.f0), .int .i64 ((rd_T49 t418 0).f3.f1)] 49 (0, 0))) := ⟨by (with_reducible repeat (first | refine blk_drewN ?_ _ | refine blk_drew ?_ | refine blk_alloc ?_ _)); refine blk_put (cs := #[.int .i64 ((rd_T49 t418 0).f0), .int .i64 ((rd_T49 t418 0).f1), .bool ((rd_T49 t418 0).f2), .int .i64 ((rd_T49 t418 0).f3.f0), .int .i64 ((rd_T49 t418 0).f3.f1)]) ?_ 0 _ rfl; (with_reducible repeat (first | refine blk_drewN ?_ _ | refine blk_drew ?_ | refine blk_alloc ?_ _)); exact BK422.out⟩
                                                      have n4_ : Aside0 (Below w.heap.size w (w80.setCell ⟨gb422, 0, none⟩ (.int .i64 (wrap64 (((rd_T49 t418 0).f0) - ((rd_T30 t396 ji40).f0)))))) := ⟨by repeat (first | (with_reducible first | exact HB.out | apply below_alloc | apply pw_below_drewN | apply below_drew1 | refine below_set ?_ GE422.out) | exact HB.out)⟩
                                                      (try clear HO_8)
                                                      (try clear HO_12)
                                                      (try clear HO420)
                                                      (try clear BK422)
                                                      (try clear HB)
                                                      generalize (w80.setCell ⟨gb422, 0, none⟩ (.int .i64 (wrap64 (((rd_T49 t418 0).f0) - ((rd_T30 t396 ji40).f0))))) = w82 at n0_ n1_ n2_ n3_ n4_ ⊢
                                                      have HO_8 := n0_
                                                      have HO_12 := n1_
                                                      have HO420 := n2_
                                                      have BK422 := n3_
                                                      have HB := n4_
                                                      clear n0_ n1_ n2_ n3_ n4_
                                                      have n0_ := Aside0.mk (Kd.R_drew HO_8.out)
                                                      have n1_ := Aside0.mk (Kd.R_drew HO_12.out)
                                                      have n2_ := Aside0.mk (Kd.R_drew HO420.out)
                                                      have n3_ := Aside0.mk (blk_drew BK422.out)
                                                      have n4_ := Aside0.mk (below_drew1 HB.out)
                                                      clear HO_8
                                                      clear HO_12
                                                      clear HO420
                                                      clear BK422
                                                      clear HB
                                                      have HO_8 := n0_
                                                      have HO_12 := n1_
                                                      have HO420 := n2_
                                                      have BK422 := n3_
                                                      have HB := n4_
                                                      clear n0_ n1_ n2_ n3_ n4_
                                                      have p424 : 0 ≤ (x13_4 : Int) := of_decide_eq_true (by first | (with_reducible assumption) | assumption)
                                                      have q424 : x13_4 < (t411.length : Int) := of_decide_eq_true (by first | (with_reducible assumption) | assumption)
                                                      obtain ⟨ad424, e424, hx424_0, hx424_1, hx424_2, hx424_3, hx424_4⟩ := at_T49 (Kd.R_reads' HO_12.out).2.2 x13_4 p424 q424
                                                      cases e424
                                                      replace p424 := eq_true p424
                                                      replace q424 := eq_true q424
                                                      refine start_ (n := 6) (S := fun w' => w'.cell? ⟨gb422, 0, none⟩ = some (.int .i64 (wrap64 (((rd_T49 t418 0).f0) - ((rd_T30 t396 ji40).f0)))) ∧ w'.cell? ⟨gb422, 1, none⟩ = some (.int .i64 ((rd_T49 t418 0).f1)) ∧ w'.cell? ⟨gb422, 2, none⟩ = some (.bool ((rd_T49 t418 0).f2)) ∧ w'.cell? ⟨gb422, 3, none⟩ = some (.int .i64 ((rd_T49 t418 0).f3.f0)) ∧ w'.cell? ⟨gb422, 4, none⟩ = some (.int .i64 ((rd_T49 t418 0).f3.f1)) ∧ w'.cell? (ad424.add ((x13_4).toNat * 5)) = some (.int .i64 ((rd_T49 t411 x13_4).f0)) ∧ w'.cell? ⟨(ad424.add ((x13_4).toNat * 5)).block, (ad424.add ((x13_4).toNat * 5)).off + 1, none⟩ = some (.int .i64 ((rd_T49 t411 x13_4).f1)) ∧ w'.cell? ⟨(ad424.add ((x13_4).toNat * 5)).block, (ad424.add ((x13_4).toNat * 5)).off + 2, none⟩ = some (.bool ((rd_T49 t411 x13_4).f2)) ∧ w'.cell? ⟨(ad424.add ((x13_4).toNat * 5)).block, (ad424.add ((x13_4).toNat * 5)).off + 3, none⟩ = some (.int .i64 ((rd_T49 t411 x13_4).f3.f0)) ∧ w'.cell? ⟨(ad424.add ((x13_4).toNat * 5)).block, (ad424.add ((x13_4).toNat * 5)).off + 4, none⟩ = some (.int .i64 ((rd_T49 t411 x13_4).f3.f1))) (ds := []) #[false, false, false, false, false, false] (by kernel_rfl) rfl rfl ⟨(blk_cell BK422.out 0).trans rfl, (blk_cell BK422.out 1).trans rfl, (blk_cell BK422.out 2).trans rfl, (blk_cell BK422.out 3).trans rfl, (blk_cell BK422.out 4).trans rfl, hx424_0, hx424_1, hx424_2, hx424_3, hx424_4⟩ (fun hHeld => ?_)
                                                      generalize w82.drew = w83 at HO_8 HO_12 HO420 BK422 HB hx424_0 hx424_1 hx424_2 hx424_3 hx424_4 hHeld ⊢
                                                      refine pure_ (i := 1) (N := some 143) (v := ?_) (a' := ?_) #[false, true, false, false, false, false] rfl rfl (by kernel_rfl) (fun _ _ _ h => h) (Or.inl ⟨by rfl, ?_⟩) ?_ ?_
                                                      rotate_left
                                                      · intro w'
                                                        go_simp
                                                        with_reducible rfl
                                                      rotate_left
                                                      · simp only [Act.put, List.setIfInBounds_toArray, List.set_cons_zero, List.set_cons_succ, i64_w, i32_w]
                                                        rfl
                                                      refine pure_ (i := 2) (N := some 144) (v := ?_) (a' := ?_) #[false, true, true, false, false, false] rfl rfl (by kernel_rfl) (fun _ _ _ h => h) (Or.inl ⟨by rfl, ?_⟩) ?_ ?_
                                                      rotate_left
                                                      · intro w'
                                                        go_simp
                                                        with_reducible rfl
                                                      rotate_left
                                                      · simp only [Act.put, List.setIfInBounds_toArray, List.set_cons_zero, List.set_cons_succ, i64_w, i32_w]
                                                        rfl
                                                      refine pure_ (i := 3) (N := some 145) (v := ?_) (a' := ?_) #[false, true, true, true, false, false] rfl rfl (by kernel_rfl) (fun _ _ _ h => h) (Or.inl ⟨by rfl, ?_⟩) ?_ ?_
                                                      rotate_left
                                                      · intro w'
                                                        go_simp
                                                        with_reducible rfl
                                                      rotate_left
                                                      · simp only [Act.put, List.setIfInBounds_toArray, List.set_cons_zero, List.set_cons_succ, i64_w, i32_w]
                                                        rfl
                                                      refine take_ (i := 0) (N := some 142) (v := ?_) (a' := ?_) #[true, true, true, true, false, false] rfl rfl (by kernel_rfl) (fun _ _ _ h => h) (Or.inl ⟨by rfl, ?_⟩) hHeld ?_ ?_
                                                      rotate_left
                                                      · rintro w' ⟨s0, s1, s2, s3, s4, s5, s6, s7, s8, s9⟩
                                                        go_simp
                                                        with_reducible rfl
                                                      rotate_left
                                                      · simp only [Act.put, List.setIfInBounds_toArray, List.set_cons_zero, List.set_cons_succ, i64_w, i32_w]
                                                        rfl
                                                      refine take_ (i := 4) (N := some 146) (v := ?_) (a' := ?_) #[true, true, true, true, true, false] rfl rfl (by kernel_rfl) (fun _ _ _ h => h) (Or.inl ⟨by rfl, ?_⟩) hHeld ?_ ?_
                                                      rotate_left
                                                      · rintro w' ⟨s0, s1, s2, s3, s4, s5, s6, s7, s8, s9⟩
                                                        go_simp
                                                        with_reducible rfl
                                                      rotate_left
                                                      · simp only [Act.put, List.setIfInBounds_toArray, List.set_cons_zero, List.set_cons_succ, i64_w, i32_w]
                                                        rfl
                                                      refine pure_ (i := 5) (N := some 147) (v := ?_) (a' := ?_) #[true, true, true, true, true, true] rfl rfl (by kernel_rfl) (fun _ _ _ h => h) (Or.inl ⟨by rfl, ?_⟩) ?_ ?_
                                                      rotate_left
                                                      · intro w'
                                                        go_simp
                                                        with_reducible rfl
                                                      rotate_left
                                                      · simp only [Act.put, List.setIfInBounds_toArray, List.set_cons_zero, List.set_cons_succ, i64_w, i32_w]
                                                        rfl
                                                      refine done_ (by kernel_rfl) ?_
                                                      try go_wp2
                                                      go_roundg k4
                                                      case measure => have := HJ4.out; have := HK2.out; have := HJ19.out; have := HK4.out; omega
                                                      case rel => exact ⟨(wrap64 (x13_4 + 1)), (by first | rfl | (simp; done) | (simp [*]; done)), H', ⟨by have := HJ4.out; have := HK2.out; have := HJ19.out; have := HK4.out; omega⟩, ⟨by (with_reducible repeat (first | apply Kd.R_alloc | apply Kd.R_drewN | apply Kd.R_drew)); exact HO_8.out⟩, ⟨by (with_reducible repeat (first | apply Kd.R_alloc | apply Kd.R_drewN | apply Kd.R_drew)); exact Kd.R_mono HO_12.out (fun _ hk => trivial)⟩, ⟨by repeat (first | (with_reducible first | exact HB.out | apply below_alloc | apply pw_below_drewN | apply below_drew1 | refine below_set ?_ GE422.out) | exact HB.out)⟩⟩
                                                  · rw [if_neg c62] at H
                                                    exact absurd H (by simp)
                                                · rw [if_neg c61] at H
                                                  exact absurd H (by simp)
                                              · rw [if_neg c60] at H
                                                exact absurd H (by simp)
                                            · rw [if_neg c59] at H
                                              exact absurd H (by simp)
                                          · rw [if_neg c57] at H
                                            exact absurd H (by simp)
                                        · rw [if_neg c56] at H
                                          exact absurd H (by simp)
                                      · rw [if_neg c55] at H
                                        exact absurd H (by simp)
                                    · rw [if_neg c53] at H
                                      have c53b0 : decide (x13_4 < (t411.length : Int)) = false := decide_eq_false c53
                                      clear c53
                                      obtain rfl := Option.some.inj H
                                      go_wp2
                                      go_ret
                                      exact ⟨by first | rfl | (simp [errW_none, errW_some] <;> rfl) | (simp only [← hji40]; first | rfl | (simp [errW_none, errW_some] <;> rfl)) | (simp [*, errW_none, errW_some] <;> rfl), by repeat (first | (with_reducible first | exact HB.out | apply below_alloc | apply pw_below_drewN | apply below_drew1) | exact HB.out)⟩
                              · rw [if_neg c47] at H
                                have c47b0 : ((t411.length : Int) == (wrap64 ((t396.length : Int) - (ji40)))) = false := beq_eq_false_iff_ne.mpr c47
                                have c47b1 : ((t411.length : Int) != (wrap64 ((t396.length : Int) - (ji40)))) = true := bne_iff_ne.mpr c47
                                obtain rfl := Option.some.inj H
                                have p406 : 0 ≤ ((ji40) : Int) := of_decide_eq_true (by first | (with_reducible assumption) | assumption)
                                have q406 : (ji40) < (t396.length : Int) := of_decide_eq_true (by first | (with_reducible assumption) | assumption)
                                obtain ⟨ad406, e406, hx406_0, hx406_1, hx406_2, hx406_3, hx406_4⟩ := at_T30 (Kd.R_reads' HO_8.out).2.2 (ji40) p406 q406
                                cases e406
                                replace p406 := eq_true p406
                                replace q406 := eq_true q406
                                obtain ⟨i084, hi084, _, hsz84, _⟩ := info_parts info5
                                obtain ⟨A84, hcut84, hA84, hC84⟩ := print_drop_of (P := Try.prog) (Value.int .u8) 0 23 5 .i64 Try.underlying23 hi084 hsz84 A1 c1 l1 ((rd_T30 t396 (ji40)).f0) (of_decide_eq_true (by first | (with_reducible assumption) | assumption)) (of_decide_eq_true (by first | (with_reducible assumption) | assumption)) HC1.out
                                have HR407 := Aside0.mk (Kd.C_of_reads (h1 := fun _ => rfl) (hA84 _ (Kd.reads_of_C HR1.out)))
                                have HC407 := Aside0.mk hC84
                                clear hA84 hC84 hi084 hsz84
                                go_wp2_with (first | ((with_reducible refine gate_callee (f := 10) rfl ?_); refine goesL_ (some 106) rfl rfl Try.func10 (by kernel_rfl) rfl #[.slice A0 l0.length c0, .slice A84 (l1.drop (((rd_T30 t396 (ji40)).f0) : Int).toNat).length (c1 - ((rd_T30 t396 (ji40)).f0).toNat)] rfl (by (try simp only [List.map_toArray, List.map_cons, List.map_nil]); first | done | (rw [show (l1.drop (((rd_T30 t396 (ji40)).f0) : Int).toNat).length = (l1.length - ((rd_T30 t396 (ji40)).f0).toNat) from List.length_drop] <;> rfl) | (simp only [hji40]; rfl) | rfl | (simp only [List.length_drop, List.length_take]; rfl)) ?_; (with_reducible refine (match_All.calls kj19 _ _ l0 _ _ (l1.drop (((rd_T30 t396 (ji40)).f0) : Int).toNat) t408 _ ?side1 ?side2 ?side3 ?side4 A45.out).mono ?_); (case side1 => repeat (first | exact (Kd.C_below HR0.out HB.out) | (with_reducible refine Kd.C_alloc ?_ _) | (with_reducible refine Kd.C_drewN ?_ _) | (with_reducible refine Kd.C_drew ?_))); (case side2 => exact HC0.out); (case side3 => repeat (first | exact (Kd.C_below HR407.out HB.out) | (with_reducible refine Kd.C_alloc ?_ _) | (with_reducible refine Kd.C_drewN ?_ _) | (with_reducible refine Kd.C_drew ?_))); (case side4 => exact HC407.out); rintro e w85 ⟨v409, rfl, ho0, hb⟩; refine ⟨_, rfl, ?_⟩; have n0_ := Aside0.mk (Kd.R_elder' (by (with_reducible repeat (first | apply Kd.R_alloc | apply Kd.R_drewN | apply Kd.R_drew)); exact HO_8.out) (Kd.R_base ho0) hb); have n1_ := Aside0.mk (Kd.R_lower (Kd.R_new' ho0 (Kd.R_lt (by (with_reducible repeat (first | apply Kd.R_alloc | apply Kd.R_drewN | apply Kd.R_drew)); exact HO_8.out))) (below_size (by repeat (first | (with_reducible first | exact HB.out | apply below_alloc | apply pw_below_drewN | apply below_drew1) | exact HB.out)))); have n2_ := Aside0.mk (below_step (by repeat (first | (with_reducible first | exact HB.out | apply below_alloc | apply pw_below_drewN | apply below_drew1) | exact HB.out)) hb); clear HO_8; clear HB; have HO_8 := n0_; have HO410 := n1_; have HB := n2_; clear n0_ n1_ n2_; (try clear hb); (try clear hb2); (try clear hk); (try clear hi); (try clear ho0); obtain ⟨Ao86, co86, eo86⟩ := Kd.R_slice HO410.out; subst eo86) | ((with_reducible refine gate_callee (f := 16) rfl ?_); refine goesL_ (some 107) rfl rfl Try.func16 (by kernel_rfl) rfl #[.slice Ao86 t408.length co86] rfl (by (try simp only [List.map_toArray, List.map_cons, List.map_nil]); first | done | rfl | (simp only [List.length_drop, List.length_take]; rfl)) ?_; (with_reducible refine (hornbooklaw11_cut.calls kj19 _ _ t408 t411 _ ?side1 ?side2 A46.out).mono ?_); (case side1 => repeat (first | exact (Kd.R_reads' HO410.out).2.2 | (with_reducible refine Kd.C_alloc ?_ _) | (with_reducible refine Kd.C_drewN ?_ _) | (with_reducible refine Kd.C_drew ?_))); (case side2 => exact (Kd.R_reads' HO410.out).2.1); rintro e w87 ⟨v412, rfl, ho0, hb⟩; refine ⟨_, rfl, ?_⟩; have n0_ := Aside0.mk (Kd.R_below (by (with_reducible repeat (first | apply Kd.R_alloc | apply Kd.R_drewN | apply Kd.R_drew)); exact HO_8.out) hb); have n1_ := Aside0.mk (Kd.R_below (by (with_reducible repeat (first | apply Kd.R_alloc | apply Kd.R_drewN | apply Kd.R_drew)); exact HO410.out) hb); have n2_ := Aside0.mk (Kd.R_lower ho0 (below_size (by repeat (first | (with_reducible first | exact HB.out | apply below_alloc | apply pw_below_drewN | apply below_drew1) | exact HB.out)))); have n3_ := Aside0.mk (below_step (by repeat (first | (with_reducible first | exact HB.out | apply below_alloc | apply pw_below_drewN | apply below_drew1) | exact HB.out)) hb); clear HO_8; clear HO410; clear HB; have HO_8 := n0_; have HO410 := n1_; have HO413 := n2_; have HB := n3_; clear n0_ n1_ n2_ n3_; (try clear hb); (try clear hb2); (try clear hk); (try clear hi); (try clear ho0); obtain ⟨Ao88, co88, eo88⟩ := Kd.R_slice HO413.out; subst eo88))
                                go_ret
                                exact ⟨by first | rfl | (simp [errW_none, errW_some] <;> rfl) | (simp only [← hji40]; first | rfl | (simp [errW_none, errW_some] <;> rfl)) | (simp [*, errW_none, errW_some] <;> rfl), by repeat (first | (with_reducible first | exact HB.out | apply below_alloc | apply pw_below_drewN | apply below_drew1) | exact HB.out)⟩
                            · rw [if_neg c44] at H
                              exact absurd H (by simp)
                          · rw [if_neg c43] at H
                            exact absurd H (by simp)
                        · rw [if_neg c42] at H
                          exact absurd H (by simp)
                      · rw [if_neg c41] at H
                        exact absurd H (by simp)

end Go.Proofs.Ytippodpmggcniaa.PAll
