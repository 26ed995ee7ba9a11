-- made by xprint.py of this session
import Derived.Test.YtippodpmggcniaaPAllx0
import Derived.Test.YtippodpmggcniaaPAllx1
import Derived.Test.YtippodpmggcniaaPAllx4
import Derived.Test.YtippodpmggcniaaPAllx7
import Derived.Test.YtippodpmggcniaaPAllx13
namespace Go.Proofs.Ytippodpmggcniaa.PAll
open Go.RowKit Go.Proofs.YtippodpmggcniaaW.PrintWords Go.Proofs.YtippodpmggcniaaW.PrintLast Go.Proofs.YtippodpmggcniaaW.PrintMore
attribute [local go_sem] max2_int min2_int max_two min_two max_three min_three max_four min_four   -- for this text's walks alone
set_option linter.unusedVariables false
set_option linter.unusedSimpArgs false

attribute [local go_sem high] eqA28
/-! ### hornbooklaw11_MatchCodes: function 3 -/
mutual
def hornbooklaw11_MatchCodes.j0 : Nat → List (S35) → List Int → Bool → Bool → Option (Bool)
  | 0, _, _, _, _ => none
  | k + 1, x0, x1, x5, x22 => if x22 = true then (some x5) else ((match_All.f k x0 x1).bind fun t205 => (hornbooklaw11_MatchCodes.l0 k x0 x1 x5 t205 0))
def hornbooklaw11_MatchCodes.l0 : Nat → List (S35) → List Int → Bool → List (S30) → Int → Option (Bool)
  | 0, _, _, _, _, _ => none
  | k + 1, x0, x1, x5, x6, x7 => if x7 < (x6.length : Int) then (if 0 ≤ x7 then (if ((rd_T30 x6 x7).f0) < 0 then (hornbooklaw11_MatchCodes.j2 k x0 x1 x5 x6 x7 true ((rd_T30 x6 x7).f0) ((rd_T30 x6 x7).f1) ((rd_T30 x6 x7).f2) ((rd_T30 x6 x7).f3.f0) ((rd_T30 x6 x7).f3.f1)) else (if ((rd_T30 x6 x7).f1) < 1 then (hornbooklaw11_MatchCodes.j2 k x0 x1 x5 x6 x7 true ((rd_T30 x6 x7).f0) ((rd_T30 x6 x7).f1) ((rd_T30 x6 x7).f2) ((rd_T30 x6 x7).f3.f0) ((rd_T30 x6 x7).f3.f1)) else (hornbooklaw11_MatchCodes.j2 k x0 x1 x5 x6 x7 (decide ((wrap64 (((rd_T30 x6 x7).f0) + ((rd_T30 x6 x7).f1))) > (x1.length : Int))) ((rd_T30 x6 x7).f0) ((rd_T30 x6 x7).f1) ((rd_T30 x6 x7).f2) ((rd_T30 x6 x7).f3.f0) ((rd_T30 x6 x7).f3.f1)))) else (none)) else (some x5)
def hornbooklaw11_MatchCodes.j2 : Nat → List (S35) → List Int → Bool → List (S30) → Int → Bool → Int → Int → Bool → Int → Int → Option (Bool)
  | 0, _, _, _, _, _, _, _, _, _, _, _ => none
  | k + 1, x0, x1, x5, x6, x7, x54, x210000, x210001, x210002, x210003, x210004 => if x54 = true then (some false) else (hornbooklaw11_MatchCodes.l1 k x0 x1 x5 x6 x7 1 x210000 x210001 x210002 x210003 x210004)
def hornbooklaw11_MatchCodes.l1 : Nat → List (S35) → List Int → Bool → List (S30) → Int → Int → Int → Int → Bool → Int → Int → Option (Bool)
  | 0, _, _, _, _, _, _, _, _, _, _, _ => none
  | k + 1, x0, x1, x5, x6, x7, x9, x210000, x210001, x210002, x210003, x210004 => if x9 ≤ 4 then (hornbooklaw11_MatchCodes.j4 k x0 x1 x5 x6 x7 x9 (decide ((wrap64 (x210000 + x9)) ≤ (x1.length : Int))) x210000 x210001 x210002 x210003 x210004) else (hornbooklaw11_MatchCodes.j4 k x0 x1 x5 x6 x7 x9 false x210000 x210001 x210002 x210003 x210004)
def hornbooklaw11_MatchCodes.j4 : Nat → List (S35) → List Int → Bool → List (S30) → Int → Int → Bool → Int → Int → Bool → Int → Int → Option (Bool)
  | 0, _, _, _, _, _, _, _, _, _, _, _, _ => none
  | k + 1, x0, x1, x5, x6, x7, x9, x65, x210000, x210001, x210002, x210003, x210004 => if x65 = true then (if 0 ≤ x210000 then (if x210000 ≤ (wrap64 (x210000 + x9)) then (if (wrap64 (x210000 + x9)) ≤ (x1.length : Int) then ((hex_Val.f k ((x1.take ((wrap64 (x210000 + x9)) : Int).toNat).drop (x210000 : Int).toNat)).bind fun bt211 => (hornbooklaw11_MatchCodes.l2 k x0 x1 x5 x6 x7 x9 bt211.2.2 false 0 x210000 x210001 x210002 x210003 x210004 bt211.1 bt211.2.1)) else (none)) else (none)) else (none)) else (if x210002 = true then (hornbooklaw11_MatchCodes.l0 k x0 x1 x5 x6 (wrap64 (x7 + 1))) else (if (!(x210003 == 0) || (!(x210004 == 0))) = true then (some false) else (hornbooklaw11_MatchCodes.l0 k x0 x1 x5 x6 (wrap64 (x7 + 1)))))
def hornbooklaw11_MatchCodes.l2 : Nat → List (S35) → List Int → Bool → List (S30) → Int → Int → Bool → Bool → Int → Int → Int → Bool → Int → Int → Int → Int → Option (Bool)
  | 0, _, _, _, _, _, _, _, _, _, _, _, _, _, _, _, _ => none
  | k + 1, x0, x1, x5, x6, x7, x9, x11, x12, x13, x210000, x210001, x210002, x210003, x210004, x215000, x215001 => if x13 < (x0.length : Int) then (if x12 = true then (hornbooklaw11_MatchCodes.l2 k x0 x1 x5 x6 x7 x9 x11 true (wrap64 (x13 + 1)) x210000 x210001 x210002 x210003 x210004 x215000 x215001) else (if 0 ≤ x13 then ((rect_In.f k ((rd_T35 x0 x13).f0) ((rd_T35 x0 x13).f1) ((rd_T35 x0 x13).f2) x215000 x215001).bind fun t216 => (hornbooklaw11_MatchCodes.l2 k x0 x1 x5 x6 x7 x9 x11 t216 (wrap64 (x13 + 1)) x210000 x210001 x210002 x210003 x210004 x215000 x215001)) else (none))) else (if x11 = true then (if x210002 = true then (if x9 < x210001 then (if x12 = true then (some false) else (if x9 = x210001 then (some false) else (hornbooklaw11_MatchCodes.l1 k x0 x1 x5 x6 x7 (wrap64 (x9 + 1)) x210000 x210001 x210002 x210003 x210004))) else (if x9 = x210001 then (if x12 = true then (if (!(x210003 == x215000) || (!(x210004 == x215001))) = true then (some false) else (hornbooklaw11_MatchCodes.l1 k x0 x1 x5 x6 x7 (wrap64 (x9 + 1)) x210000 x210001 x210002 x210003 x210004)) else (some false)) else (hornbooklaw11_MatchCodes.l1 k x0 x1 x5 x6 x7 (wrap64 (x9 + 1)) x210000 x210001 x210002 x210003 x210004))) else (if x12 = true then (some false) else (hornbooklaw11_MatchCodes.l1 k x0 x1 x5 x6 x7 (wrap64 (x9 + 1)) x210000 x210001 x210002 x210003 x210004))) else (some false))
end
def hornbooklaw11_MatchCodes.f (k : Nat) (l0 : List (S35)) (l1 : List Int) : Option (Bool) := (hornbooklaw11_awake.f k).bind fun t204 => (if (l0.length : Int) > 60 then (hornbooklaw11_MatchCodes.j0 k l0 l1 t204 true) else (hornbooklaw11_MatchCodes.j0 k l0 l1 t204 (decide ((l1.length : Int) > 200))))
theorem hornbooklaw11_MatchCodes.mono_l : ∀ k, (∀ y0 y1 y2 y3, LeO (hornbooklaw11_MatchCodes.j0 k y0 y1 y2 y3) (hornbooklaw11_MatchCodes.j0 (k + 1) y0 y1 y2 y3)) ∧ (∀ y0 y1 y2 y3 y4, LeO (hornbooklaw11_MatchCodes.l0 k y0 y1 y2 y3 y4) (hornbooklaw11_MatchCodes.l0 (k + 1) y0 y1 y2 y3 y4)) ∧ (∀ y0 y1 y2 y3 y4 y5 y6 y7 y8 y9 y10, LeO (hornbooklaw11_MatchCodes.j2 k y0 y1 y2 y3 y4 y5 y6 y7 y8 y9 y10) (hornbooklaw11_MatchCodes.j2 (k + 1) y0 y1 y2 y3 y4 y5 y6 y7 y8 y9 y10)) ∧ (∀ y0 y1 y2 y3 y4 y5 y6 y7 y8 y9 y10, LeO (hornbooklaw11_MatchCodes.l1 k y0 y1 y2 y3 y4 y5 y6 y7 y8 y9 y10) (hornbooklaw11_MatchCodes.l1 (k + 1) y0 y1 y2 y3 y4 y5 y6 y7 y8 y9 y10)) ∧ (∀ y0 y1 y2 y3 y4 y5 y6 y7 y8 y9 y10 y11, LeO (hornbooklaw11_MatchCodes.j4 k y0 y1 y2 y3 y4 y5 y6 y7 y8 y9 y10 y11) (hornbooklaw11_MatchCodes.j4 (k + 1) y0 y1 y2 y3 y4 y5 y6 y7 y8 y9 y10 y11)) ∧ (∀ y0 y1 y2 y3 y4 y5 y6 y7 y8 y9 y10 y11 y12 y13 y14 y15, LeO (hornbooklaw11_MatchCodes.l2 k y0 y1 y2 y3 y4 y5 y6 y7 y8 y9 y10 y11 y12 y13 y14 y15) (hornbooklaw11_MatchCodes.l2 (k + 1) y0 y1 y2 y3 y4 y5 y6 y7 y8 y9 y10 y11 y12 y13 y14 y15))
  | 0 => ⟨fun _ _ _ _ r h => by simp [hornbooklaw11_MatchCodes.j0] at h, fun _ _ _ _ _ r h => by simp [hornbooklaw11_MatchCodes.l0] at h, fun _ _ _ _ _ _ _ _ _ _ _ r h => by simp [hornbooklaw11_MatchCodes.j2] at h, fun _ _ _ _ _ _ _ _ _ _ _ r h => by simp [hornbooklaw11_MatchCodes.l1] at h, fun _ _ _ _ _ _ _ _ _ _ _ _ r h => by simp [hornbooklaw11_MatchCodes.j4] at h, fun _ _ _ _ _ _ _ _ _ _ _ _ _ _ _ _ r h => by simp [hornbooklaw11_MatchCodes.l2] at h⟩
  | k + 1 => by
    obtain ⟨ih0, ih1, ih2, ih3, ih4, ih5⟩ := hornbooklaw11_MatchCodes.mono_l k
    refine ⟨?_, ?_, ?_, ?_, ?_, ?_⟩
    · intro y0 y1 y2 y3
      unfold hornbooklaw11_MatchCodes.j0
      repeat' first
      | (with_reducible exact ih0 _ _ _ _)
      | (with_reducible exact ih1 _ _ _ _ _)
      | (with_reducible exact ih2 _ _ _ _ _ _ _ _ _ _ _)
      | (with_reducible exact ih3 _ _ _ _ _ _ _ _ _ _ _)
      | (with_reducible exact ih4 _ _ _ _ _ _ _ _ _ _ _ _)
      | (with_reducible exact ih5 _ _ _ _ _ _ _ _ _ _ _ _ _ _ _ _)
      | (with_reducible exact hex_Val.mono _ _)
      | (with_reducible exact hornbooklaw11_awake.mono _)
      | (with_reducible exact match_All.mono _ _ _)
      | (with_reducible exact rect_In.mono _ _ _ _ _ _)
      | (with_reducible exact LeO.refl _)
      | (with_reducible exact LeO.none _)
      | (with_reducible refine LeO.ite ?_ ?_)
      | (with_reducible refine LeO.bind ?_ (fun _ => ?_))
      | exact ih0 _ _ _ _
      | exact ih1 _ _ _ _ _
      | exact ih2 _ _ _ _ _ _ _ _ _ _ _
      | exact ih3 _ _ _ _ _ _ _ _ _ _ _
      | exact ih4 _ _ _ _ _ _ _ _ _ _ _ _
      | exact ih5 _ _ _ _ _ _ _ _ _ _ _ _ _ _ _ _
      | exact hex_Val.mono _ _
      | exact hornbooklaw11_awake.mono _
      | exact match_All.mono _ _ _
      | exact rect_In.mono _ _ _ _ _ _
      | exact LeO.none _
      | refine LeO.ite ?_ ?_
      | refine LeO.bind ?_ (fun _ => ?_)
    · intro y0 y1 y2 y3 y4
      unfold hornbooklaw11_MatchCodes.l0
      repeat' first
      | (with_reducible exact ih0 _ _ _ _)
      | (with_reducible exact ih1 _ _ _ _ _)
      | (with_reducible exact ih2 _ _ _ _ _ _ _ _ _ _ _)
      | (with_reducible exact ih3 _ _ _ _ _ _ _ _ _ _ _)
      | (with_reducible exact ih4 _ _ _ _ _ _ _ _ _ _ _ _)
      | (with_reducible exact ih5 _ _ _ _ _ _ _ _ _ _ _ _ _ _ _ _)
      | (with_reducible exact hex_Val.mono _ _)
      | (with_reducible exact hornbooklaw11_awake.mono _)
      | (with_reducible exact match_All.mono _ _ _)
      | (with_reducible exact rect_In.mono _ _ _ _ _ _)
      | (with_reducible exact LeO.refl _)
      | (with_reducible exact LeO.none _)
      | (with_reducible refine LeO.ite ?_ ?_)
      | (with_reducible refine LeO.bind ?_ (fun _ => ?_))
      | exact ih0 _ _ _ _
      | exact ih1 _ _ _ _ _
      | exact ih2 _ _ _ _ _ _ _ _ _ _ _
      | exact ih3 _ _ _ _ _ _ _ _ _ _ _
      | exact ih4 _ _ _ _ _ _ _ _ _ _ _ _
      | exact ih5 _ _ _ _ _ _ _ _ _ _ _ _ _ _ _ _
      | exact hex_Val.mono _ _
      | exact hornbooklaw11_awake.mono _
      | exact match_All.mono _ _ _
      | exact rect_In.mono _ _ _ _ _ _
      | exact LeO.none _
      | refine LeO.ite ?_ ?_
      | refine LeO.bind ?_ (fun _ => ?_)
    · intro y0 y1 y2 y3 y4 y5 y6 y7 y8 y9 y10
      unfold hornbooklaw11_MatchCodes.j2
      repeat' first
      | (with_reducible exact ih0 _ _ _ _)
      | (with_reducible exact ih1 _ _ _ _ _)
      | (with_reducible exact ih2 _ _ _ _ _ _ _ _ _ _ _)
      | (with_reducible exact ih3 _ _ _ _ _ _ _ _ _ _ _)
      | (with_reducible exact ih4 _ _ _ _ _ _ _ _ _ _ _ _)
      | (with_reducible exact ih5 _ _ _ _ _ _ _ _ _ _ _ _ _ _ _ _)
      | (with_reducible exact hex_Val.mono _ _)
      | (with_reducible exact hornbooklaw11_awake.mono _)
      | (with_reducible exact match_All.mono _ _ _)
      | (with_reducible exact rect_In.mono _ _ _ _ _ _)
      | (with_reducible exact LeO.refl _)
      | (with_reducible exact LeO.none _)
      | (with_reducible refine LeO.ite ?_ ?_)
      | (with_reducible refine LeO.bind ?_ (fun _ => ?_))
      | exact ih0 _ _ _ _
      | exact ih1 _ _ _ _ _
      | exact ih2 _ _ _ _ _ _ _ _ _ _ _
      | exact ih3 _ _ _ _ _ _ _ _ _ _ _
      | exact ih4 _ _ _ _ _ _ _ _ _ _ _ _
      | exact ih5 _ _ _ _ _ _ _ _ _ _ _ _ _ _ _ _
      | exact hex_Val.mono _ _
      | exact hornbooklaw11_awake.mono _
      | exact match_All.mono _ _ _
      | exact rect_In.mono _ _ _ _ _ _
      | exact LeO.none _
      | refine LeO.ite ?_ ?_
      | refine LeO.bind ?_ (fun _ => ?_)
    · intro y0 y1 y2 y3 y4 y5 y6 y7 y8 y9 y10
      unfold hornbooklaw11_MatchCodes.l1
      repeat' first
      | (with_reducible exact ih0 _ _ _ _)
      | (with_reducible exact ih1 _ _ _ _ _)
      | (with_reducible exact ih2 _ _ _ _ _ _ _ _ _ _ _)
      | (with_reducible exact ih3 _ _ _ _ _ _ _ _ _ _ _)
      | (with_reducible exact ih4 _ _ _ _ _ _ _ _ _ _ _ _)
      | (with_reducible exact ih5 _ _ _ _ _ _ _ _ _ _ _ _ _ _ _ _)
      | (with_reducible exact hex_Val.mono _ _)
      | (with_reducible exact hornbooklaw11_awake.mono _)
      | (with_reducible exact match_All.mono _ _ _)
      | (with_reducible exact rect_In.mono _ _ _ _ _ _)
      | (with_reducible exact LeO.refl _)
      | (with_reducible exact LeO.none _)
      | (with_reducible refine LeO.ite ?_ ?_)
      | (with_reducible refine LeO.bind ?_ (fun _ => ?_))
      | exact ih0 _ _ _ _
      | exact ih1 _ _ _ _ _
      | exact ih2 _ _ _ _ _ _ _ _ _ _ _
      | exact ih3 _ _ _ _ _ _ _ _ _ _ _
      | exact ih4 _ _ _ _ _ _ _ _ _ _ _ _
      | exact ih5 _ _ _ _ _ _ _ _ _ _ _ _ _ _ _ _
      | exact hex_Val.mono _ _
      | exact hornbooklaw11_awake.mono _
      | exact match_All.mono _ _ _
      | exact rect_In.mono _ _ _ _ _ _
      | exact LeO.none _
      | refine LeO.ite ?_ ?_
      | refine LeO.bind ?_ (fun _ => ?_)
    · intro y0 y1 y2 y3 y4 y5 y6 y7 y8 y9 y10 y11
      unfold hornbooklaw11_MatchCodes.j4
      repeat' first
      | (with_reducible exact ih0 _ _ _ _)
      | (with_reducible exact ih1 _ _ _ _ _)
      | (with_reducible exact ih2 _ _ _ _ _ _ _ _ _ _ _)
      | (with_reducible exact ih3 _ _ _ _ _ _ _ _ _ _ _)
      | (with_reducible exact ih4 _ _ _ _ _ _ _ _ _ _ _ _)
      | (with_reducible exact ih5 _ _ _ _ _ _ _ _ _ _ _ _ _ _ _ _)
      | (with_reducible exact hex_Val.mono _ _)
      | (with_reducible exact hornbooklaw11_awake.mono _)
      | (with_reducible exact match_All.mono _ _ _)
      | (with_reducible exact rect_In.mono _ _ _ _ _ _)
      | (with_reducible exact LeO.refl _)
      | (with_reducible exact LeO.none _)
      | (with_reducible refine LeO.ite ?_ ?_)
      | (with_reducible refine LeO.bind ?_ (fun _ => ?_))
      | exact ih0 _ _ _ _
      | exact ih1 _ _ _ _ _
      | exact ih2 _ _ _ _ _ _ _ _ _ _ _
      | exact ih3 _ _ _ _ _ _ _ _ _ _ _
      | exact ih4 _ _ _ _ _ _ _ _ _ _ _ _
      | exact ih5 _ _ _ _ _ _ _ _ _ _ _ _ _ _ _ _
      | exact hex_Val.mono _ _
      | exact hornbooklaw11_awake.mono _
      | exact match_All.mono _ _ _
      | exact rect_In.mono _ _ _ _ _ _
      | exact LeO.none _
      | refine LeO.ite ?_ ?_
      | refine LeO.bind ?_ (fun _ => ?_)
    · intro y0 y1 y2 y3 y4 y5 y6 y7 y8 y9 y10 y11 y12 y13 y14 y15
      unfold hornbooklaw11_MatchCodes.l2
      repeat' first
      | (with_reducible exact ih0 _ _ _ _)
      | (with_reducible exact ih1 _ _ _ _ _)
      | (with_reducible exact ih2 _ _ _ _ _ _ _ _ _ _ _)
      | (with_reducible exact ih3 _ _ _ _ _ _ _ _ _ _ _)
      | (with_reducible exact ih4 _ _ _ _ _ _ _ _ _ _ _ _)
      | (with_reducible exact ih5 _ _ _ _ _ _ _ _ _ _ _ _ _ _ _ _)
      | (with_reducible exact hex_Val.mono _ _)
      | (with_reducible exact hornbooklaw11_awake.mono _)
      | (with_reducible exact match_All.mono _ _ _)
      | (with_reducible exact rect_In.mono _ _ _ _ _ _)
      | (with_reducible exact LeO.refl _)
      | (with_reducible exact LeO.none _)
      | (with_reducible refine LeO.ite ?_ ?_)
      | (with_reducible refine LeO.bind ?_ (fun _ => ?_))
      | exact ih0 _ _ _ _
      | exact ih1 _ _ _ _ _
      | exact ih2 _ _ _ _ _ _ _ _ _ _ _
      | exact ih3 _ _ _ _ _ _ _ _ _ _ _
      | exact ih4 _ _ _ _ _ _ _ _ _ _ _ _
      | exact ih5 _ _ _ _ _ _ _ _ _ _ _ _ _ _ _ _
      | exact hex_Val.mono _ _
      | exact hornbooklaw11_awake.mono _
      | exact match_All.mono _ _ _
      | exact rect_In.mono _ _ _ _ _ _
      | exact LeO.none _
      | refine LeO.ite ?_ ?_
      | refine LeO.bind ?_ (fun _ => ?_)
theorem hornbooklaw11_MatchCodes.mono : ∀ a0 a1 k, LeO (hornbooklaw11_MatchCodes.f k a0 a1) (hornbooklaw11_MatchCodes.f (k + 1) a0 a1) := by
  intro a0 a1 k
  obtain ⟨ih0, ih1, ih2, ih3, ih4, ih5⟩ := hornbooklaw11_MatchCodes.mono_l k
  unfold hornbooklaw11_MatchCodes.f
  repeat' first
      | (with_reducible exact ih0 _ _ _ _)
      | (with_reducible exact ih1 _ _ _ _ _)
      | (with_reducible exact ih2 _ _ _ _ _ _ _ _ _ _ _)
      | (with_reducible exact ih3 _ _ _ _ _ _ _ _ _ _ _)
      | (with_reducible exact ih4 _ _ _ _ _ _ _ _ _ _ _ _)
      | (with_reducible exact ih5 _ _ _ _ _ _ _ _ _ _ _ _ _ _ _ _)
      | (with_reducible exact hex_Val.mono _ _)
      | (with_reducible exact hornbooklaw11_awake.mono _)
      | (with_reducible exact match_All.mono _ _ _)
      | (with_reducible exact rect_In.mono _ _ _ _ _ _)
      | (with_reducible exact LeO.refl _)
      | (with_reducible exact LeO.none _)
      | (with_reducible refine LeO.ite ?_ ?_)
      | (with_reducible refine LeO.bind ?_ (fun _ => ?_))
      | exact ih0 _ _ _ _
      | exact ih1 _ _ _ _ _
      | exact ih2 _ _ _ _ _ _ _ _ _ _ _
      | exact ih3 _ _ _ _ _ _ _ _ _ _ _
      | exact ih4 _ _ _ _ _ _ _ _ _ _ _ _
      | exact ih5 _ _ _ _ _ _ _ _ _ _ _ _ _ _ _ _
      | exact hex_Val.mono _ _
      | exact hornbooklaw11_awake.mono _
      | exact match_All.mono _ _ _
      | exact rect_In.mono _ _ _ _ _ _
      | exact LeO.none _
      | refine LeO.ite ?_ ?_
      | refine LeO.bind ?_ (fun _ => ?_)
def hornbooklaw11_MatchCodes.T19 : Bool × List (List Nat × List Nat) := (true, [([], []), ([0], [0]), ([1], [1]), ([1], [1]), ([2, 3, 1], [1, 2, 3]), ([4, 1], [1, 4]), ([1], [1]), ([5, 6, 1, 1], [1, 5, 6]), ([1, 7], [1, 7]), ([8, 7, 0, 1, 2, 3, 4, 5, 6, 7, 8], [0, 8])])
def hornbooklaw11_MatchCodes.B19 : List Nat := [0, 1, 3, 3, 15, 31, 3, 127, 255, 511]
theorem hornbooklaw11_MatchCodes.tab19 : rtab .any (opsOf Try.f3 19) = hornbooklaw11_MatchCodes.T19 := by kernel_rfl
theorem hornbooklaw11_MatchCodes.bits19 : waitsOk hornbooklaw11_MatchCodes.T19.2 hornbooklaw11_MatchCodes.B19 = true := by kernel_rfl
set_option maxHeartbeats 8000000 in
set_option maxRecDepth 100000 in
theorem hornbooklaw11_MatchCodes.calls (k : Nat) (A0 : Option Addr) (c0 : Nat) (l0 : List (S35)) (A1 : Option Addr) (c1 : Nat) (l1 : List Int) (r : Bool) (w : World) (hr0 : Kd.C k35 w A0 l0.length l0) (hc0 : l0.length ≤ c0) (hr1 : Kd.C (Kd.int .u8) w A1 l1.length l1) (hc1 : l1.length ≤ c1) (h : hornbooklaw11_MatchCodes.f k l0 l1 = some r) :
    Calls Try.prog 3 #[.slice A0 l0.length c0, .slice A1 l1.length c1] w fun e w' => e = .returned (.bool r) ∧ Below w.heap.size w w' := by
  have hu30 := Try.underlying30
  have hu28 := Try.underlying28
  have hu35 := Try.underlying35
  have HR0 := Aside0.mk hr0
  have HC0 := Aside0.mk hc0
  clear hr0 hc0
  have HR1 := Aside0.mk hr1
  have HC1 := Aside0.mk hc1
  clear hr1 hc1
  have HB := Aside0.mk (Below.refl w.heap.size w)
  have H : ((hornbooklaw11_awake.f k).bind fun t204 => (if (l0.length : Int) > 60 then (hornbooklaw11_MatchCodes.j0 k l0 l1 t204 true) else (hornbooklaw11_MatchCodes.j0 k l0 l1 t204 (decide ((l1.length : Int) > 200))))) = some r := h
  clear h
  replace H := Option.bind_eq_some_iff.mp H
  obtain ⟨t204, A30, H⟩ := H
  replace H : (if (l0.length : Int) > 60 then (hornbooklaw11_MatchCodes.j0 k l0 l1 t204 true) else (hornbooklaw11_MatchCodes.j0 k l0 l1 t204 (decide ((l1.length : Int) > 200)))) = some r := H
  have A3 := Aside0.mk A30
  clear A30
  have HC4 := Aside0.mk H
  clear H
  go_enter Try.func3, Try.ntmps3
  go_upto_region 2 with (first | ((with_reducible refine gate_callee (f := 9) rfl ?_); refine goesL_ (some 14) rfl rfl Try.func9 (by kernel_rfl) rfl #[] rfl (by (try simp only [List.map_toArray, List.map_cons, List.map_nil]); first | done | rfl | (simp only [List.length_drop, List.length_take]; rfl)) ?_; (with_reducible refine (hornbooklaw11_awake.calls k  t204 _ A3.out).mono ?_); rintro e w5 ⟨rfl, hb⟩; refine ⟨_, rfl, ?_⟩; have n0_ := Aside0.mk (below_step (by repeat (first | (with_reducible first | exact HB.out | apply below_alloc | apply pw_below_drewN | apply below_drew1) | exact HB.out)) hb); clear HB; have HB := n0_; clear n0_; (try clear hb); (try clear hb2); (try clear hk); (try clear hi)))
  (try simp only [Act.put, List.setIfInBounds_toArray, List.set_cons_zero, List.set_cons_succ])
  go_cut [22] (fun v22 wc => ∃ (kq : Nat) (x22_3 : Bool), v22 = .bool x22_3 ∧ Aside0 (hornbooklaw11_MatchCodes.j0 kq l0 l1 t204 x22_3 = some r) ∧ Aside0 (kq ≤ k) ∧ Aside0 (Below w.heap.size w wc))
  case first =>
    have H := HC4.out
    clear HC4
    by_cases c6 : (l0.length : Int) > 60
    · rw [if_pos c6] at H
      have c6b0 : decide (60 < (l0.length : Int)) = true := decide_eq_true c6
      have c6b1 : decide (60 < l0.length) = true := decide_eq_true (by omega)
      clear c6
      (first | rw [c6b0] | (simp only [i64_w, i32_w]; rw [c6b0]) | skip)
      have H' := Aside0.mk H
      clear H
      go_wp2
      go_meet
      case rel => exact ⟨_, (true), (by first | rfl | (simp; done) | (simp [*]; done)), H', ⟨by first | omega | exact Nat.le_refl _⟩, ⟨by repeat (first | (with_reducible first | exact HB.out | apply below_alloc | apply pw_below_drewN | apply below_drew1) | exact HB.out)⟩⟩
    · rw [if_neg c6] at H
      have c6b0 : decide (60 < (l0.length : Int)) = false := decide_eq_false c6
      have c6b1 : decide (60 < l0.length) = false := decide_eq_false (by omega)
      clear c6
      (first | rw [c6b0] | (simp only [i64_w, i32_w]; rw [c6b0]) | skip)
      have H' := Aside0.mk H
      clear H
      go_wp2
      go_meet
      case rel => exact ⟨_, (decide ((l1.length : Int) > 200)), (by first | rfl | (simp; done) | (simp [*]; done)), H', ⟨by first | omega | exact Nat.le_refl _⟩, ⟨by repeat (first | (with_reducible first | exact HB.out | apply below_alloc | apply pw_below_drewN | apply below_drew1) | exact HB.out)⟩⟩
  case rest =>
    clear HC4
    try clear c1
    try clear p2
    try clear c3
    try clear c6
    try clear c6b0
    try clear c6b1
    obtain ⟨kq, x22_3, rfl, HA, HJ3, HB⟩ := hcut
    cases kq with
    | zero => exact absurd HA.out (by simp [hornbooklaw11_MatchCodes.j0])
    | succ kj3 =>
      have H := HA.out
      clear HA
      simp only [hornbooklaw11_MatchCodes.j0] at H
      by_cases c7 : x22_3 = true
      · subst c7
        have H1 : (some t204) = some r := by rw [if_pos rfl] at H; exact H
        clear H
        have H := H1
        clear H1
        obtain rfl := Option.some.inj H
        go_wp2
        go_ret
        exact ⟨by first | rfl | (simp [errW_none, errW_some] <;> rfl) | (simp [*, errW_none, errW_some] <;> rfl), by repeat (first | (with_reducible first | exact HB.out | apply below_alloc | apply pw_below_drewN | apply below_drew1) | exact HB.out)⟩
      · replace c7 := Bool.eq_false_iff.mpr c7
        subst c7
        have H1 : ((match_All.f kj3 l0 l1).bind fun t205 => (hornbooklaw11_MatchCodes.l0 kj3 l0 l1 t204 t205 0)) = some r := by rw [if_neg (show ¬ (false = true) by decide)] at H; exact H
        clear H
        have H := H1
        clear H1
        replace H := Option.bind_eq_some_iff.mp H
        obtain ⟨t205, A80, H⟩ := H
        replace H : (hornbooklaw11_MatchCodes.l0 kj3 l0 l1 t204 t205 0) = some r := H
        have A8 := Aside0.mk A80
        clear A80
        have H' := Aside0.mk H
        clear H
        go_wp2_with (first | ((with_reducible refine gate_callee (f := 10) rfl ?_); refine goesL_ (some 26) rfl rfl Try.func10 (by kernel_rfl) rfl #[.slice A0 l0.length c0, .slice A1 l1.length c1] rfl (by (try simp only [List.map_toArray, List.map_cons, List.map_nil]); first | done | rfl | (simp only [List.length_drop, List.length_take]; rfl)) ?_; (with_reducible refine (match_All.calls kj3 _ _ l0 _ _ l1 t205 _ ?side1 ?side2 ?side3 ?side4 A8.out).mono ?_); (case side1 => repeat (first | exact (Kd.C_below HR0.out HB.out) | (with_reducible refine Kd.C_alloc ?_ _) | (with_reducible refine Kd.C_drewN ?_ _) | (with_reducible refine Kd.C_drew ?_))); (case side2 => exact HC0.out); (case side3 => repeat (first | exact (Kd.C_below HR1.out HB.out) | (with_reducible refine Kd.C_alloc ?_ _) | (with_reducible refine Kd.C_drewN ?_ _) | (with_reducible refine Kd.C_drew ?_))); (case side4 => exact HC1.out); rintro e w9 ⟨v206, rfl, ho0, hb⟩; refine ⟨_, rfl, ?_⟩; have n0_ := Aside0.mk (Kd.R_lower ho0 (below_size (by repeat (first | (with_reducible first | exact HB.out | apply below_alloc | apply pw_below_drewN | apply below_drew1) | exact HB.out)))); have n1_ := Aside0.mk (below_step (by repeat (first | (with_reducible first | exact HB.out | apply below_alloc | apply pw_below_drewN | apply below_drew1) | exact HB.out)) hb); clear HB; have HO207 := n0_; have HB := n1_; clear n0_ n1_; (try clear hb); (try clear hb2); (try clear hk); (try clear hi); (try clear ho0)))
        go_loopg [7] kj3 (fun kq v7 w' => ∃ (x7_2 : Int), v7 = .int .i64 x7_2 ∧ Aside0 (hornbooklaw11_MatchCodes.l0 kq l0 l1 t204 t205 x7_2 = some r) ∧ Aside0 (kq ≤ kj3) ∧ Aside0 (Kd.R k30 30 w' w.heap.size (fun _ => True) v206 t205) ∧ Aside0 (Below w.heap.size w w'))
        case atStart => exact ⟨(0), (by first | rfl | (simp; done) | (simp [*]; done)), H', ⟨Nat.le_refl _⟩, ⟨by (with_reducible repeat (first | apply Kd.R_alloc | apply Kd.R_drewN | apply Kd.R_drew)); exact HO207.out⟩, ⟨by repeat (first | (with_reducible first | exact HB.out | apply below_alloc | apply pw_below_drewN | apply below_drew1) | exact HB.out)⟩⟩
        case round =>
          clear H'
          try clear c1
          try clear p2
          try clear c3
          try clear c6
          try clear c6b0
          try clear c6b1
          try clear c7
          try clear c9
          try clear p2
          obtain ⟨x7_2, rfl, HA, HK2, HO_6, HB⟩ := hrel
          cases gk with
          | zero => exact absurd HA.out (by simp [hornbooklaw11_MatchCodes.l0])
          | succ k2 =>
            have H := HA.out
            clear HA
            simp only [hornbooklaw11_MatchCodes.l0] at H
            by_cases c10 : x7_2 < (t205.length : Int)
            · rw [if_pos c10] at H
              have c10b0 : decide (x7_2 < (t205.length : Int)) = true := decide_eq_true c10
              clear c10
              by_cases c11 : 0 ≤ x7_2
              · rw [if_pos c11] at H
                have c11b0 : decide (0 ≤ x7_2) = true := decide_eq_true c11
                clear c11
                have HC12 := Aside0.mk H
                clear H
                obtain ⟨Ao13, co13, eo13⟩ := Kd.R_slice HO_6.out
                subst eo13
                have p208 : 0 ≤ (x7_2 : Int) := of_decide_eq_true (by first | (with_reducible assumption) | assumption)
                have q208 : x7_2 < (t205.length : Int) := of_decide_eq_true (by first | (with_reducible assumption) | assumption)
                obtain ⟨ad208, e208, hx208_0, hx208_1, hx208_2, hx208_3, hx208_4⟩ := at_T30 (Kd.R_reads' HO_6.out).2.2 x7_2 p208 q208
                cases e208
                replace p208 := eq_true p208
                replace q208 := eq_true q208
                go_upto_region 9 with (first | ((with_reducible refine gate_dst (N := 8) rfl ?_); (try (refine gate_guard (by rfl) ?_; dsimp only)); refine box_event ?hg (N := 8) ?hd (cs := #[.int .i64 0, .int .i64 0, .bool false, .int .i64 0, .int .i64 0]) (t := 30) ?hr ?_; (case hd => rfl); (case hg => rfl); (case hr => first | (go_simp; done) | (go_simp; rfl)); intro gb209 hg w14 hbox hb; have n0_ := Aside0.mk (Kd.R_below (Kd.R_elderB (by (with_reducible repeat (first | apply Kd.R_alloc | apply Kd.R_drewN | apply Kd.R_drew)); exact HO_6.out) gb209 (Nat.le_of_eq hg.symm)) hb); have n1_ := Aside0.mk (below_step (by repeat (first | (with_reducible first | exact HB.out | apply below_alloc | apply pw_below_drewN | apply below_drew1) | exact HB.out)) hb); have n2_ := Aside0.mk (hbox); have n3_ := Aside0.mk ((by rw [hg]; exact (below_size (by repeat (first | (with_reducible first | exact HB.out | apply below_alloc | apply pw_below_drewN | apply below_drew1) | exact HB.out))) : w.heap.size ≤ gb209)); have n4_ := Aside0.mk ((by rw [hg]; exact (below_size (by repeat (first | (with_reducible first | exact HB.out | apply below_alloc | apply pw_below_drewN | apply below_drew1) | exact HB.out))) : w.heap.size ≤ gb209)); clear HO_6; clear HB; have HO_6 := n0_; have HB := n1_; have BK209 := n2_; have GW209 := n3_; have GE209 := n4_; clear n0_ n1_ n2_ n3_ n4_; clear hb hbox hg; have hcz15_0 : w14.cell? ⟨gb209, 0, none⟩ = some (.int .i64 0) := (blk_cell BK209.out 0).trans rfl; have hcz15_1 : w14.cell? ⟨gb209, 1, none⟩ = some (.int .i64 0) := (blk_cell BK209.out 1).trans rfl; have hcz15_2 : w14.cell? ⟨gb209, 2, none⟩ = some (.bool false) := (blk_cell BK209.out 2).trans rfl; have hcz15_3 : w14.cell? ⟨gb209, 3, none⟩ = some (.int .i64 0) := (blk_cell BK209.out 3).trans rfl; have hcz15_4 : w14.cell? ⟨gb209, 4, none⟩ = some (.int .i64 0) := (blk_cell BK209.out 4).trans rfl; have hfz15_0 := blk_frozen BK209.out 0; have hfz15_1 := blk_frozen BK209.out 1; have hfz15_2 := blk_frozen BK209.out 2; have hfz15_3 := blk_frozen BK209.out 3; have hfz15_4 := blk_frozen BK209.out 4))
                (try simp only [Act.put, List.setIfInBounds_toArray, List.set_cons_zero, List.set_cons_succ])
                go_cut [54] (fun v54 wc => ∃ (kq : Nat) (x54_11 : Bool), v54 = .bool x54_11 ∧ Aside0 (hornbooklaw11_MatchCodes.j2 kq l0 l1 t204 t205 x7_2 x54_11 ((rd_T30 t205 x7_2).f0) ((rd_T30 t205 x7_2).f1) ((rd_T30 t205 x7_2).f2) ((rd_T30 t205 x7_2).f3.f0) ((rd_T30 t205 x7_2).f3.f1) = some r) ∧ Aside0 (kq ≤ k2) ∧ Aside0 (Kd.R k30 30 wc w.heap.size (fun k_ => k_ ≠ gb209) (.slice (some ad208) t205.length co13) t205) ∧ Aside0 (wc.heap[gb209]? = some (.cells #[.int .i64 ((rd_T30 t205 x7_2).f0), .int .i64 ((rd_T30 t205 x7_2).f1), .bool ((rd_T30 t205 x7_2).f2), .int .i64 ((rd_T30 t205 x7_2).f3.f0), .int .i64 ((rd_T30 t205 x7_2).f3.f1)] 30 (0, 0))) ∧ Aside0 (Below w.heap.size w wc))
                case first =>
                  have H := HC12.out
                  clear HC12
                  by_cases c16 : ((rd_T30 t205 x7_2).f0) < 0
                  · rw [if_pos c16] at H
                    have c16b0 : decide (((rd_T30 t205 x7_2).f0) < 0) = true := decide_eq_true c16
                    clear c16
                    (first | rw [c16b0] | (simp only [i64_w, i32_w]; rw [c16b0]) | skip)
                    have H' := Aside0.mk H
                    clear H
                    have hcz17_0 : w14.cell? ⟨gb209, 0, none⟩ = some (.int .i64 0) := (blk_cell BK209.out 0).trans rfl
                    have hcz17_1 : w14.cell? ⟨gb209, 1, none⟩ = some (.int .i64 0) := (blk_cell BK209.out 1).trans rfl
                    have hcz17_2 : w14.cell? ⟨gb209, 2, none⟩ = some (.bool false) := (blk_cell BK209.out 2).trans rfl
                    have hcz17_3 : w14.cell? ⟨gb209, 3, none⟩ = some (.int .i64 0) := (blk_cell BK209.out 3).trans rfl
                    have hcz17_4 : w14.cell? ⟨gb209, 4, none⟩ = some (.int .i64 0) := (blk_cell BK209.out 4).trans rfl
                    have hfz17_0 := blk_frozen BK209.out 0
                    have hfz17_1 := blk_frozen BK209.out 1
                    have hfz17_2 := blk_frozen BK209.out 2
                    have hfz17_3 := blk_frozen BK209.out 3
                    have hfz17_4 := blk_frozen BK209.out 4
                    go_wp2
                    go_meet
                    case rel => exact ⟨_, (true), (by first | rfl | (simp; done) | (simp [*]; done)), H', ⟨by have := HJ3.out; have := HK2.out; first | omega | exact Nat.le_refl _⟩, ⟨by (with_reducible repeat (first | apply Kd.R_alloc | apply Kd.R_drewN | apply Kd.R_drew)); exact Kd.R_mono (Kd.R_far (p := ⟨gb209, 4, none⟩) (Kd.R_far (p := ⟨gb209, 3, none⟩) (Kd.R_far (p := ⟨gb209, 2, none⟩) (Kd.R_far (p := ⟨gb209, 1, none⟩) (Kd.R_far (p := ⟨gb209, 0, none⟩) (Kd.R_mono HO_6.out (fun k_ hk => (⟨hk, hk.2⟩ : _ ∧ k_ ≠ gb209))) (fun _ hk => hk.2) (.int .i64 ((rd_T30 t205 x7_2).f0))) (fun _ hk => hk.2) (.int .i64 ((rd_T30 t205 x7_2).f1))) (fun _ hk => hk.2) (.bool ((rd_T30 t205 x7_2).f2))) (fun _ hk => hk.2) (.int .i64 ((rd_T30 t205 x7_2).f3.f0))) (fun _ hk => hk.2) (.int .i64 ((rd_T30 t205 x7_2).f3.f1))) (fun _ hk => hk.1.2)⟩, ⟨by (with_reducible repeat (first | refine blk_drewN ?_ _ | refine blk_drew ?_ | refine blk_alloc ?_ _)); refine blk_put (cs := #[.int .i64 ((rd_T30 t205 x7_2).f0), .int .i64 ((rd_T30 t205 x7_2).f1), .bool ((rd_T30 t205 x7_2).f2), .int .i64 ((rd_T30 t205 x7_2).f3.f0), .int .i64 0]) ?_ 4 _ rfl; (with_reducible repeat (first | refine blk_drewN ?_ _ | refine blk_drew ?_ | refine blk_alloc ?_ _)); refine blk_put (cs := #[.int .i64 ((rd_T30 t205 x7_2).f0), .int .i64 ((rd_T30 t205 x7_2).f1), .bool ((rd_T30 t205 x7_2).f2), .int .i64 0, .int .i64 0]) ?_ 3 _ rfl; (with_reducible repeat (first | refine blk_drewN ?_ _ | refine blk_drew ?_ | refine blk_alloc ?_ _)); refine blk_put (cs := #[.int .i64 ((rd_T30 t205 x7_2).f0), .int .i64 ((rd_T30 t205 x7_2).f1), .bool false, .int .i64 0, .int .i64 0]) ?_ 2 _ rfl; (with_reducible repeat (first | refine blk_drewN ?_ _ | refine blk_drew ?_ | refine blk_alloc ?_ _)); refine blk_put (cs := #[.int .i64 ((rd_T30 t205 x7_2).f0), .int .i64 0, .bool false, .int .i64 0, .int .i64 0]) ?_ 1 _ rfl; (with_reducible repeat (first | refine blk_drewN ?_ _ | refine blk_drew ?_ | refine blk_alloc ?_ _)); refine blk_put (cs := #[.int .i64 0, .int .i64 0, .bool false, .int .i64 0, .int .i64 0]) ?_ 0 _ rfl; (with_reducible repeat (first | refine blk_drewN ?_ _ | refine blk_drew ?_ | refine blk_alloc ?_ _)); exact BK209.out⟩, ⟨by repeat (first | (with_reducible first | exact HB.out | apply below_alloc | apply pw_below_drewN | apply below_drew1 | refine below_set ?_ GE209.out) | exact HB.out)⟩⟩
                  · rw [if_neg c16] at H
                    have c16b0 : decide (((rd_T30 t205 x7_2).f0) < 0) = false := decide_eq_false c16
                    clear c16
                    (first | rw [c16b0] | (simp only [i64_w, i32_w]; rw [c16b0]) | skip)
                    by_cases c18 : ((rd_T30 t205 x7_2).f1) < 1
                    · rw [if_pos c18] at H
                      have c18b0 : decide (((rd_T30 t205 x7_2).f1) < 1) = true := decide_eq_true c18
                      clear c18
                      have H' := Aside0.mk H
                      clear H
                      have hcz19_0 : w14.cell? ⟨gb209, 0, none⟩ = some (.int .i64 0) := (blk_cell BK209.out 0).trans rfl
                      have hcz19_1 : w14.cell? ⟨gb209, 1, none⟩ = some (.int .i64 0) := (blk_cell BK209.out 1).trans rfl
                      have hcz19_2 : w14.cell? ⟨gb209, 2, none⟩ = some (.bool false) := (blk_cell BK209.out 2).trans rfl
                      have hcz19_3 : w14.cell? ⟨gb209, 3, none⟩ = some (.int .i64 0) := (blk_cell BK209.out 3).trans rfl
                      have hcz19_4 : w14.cell? ⟨gb209, 4, none⟩ = some (.int .i64 0) := (blk_cell BK209.out 4).trans rfl
                      have hfz19_0 := blk_frozen BK209.out 0
                      have hfz19_1 := blk_frozen BK209.out 1
                      have hfz19_2 := blk_frozen BK209.out 2
                      have hfz19_3 := blk_frozen BK209.out 3
                      have hfz19_4 := blk_frozen BK209.out 4
                      go_wp2
                      go_meet
                      case rel => exact ⟨_, (true), (by first | rfl | (simp; done) | (simp [*]; done)), H', ⟨by have := HJ3.out; have := HK2.out; first | omega | exact Nat.le_refl _⟩, ⟨by (with_reducible repeat (first | apply Kd.R_alloc | apply Kd.R_drewN | apply Kd.R_drew)); exact Kd.R_mono (Kd.R_far (p := ⟨gb209, 4, none⟩) (Kd.R_far (p := ⟨gb209, 3, none⟩) (Kd.R_far (p := ⟨gb209, 2, none⟩) (Kd.R_far (p := ⟨gb209, 1, none⟩) (Kd.R_far (p := ⟨gb209, 0, none⟩) (Kd.R_mono HO_6.out (fun k_ hk => (⟨hk, hk.2⟩ : _ ∧ k_ ≠ gb209))) (fun _ hk => hk.2) (.int .i64 ((rd_T30 t205 x7_2).f0))) (fun _ hk => hk.2) (.int .i64 ((rd_T30 t205 x7_2).f1))) (fun _ hk => hk.2) (.bool ((rd_T30 t205 x7_2).f2))) (fun _ hk => hk.2) (.int .i64 ((rd_T30 t205 x7_2).f3.f0))) (fun _ hk => hk.2) (.int .i64 ((rd_T30 t205 x7_2).f3.f1))) (fun _ hk => hk.1.2)⟩, ⟨by (with_reducible repeat (first | refine blk_drewN ?_ _ | refine blk_drew ?_ | refine blk_alloc ?_ _)); refine blk_put (cs := #[.int .i64 ((rd_T30 t205 x7_2).f0), .int .i64 ((rd_T30 t205 x7_2).f1), .bool ((rd_T30 t205 x7_2).f2), .int .i64 ((rd_T30 t205 x7_2).f3.f0), .int .i64 0]) ?_ 4 _ rfl; (with_reducible repeat (first | refine blk_drewN ?_ _ | refine blk_drew ?_ | refine blk_alloc ?_ _)); refine blk_put (cs := #[.int .i64 ((rd_T30 t205 x7_2).f0), .int .i64 ((rd_T30 t205 x7_2).f1), .bool ((rd_T30 t205 x7_2).f2), .int .i64 0, .int .i64 0]) ?_ 3 _ rfl; (with_reducible repeat (first | refine blk_drewN ?_ _ | refine blk_drew ?_ | refine blk_alloc ?_ _)); refine blk_put (cs := #[.int .i64 ((rd_T30 t205 x7_2).f0), .int .i64 ((rd_T30 t205 x7_2).f1), .bool false, .int .i64 0, .int .i64 0]) ?_ 2 _ rfl; (with_reducible repeat (first | refine blk_drewN ?_ _ | refine blk_drew ?_ | refine blk_alloc ?_ _)); refine blk_put (cs := #[.int .i64 ((rd_T30 t205 x7_2).f0), .int .i64 0, .bool false, .int .i64 0, .int .i64 0]) ?_ 1 _ rfl; (with_reducible repeat (first | refine blk_drewN ?_ _ | refine blk_drew ?_ | refine blk_alloc ?_ _)); refine blk_put (cs := #[.int .i64 0, .int .i64 0, .bool false, .int .i64 0, .int .i64 0]) ?_ 0 _ rfl; (with_reducible repeat (first | refine blk_drewN ?_ _ | refine blk_drew ?_ | refine blk_alloc ?_ _)); exact BK209.out⟩, ⟨by repeat (first | (with_reducible first | exact HB.out | apply below_alloc | apply pw_below_drewN | apply below_drew1 | refine below_set ?_ GE209.out) | exact HB.out)⟩⟩
                    · rw [if_neg c18] at H
                      have c18b0 : decide (((rd_T30 t205 x7_2).f1) < 1) = false := decide_eq_false c18
                      clear c18
                      have H' := Aside0.mk H
                      clear H
                      have hcz20_0 : w14.cell? ⟨gb209, 0, none⟩ = some (.int .i64 0) := (blk_cell BK209.out 0).trans rfl
                      have hcz20_1 : w14.cell? ⟨gb209, 1, none⟩ = some (.int .i64 0) := (blk_cell BK209.out 1).trans rfl
                      have hcz20_2 : w14.cell? ⟨gb209, 2, none⟩ = some (.bool false) := (blk_cell BK209.out 2).trans rfl
                      have hcz20_3 : w14.cell? ⟨gb209, 3, none⟩ = some (.int .i64 0) := (blk_cell BK209.out 3).trans rfl
                      have hcz20_4 : w14.cell? ⟨gb209, 4, none⟩ = some (.int .i64 0) := (blk_cell BK209.out 4).trans rfl
                      have hfz20_0 := blk_frozen BK209.out 0
                      have hfz20_1 := blk_frozen BK209.out 1
                      have hfz20_2 := blk_frozen BK209.out 2
                      have hfz20_3 := blk_frozen BK209.out 3
                      have hfz20_4 := blk_frozen BK209.out 4
                      go_wp2
                      go_meet
                      case rel => exact ⟨_, (decide ((wrap64 (((rd_T30 t205 x7_2).f0) + ((rd_T30 t205 x7_2).f1))) > (l1.length : Int))), (by first | rfl | (simp; done) | (simp [*]; done)), H', ⟨by have := HJ3.out; have := HK2.out; first | omega | exact Nat.le_refl _⟩, ⟨by (with_reducible repeat (first | apply Kd.R_alloc | apply Kd.R_drewN | apply Kd.R_drew)); exact Kd.R_mono (Kd.R_far (p := ⟨gb209, 4, none⟩) (Kd.R_far (p := ⟨gb209, 3, none⟩) (Kd.R_far (p := ⟨gb209, 2, none⟩) (Kd.R_far (p := ⟨gb209, 1, none⟩) (Kd.R_far (p := ⟨gb209, 0, none⟩) (Kd.R_mono HO_6.out (fun k_ hk => (⟨hk, hk.2⟩ : _ ∧ k_ ≠ gb209))) (fun _ hk => hk.2) (.int .i64 ((rd_T30 t205 x7_2).f0))) (fun _ hk => hk.2) (.int .i64 ((rd_T30 t205 x7_2).f1))) (fun _ hk => hk.2) (.bool ((rd_T30 t205 x7_2).f2))) (fun _ hk => hk.2) (.int .i64 ((rd_T30 t205 x7_2).f3.f0))) (fun _ hk => hk.2) (.int .i64 ((rd_T30 t205 x7_2).f3.f1))) (fun _ hk => hk.1.2)⟩, ⟨by (with_reducible repeat (first | refine blk_drewN ?_ _ | refine blk_drew ?_ | refine blk_alloc ?_ _)); refine blk_put (cs := #[.int .i64 ((rd_T30 t205 x7_2).f0), .int .i64 ((rd_T30 t205 x7_2).f1), .bool ((rd_T30 t205 x7_2).f2), .int .i64 ((rd_T30 t205 x7_2).f3.f0), .int .i64 0]) ?_ 4 _ rfl; (with_reducible repeat (first | refine blk_drewN ?_ _ | refine blk_drew ?_ | refine blk_alloc ?_ _)); refine blk_put (cs := #[.int .i64 ((rd_T30 t205 x7_2).f0), .int .i64 ((rd_T30 t205 x7_2).f1), .bool ((rd_T30 t205 x7_2).f2), .int .i64 0, .int .i64 0]) ?_ 3 _ rfl; (with_reducible repeat (first | refine blk_drewN ?_ _ | refine blk_drew ?_ | refine blk_alloc ?_ _)); refine blk_put (cs := #[.int .i64 ((rd_T30 t205 x7_2).f0), .int .i64 ((rd_T30 t205 x7_2).f1), .bool false, .int .i64 0, .int .i64 0]) ?_ 2 _ rfl; (with_reducible repeat (first | refine blk_drewN ?_ _ | refine blk_drew ?_ | refine blk_alloc ?_ _)); refine blk_put (cs := #[.int .i64 ((rd_T30 t205 x7_2).f0), .int .i64 0, .bool false, .int .i64 0, .int .i64 0]) ?_ 1 _ rfl; (with_reducible repeat (first | refine blk_drewN ?_ _ | refine blk_drew ?_ | refine blk_alloc ?_ _)); refine blk_put (cs := #[.int .i64 0, .int .i64 0, .bool false, .int .i64 0, .int .i64 0]) ?_ 0 _ rfl; (with_reducible repeat (first | refine blk_drewN ?_ _ | refine blk_drew ?_ | refine blk_alloc ?_ _)); exact BK209.out⟩, ⟨by repeat (first | (with_reducible first | exact HB.out | apply below_alloc | apply pw_below_drewN | apply below_drew1 | refine below_set ?_ GE209.out) | exact HB.out)⟩⟩
                case rest =>
                  clear HC12
                  try clear c1
                  try clear p2
                  try clear q2
                  try clear hx2
                  try clear c3
                  try clear c6
                  try clear c6b0
                  try clear c6b1
                  try clear p6
                  try clear c7
                  try clear c9
                  try clear c10
                  try clear c10b0
                  try clear c11
                  try clear c11b0
                  try clear c16
                  try clear c16b0
                  try clear c18
                  try clear c18b0
                  try clear p20
                  try clear q20
                  try clear hx20
                  try clear hcz15_0
                  try clear hcz15_1
                  try clear hcz15_2
                  try clear hcz15_3
                  try clear hcz15_4
                  try clear hcz17_0
                  try clear hcz17_1
                  try clear hcz17_2
                  try clear hcz17_3
                  try clear hcz17_4
                  try clear hcz19_0
                  try clear hcz19_1
                  try clear hcz19_2
                  try clear hcz19_3
                  try clear hcz19_4
                  try clear hcz20_0
                  try clear hcz20_1
                  try clear hcz20_2
                  try clear hcz20_3
                  try clear hcz20_4
                  try clear hfz15_0
                  try clear hfz15_1
                  try clear hfz15_2
                  try clear hfz15_3
                  try clear hfz15_4
                  try clear hfz17_0
                  try clear hfz17_1
                  try clear hfz17_2
                  try clear hfz17_3
                  try clear hfz17_4
                  try clear hfz19_0
                  try clear hfz19_1
                  try clear hfz19_2
                  try clear hfz19_3
                  try clear hfz19_4
                  try clear hfz20_0
                  try clear hfz20_1
                  try clear hfz20_2
                  try clear hfz20_3
                  try clear hfz20_4
                  try clear hx208_0
                  try clear hx208_1
                  try clear hx208_2
                  try clear hx208_3
                  try clear hx208_4
                  try clear p2
                  try clear p208
                  try clear q208
                  obtain ⟨kq, x54_11, rfl, HA, HJ11, HO_6, BK209, HB⟩ := hcut
                  cases kq with
                  | zero => exact absurd HA.out (by simp [hornbooklaw11_MatchCodes.j2])
                  | succ kj11 =>
                    have H := HA.out
                    clear HA
                    simp only [hornbooklaw11_MatchCodes.j2] at H
                    by_cases c21 : x54_11 = true
                    · subst c21
                      have H1 : (some false) = some r := by rw [if_pos rfl] at H; exact H
                      clear H
                      have H := H1
                      clear H1
                      obtain rfl := Option.some.inj H
                      go_wp2
                      go_ret
                      exact ⟨by first | rfl | (simp [errW_none, errW_some] <;> rfl) | (simp [*, errW_none, errW_some] <;> rfl), by repeat (first | (with_reducible first | exact HB.out | apply below_alloc | apply pw_below_drewN | apply below_drew1 | refine below_set ?_ GE209.out) | exact HB.out)⟩
                    · replace c21 := Bool.eq_false_iff.mpr c21
                      subst c21
                      have H1 : (hornbooklaw11_MatchCodes.l1 kj11 l0 l1 t204 t205 x7_2 1 ((rd_T30 t205 x7_2).f0) ((rd_T30 t205 x7_2).f1) ((rd_T30 t205 x7_2).f2) ((rd_T30 t205 x7_2).f3.f0) ((rd_T30 t205 x7_2).f3.f1)) = some r := by rw [if_neg (show ¬ (false = true) by decide)] at H; exact H
                      clear H
                      have H := H1
                      clear H1
                      have H' := Aside0.mk H
                      clear H
                      go_wp2
                      go_loopg [9] kj11 (fun kq v9 w' => ∃ (x9_4 : Int), v9 = .int .i64 x9_4 ∧ Aside0 (hornbooklaw11_MatchCodes.l1 kq l0 l1 t204 t205 x7_2 x9_4 ((rd_T30 t205 x7_2).f0) ((rd_T30 t205 x7_2).f1) ((rd_T30 t205 x7_2).f2) ((rd_T30 t205 x7_2).f3.f0) ((rd_T30 t205 x7_2).f3.f1) = some r) ∧ Aside0 (kq ≤ kj11) ∧ Aside0 (Kd.R k30 30 w' w.heap.size (fun k_ => k_ ≠ gb209) (.slice (some ad208) t205.length co13) t205) ∧ Aside0 (w'.heap[gb209]? = some (.cells #[.int .i64 ((rd_T30 t205 x7_2).f0), .int .i64 ((rd_T30 t205 x7_2).f1), .bool ((rd_T30 t205 x7_2).f2), .int .i64 ((rd_T30 t205 x7_2).f3.f0), .int .i64 ((rd_T30 t205 x7_2).f3.f1)] 30 (0, 0))) ∧ Aside0 (Below w.heap.size w w'))
                      case atStart => exact ⟨(1), (by first | rfl | (simp; done) | (simp [*]; done)), H', ⟨Nat.le_refl _⟩, ⟨by (with_reducible repeat (first | apply Kd.R_alloc | apply Kd.R_drewN | apply Kd.R_drew)); exact HO_6.out⟩, ⟨by (with_reducible repeat (first | refine blk_drewN ?_ _ | refine blk_drew ?_ | refine blk_alloc ?_ _)); exact BK209.out⟩, ⟨by repeat (first | (with_reducible first | exact HB.out | apply below_alloc | apply pw_below_drewN | apply below_drew1 | refine below_set ?_ GE209.out) | exact HB.out)⟩⟩
                      case round =>
                        clear H'
                        try clear c1
                        try clear c2
                        try clear p2
                        try clear q2
                        try clear hx2
                        try clear c3
                        try clear c6
                        try clear c6b0
                        try clear c6b1
                        try clear p6
                        try clear c7
                        try clear c9
                        try clear c10
                        try clear c10b0
                        try clear c11
                        try clear c11b0
                        try clear c16
                        try clear c16b0
                        try clear c18
                        try clear c18b0
                        try clear p20
                        try clear q20
                        try clear hx20
                        try clear c21
                        try clear hcz15_0
                        try clear hcz15_1
                        try clear hcz15_2
                        try clear hcz15_3
                        try clear hcz15_4
                        try clear hcz17_0
                        try clear hcz17_1
                        try clear hcz17_2
                        try clear hcz17_3
                        try clear hcz17_4
                        try clear hcz19_0
                        try clear hcz19_1
                        try clear hcz19_2
                        try clear hcz19_3
                        try clear hcz19_4
                        try clear hcz20_0
                        try clear hcz20_1
                        try clear hcz20_2
                        try clear hcz20_3
                        try clear hcz20_4
                        try clear hfz15_0
                        try clear hfz15_1
                        try clear hfz15_2
                        try clear hfz15_3
                        try clear hfz15_4
                        try clear hfz17_0
                        try clear hfz17_1
                        try clear hfz17_2
                        try clear hfz17_3
                        try clear hfz17_4
                        try clear hfz19_0
                        try clear hfz19_1
                        try clear hfz19_2
                        try clear hfz19_3
                        try clear hfz19_4
                        try clear hfz20_0
                        try clear hfz20_1
                        try clear hfz20_2
                        try clear hfz20_3
                        try clear hfz20_4
                        try clear hx208_0
                        try clear hx208_1
                        try clear hx208_2
                        try clear hx208_3
                        try clear hx208_4
                        try clear p2
                        try clear p20
                        try clear p208
                        try clear p6
                        try clear q2
                        try clear q20
                        try clear q208
                        obtain ⟨x9_4, rfl, HA, HK4, HO_6, BK209, HB⟩ := hrel
                        cases gk with
                        | zero => exact absurd HA.out (by simp [hornbooklaw11_MatchCodes.l1])
                        | succ k4 =>
                          have H := HA.out
                          clear HA
                          simp only [hornbooklaw11_MatchCodes.l1] at H
                          have HC22 := Aside0.mk H
                          clear H
                          go_upto_region 12 with (fail)
                          go_cut [65] (fun v65 wc => ∃ (kq : Nat) (x65_21 : Bool), v65 = .bool x65_21 ∧ Aside0 (hornbooklaw11_MatchCodes.j4 kq l0 l1 t204 t205 x7_2 x9_4 x65_21 ((rd_T30 t205 x7_2).f0) ((rd_T30 t205 x7_2).f1) ((rd_T30 t205 x7_2).f2) ((rd_T30 t205 x7_2).f3.f0) ((rd_T30 t205 x7_2).f3.f1) = some r) ∧ Aside0 (kq ≤ k4) ∧ Aside0 (Kd.R k30 30 wc w.heap.size (fun k_ => k_ ≠ gb209) (.slice (some ad208) t205.length co13) t205) ∧ Aside0 (wc.heap[gb209]? = some (.cells #[.int .i64 ((rd_T30 t205 x7_2).f0), .int .i64 ((rd_T30 t205 x7_2).f1), .bool ((rd_T30 t205 x7_2).f2), .int .i64 ((rd_T30 t205 x7_2).f3.f0), .int .i64 ((rd_T30 t205 x7_2).f3.f1)] 30 (0, 0))) ∧ Aside0 (Below w.heap.size w wc))
                          case first =>
                            have H := HC22.out
                            clear HC22
                            by_cases c23 : x9_4 ≤ 4
                            · rw [if_pos c23] at H
                              have c23b0 : decide (x9_4 ≤ 4) = true := decide_eq_true c23
                              clear c23
                              (first | rw [c23b0] | (simp only [i64_w, i32_w]; rw [c23b0]) | skip)
                              have H' := Aside0.mk H
                              clear H
                              have hcz24_0 : wr.cell? ⟨gb209, 0, none⟩ = some (.int .i64 ((rd_T30 t205 x7_2).f0)) := (blk_cell BK209.out 0).trans rfl
                              have hcz24_1 : wr.cell? ⟨gb209, 1, none⟩ = some (.int .i64 ((rd_T30 t205 x7_2).f1)) := (blk_cell BK209.out 1).trans rfl
                              have hcz24_2 : wr.cell? ⟨gb209, 2, none⟩ = some (.bool ((rd_T30 t205 x7_2).f2)) := (blk_cell BK209.out 2).trans rfl
                              have hcz24_3 : wr.cell? ⟨gb209, 3, none⟩ = some (.int .i64 ((rd_T30 t205 x7_2).f3.f0)) := (blk_cell BK209.out 3).trans rfl
                              have hcz24_4 : wr.cell? ⟨gb209, 4, none⟩ = some (.int .i64 ((rd_T30 t205 x7_2).f3.f1)) := (blk_cell BK209.out 4).trans rfl
                              have hfz24_0 := blk_frozen BK209.out 0
                              have hfz24_1 := blk_frozen BK209.out 1
                              have hfz24_2 := blk_frozen BK209.out 2
                              have hfz24_3 := blk_frozen BK209.out 3
                              have hfz24_4 := blk_frozen BK209.out 4
                              go_wp2
                              go_meet
                              case rel => exact ⟨_, (decide ((wrap64 (((rd_T30 t205 x7_2).f0) + x9_4)) ≤ (l1.length : Int))), (by first | rfl | (simp; done) | (simp [*]; done)), H', ⟨by have := HJ3.out; have := HK2.out; have := HJ11.out; have := HK4.out; first | omega | exact Nat.le_refl _⟩, ⟨by (with_reducible repeat (first | apply Kd.R_alloc | apply Kd.R_drewN | apply Kd.R_drew)); exact HO_6.out⟩, ⟨by (with_reducible repeat (first | refine blk_drewN ?_ _ | refine blk_drew ?_ | refine blk_alloc ?_ _)); exact BK209.out⟩, ⟨by repeat (first | (with_reducible first | exact HB.out | apply below_alloc | apply pw_below_drewN | apply below_drew1 | refine below_set ?_ GE209.out) | exact HB.out)⟩⟩
                            · rw [if_neg c23] at H
                              have c23b0 : decide (x9_4 ≤ 4) = false := decide_eq_false c23
                              clear c23
                              (first | rw [c23b0] | (simp only [i64_w, i32_w]; rw [c23b0]) | skip)
                              have H' := Aside0.mk H
                              clear H
                              go_wp2
                              go_meet
                              case rel => exact ⟨_, (false), (by first | rfl | (simp; done) | (simp [*]; done)), H', ⟨by have := HJ3.out; have := HK2.out; have := HJ11.out; have := HK4.out; first | omega | exact Nat.le_refl _⟩, ⟨by (with_reducible repeat (first | apply Kd.R_alloc | apply Kd.R_drewN | apply Kd.R_drew)); exact HO_6.out⟩, ⟨by (with_reducible repeat (first | refine blk_drewN ?_ _ | refine blk_drew ?_ | refine blk_alloc ?_ _)); exact BK209.out⟩, ⟨by repeat (first | (with_reducible first | exact HB.out | apply below_alloc | apply pw_below_drewN | apply below_drew1 | refine below_set ?_ GE209.out) | exact HB.out)⟩⟩
                          case rest =>
                            clear HC22
                            try clear c1
                            try clear c2
                            try clear p2
                            try clear q2
                            try clear hx2
                            try clear c3
                            try clear c6
                            try clear c6b0
                            try clear c6b1
                            try clear p6
                            try clear c7
                            try clear c9
                            try clear c10
                            try clear c10b0
                            try clear c11
                            try clear c11b0
                            try clear c16
                            try clear c16b0
                            try clear c18
                            try clear c18b0
                            try clear p20
                            try clear q20
                            try clear hx20
                            try clear c21
                            try clear c23
                            try clear c23b0
                            try clear hcz15_0
                            try clear hcz15_1
                            try clear hcz15_2
                            try clear hcz15_3
                            try clear hcz15_4
                            try clear hcz17_0
                            try clear hcz17_1
                            try clear hcz17_2
                            try clear hcz17_3
                            try clear hcz17_4
                            try clear hcz19_0
                            try clear hcz19_1
                            try clear hcz19_2
                            try clear hcz19_3
                            try clear hcz19_4
                            try clear hcz20_0
                            try clear hcz20_1
                            try clear hcz20_2
                            try clear hcz20_3
                            try clear hcz20_4
                            try clear hcz24_0
                            try clear hcz24_1
                            try clear hcz24_2
                            try clear hcz24_3
                            try clear hcz24_4
                            try clear hfz15_0
                            try clear hfz15_1
                            try clear hfz15_2
                            try clear hfz15_3
                            try clear hfz15_4
                            try clear hfz17_0
                            try clear hfz17_1
                            try clear hfz17_2
                            try clear hfz17_3
                            try clear hfz17_4
                            try clear hfz19_0
                            try clear hfz19_1
                            try clear hfz19_2
                            try clear hfz19_3
                            try clear hfz19_4
                            try clear hfz20_0
                            try clear hfz20_1
                            try clear hfz20_2
                            try clear hfz20_3
                            try clear hfz20_4
                            try clear hfz24_0
                            try clear hfz24_1
                            try clear hfz24_2
                            try clear hfz24_3
                            try clear hfz24_4
                            try clear hx208_0
                            try clear hx208_1
                            try clear hx208_2
                            try clear hx208_3
                            try clear hx208_4
                            try clear p2
                            try clear p20
                            try clear p208
                            try clear p6
                            try clear q2
                            try clear q20
                            try clear q208
                            obtain ⟨kq, x65_21, rfl, HA, HJ21, HO_6, BK209, HB⟩ := hcut
                            cases kq with
                            | zero => exact absurd HA.out (by simp [hornbooklaw11_MatchCodes.j4])
                            | succ kj21 =>
                              have H := HA.out
                              clear HA
                              simp only [hornbooklaw11_MatchCodes.j4] at H
                              by_cases c25 : x65_21 = true
                              · subst c25
                                have H1 : (if 0 ≤ ((rd_T30 t205 x7_2).f0) then (if ((rd_T30 t205 x7_2).f0) ≤ (wrap64 (((rd_T30 t205 x7_2).f0) + x9_4)) then (if (wrap64 (((rd_T30 t205 x7_2).f0) + x9_4)) ≤ (l1.length : Int) then ((hex_Val.f kj21 ((l1.take ((wrap64 (((rd_T30 t205 x7_2).f0) + x9_4)) : Int).toNat).drop (((rd_T30 t205 x7_2).f0) : Int).toNat)).bind fun bt211 => (hornbooklaw11_MatchCodes.l2 kj21 l0 l1 t204 t205 x7_2 x9_4 bt211.2.2 false 0 ((rd_T30 t205 x7_2).f0) ((rd_T30 t205 x7_2).f1) ((rd_T30 t205 x7_2).f2) ((rd_T30 t205 x7_2).f3.f0) ((rd_T30 t205 x7_2).f3.f1) bt211.1 bt211.2.1)) else (none)) else (none)) else (none)) = some r := by rw [if_pos rfl] at H; exact H
                                clear H
                                have H := H1
                                clear H1
                                by_cases c26 : 0 ≤ ((rd_T30 t205 x7_2).f0)
                                · rw [if_pos c26] at H
                                  have c26b0 := eq_true c26
                                  have c26b1 : decide (0 ≤ ((rd_T30 t205 x7_2).f0)) = true := decide_eq_true c26
                                  clear c26
                                  by_cases c27 : ((rd_T30 t205 x7_2).f0) ≤ (wrap64 (((rd_T30 t205 x7_2).f0) + x9_4))
                                  · rw [if_pos c27] at H
                                    have c27b0 := eq_true c27
                                    have c27b1 : decide (((rd_T30 t205 x7_2).f0) ≤ (wrap64 (((rd_T30 t205 x7_2).f0) + x9_4))) = true := decide_eq_true c27
                                    by_cases c28 : (wrap64 (((rd_T30 t205 x7_2).f0) + x9_4)) ≤ (l1.length : Int)
                                    · rw [if_pos c28] at H
                                      have c28b0 := eq_true c28
                                      have c28b1 : decide ((wrap64 (((rd_T30 t205 x7_2).f0) + x9_4)) ≤ (l1.length : Int)) = true := decide_eq_true c28
                                      replace H := Option.bind_eq_some_iff.mp H
                                      obtain ⟨⟨t211, t212, t213⟩, A290, H⟩ := H
                                      replace H : (hornbooklaw11_MatchCodes.l2 kj21 l0 l1 t204 t205 x7_2 x9_4 t213 false 0 ((rd_T30 t205 x7_2).f0) ((rd_T30 t205 x7_2).f1) ((rd_T30 t205 x7_2).f2) ((rd_T30 t205 x7_2).f3.f0) ((rd_T30 t205 x7_2).f3.f1) t211 t212) = some r := H
                                      have A29 := Aside0.mk A290
                                      clear A290
                                      have H' := Aside0.mk H
                                      clear H
                                      have hcz30_0 : wc.cell? ⟨gb209, 0, none⟩ = some (.int .i64 ((rd_T30 t205 x7_2).f0)) := (blk_cell BK209.out 0).trans rfl
                                      have hcz30_1 : wc.cell? ⟨gb209, 1, none⟩ = some (.int .i64 ((rd_T30 t205 x7_2).f1)) := (blk_cell BK209.out 1).trans rfl
                                      have hcz30_2 : wc.cell? ⟨gb209, 2, none⟩ = some (.bool ((rd_T30 t205 x7_2).f2)) := (blk_cell BK209.out 2).trans rfl
                                      have hcz30_3 : wc.cell? ⟨gb209, 3, none⟩ = some (.int .i64 ((rd_T30 t205 x7_2).f3.f0)) := (blk_cell BK209.out 3).trans rfl
                                      have hcz30_4 : wc.cell? ⟨gb209, 4, none⟩ = some (.int .i64 ((rd_T30 t205 x7_2).f3.f1)) := (blk_cell BK209.out 4).trans rfl
                                      have hfz30_0 := blk_frozen BK209.out 0
                                      have hfz30_1 := blk_frozen BK209.out 1
                                      have hfz30_2 := blk_frozen BK209.out 2
                                      have hfz30_3 := blk_frozen BK209.out 3
                                      have hfz30_4 := blk_frozen BK209.out 4
                                      obtain ⟨i031, hi031, _, hsz31, _⟩ := info_parts info5
                                      obtain ⟨A31, hcut31, hA31, hC31⟩ := print_mid_of (P := Try.prog) (Value.int .u8) 0 23 5 .i64 .i64 Try.underlying23 hi031 hsz31 A1 c1 l1 ((rd_T30 t205 x7_2).f0) (wrap64 (((rd_T30 t205 x7_2).f0) + x9_4)) (of_decide_eq_true (by first | (with_reducible assumption) | assumption)) (by first | omega | exact of_decide_eq_true (by first | (with_reducible assumption) | assumption)) (of_decide_eq_true (by first | (with_reducible assumption) | assumption)) HC1.out
                                      have HR210 := Aside0.mk (Kd.C_of_reads (h1 := fun _ => rfl) (hA31 _ (Kd.reads_of_C HR1.out)))
                                      have HC210 := Aside0.mk hC31
                                      clear hA31 hC31 hi031 hsz31
                                      go_wp2_with (first | ((with_reducible refine gate_callee (f := 11) rfl ?_); refine goesL_ (some 77) rfl rfl Try.func11 (by kernel_rfl) rfl #[.slice A31 ((l1.take ((wrap64 (((rd_T30 t205 x7_2).f0) + x9_4)) : Int).toNat).drop (((rd_T30 t205 x7_2).f0) : Int).toNat).length (c1 - ((rd_T30 t205 x7_2).f0).toNat)] rfl (by (try simp only [List.map_toArray, List.map_cons, List.map_nil]); first | done | (rw [show ((l1.take ((wrap64 (((rd_T30 t205 x7_2).f0) + x9_4)) : Int).toNat).drop (((rd_T30 t205 x7_2).f0) : Int).toNat).length = ((wrap64 (((rd_T30 t205 x7_2).f0) + x9_4)).toNat - ((rd_T30 t205 x7_2).f0).toNat) from (by rw [List.length_drop, List.length_take]; have h_ : ((wrap64 (((rd_T30 t205 x7_2).f0) + x9_4)) : Int) ≤ (l1.length : Int) := of_decide_eq_true (by first | (with_reducible assumption) | assumption); omega)] <;> rfl) | rfl | (simp only [List.length_drop, List.length_take]; rfl)) ?_; (with_reducible refine (hex_Val.calls kj21 _ _ ((l1.take ((wrap64 (((rd_T30 t205 x7_2).f0) + x9_4)) : Int).toNat).drop (((rd_T30 t205 x7_2).f0) : Int).toNat) t211 t212 t213 _ ?side1 ?side2 A29.out).mono ?_); (case side1 => repeat (first | exact (Kd.C_below HR210.out HB.out) | (with_reducible refine Kd.C_alloc ?_ _) | (with_reducible refine Kd.C_drewN ?_ _) | (with_reducible refine Kd.C_drew ?_))); (case side2 => exact HC210.out); rintro e w32 ⟨rfl, hb⟩; refine ⟨_, rfl, ?_⟩; have n0_ := Aside0.mk (Kd.R_below (by (with_reducible repeat (first | apply Kd.R_alloc | apply Kd.R_drewN | apply Kd.R_drew)); exact HO_6.out) hb); have n1_ := Aside0.mk (blk_below (g := gb209) (o := .cells #[.int .i64 ((rd_T30 t205 x7_2).f0), .int .i64 ((rd_T30 t205 x7_2).f1), .bool ((rd_T30 t205 x7_2).f2), .int .i64 ((rd_T30 t205 x7_2).f3.f0), .int .i64 ((rd_T30 t205 x7_2).f3.f1)] 30 (0, 0)) (by (with_reducible repeat (first | refine blk_drewN ?_ _ | refine blk_drew ?_ | refine blk_alloc ?_ _)); exact BK209.out) hb); have n2_ := Aside0.mk (below_step (by repeat (first | (with_reducible first | exact HB.out | apply below_alloc | apply pw_below_drewN | apply below_drew1 | refine below_set ?_ GE209.out) | exact HB.out)) hb); clear HO_6; clear BK209; clear HB; have HO_6 := n0_; have BK209 := n1_; have HB := n2_; clear n0_ n1_ n2_; (try clear hb); (try clear hb2); (try clear hk); (try clear hi)) | ((with_reducible refine gate_dst (N := 10) rfl ?_); (try (refine gate_guard (by rfl) ?_; dsimp only)); refine box_event ?hg (N := 10) ?hd (cs := #[.int .i64 0, .int .i64 0]) (t := 28) ?hr ?_; (case hd => rfl); (case hg => rfl); (case hr => first | (go_simp; done) | (go_simp; rfl)); intro gb214 hg w33 hbox hb; have n0_ := Aside0.mk (Kd.R_below (by (with_reducible repeat (first | apply Kd.R_alloc | apply Kd.R_drewN | apply Kd.R_drew)); exact HO_6.out) hb); have n1_ := Aside0.mk (blk_below (g := gb209) (o := .cells #[.int .i64 ((rd_T30 t205 x7_2).f0), .int .i64 ((rd_T30 t205 x7_2).f1), .bool ((rd_T30 t205 x7_2).f2), .int .i64 ((rd_T30 t205 x7_2).f3.f0), .int .i64 ((rd_T30 t205 x7_2).f3.f1)] 30 (0, 0)) (by (with_reducible repeat (first | refine blk_drewN ?_ _ | refine blk_drew ?_ | refine blk_alloc ?_ _)); exact BK209.out) hb); have n2_ := Aside0.mk (below_step (by repeat (first | (with_reducible first | exact HB.out | apply below_alloc | apply pw_below_drewN | apply below_drew1 | refine below_set ?_ GE209.out) | exact HB.out)) hb); have n3_ := Aside0.mk (hbox); have n4_ := Aside0.mk ((by rw [hg]; exact (below_size (by repeat (first | (with_reducible first | exact HB.out | apply below_alloc | apply pw_below_drewN | apply below_drew1 | refine below_set ?_ GE209.out) | exact HB.out))) : w.heap.size ≤ gb214)); have n5_ := Aside0.mk ((by rw [hg]; exact (below_size (by repeat (first | (with_reducible first | exact HB.out | apply below_alloc | apply pw_below_drewN | apply below_drew1 | refine below_set ?_ GE209.out) | exact HB.out))) : w.heap.size ≤ gb214)); have n6_ := Aside0.mk ((by rw [hg]; exact Nat.ne_of_lt (blk_lt (g := gb209) (o := .cells #[.int .i64 ((rd_T30 t205 x7_2).f0), .int .i64 ((rd_T30 t205 x7_2).f1), .bool ((rd_T30 t205 x7_2).f2), .int .i64 ((rd_T30 t205 x7_2).f3.f0), .int .i64 ((rd_T30 t205 x7_2).f3.f1)] 30 (0, 0)) (by (with_reducible repeat (first | refine blk_drewN ?_ _ | refine blk_drew ?_ | refine blk_alloc ?_ _)); exact BK209.out)) : gb209 ≠ gb214)); have n7_ := Aside0.mk ((by rw [hg]; exact Nat.ne_of_gt (blk_lt (g := gb209) (o := .cells #[.int .i64 ((rd_T30 t205 x7_2).f0), .int .i64 ((rd_T30 t205 x7_2).f1), .bool ((rd_T30 t205 x7_2).f2), .int .i64 ((rd_T30 t205 x7_2).f3.f0), .int .i64 ((rd_T30 t205 x7_2).f3.f1)] 30 (0, 0)) (by (with_reducible repeat (first | refine blk_drewN ?_ _ | refine blk_drew ?_ | refine blk_alloc ?_ _)); exact BK209.out)) : gb214 ≠ gb209)); clear HO_6; clear BK209; clear HB; have HO_6 := n0_; have BK209 := n1_; have HB := n2_; have BK214 := n3_; have GW214 := n4_; have GE214 := n5_; have NB209_214 := n6_; have NB214_209 := n7_; clear n0_ n1_ n2_ n3_ n4_ n5_ n6_ n7_; clear hb hbox hg; have hnb34 := NB214_209.out; have hnc34 := NB209_214.out; have hcz35_0 : w33.cell? ⟨gb214, 0, none⟩ = some (.int .i64 0) := (blk_cell BK214.out 0).trans rfl; have hcz35_1 : w33.cell? ⟨gb214, 1, none⟩ = some (.int .i64 0) := (blk_cell BK214.out 1).trans rfl; have hfz35_0 := blk_frozen BK214.out 0; have hfz35_1 := blk_frozen BK214.out 1))
                                      go_loopg [12, 13] kj21 (fun kq v12 v13 w' => ∃ (x12_6 : Bool) (x13_6 : Int), v12 = .bool x12_6 ∧ v13 = .int .i64 x13_6 ∧ Aside0 (hornbooklaw11_MatchCodes.l2 kq l0 l1 t204 t205 x7_2 x9_4 t213 x12_6 x13_6 ((rd_T30 t205 x7_2).f0) ((rd_T30 t205 x7_2).f1) ((rd_T30 t205 x7_2).f2) ((rd_T30 t205 x7_2).f3.f0) ((rd_T30 t205 x7_2).f3.f1) t211 t212 = some r) ∧ Aside0 (kq ≤ kj21) ∧ Aside0 (Kd.R k30 30 w' w.heap.size (fun k_ => k_ ≠ gb209) (.slice (some ad208) t205.length co13) t205) ∧ Aside0 (w'.heap[gb209]? = some (.cells #[.int .i64 ((rd_T30 t205 x7_2).f0), .int .i64 ((rd_T30 t205 x7_2).f1), .bool ((rd_T30 t205 x7_2).f2), .int .i64 ((rd_T30 t205 x7_2).f3.f0), .int .i64 ((rd_T30 t205 x7_2).f3.f1)] 30 (0, 0))) ∧ Aside0 (w'.heap[gb214]? = some (.cells #[.int .i64 t211, .int .i64 t212] 28 (0, 0))) ∧ Aside0 (Below w.heap.size w w'))
                                      case atStart => exact ⟨(false), (0), (by first | rfl | (simp; done) | (simp [*]; done)), (by first | rfl | (simp; done) | (simp [*]; done)), H', ⟨Nat.le_refl _⟩, ⟨by (with_reducible repeat (first | apply Kd.R_alloc | apply Kd.R_drewN | apply Kd.R_drew)); exact Kd.R_mono (Kd.R_far (p := ⟨gb214, 1, none⟩) (Kd.R_far (p := ⟨gb214, 0, none⟩) (Kd.R_types HO_6.out BK214.out (by decide)) (fun _ hk => hk.2) (.int .i64 t211)) (fun _ hk => hk.2) (.int .i64 t212)) (fun _ hk => hk.1)⟩, ⟨by (with_reducible repeat (first | refine blk_drewN ?_ _ | refine blk_drew ?_ | refine blk_alloc ?_ _)); refine blk_far ?_ NB209_214.out _; (with_reducible repeat (first | refine blk_drewN ?_ _ | refine blk_drew ?_ | refine blk_alloc ?_ _)); refine blk_far ?_ NB209_214.out _; (with_reducible repeat (first | refine blk_drewN ?_ _ | refine blk_drew ?_ | refine blk_alloc ?_ _)); exact BK209.out⟩, ⟨by (with_reducible repeat (first | refine blk_drewN ?_ _ | refine blk_drew ?_ | refine blk_alloc ?_ _)); refine blk_put (cs := #[.int .i64 t211, .int .i64 0]) ?_ 1 _ rfl; (with_reducible repeat (first | refine blk_drewN ?_ _ | refine blk_drew ?_ | refine blk_alloc ?_ _)); refine blk_put (cs := #[.int .i64 0, .int .i64 0]) ?_ 0 _ rfl; (with_reducible repeat (first | refine blk_drewN ?_ _ | refine blk_drew ?_ | refine blk_alloc ?_ _)); exact BK214.out⟩, ⟨by repeat (first | (with_reducible first | exact HB.out | apply below_alloc | apply pw_below_drewN | apply below_drew1 | refine below_set ?_ GE209.out | refine below_set ?_ GE214.out) | exact HB.out)⟩⟩
                                      case round =>
                                        clear H'
                                        try clear c1
                                        try clear c2
                                        try clear p2
                                        try clear q2
                                        try clear hx2
                                        try clear c3
                                        try clear c6
                                        try clear c6b0
                                        try clear c6b1
                                        try clear p6
                                        try clear c7
                                        try clear c9
                                        try clear c10
                                        try clear c10b0
                                        try clear c11
                                        try clear c11b0
                                        try clear c16
                                        try clear c16b0
                                        try clear c18
                                        try clear c18b0
                                        try clear p20
                                        try clear q20
                                        try clear hx20
                                        try clear c21
                                        try clear c23
                                        try clear c23b0
                                        try clear c25
                                        try clear c26
                                        try clear c26b0
                                        try clear c26b1
                                        try clear c27
                                        try clear c27b0
                                        try clear c27b1
                                        try clear c28
                                        try clear c28b0
                                        try clear c28b1
                                        try clear c34
                                        try clear hcz15_0
                                        try clear hcz15_1
                                        try clear hcz15_2
                                        try clear hcz15_3
                                        try clear hcz15_4
                                        try clear hcz17_0
                                        try clear hcz17_1
                                        try clear hcz17_2
                                        try clear hcz17_3
                                        try clear hcz17_4
                                        try clear hcz19_0
                                        try clear hcz19_1
                                        try clear hcz19_2
                                        try clear hcz19_3
                                        try clear hcz19_4
                                        try clear hcz20_0
                                        try clear hcz20_1
                                        try clear hcz20_2
                                        try clear hcz20_3
                                        try clear hcz20_4
                                        try clear hcz24_0
                                        try clear hcz24_1
                                        try clear hcz24_2
                                        try clear hcz24_3
                                        try clear hcz24_4
                                        try clear hcz30_0
                                        try clear hcz30_1
                                        try clear hcz30_2
                                        try clear hcz30_3
                                        try clear hcz30_4
                                        try clear hcz35_0
                                        try clear hcz35_1
                                        try clear hfz15_0
                                        try clear hfz15_1
                                        try clear hfz15_2
                                        try clear hfz15_3
                                        try clear hfz15_4
                                        try clear hfz17_0
                                        try clear hfz17_1
                                        try clear hfz17_2
                                        try clear hfz17_3
                                        try clear hfz17_4
                                        try clear hfz19_0
                                        try clear hfz19_1
                                        try clear hfz19_2
                                        try clear hfz19_3
                                        try clear hfz19_4
                                        try clear hfz20_0
                                        try clear hfz20_1
                                        try clear hfz20_2
                                        try clear hfz20_3
                                        try clear hfz20_4
                                        try clear hfz24_0
                                        try clear hfz24_1
                                        try clear hfz24_2
                                        try clear hfz24_3
                                        try clear hfz24_4
                                        try clear hfz30_0
                                        try clear hfz30_1
                                        try clear hfz30_2
                                        try clear hfz30_3
                                        try clear hfz30_4
                                        try clear hfz35_0
                                        try clear hfz35_1
                                        try clear hx208_0
                                        try clear hx208_1
                                        try clear hx208_2
                                        try clear hx208_3
                                        try clear hx208_4
                                        try clear p2
                                        try clear p20
                                        try clear p208
                                        try clear p6
                                        try clear q2
                                        try clear q20
                                        try clear q208
                                        obtain ⟨x12_6, x13_6, rfl, rfl, HA, HK6, HO_6, BK209, BK214, HB⟩ := hrel
                                        cases gk with
                                        | zero => exact absurd HA.out (by simp [hornbooklaw11_MatchCodes.l2])
                                        | succ k6 =>
                                          have H := HA.out
                                          clear HA
                                          simp only [hornbooklaw11_MatchCodes.l2] at H
                                          by_cases c36 : x13_6 < (l0.length : Int)
                                          · rw [if_pos c36] at H
                                            have c36b0 : decide (x13_6 < (l0.length : Int)) = true := decide_eq_true c36
                                            clear c36
                                            by_cases c37 : x12_6 = true
                                            · subst c37
                                              have H1 : (hornbooklaw11_MatchCodes.l2 k6 l0 l1 t204 t205 x7_2 x9_4 t213 true (wrap64 (x13_6 + 1)) ((rd_T30 t205 x7_2).f0) ((rd_T30 t205 x7_2).f1) ((rd_T30 t205 x7_2).f2) ((rd_T30 t205 x7_2).f3.f0) ((rd_T30 t205 x7_2).f3.f1) t211 t212) = some r := by rw [if_pos rfl] at H; exact H
                                              clear H
                                              have H := H1
                                              clear H1
                                              have H' := Aside0.mk H
                                              clear H
                                              try go_wp2
                                              have n0_ := Aside0.mk (Kd.R_drew HO_6.out)
                                              have n1_ := Aside0.mk (blk_drew BK209.out)
                                              have n2_ := Aside0.mk (blk_drew BK214.out)
                                              have n3_ := Aside0.mk (below_drew1 HB.out)
                                              clear HO_6
                                              clear BK209
                                              clear BK214
                                              clear HB
                                              have HO_6 := n0_
                                              have BK209 := n1_
                                              have BK214 := n2_
                                              have HB := n3_
                                              clear n0_ n1_ n2_ n3_
                                              refine start_ (n := 10) (S := fun w' => True) (ds := []) #[false, false, false, false, false, false, false, false, false, false] (by kernel_rfl) rfl rfl trivial (fun hHeld => ?_); refine with_tabW hornbooklaw11_MatchCodes.tab19 hornbooklaw11_MatchCodes.bits19 (fun HT_ HW_ => ?_)
                                              generalize wr.drew = w38 at HO_6 BK209 BK214 HB hHeld ⊢
                                              refine pure_ (i := 0) (N := some 86) (v := ?_) (a' := ?_) #[true, false, false, false, false, false, false, false, false, false] rfl rfl (any_of HT_.out (by kernel_rfl)) (fun _ _ _ h => h) (Or.inl ⟨by rfl, ?_⟩) ?_ ?_
                                              rotate_left
                                              · intro w'
                                                go_simp
                                                with_reducible rfl
                                              rotate_left
                                              · simp only [Act.put, List.setIfInBounds_toArray, List.set_cons_zero, List.set_cons_succ, i64_w, i32_w]
                                                rfl
                                              refine pure_ (i := 1) (N := some 87) (v := ?_) (a' := ?_) #[true, true, false, false, false, false, false, false, false, false] rfl rfl (any_of HT_.out (by kernel_rfl)) (fun _ _ _ h => h) (Or.inl ⟨by rfl, ?_⟩) ?_ ?_
                                              rotate_left
                                              · intro w'
                                                go_simp
                                                with_reducible rfl
                                              rotate_left
                                              · simp only [Act.put, List.setIfInBounds_toArray, List.set_cons_zero, List.set_cons_succ, i64_w, i32_w]
                                                rfl
                                              refine pure_ (i := 2) (N := some 88) (v := undef) (a' := ?_) #[true, true, true, false, false, false, false, false, false, false] rfl rfl (any_of HT_.out (by kernel_rfl)) (fun _ _ _ h => h) (Or.inr ⟨by rfl, rfl⟩) ?_ ?_
                                              rotate_left
                                              · simp only [Act.put, List.setIfInBounds_toArray, List.set_cons_zero, List.set_cons_succ, i64_w, i32_w]
                                                rfl
                                              refine pure_ (i := 3) (N := some 89) (v := undef) (a' := ?_) #[true, true, true, true, false, false, false, false, false, false] rfl rfl (any_of HT_.out (by kernel_rfl)) (fun _ _ _ h => h) (Or.inr ⟨by rfl, rfl⟩) ?_ ?_
                                              rotate_left
                                              · simp only [Act.put, List.setIfInBounds_toArray, List.set_cons_zero, List.set_cons_succ, i64_w, i32_w]
                                                rfl
                                              refine pure_ (i := 4) (N := some 90) (v := undef) (a' := ?_) #[true, true, true, true, true, false, false, false, false, false] rfl rfl (any_of HT_.out (by kernel_rfl)) (fun _ _ _ h => h) (Or.inr ⟨by rfl, rfl⟩) ?_ ?_
                                              rotate_left
                                              · simp only [Act.put, List.setIfInBounds_toArray, List.set_cons_zero, List.set_cons_succ, i64_w, i32_w]
                                                rfl
                                              refine pure_ (i := 5) (N := some 91) (v := undef) (a' := ?_) #[true, true, true, true, true, true, false, false, false, false] rfl rfl (any_of HT_.out (by kernel_rfl)) (fun _ _ _ h => h) (Or.inr ⟨by rfl, rfl⟩) ?_ ?_
                                              rotate_left
                                              · simp only [Act.put, List.setIfInBounds_toArray, List.set_cons_zero, List.set_cons_succ, i64_w, i32_w]
                                                rfl
                                              refine pure_ (i := 6) (N := some 92) (v := undef) (a' := ?_) #[true, true, true, true, true, true, true, false, false, false] rfl rfl (any_of HT_.out (by kernel_rfl)) (fun _ _ _ h => h) (Or.inr ⟨by rfl, rfl⟩) ?_ ?_
                                              rotate_left
                                              · simp only [Act.put, List.setIfInBounds_toArray, List.set_cons_zero, List.set_cons_succ, i64_w, i32_w]
                                                rfl
                                              refine pure_ (i := 7) (N := some 93) (v := undef) (a' := ?_) #[true, true, true, true, true, true, true, true, false, false] rfl rfl (any_of HT_.out (by kernel_rfl)) (fun _ _ _ h => h) (Or.inr ⟨by rfl, rfl⟩) ?_ ?_
                                              rotate_left
                                              · simp only [Act.put, List.setIfInBounds_toArray, List.set_cons_zero, List.set_cons_succ, i64_w, i32_w]
                                                rfl
                                              refine pure_ (i := 8) (N := some 94) (v := ?_) (a' := ?_) #[true, true, true, true, true, true, true, true, true, false] rfl rfl (any_of HT_.out (by kernel_rfl)) (fun _ _ _ h => h) (Or.inl ⟨by rfl, ?_⟩) ?_ ?_
                                              rotate_left
                                              · intro w'
                                                go_simp
                                                with_reducible rfl
                                              rotate_left
                                              · simp only [Act.put, List.setIfInBounds_toArray, List.set_cons_zero, List.set_cons_succ, i64_w, i32_w]
                                                rfl
                                              refine pure_ (i := 9) (N := some 12) (v := ?_) (a' := ?_) #[true, true, true, true, true, true, true, true, true, true] rfl rfl (any_of HT_.out (by kernel_rfl)) (fun _ _ _ h => h) (Or.inl ⟨by rfl, ?_⟩) ?_ ?_
                                              rotate_left
                                              · intro w'
                                                go_simp
                                                with_reducible rfl
                                              rotate_left
                                              · simp only [Act.put, List.setIfInBounds_toArray, List.set_cons_zero, List.set_cons_succ, i64_w, i32_w]
                                                rfl
                                              refine done_ (done_of HT_.out (by kernel_rfl)) ?_
                                              try go_wp2
                                              go_roundg k6
                                              case measure => have := HJ3.out; have := HK2.out; have := HJ11.out; have := HK4.out; have := HJ21.out; have := HK6.out; omega
                                              case rel => exact ⟨(true), (wrap64 (x13_6 + 1)), (by first | rfl | (simp; done) | (simp [*]; done)), (by first | rfl | (simp; done) | (simp [*]; done)), H', ⟨by have := HJ3.out; have := HK2.out; have := HJ11.out; have := HK4.out; have := HJ21.out; have := HK6.out; omega⟩, ⟨by (with_reducible repeat (first | apply Kd.R_alloc | apply Kd.R_drewN | apply Kd.R_drew)); exact HO_6.out⟩, ⟨by (with_reducible repeat (first | refine blk_drewN ?_ _ | refine blk_drew ?_ | refine blk_alloc ?_ _)); exact BK209.out⟩, ⟨by (with_reducible repeat (first | refine blk_drewN ?_ _ | refine blk_drew ?_ | refine blk_alloc ?_ _)); exact BK214.out⟩, ⟨by repeat (first | (with_reducible first | exact HB.out | apply below_alloc | apply pw_below_drewN | apply below_drew1 | refine below_set ?_ GE209.out | refine below_set ?_ GE214.out) | exact HB.out)⟩⟩
                                            · replace c37 := Bool.eq_false_iff.mpr c37
                                              subst c37
                                              have H1 : (if 0 ≤ x13_6 then ((rect_In.f k6 ((rd_T35 l0 x13_6).f0) ((rd_T35 l0 x13_6).f1) ((rd_T35 l0 x13_6).f2) t211 t212).bind fun t216 => (hornbooklaw11_MatchCodes.l2 k6 l0 l1 t204 t205 x7_2 x9_4 t213 t216 (wrap64 (x13_6 + 1)) ((rd_T30 t205 x7_2).f0) ((rd_T30 t205 x7_2).f1) ((rd_T30 t205 x7_2).f2) ((rd_T30 t205 x7_2).f3.f0) ((rd_T30 t205 x7_2).f3.f1) t211 t212)) else (none)) = some r := by rw [if_neg (show ¬ (false = true) by decide)] at H; exact H
                                              clear H
                                              have H := H1
                                              clear H1
                                              by_cases c39 : 0 ≤ x13_6
                                              · rw [if_pos c39] at H
                                                have c39b0 : decide (0 ≤ x13_6) = true := decide_eq_true c39
                                                clear c39
                                                replace H := Option.bind_eq_some_iff.mp H
                                                obtain ⟨t216, A400, H⟩ := H
                                                replace H : (hornbooklaw11_MatchCodes.l2 k6 l0 l1 t204 t205 x7_2 x9_4 t213 t216 (wrap64 (x13_6 + 1)) ((rd_T30 t205 x7_2).f0) ((rd_T30 t205 x7_2).f1) ((rd_T30 t205 x7_2).f2) ((rd_T30 t205 x7_2).f3.f0) ((rd_T30 t205 x7_2).f3.f1) t211 t212) = some r := H
                                                have A40 := Aside0.mk A400
                                                clear A400
                                                have H' := Aside0.mk H
                                                clear H
                                                try go_wp2
                                                have n0_ := Aside0.mk (Kd.R_drew HO_6.out)
                                                have n1_ := Aside0.mk (blk_drew BK209.out)
                                                have n2_ := Aside0.mk (blk_drew BK214.out)
                                                have n3_ := Aside0.mk (below_drew1 HB.out)
                                                clear HO_6
                                                clear BK209
                                                clear BK214
                                                clear HB
                                                have HO_6 := n0_
                                                have BK209 := n1_
                                                have BK214 := n2_
                                                have HB := n3_
                                                clear n0_ n1_ n2_ n3_
                                                have p215 : 0 ≤ (x13_6 : Int) := of_decide_eq_true (by first | (with_reducible assumption) | assumption)
                                                have q215 : x13_6 < (l0.length : Int) := of_decide_eq_true (by first | (with_reducible assumption) | assumption)
                                                obtain ⟨ad215, e215, hx215_0, hx215_1, hx215_2⟩ := at_T35 HR0.out x13_6 p215 q215
                                                have hw215_2 := hx215_2
                                                have hw215_1 := hx215_1
                                                have hw215_0 := hx215_0
                                                cases e215
                                                replace hx215_0 := (HB.out.cell (World.block_lt_of_cell? w _ hx215_0)).trans hx215_0
                                                replace hx215_1 := (HB.out.cell (World.block_lt_of_cell? w _ hx215_1)).trans hx215_1
                                                replace hx215_2 := (HB.out.cell (World.block_lt_of_cell? w _ hx215_2)).trans hx215_2
                                                replace p215 := eq_true p215
                                                replace q215 := eq_true q215
                                                refine start_ (n := 10) (S := fun w' => w'.cell? ⟨gb214, 0, none⟩ = some (.int .i64 t211) ∧ w'.cell? ⟨gb214, 1, none⟩ = some (.int .i64 t212) ∧ w'.cell? (ad215.add ((x13_6).toNat * 3)) = some (.int .i64 ((rd_T35 l0 x13_6).f0)) ∧ w'.cell? ⟨(ad215.add ((x13_6).toNat * 3)).block, (ad215.add ((x13_6).toNat * 3)).off + 1, none⟩ = some (.int .i64 ((rd_T35 l0 x13_6).f1)) ∧ w'.cell? ⟨(ad215.add ((x13_6).toNat * 3)).block, (ad215.add ((x13_6).toNat * 3)).off + 2, none⟩ = some (.int .i64 ((rd_T35 l0 x13_6).f2))) (ds := []) #[false, false, false, false, false, false, false, false, false, false] (by kernel_rfl) rfl rfl ⟨(blk_cell BK214.out 0).trans rfl, (blk_cell BK214.out 1).trans rfl, ((HB.out.cell (World.block_lt_of_cell? w _ hw215_0)).trans hw215_0), ((HB.out.cell (World.block_lt_of_cell? w _ hw215_1)).trans hw215_1), ((HB.out.cell (World.block_lt_of_cell? w _ hw215_2)).trans hw215_2)⟩ (fun hHeld => ?_); refine with_tabW hornbooklaw11_MatchCodes.tab19 hornbooklaw11_MatchCodes.bits19 (fun HT_ HW_ => ?_)
                                                generalize wr.drew = w41 at HO_6 BK209 BK214 HB hx215_0 hx215_1 hx215_2 hHeld ⊢
                                                refine pure_ (i := 0) (N := some 86) (v := ?_) (a' := ?_) #[true, false, false, false, false, false, false, false, false, false] rfl rfl (any_of HT_.out (by kernel_rfl)) (fun _ _ _ h => h) (Or.inl ⟨by rfl, ?_⟩) ?_ ?_
                                                rotate_left
                                                · intro w'
                                                  go_simp
                                                  with_reducible rfl
                                                rotate_left
                                                · simp only [Act.put, List.setIfInBounds_toArray, List.set_cons_zero, List.set_cons_succ, i64_w, i32_w]
                                                  rfl
                                                refine pure_ (i := 1) (N := some 87) (v := ?_) (a' := ?_) #[true, true, false, false, false, false, false, false, false, false] rfl rfl (any_of HT_.out (by kernel_rfl)) (fun _ _ _ h => h) (Or.inl ⟨by rfl, ?_⟩) ?_ ?_
                                                rotate_left
                                                · intro w'
                                                  go_simp
                                                  with_reducible rfl
                                                rotate_left
                                                · simp only [Act.put, List.setIfInBounds_toArray, List.set_cons_zero, List.set_cons_succ, i64_w, i32_w]
                                                  rfl
                                                refine pure_ (i := 2) (N := some 88) (v := ?_) (a' := ?_) #[true, true, true, false, false, false, false, false, false, false] rfl rfl (any_of HT_.out (by kernel_rfl)) (fun _ _ _ h => h) (Or.inl ⟨by rfl, ?_⟩) ?_ ?_
                                                rotate_left
                                                · intro w'
                                                  go_simp
                                                  with_reducible rfl
                                                rotate_left
                                                · simp only [Act.put, List.setIfInBounds_toArray, List.set_cons_zero, List.set_cons_succ, i64_w, i32_w]
                                                  rfl
                                                refine pure_ (i := 3) (N := some 89) (v := ?_) (a' := ?_) #[true, true, true, true, false, false, false, false, false, false] rfl rfl (any_of HT_.out (by kernel_rfl)) (fun _ _ _ h => h) (Or.inl ⟨by rfl, ?_⟩) ?_ ?_
                                                rotate_left
                                                · intro w'
                                                  go_simp
                                                  with_reducible rfl
                                                rotate_left
                                                · simp only [Act.put, List.setIfInBounds_toArray, List.set_cons_zero, List.set_cons_succ, i64_w, i32_w]
                                                  rfl
                                                refine pure_ (i := 4) (N := some 90) (v := ?_) (a' := ?_) #[true, true, true, true, true, false, false, false, false, false] rfl rfl (any_of HT_.out (by kernel_rfl)) (fun _ _ _ h => h) (Or.inl ⟨by rfl, ?_⟩) ?_ ?_
                                                rotate_left
                                                · intro w'
                                                  go_simp
                                                  with_reducible rfl
                                                rotate_left
                                                · simp only [Act.put, List.setIfInBounds_toArray, List.set_cons_zero, List.set_cons_succ, i64_w, i32_w]
                                                  rfl
                                                refine take_ (i := 5) (N := some 91) (v := ?_) (a' := ?_) #[true, true, true, true, true, true, false, false, false, false] rfl rfl (take_ofW HT_.out HW_.out (by kernel_rfl)) (fun _ _ _ h => h) (Or.inl ⟨by rfl, ?_⟩) hHeld ?_ ?_
                                                rotate_left
                                                · rintro w' ⟨s0, s1, s2, s3, s4⟩
                                                  go_simp
                                                  with_reducible rfl
                                                rotate_left
                                                · simp only [Act.put, List.setIfInBounds_toArray, List.set_cons_zero, List.set_cons_succ, i64_w, i32_w]
                                                  rfl
                                                refine take_ (i := 6) (N := some 92) (v := ?_) (a' := ?_) #[true, true, true, true, true, true, true, false, false, false] rfl rfl (take_ofW HT_.out HW_.out (by kernel_rfl)) (fun _ _ _ h => h) (Or.inl ⟨by rfl, ?_⟩) hHeld ?_ ?_
                                                rotate_left
                                                · rintro w' ⟨s0, s1, s2, s3, s4⟩
                                                  go_simp
                                                  with_reducible rfl
                                                rotate_left
                                                · simp only [Act.put, List.setIfInBounds_toArray, List.set_cons_zero, List.set_cons_succ, i64_w, i32_w]
                                                  rfl
                                                refine one_ (i := 7) (N := some 93) #[true, true, true, true, true, true, true, true, false, false] rfl rfl (one_of HT_.out (by kernel_rfl)) (by decide) (fun K hK => ?_)
                                                refine goes_ Try.func12 (by kernel_rfl) rfl #[.agg #[.int .i64 ((rd_T35 l0 x13_6).f0), .int .i64 ((rd_T35 l0 x13_6).f1), .int .i64 ((rd_T35 l0 x13_6).f2)], .agg #[.int .i64 t211, .int .i64 t212]] (by rfl) rfl rfl (by (try simp only [List.map_toArray, List.map_cons, List.map_nil]); first | done | rfl | (simp only [List.length_drop, List.length_take]; rfl)) ?_
                                                with_reducible refine (rect_In.calls k6 ((rd_T35 l0 x13_6).f0) ((rd_T35 l0 x13_6).f1) ((rd_T35 l0 x13_6).f2) t211 t212 t216 _ A40.out).mono ?_
                                                rintro e w42 ⟨rfl, hb⟩
                                                refine ⟨_, rfl, ?_⟩
                                                have n0_ := Aside0.mk (Kd.R_below (by (with_reducible repeat (first | apply Kd.R_alloc | apply Kd.R_drewN | apply Kd.R_drew)); exact HO_6.out) hb)
                                                have n1_ := Aside0.mk (blk_below (g := gb209) (o := .cells #[.int .i64 ((rd_T30 t205 x7_2).f0), .int .i64 ((rd_T30 t205 x7_2).f1), .bool ((rd_T30 t205 x7_2).f2), .int .i64 ((rd_T30 t205 x7_2).f3.f0), .int .i64 ((rd_T30 t205 x7_2).f3.f1)] 30 (0, 0)) (by (with_reducible repeat (first | refine blk_drewN ?_ _ | refine blk_drew ?_ | refine blk_alloc ?_ _)); exact BK209.out) hb)
                                                have n2_ := Aside0.mk (blk_below (g := gb214) (o := .cells #[.int .i64 t211, .int .i64 t212] 28 (0, 0)) (by (with_reducible repeat (first | refine blk_drewN ?_ _ | refine blk_drew ?_ | refine blk_alloc ?_ _)); exact BK214.out) hb)
                                                have n3_ := Aside0.mk (below_step (by repeat (first | (with_reducible first | exact HB.out | apply below_alloc | apply pw_below_drewN | apply below_drew1 | refine below_set ?_ GE209.out | refine below_set ?_ GE214.out) | exact HB.out)) hb)
                                                clear HO_6
                                                clear BK209
                                                clear BK214
                                                clear HB
                                                have HO_6 := n0_
                                                have BK209 := n1_
                                                have BK214 := n2_
                                                have HB := n3_
                                                clear n0_ n1_ n2_ n3_
                                                (try clear hb)
                                                (try clear hb2)
                                                (try clear hk)
                                                (try clear hi)
                                                refine hK.out _ _ ⟨(blk_cell BK214.out 0).trans rfl, (blk_cell BK214.out 1).trans rfl, ((HB.out.cell (World.block_lt_of_cell? w _ hw215_0)).trans hw215_0), ((HB.out.cell (World.block_lt_of_cell? w _ hw215_1)).trans hw215_1), ((HB.out.cell (World.block_lt_of_cell? w _ hw215_2)).trans hw215_2)⟩ (fun hHeld => ?_)
                                                clear hK K
                                                refine norm_ (a' := ?_) ?_ ?_
                                                rotate_left
                                                · show Act.put _ (some 93) _ = _
                                                  simp only [Act.put, List.setIfInBounds_toArray, List.set_cons_zero, List.set_cons_succ, i64_w, i32_w]
                                                  rfl
                                                refine pure_ (i := 8) (N := some 94) (v := ?_) (a' := ?_) #[true, true, true, true, true, true, true, true, true, false] rfl rfl (any_of HT_.out (by kernel_rfl)) (fun _ _ _ h => h) (Or.inl ⟨by rfl, ?_⟩) ?_ ?_
                                                rotate_left
                                                · intro w'
                                                  go_simp
                                                  with_reducible rfl
                                                rotate_left
                                                · simp only [Act.put, List.setIfInBounds_toArray, List.set_cons_zero, List.set_cons_succ, i64_w, i32_w]
                                                  rfl
                                                refine pure_ (i := 9) (N := some 12) (v := ?_) (a' := ?_) #[true, true, true, true, true, true, true, true, true, true] rfl rfl (any_of HT_.out (by kernel_rfl)) (fun _ _ _ h => h) (Or.inl ⟨by rfl, ?_⟩) ?_ ?_
                                                rotate_left
                                                · intro w'
                                                  go_simp
                                                  with_reducible rfl
                                                rotate_left
                                                · simp only [Act.put, List.setIfInBounds_toArray, List.set_cons_zero, List.set_cons_succ, i64_w, i32_w]
                                                  rfl
                                                refine done_ (done_of HT_.out (by kernel_rfl)) ?_
                                                try go_wp2
                                                go_roundg k6
                                                case measure => have := HJ3.out; have := HK2.out; have := HJ11.out; have := HK4.out; have := HJ21.out; have := HK6.out; omega
                                                case rel => exact ⟨(t216), (wrap64 (x13_6 + 1)), (by first | rfl | (simp; done) | (simp [*]; done)), (by first | rfl | (simp; done) | (simp [*]; done)), H', ⟨by have := HJ3.out; have := HK2.out; have := HJ11.out; have := HK4.out; have := HJ21.out; have := HK6.out; omega⟩, ⟨by (with_reducible repeat (first | apply Kd.R_alloc | apply Kd.R_drewN | apply Kd.R_drew)); exact HO_6.out⟩, ⟨by (with_reducible repeat (first | refine blk_drewN ?_ _ | refine blk_drew ?_ | refine blk_alloc ?_ _)); exact BK209.out⟩, ⟨by (with_reducible repeat (first | refine blk_drewN ?_ _ | refine blk_drew ?_ | refine blk_alloc ?_ _)); exact BK214.out⟩, ⟨by repeat (first | (with_reducible first | exact HB.out | apply below_alloc | apply pw_below_drewN | apply below_drew1 | refine below_set ?_ GE209.out | refine below_set ?_ GE214.out) | exact HB.out)⟩⟩
                                              · rw [if_neg c39] at H
                                                exact absurd H (by simp)
                                          · rw [if_neg c36] at H
                                            have c36b0 : decide (x13_6 < (l0.length : Int)) = false := decide_eq_false c36
                                            clear c36
                                            by_cases c43 : t213 = true
                                            · subst c43
                                              have H1 : (if ((rd_T30 t205 x7_2).f2) = true then (if x9_4 < ((rd_T30 t205 x7_2).f1) then (if x12_6 = true then (some false) else (if x9_4 = ((rd_T30 t205 x7_2).f1) then (some false) else (hornbooklaw11_MatchCodes.l1 k6 l0 l1 t204 t205 x7_2 (wrap64 (x9_4 + 1)) ((rd_T30 t205 x7_2).f0) ((rd_T30 t205 x7_2).f1) ((rd_T30 t205 x7_2).f2) ((rd_T30 t205 x7_2).f3.f0) ((rd_T30 t205 x7_2).f3.f1)))) else (if x9_4 = ((rd_T30 t205 x7_2).f1) then (if x12_6 = true then (if (!(((rd_T30 t205 x7_2).f3.f0) == t211) || (!(((rd_T30 t205 x7_2).f3.f1) == t212))) = true then (some false) else (hornbooklaw11_MatchCodes.l1 k6 l0 l1 t204 t205 x7_2 (wrap64 (x9_4 + 1)) ((rd_T30 t205 x7_2).f0) ((rd_T30 t205 x7_2).f1) ((rd_T30 t205 x7_2).f2) ((rd_T30 t205 x7_2).f3.f0) ((rd_T30 t205 x7_2).f3.f1))) else (some false)) else (hornbooklaw11_MatchCodes.l1 k6 l0 l1 t204 t205 x7_2 (wrap64 (x9_4 + 1)) ((rd_T30 t205 x7_2).f0) ((rd_T30 t205 x7_2).f1) ((rd_T30 t205 x7_2).f2) ((rd_T30 t205 x7_2).f3.f0) ((rd_T30 t205 x7_2).f3.f1)))) else (if x12_6 = true then (some false) else (hornbooklaw11_MatchCodes.l1 k6 l0 l1 t204 t205 x7_2 (wrap64 (x9_4 + 1)) ((rd_T30 t205 x7_2).f0) ((rd_T30 t205 x7_2).f1) ((rd_T30 t205 x7_2).f2) ((rd_T30 t205 x7_2).f3.f0) ((rd_T30 t205 x7_2).f3.f1)))) = some r := by rw [if_pos rfl] at H; exact H
                                              clear H
                                              have H := H1
                                              clear H1
                                              by_cases c44 : ((rd_T30 t205 x7_2).f2) = true
                                              · rw [if_pos c44] at H
                                                have c44b0 : ((rd_T30 t205 x7_2).f2) = true := c44
                                                clear c44
                                                by_cases c45 : x9_4 < ((rd_T30 t205 x7_2).f1)
                                                · rw [if_pos c45] at H
                                                  have c45b0 : decide (x9_4 < ((rd_T30 t205 x7_2).f1)) = true := decide_eq_true c45
                                                  clear c45
                                                  by_cases c46 : x12_6 = true
                                                  · subst c46
                                                    have H1 : (some false) = some r := by rw [if_pos rfl] at H; exact H
                                                    clear H
                                                    have H := H1
                                                    clear H1
                                                    obtain rfl := Option.some.inj H
                                                    have hnb47 := NB209_214.out
                                                    have hnc47 := NB214_209.out
                                                    have hcz48_0 : wr.cell? ⟨gb209, 0, none⟩ = some (.int .i64 ((rd_T30 t205 x7_2).f0)) := (blk_cell BK209.out 0).trans rfl
                                                    have hcz48_1 : wr.cell? ⟨gb209, 1, none⟩ = some (.int .i64 ((rd_T30 t205 x7_2).f1)) := (blk_cell BK209.out 1).trans rfl
                                                    have hcz48_2 : wr.cell? ⟨gb209, 2, none⟩ = some (.bool ((rd_T30 t205 x7_2).f2)) := (blk_cell BK209.out 2).trans rfl
                                                    have hcz48_3 : wr.cell? ⟨gb209, 3, none⟩ = some (.int .i64 ((rd_T30 t205 x7_2).f3.f0)) := (blk_cell BK209.out 3).trans rfl
                                                    have hcz48_4 : wr.cell? ⟨gb209, 4, none⟩ = some (.int .i64 ((rd_T30 t205 x7_2).f3.f1)) := (blk_cell BK209.out 4).trans rfl
                                                    have hfz48_0 := blk_frozen BK209.out 0
                                                    have hfz48_1 := blk_frozen BK209.out 1
                                                    have hfz48_2 := blk_frozen BK209.out 2
                                                    have hfz48_3 := blk_frozen BK209.out 3
                                                    have hfz48_4 := blk_frozen BK209.out 4
                                                    go_wp2
                                                    go_ret
                                                    exact ⟨by first | rfl | (simp [errW_none, errW_some] <;> rfl) | (simp [*, errW_none, errW_some] <;> rfl), by repeat (first | (with_reducible first | exact HB.out | apply below_alloc | apply pw_below_drewN | apply below_drew1 | refine below_set ?_ GE209.out | refine below_set ?_ GE214.out) | exact HB.out)⟩
                                                  · replace c46 := Bool.eq_false_iff.mpr c46
                                                    subst c46
                                                    have H1 : (if x9_4 = ((rd_T30 t205 x7_2).f1) then (some false) else (hornbooklaw11_MatchCodes.l1 k6 l0 l1 t204 t205 x7_2 (wrap64 (x9_4 + 1)) ((rd_T30 t205 x7_2).f0) ((rd_T30 t205 x7_2).f1) ((rd_T30 t205 x7_2).f2) ((rd_T30 t205 x7_2).f3.f0) ((rd_T30 t205 x7_2).f3.f1))) = some r := by rw [if_neg (show ¬ (false = true) by decide)] at H; exact H
                                                    clear H
                                                    have H := H1
                                                    clear H1
                                                    by_cases c49 : x9_4 = ((rd_T30 t205 x7_2).f1)
                                                    · rw [if_pos c49] at H
                                                      have c49b0 : (x9_4 == ((rd_T30 t205 x7_2).f1)) = true := beq_iff_eq.mpr c49
                                                      have c49b1 : (x9_4 != ((rd_T30 t205 x7_2).f1)) = false := bne_eq_false_iff_eq.mpr c49
                                                      clear c49
                                                      obtain rfl := Option.some.inj H
                                                      have hnb50 := NB209_214.out
                                                      have hnc50 := NB214_209.out
                                                      have hcz51_0 : wr.cell? ⟨gb209, 0, none⟩ = some (.int .i64 ((rd_T30 t205 x7_2).f0)) := (blk_cell BK209.out 0).trans rfl
                                                      have hcz51_1 : wr.cell? ⟨gb209, 1, none⟩ = some (.int .i64 ((rd_T30 t205 x7_2).f1)) := (blk_cell BK209.out 1).trans rfl
                                                      have hcz51_2 : wr.cell? ⟨gb209, 2, none⟩ = some (.bool ((rd_T30 t205 x7_2).f2)) := (blk_cell BK209.out 2).trans rfl
                                                      have hcz51_3 : wr.cell? ⟨gb209, 3, none⟩ = some (.int .i64 ((rd_T30 t205 x7_2).f3.f0)) := (blk_cell BK209.out 3).trans rfl
                                                      have hcz51_4 : wr.cell? ⟨gb209, 4, none⟩ = some (.int .i64 ((rd_T30 t205 x7_2).f3.f1)) := (blk_cell BK209.out 4).trans rfl
                                                      have hfz51_0 := blk_frozen BK209.out 0
                                                      have hfz51_1 := blk_frozen BK209.out 1
                                                      have hfz51_2 := blk_frozen BK209.out 2
                                                      have hfz51_3 := blk_frozen BK209.out 3
                                                      have hfz51_4 := blk_frozen BK209.out 4
                                                      go_wp2
                                                      go_ret
                                                      exact ⟨by first | rfl | (simp [errW_none, errW_some] <;> rfl) | (simp [*, errW_none, errW_some] <;> rfl), by repeat (first | (with_reducible first | exact HB.out | apply below_alloc | apply pw_below_drewN | apply below_drew1 | refine below_set ?_ GE209.out | refine below_set ?_ GE214.out) | exact HB.out)⟩
                                                    · rw [if_neg c49] at H
                                                      have c49b0 : (x9_4 == ((rd_T30 t205 x7_2).f1)) = false := beq_eq_false_iff_ne.mpr c49
                                                      have c49b1 : (x9_4 != ((rd_T30 t205 x7_2).f1)) = true := bne_iff_ne.mpr c49
                                                      have H' := Aside0.mk H
                                                      clear H
                                                      have hnb52 := NB209_214.out
                                                      have hnc52 := NB214_209.out
                                                      have hcz53_0 : wr.cell? ⟨gb209, 0, none⟩ = some (.int .i64 ((rd_T30 t205 x7_2).f0)) := (blk_cell BK209.out 0).trans rfl
                                                      have hcz53_1 : wr.cell? ⟨gb209, 1, none⟩ = some (.int .i64 ((rd_T30 t205 x7_2).f1)) := (blk_cell BK209.out 1).trans rfl
                                                      have hcz53_2 : wr.cell? ⟨gb209, 2, none⟩ = some (.bool ((rd_T30 t205 x7_2).f2)) := (blk_cell BK209.out 2).trans rfl
                                                      have hcz53_3 : wr.cell? ⟨gb209, 3, none⟩ = some (.int .i64 ((rd_T30 t205 x7_2).f3.f0)) := (blk_cell BK209.out 3).trans rfl
                                                      have hcz53_4 : wr.cell? ⟨gb209, 4, none⟩ = some (.int .i64 ((rd_T30 t205 x7_2).f3.f1)) := (blk_cell BK209.out 4).trans rfl
                                                      have hfz53_0 := blk_frozen BK209.out 0
                                                      have hfz53_1 := blk_frozen BK209.out 1
                                                      have hfz53_2 := blk_frozen BK209.out 2
                                                      have hfz53_3 := blk_frozen BK209.out 3
                                                      have hfz53_4 := blk_frozen BK209.out 4
                                                      go_wp2
                                                      go_roundg k6
                                                      case measure => have := HJ3.out; have := HK2.out; have := HJ11.out; have := HK4.out; have := HJ21.out; have := HK6.out; omega
                                                      case rel => exact ⟨(wrap64 (x9_4 + 1)), (by first | rfl | (simp; done) | (simp [*]; done)), H', ⟨by have := HJ3.out; have := HK2.out; have := HJ11.out; have := HK4.out; have := HJ21.out; have := HK6.out; omega⟩, ⟨by (with_reducible repeat (first | apply Kd.R_alloc | apply Kd.R_drewN | apply Kd.R_drew)); exact HO_6.out⟩, ⟨by (with_reducible repeat (first | refine blk_drewN ?_ _ | refine blk_drew ?_ | refine blk_alloc ?_ _)); exact BK209.out⟩, ⟨by repeat (first | (with_reducible first | exact HB.out | apply below_alloc | apply pw_below_drewN | apply below_drew1 | refine below_set ?_ GE209.out | refine below_set ?_ GE214.out) | exact HB.out)⟩⟩
                                                · rw [if_neg c45] at H
                                                  have c45b0 : decide (x9_4 < ((rd_T30 t205 x7_2).f1)) = false := decide_eq_false c45
                                                  clear c45
                                                  by_cases c54 : x9_4 = ((rd_T30 t205 x7_2).f1)
                                                  · rw [if_pos c54] at H
                                                    have c54b0 : (x9_4 == ((rd_T30 t205 x7_2).f1)) = true := beq_iff_eq.mpr c54
                                                    have c54b1 : (x9_4 != ((rd_T30 t205 x7_2).f1)) = false := bne_eq_false_iff_eq.mpr c54
                                                    clear c54
                                                    by_cases c55 : x12_6 = true
                                                    · subst c55
                                                      have H1 : (if (!(((rd_T30 t205 x7_2).f3.f0) == t211) || (!(((rd_T30 t205 x7_2).f3.f1) == t212))) = true then (some false) else (hornbooklaw11_MatchCodes.l1 k6 l0 l1 t204 t205 x7_2 (wrap64 (x9_4 + 1)) ((rd_T30 t205 x7_2).f0) ((rd_T30 t205 x7_2).f1) ((rd_T30 t205 x7_2).f2) ((rd_T30 t205 x7_2).f3.f0) ((rd_T30 t205 x7_2).f3.f1))) = some r := by rw [if_pos rfl] at H; exact H
                                                      clear H
                                                      have H := H1
                                                      clear H1
                                                      by_cases c56 : (!(((rd_T30 t205 x7_2).f3.f0) == t211) || (!(((rd_T30 t205 x7_2).f3.f1) == t212))) = true
                                                      · rw [if_pos c56] at H
                                                        have c56b0 : (!(((rd_T30 t205 x7_2).f3.f0) == t211) || (!(((rd_T30 t205 x7_2).f3.f1) == t212))) = true := c56
                                                        clear c56
                                                        obtain rfl := Option.some.inj H
                                                        have hnb57 := NB209_214.out
                                                        have hnc57 := NB214_209.out
                                                        have hcz58_0 : wr.cell? ⟨gb209, 0, none⟩ = some (.int .i64 ((rd_T30 t205 x7_2).f0)) := (blk_cell BK209.out 0).trans rfl
                                                        have hcz58_1 : wr.cell? ⟨gb209, 1, none⟩ = some (.int .i64 ((rd_T30 t205 x7_2).f1)) := (blk_cell BK209.out 1).trans rfl
                                                        have hcz58_2 : wr.cell? ⟨gb209, 2, none⟩ = some (.bool ((rd_T30 t205 x7_2).f2)) := (blk_cell BK209.out 2).trans rfl
                                                        have hcz58_3 : wr.cell? ⟨gb209, 3, none⟩ = some (.int .i64 ((rd_T30 t205 x7_2).f3.f0)) := (blk_cell BK209.out 3).trans rfl
                                                        have hcz58_4 : wr.cell? ⟨gb209, 4, none⟩ = some (.int .i64 ((rd_T30 t205 x7_2).f3.f1)) := (blk_cell BK209.out 4).trans rfl
                                                        have hfz58_0 := blk_frozen BK209.out 0
                                                        have hfz58_1 := blk_frozen BK209.out 1
                                                        have hfz58_2 := blk_frozen BK209.out 2
                                                        have hfz58_3 := blk_frozen BK209.out 3
                                                        have hfz58_4 := blk_frozen BK209.out 4
                                                        have hcz59_0 : wr.cell? ⟨gb214, 0, none⟩ = some (.int .i64 t211) := (blk_cell BK214.out 0).trans rfl
                                                        have hcz59_1 : wr.cell? ⟨gb214, 1, none⟩ = some (.int .i64 t212) := (blk_cell BK214.out 1).trans rfl
                                                        have hfz59_0 := blk_frozen BK214.out 0
                                                        have hfz59_1 := blk_frozen BK214.out 1
                                                        go_wp2
                                                        go_ret
                                                        exact ⟨by first | rfl | (simp [errW_none, errW_some] <;> rfl) | (simp [*, errW_none, errW_some] <;> rfl), by repeat (first | (with_reducible first | exact HB.out | apply below_alloc | apply pw_below_drewN | apply below_drew1 | refine below_set ?_ GE209.out | refine below_set ?_ GE214.out) | exact HB.out)⟩
                                                      · rw [if_neg c56] at H
                                                        have c56b0 : (!(((rd_T30 t205 x7_2).f3.f0) == t211) || (!(((rd_T30 t205 x7_2).f3.f1) == t212))) = false := by simpa using c56
                                                        clear c56
                                                        have H' := Aside0.mk H
                                                        clear H
                                                        have hnb60 := NB209_214.out
                                                        have hnc60 := NB214_209.out
                                                        have hcz61_0 : wr.cell? ⟨gb209, 0, none⟩ = some (.int .i64 ((rd_T30 t205 x7_2).f0)) := (blk_cell BK209.out 0).trans rfl
                                                        have hcz61_1 : wr.cell? ⟨gb209, 1, none⟩ = some (.int .i64 ((rd_T30 t205 x7_2).f1)) := (blk_cell BK209.out 1).trans rfl
                                                        have hcz61_2 : wr.cell? ⟨gb209, 2, none⟩ = some (.bool ((rd_T30 t205 x7_2).f2)) := (blk_cell BK209.out 2).trans rfl
                                                        have hcz61_3 : wr.cell? ⟨gb209, 3, none⟩ = some (.int .i64 ((rd_T30 t205 x7_2).f3.f0)) := (blk_cell BK209.out 3).trans rfl
                                                        have hcz61_4 : wr.cell? ⟨gb209, 4, none⟩ = some (.int .i64 ((rd_T30 t205 x7_2).f3.f1)) := (blk_cell BK209.out 4).trans rfl
                                                        have hfz61_0 := blk_frozen BK209.out 0
                                                        have hfz61_1 := blk_frozen BK209.out 1
                                                        have hfz61_2 := blk_frozen BK209.out 2
                                                        have hfz61_3 := blk_frozen BK209.out 3
                                                        have hfz61_4 := blk_frozen BK209.out 4
                                                        have hcz62_0 : wr.cell? ⟨gb214, 0, none⟩ = some (.int .i64 t211) := (blk_cell BK214.out 0).trans rfl
                                                        have hcz62_1 : wr.cell? ⟨gb214, 1, none⟩ = some (.int .i64 t212) := (blk_cell BK214.out 1).trans rfl
                                                        have hfz62_0 := blk_frozen BK214.out 0
                                                        have hfz62_1 := blk_frozen BK214.out 1
                                                        go_wp2
                                                        go_roundg k6
                                                        case measure => have := HJ3.out; have := HK2.out; have := HJ11.out; have := HK4.out; have := HJ21.out; have := HK6.out; omega
                                                        case rel => exact ⟨(wrap64 (x9_4 + 1)), (by first | rfl | (simp; done) | (simp [*]; done)), H', ⟨by have := HJ3.out; have := HK2.out; have := HJ11.out; have := HK4.out; have := HJ21.out; have := HK6.out; omega⟩, ⟨by (with_reducible repeat (first | apply Kd.R_alloc | apply Kd.R_drewN | apply Kd.R_drew)); exact HO_6.out⟩, ⟨by (with_reducible repeat (first | refine blk_drewN ?_ _ | refine blk_drew ?_ | refine blk_alloc ?_ _)); exact BK209.out⟩, ⟨by repeat (first | (with_reducible first | exact HB.out | apply below_alloc | apply pw_below_drewN | apply below_drew1 | refine below_set ?_ GE209.out | refine below_set ?_ GE214.out) | exact HB.out)⟩⟩
                                                    · replace c55 := Bool.eq_false_iff.mpr c55
                                                      subst c55
                                                      have H1 : (some false) = some r := by rw [if_neg (show ¬ (false = true) by decide)] at H; exact H
                                                      clear H
                                                      have H := H1
                                                      clear H1
                                                      obtain rfl := Option.some.inj H
                                                      have hnb63 := NB209_214.out
                                                      have hnc63 := NB214_209.out
                                                      have hcz64_0 : wr.cell? ⟨gb209, 0, none⟩ = some (.int .i64 ((rd_T30 t205 x7_2).f0)) := (blk_cell BK209.out 0).trans rfl
                                                      have hcz64_1 : wr.cell? ⟨gb209, 1, none⟩ = some (.int .i64 ((rd_T30 t205 x7_2).f1)) := (blk_cell BK209.out 1).trans rfl
                                                      have hcz64_2 : wr.cell? ⟨gb209, 2, none⟩ = some (.bool ((rd_T30 t205 x7_2).f2)) := (blk_cell BK209.out 2).trans rfl
                                                      have hcz64_3 : wr.cell? ⟨gb209, 3, none⟩ = some (.int .i64 ((rd_T30 t205 x7_2).f3.f0)) := (blk_cell BK209.out 3).trans rfl
                                                      have hcz64_4 : wr.cell? ⟨gb209, 4, none⟩ = some (.int .i64 ((rd_T30 t205 x7_2).f3.f1)) := (blk_cell BK209.out 4).trans rfl
                                                      have hfz64_0 := blk_frozen BK209.out 0
                                                      have hfz64_1 := blk_frozen BK209.out 1
                                                      have hfz64_2 := blk_frozen BK209.out 2
                                                      have hfz64_3 := blk_frozen BK209.out 3
                                                      have hfz64_4 := blk_frozen BK209.out 4
                                                      go_wp2
                                                      go_ret
                                                      exact ⟨by first | rfl | (simp [errW_none, errW_some] <;> rfl) | (simp [*, errW_none, errW_some] <;> rfl), by repeat (first | (with_reducible first | exact HB.out | apply below_alloc | apply pw_below_drewN | apply below_drew1 | refine below_set ?_ GE209.out | refine below_set ?_ GE214.out) | exact HB.out)⟩
                                                  · rw [if_neg c54] at H
                                                    have c54b0 : (x9_4 == ((rd_T30 t205 x7_2).f1)) = false := beq_eq_false_iff_ne.mpr c54
                                                    have c54b1 : (x9_4 != ((rd_T30 t205 x7_2).f1)) = true := bne_iff_ne.mpr c54
                                                    have H' := Aside0.mk H
                                                    clear H
                                                    have hnb65 := NB209_214.out
                                                    have hnc65 := NB214_209.out
                                                    have hcz66_0 : wr.cell? ⟨gb209, 0, none⟩ = some (.int .i64 ((rd_T30 t205 x7_2).f0)) := (blk_cell BK209.out 0).trans rfl
                                                    have hcz66_1 : wr.cell? ⟨gb209, 1, none⟩ = some (.int .i64 ((rd_T30 t205 x7_2).f1)) := (blk_cell BK209.out 1).trans rfl
                                                    have hcz66_2 : wr.cell? ⟨gb209, 2, none⟩ = some (.bool ((rd_T30 t205 x7_2).f2)) := (blk_cell BK209.out 2).trans rfl
                                                    have hcz66_3 : wr.cell? ⟨gb209, 3, none⟩ = some (.int .i64 ((rd_T30 t205 x7_2).f3.f0)) := (blk_cell BK209.out 3).trans rfl
                                                    have hcz66_4 : wr.cell? ⟨gb209, 4, none⟩ = some (.int .i64 ((rd_T30 t205 x7_2).f3.f1)) := (blk_cell BK209.out 4).trans rfl
                                                    have hfz66_0 := blk_frozen BK209.out 0
                                                    have hfz66_1 := blk_frozen BK209.out 1
                                                    have hfz66_2 := blk_frozen BK209.out 2
                                                    have hfz66_3 := blk_frozen BK209.out 3
                                                    have hfz66_4 := blk_frozen BK209.out 4
                                                    go_wp2
                                                    go_roundg k6
                                                    case measure => have := HJ3.out; have := HK2.out; have := HJ11.out; have := HK4.out; have := HJ21.out; have := HK6.out; omega
                                                    case rel => exact ⟨(wrap64 (x9_4 + 1)), (by first | rfl | (simp; done) | (simp [*]; done)), H', ⟨by have := HJ3.out; have := HK2.out; have := HJ11.out; have := HK4.out; have := HJ21.out; have := HK6.out; omega⟩, ⟨by (with_reducible repeat (first | apply Kd.R_alloc | apply Kd.R_drewN | apply Kd.R_drew)); exact HO_6.out⟩, ⟨by (with_reducible repeat (first | refine blk_drewN ?_ _ | refine blk_drew ?_ | refine blk_alloc ?_ _)); exact BK209.out⟩, ⟨by repeat (first | (with_reducible first | exact HB.out | apply below_alloc | apply pw_below_drewN | apply below_drew1 | refine below_set ?_ GE209.out | refine below_set ?_ GE214.out) | exact HB.out)⟩⟩
                                              · rw [if_neg c44] at H
                                                have c44b0 : ((rd_T30 t205 x7_2).f2) = false := by simpa using c44
                                                clear c44
                                                by_cases c67 : x12_6 = true
                                                · subst c67
                                                  have H1 : (some false) = some r := by rw [if_pos rfl] at H; exact H
                                                  clear H
                                                  have H := H1
                                                  clear H1
                                                  obtain rfl := Option.some.inj H
                                                  have hnb68 := NB209_214.out
                                                  have hnc68 := NB214_209.out
                                                  have hcz69_0 : wr.cell? ⟨gb209, 0, none⟩ = some (.int .i64 ((rd_T30 t205 x7_2).f0)) := (blk_cell BK209.out 0).trans rfl
                                                  have hcz69_1 : wr.cell? ⟨gb209, 1, none⟩ = some (.int .i64 ((rd_T30 t205 x7_2).f1)) := (blk_cell BK209.out 1).trans rfl
                                                  have hcz69_2 : wr.cell? ⟨gb209, 2, none⟩ = some (.bool ((rd_T30 t205 x7_2).f2)) := (blk_cell BK209.out 2).trans rfl
                                                  have hcz69_3 : wr.cell? ⟨gb209, 3, none⟩ = some (.int .i64 ((rd_T30 t205 x7_2).f3.f0)) := (blk_cell BK209.out 3).trans rfl
                                                  have hcz69_4 : wr.cell? ⟨gb209, 4, none⟩ = some (.int .i64 ((rd_T30 t205 x7_2).f3.f1)) := (blk_cell BK209.out 4).trans rfl
                                                  have hfz69_0 := blk_frozen BK209.out 0
                                                  have hfz69_1 := blk_frozen BK209.out 1
                                                  have hfz69_2 := blk_frozen BK209.out 2
                                                  have hfz69_3 := blk_frozen BK209.out 3
                                                  have hfz69_4 := blk_frozen BK209.out 4
                                                  go_wp2
                                                  go_ret
                                                  exact ⟨by first | rfl | (simp [errW_none, errW_some] <;> rfl) | (simp [*, errW_none, errW_some] <;> rfl), by repeat (first | (with_reducible first | exact HB.out | apply below_alloc | apply pw_below_drewN | apply below_drew1 | refine below_set ?_ GE209.out | refine below_set ?_ GE214.out) | exact HB.out)⟩
                                                · replace c67 := Bool.eq_false_iff.mpr c67
                                                  subst c67
                                                  have H1 : (hornbooklaw11_MatchCodes.l1 k6 l0 l1 t204 t205 x7_2 (wrap64 (x9_4 + 1)) ((rd_T30 t205 x7_2).f0) ((rd_T30 t205 x7_2).f1) ((rd_T30 t205 x7_2).f2) ((rd_T30 t205 x7_2).f3.f0) ((rd_T30 t205 x7_2).f3.f1)) = some r := by rw [if_neg (show ¬ (false = true) by decide)] at H; exact H
                                                  clear H
                                                  have H := H1
                                                  clear H1
                                                  have H' := Aside0.mk H
                                                  clear H
                                                  have hnb70 := NB209_214.out
                                                  have hnc70 := NB214_209.out
                                                  have hcz71_0 : wr.cell? ⟨gb209, 0, none⟩ = some (.int .i64 ((rd_T30 t205 x7_2).f0)) := (blk_cell BK209.out 0).trans rfl
                                                  have hcz71_1 : wr.cell? ⟨gb209, 1, none⟩ = some (.int .i64 ((rd_T30 t205 x7_2).f1)) := (blk_cell BK209.out 1).trans rfl
                                                  have hcz71_2 : wr.cell? ⟨gb209, 2, none⟩ = some (.bool ((rd_T30 t205 x7_2).f2)) := (blk_cell BK209.out 2).trans rfl
                                                  have hcz71_3 : wr.cell? ⟨gb209, 3, none⟩ = some (.int .i64 ((rd_T30 t205 x7_2).f3.f0)) := (blk_cell BK209.out 3).trans rfl
                                                  have hcz71_4 : wr.cell? ⟨gb209, 4, none⟩ = some (.int .i64 ((rd_T30 t205 x7_2).f3.f1)) := (blk_cell BK209.out 4).trans rfl
                                                  have hfz71_0 := blk_frozen BK209.out 0
                                                  have hfz71_1 := blk_frozen BK209.out 1
                                                  have hfz71_2 := blk_frozen BK209.out 2
                                                  have hfz71_3 := blk_frozen BK209.out 3
                                                  have hfz71_4 := blk_frozen BK209.out 4
                                                  go_wp2
                                                  go_roundg k6
                                                  case measure => have := HJ3.out; have := HK2.out; have := HJ11.out; have := HK4.out; have := HJ21.out; have := HK6.out; omega
                                                  case rel => exact ⟨(wrap64 (x9_4 + 1)), (by first | rfl | (simp; done) | (simp [*]; done)), H', ⟨by have := HJ3.out; have := HK2.out; have := HJ11.out; have := HK4.out; have := HJ21.out; have := HK6.out; omega⟩, ⟨by (with_reducible repeat (first | apply Kd.R_alloc | apply Kd.R_drewN | apply Kd.R_drew)); exact HO_6.out⟩, ⟨by (with_reducible repeat (first | refine blk_drewN ?_ _ | refine blk_drew ?_ | refine blk_alloc ?_ _)); exact BK209.out⟩, ⟨by repeat (first | (with_reducible first | exact HB.out | apply below_alloc | apply pw_below_drewN | apply below_drew1 | refine below_set ?_ GE209.out | refine below_set ?_ GE214.out) | exact HB.out)⟩⟩
                                            · replace c43 := Bool.eq_false_iff.mpr c43
                                              subst c43
                                              have H1 : (some false) = some r := by rw [if_neg (show ¬ (false = true) by decide)] at H; exact H
                                              clear H
                                              have H := H1
                                              clear H1
                                              obtain rfl := Option.some.inj H
                                              go_wp2
                                              go_ret
                                              exact ⟨by first | rfl | (simp [errW_none, errW_some] <;> rfl) | (simp [*, errW_none, errW_some] <;> rfl), by repeat (first | (with_reducible first | exact HB.out | apply below_alloc | apply pw_below_drewN | apply below_drew1 | refine below_set ?_ GE209.out | refine below_set ?_ GE214.out) | exact HB.out)⟩
                                    · rw [if_neg c28] at H
                                      exact absurd H (by simp)
                                  · rw [if_neg c27] at H
                                    exact absurd H (by simp)
                                · rw [if_neg c26] at H
                                  exact absurd H (by simp)
                              · replace c25 := Bool.eq_false_iff.mpr c25
                                subst c25
                                have H1 : (if ((rd_T30 t205 x7_2).f2) = true then (hornbooklaw11_MatchCodes.l0 kj21 l0 l1 t204 t205 (wrap64 (x7_2 + 1))) else (if (!(((rd_T30 t205 x7_2).f3.f0) == 0) || (!(((rd_T30 t205 x7_2).f3.f1) == 0))) = true then (some false) else (hornbooklaw11_MatchCodes.l0 kj21 l0 l1 t204 t205 (wrap64 (x7_2 + 1))))) = some r := by rw [if_neg (show ¬ (false = true) by decide)] at H; exact H
                                clear H
                                have H := H1
                                clear H1
                                by_cases c72 : ((rd_T30 t205 x7_2).f2) = true
                                · rw [if_pos c72] at H
                                  have c72b0 : ((rd_T30 t205 x7_2).f2) = true := c72
                                  clear c72
                                  have H' := Aside0.mk H
                                  clear H
                                  have hcz73_0 : wc.cell? ⟨gb209, 0, none⟩ = some (.int .i64 ((rd_T30 t205 x7_2).f0)) := (blk_cell BK209.out 0).trans rfl
                                  have hcz73_1 : wc.cell? ⟨gb209, 1, none⟩ = some (.int .i64 ((rd_T30 t205 x7_2).f1)) := (blk_cell BK209.out 1).trans rfl
                                  have hcz73_2 : wc.cell? ⟨gb209, 2, none⟩ = some (.bool ((rd_T30 t205 x7_2).f2)) := (blk_cell BK209.out 2).trans rfl
                                  have hcz73_3 : wc.cell? ⟨gb209, 3, none⟩ = some (.int .i64 ((rd_T30 t205 x7_2).f3.f0)) := (blk_cell BK209.out 3).trans rfl
                                  have hcz73_4 : wc.cell? ⟨gb209, 4, none⟩ = some (.int .i64 ((rd_T30 t205 x7_2).f3.f1)) := (blk_cell BK209.out 4).trans rfl
                                  have hfz73_0 := blk_frozen BK209.out 0
                                  have hfz73_1 := blk_frozen BK209.out 1
                                  have hfz73_2 := blk_frozen BK209.out 2
                                  have hfz73_3 := blk_frozen BK209.out 3
                                  have hfz73_4 := blk_frozen BK209.out 4
                                  go_wp2
                                  go_roundg kj21
                                  case measure => have := HJ3.out; have := HK2.out; have := HJ11.out; have := HK4.out; have := HJ21.out; omega
                                  case rel => exact ⟨(wrap64 (x7_2 + 1)), (by first | rfl | (simp; done) | (simp [*]; done)), H', ⟨by have := HJ3.out; have := HK2.out; have := HJ11.out; have := HK4.out; have := HJ21.out; omega⟩, ⟨by (with_reducible repeat (first | apply Kd.R_alloc | apply Kd.R_drewN | apply Kd.R_drew)); exact Kd.R_mono HO_6.out (fun _ hk => trivial)⟩, ⟨by repeat (first | (with_reducible first | exact HB.out | apply below_alloc | apply pw_below_drewN | apply below_drew1 | refine below_set ?_ GE209.out) | exact HB.out)⟩⟩
                                · rw [if_neg c72] at H
                                  have c72b0 : ((rd_T30 t205 x7_2).f2) = false := by simpa using c72
                                  clear c72
                                  by_cases c74 : (!(((rd_T30 t205 x7_2).f3.f0) == 0) || (!(((rd_T30 t205 x7_2).f3.f1) == 0))) = true
                                  · rw [if_pos c74] at H
                                    have c74b0 : (!(((rd_T30 t205 x7_2).f3.f0) == 0) || (!(((rd_T30 t205 x7_2).f3.f1) == 0))) = true := c74
                                    clear c74
                                    obtain rfl := Option.some.inj H
                                    have hcz75_0 : wc.cell? ⟨gb209, 0, none⟩ = some (.int .i64 ((rd_T30 t205 x7_2).f0)) := (blk_cell BK209.out 0).trans rfl
                                    have hcz75_1 : wc.cell? ⟨gb209, 1, none⟩ = some (.int .i64 ((rd_T30 t205 x7_2).f1)) := (blk_cell BK209.out 1).trans rfl
                                    have hcz75_2 : wc.cell? ⟨gb209, 2, none⟩ = some (.bool ((rd_T30 t205 x7_2).f2)) := (blk_cell BK209.out 2).trans rfl
                                    have hcz75_3 : wc.cell? ⟨gb209, 3, none⟩ = some (.int .i64 ((rd_T30 t205 x7_2).f3.f0)) := (blk_cell BK209.out 3).trans rfl
                                    have hcz75_4 : wc.cell? ⟨gb209, 4, none⟩ = some (.int .i64 ((rd_T30 t205 x7_2).f3.f1)) := (blk_cell BK209.out 4).trans rfl
                                    have hfz75_0 := blk_frozen BK209.out 0
                                    have hfz75_1 := blk_frozen BK209.out 1
                                    have hfz75_2 := blk_frozen BK209.out 2
                                    have hfz75_3 := blk_frozen BK209.out 3
                                    have hfz75_4 := blk_frozen BK209.out 4
                                    go_wp2
                                    go_ret
                                    exact ⟨by first | rfl | (simp [errW_none, errW_some] <;> rfl) | (simp [*, errW_none, errW_some] <;> rfl), by repeat (first | (with_reducible first | exact HB.out | apply below_alloc | apply pw_below_drewN | apply below_drew1 | refine below_set ?_ GE209.out) | exact HB.out)⟩
                                  · rw [if_neg c74] at H
                                    have c74b0 : (!(((rd_T30 t205 x7_2).f3.f0) == 0) || (!(((rd_T30 t205 x7_2).f3.f1) == 0))) = false := by simpa using c74
                                    clear c74
                                    have H' := Aside0.mk H
                                    clear H
                                    have hcz76_0 : wc.cell? ⟨gb209, 0, none⟩ = some (.int .i64 ((rd_T30 t205 x7_2).f0)) := (blk_cell BK209.out 0).trans rfl
                                    have hcz76_1 : wc.cell? ⟨gb209, 1, none⟩ = some (.int .i64 ((rd_T30 t205 x7_2).f1)) := (blk_cell BK209.out 1).trans rfl
                                    have hcz76_2 : wc.cell? ⟨gb209, 2, none⟩ = some (.bool ((rd_T30 t205 x7_2).f2)) := (blk_cell BK209.out 2).trans rfl
                                    have hcz76_3 : wc.cell? ⟨gb209, 3, none⟩ = some (.int .i64 ((rd_T30 t205 x7_2).f3.f0)) := (blk_cell BK209.out 3).trans rfl
                                    have hcz76_4 : wc.cell? ⟨gb209, 4, none⟩ = some (.int .i64 ((rd_T30 t205 x7_2).f3.f1)) := (blk_cell BK209.out 4).trans rfl
                                    have hfz76_0 := blk_frozen BK209.out 0
                                    have hfz76_1 := blk_frozen BK209.out 1
                                    have hfz76_2 := blk_frozen BK209.out 2
                                    have hfz76_3 := blk_frozen BK209.out 3
                                    have hfz76_4 := blk_frozen BK209.out 4
                                    go_wp2
                                    go_roundg kj21
                                    case measure => have := HJ3.out; have := HK2.out; have := HJ11.out; have := HK4.out; have := HJ21.out; omega
                                    case rel => exact ⟨(wrap64 (x7_2 + 1)), (by first | rfl | (simp; done) | (simp [*]; done)), H', ⟨by have := HJ3.out; have := HK2.out; have := HJ11.out; have := HK4.out; have := HJ21.out; omega⟩, ⟨by (with_reducible repeat (first | apply Kd.R_alloc | apply Kd.R_drewN | apply Kd.R_drew)); exact Kd.R_mono HO_6.out (fun _ hk => trivial)⟩, ⟨by repeat (first | (with_reducible first | exact HB.out | apply below_alloc | apply pw_below_drewN | apply below_drew1 | refine below_set ?_ GE209.out) | exact HB.out)⟩⟩
              · rw [if_neg c11] at H
                exact absurd H (by simp)
            · rw [if_neg c10] at H
              have c10b0 : decide (x7_2 < (t205.length : Int)) = false := decide_eq_false c10
              clear c10
              obtain rfl := Option.some.inj H
              obtain ⟨Ao77, co77, eo77⟩ := Kd.R_slice HO_6.out
              subst eo77
              go_wp2
              go_ret
              exact ⟨by first | rfl | (simp [errW_none, errW_some] <;> rfl) | (simp [*, errW_none, errW_some] <;> rfl), by repeat (first | (with_reducible first | exact HB.out | apply below_alloc | apply pw_below_drewN | apply below_drew1) | exact HB.out)⟩

end Go.Proofs.Ytippodpmggcniaa.PAll
