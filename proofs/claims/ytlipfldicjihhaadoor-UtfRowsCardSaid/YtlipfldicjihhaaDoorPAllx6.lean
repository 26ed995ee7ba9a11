-- made by xprint.py of this session
import Derived.Test.YtlipfldicjihhaaDoorPAllx0
import Derived.Test.YtlipfldicjihhaaDoorPAllx1
import Derived.Test.YtlipfldicjihhaaDoorPAllx2
import Derived.Test.YtlipfldicjihhaaDoorPAllx3
import Derived.Test.YtlipfldicjihhaaDoorPAllx5
namespace Go.Proofs.YtlipfldicjihhaaDoor.PAll
open Go.RowKit Go.Proofs.YtlipfldicjihhaaDoorW.PrintWords Go.Proofs.YtlipfldicjihhaaDoorW.PrintLast Go.Proofs.YtlipfldicjihhaaDoorW.PrintMore
attribute [local go_sem] max2_int min2_int max_two min_two max_three min_three max_four min_four   -- for this text's walks alone
set_option linter.unusedVariables false
set_option linter.unusedSimpArgs false

/-! ### hornbooklaw02_UtfRows: function 3 -/
def hornbooklaw02_UtfRows.j0 : Nat → List Int → List Int → Bool → Bool → Option (Bool)
  | 0, _, _, _, _ => none
  | k + 1, x0, x1, x5, x16 => if x16 = true then (some x5) else ((some (([] : List Int) : List Int)).bind fun y152 => (if y152.length + x0.length < 17592186044416 then ((some (y152 ++ x0 : List Int)).bind fun y155 => (if y155.length + x1.length < 17592186044416 then ((some (y155 ++ x1 : List Int)).bind fun y158 => ((some (([] : List Int) : List Int)).bind fun y161 => ((utf_Enc16.f k x0).bind fun t164 => (if y161.length + t164.length < 17592186044416 then ((some (y161 ++ t164 : List Int)).bind fun y167 => ((utf_Enc16.f k x1).bind fun t170 => (if y167.length + t170.length < 17592186044416 then (if x5 = true then ((utf_Enc16.f k y158).bind fun t176 => ((hornbookref02_Same.f k t176 (y167 ++ t170)).bind fun t179 => (if t179 = true then ((utf_Text.f y158).bind fun t180 => ((utf_Text.f x0).bind fun t181 => ((utf_Text.f x1).bind fun t182 => (if t181.size + t182.size ≤ 9223372036854775807 then (if t180.toList = (t181 ++ t182).toList then ((utf_Bytes.f k y158).bind fun t183 => ((utf_Bytes.f k x0).bind fun t186 => ((utf_Bytes.f k x1).bind fun t189 => (if (strOfNums t186).size + (strOfNums t189).size ≤ 9223372036854775807 then (some ((strOfNums t183).toList == ((strOfNums t186) ++ (strOfNums t189)).toList)) else (none))))) else (none)) else (none))))) else (none)))) else (none)) else (none)))) else (none))))) else (none))) else (none)))
def hornbooklaw02_UtfRows.f (k : Nat) (l0 : List Int) (l1 : List Int) : Option (Bool) := (hornbooklaw02_awake.f k).bind fun t151 => (if (l0.length : Int) > 150 then (hornbooklaw02_UtfRows.j0 k l0 l1 t151 true) else (hornbooklaw02_UtfRows.j0 k l0 l1 t151 (decide ((l1.length : Int) > 150))))
theorem hornbooklaw02_UtfRows.mono_l : ∀ k, (∀ y0 y1 y2 y3, LeO (hornbooklaw02_UtfRows.j0 k y0 y1 y2 y3) (hornbooklaw02_UtfRows.j0 (k + 1) y0 y1 y2 y3))
  | 0 => fun _ _ _ _ r h => by simp [hornbooklaw02_UtfRows.j0] at h
  | k + 1 => by
    have ih0 := hornbooklaw02_UtfRows.mono_l k
    · intro y0 y1 y2 y3
      unfold hornbooklaw02_UtfRows.j0
      repeat' first
      | (with_reducible exact ih0 _ _ _ _)
      | (with_reducible exact hornbooklaw02_awake.mono _)
      | (with_reducible exact hornbookref02_Same.mono _ _ _)
      | (with_reducible exact utf_Bytes.mono _ _)
      | (with_reducible exact utf_Enc16.mono _ _)
      | (with_reducible exact LeO.refl _)
      | (with_reducible exact LeO.none _)
      | (with_reducible refine LeO.ite ?_ ?_)
      | (with_reducible refine LeO.bind ?_ (fun _ => ?_))
      | exact ih0 _ _ _ _
      | exact hornbooklaw02_awake.mono _
      | exact hornbookref02_Same.mono _ _ _
      | exact utf_Bytes.mono _ _
      | exact utf_Enc16.mono _ _
      | exact LeO.none _
      | refine LeO.ite ?_ ?_
      | refine LeO.bind ?_ (fun _ => ?_)
theorem hornbooklaw02_UtfRows.mono : ∀ a0 a1 k, LeO (hornbooklaw02_UtfRows.f k a0 a1) (hornbooklaw02_UtfRows.f (k + 1) a0 a1) := by
  intro a0 a1 k
  have ih0 := hornbooklaw02_UtfRows.mono_l k
  unfold hornbooklaw02_UtfRows.f
  repeat' first
      | (with_reducible exact ih0 _ _ _ _)
      | (with_reducible exact hornbooklaw02_awake.mono _)
      | (with_reducible exact hornbookref02_Same.mono _ _ _)
      | (with_reducible exact utf_Bytes.mono _ _)
      | (with_reducible exact utf_Enc16.mono _ _)
      | (with_reducible exact LeO.refl _)
      | (with_reducible exact LeO.none _)
      | (with_reducible refine LeO.ite ?_ ?_)
      | (with_reducible refine LeO.bind ?_ (fun _ => ?_))
      | exact ih0 _ _ _ _
      | exact hornbooklaw02_awake.mono _
      | exact hornbookref02_Same.mono _ _ _
      | exact utf_Bytes.mono _ _
      | exact utf_Enc16.mono _ _
      | exact LeO.none _
      | refine LeO.ite ?_ ?_
      | refine LeO.bind ?_ (fun _ => ?_)
def hornbooklaw02_UtfRows.T8 : Bool × List (List Nat × List Nat) := (true, [([], []), ([0], [0]), ([1], [1]), ([2, 1, 1], [1, 2]), ([1], [1]), ([3, 4, 3, 1], [1, 3, 4]), ([1, 5], [1, 5]), ([6, 5], [6]), ([7], [7]), ([8, 7, 7], [7, 8]), ([7], [7]), ([10, 9, 7], [7, 10]), ([7], [7]), ([12, 11, 7], [7, 12]), ([11, 13, 7], [7, 11, 13]), ([9, 14, 7], [7, 9, 14]), ([7, 15], [7, 15]), ([16, 13], [16]), ([17], [17]), ([18, 17, 17], [17, 18]), ([19, 17], [17, 19]), ([17], [17]), ([21, 19, 17], [17, 21]), ([22, 17], [17, 22]), ([17], [17]), ([24, 22, 17], [17, 24]), ([25, 17], [17, 25]), ([23, 26, 17], [17, 23, 26]), ([20, 27, 17], [17, 20, 27]), ([17, 28], [17, 28]), ([29, 25, 0, 1, 2, 3, 4, 5, 6, 7, 8, 9, 10, 11, 12, 13, 14, 15, 16, 17, 18, 19, 20, 21, 22, 23, 24, 25, 26, 27, 28, 29], [29])])
def hornbooklaw02_UtfRows.B8 : List Nat := [0, 1, 3, 7, 3, 31, 63, 127, 255, 511, 255, 2047, 255, 8191, 16383, 32767, 65535, 131071, 262143, 524287, 1048575, 262143, 3145727, 7340031, 262143, 24117247, 57671679, 133169151, 268435455, 536870911, 1073741823]
theorem hornbooklaw02_UtfRows.tab8 : rtab .any (opsOf Tryd.f3 8) = hornbooklaw02_UtfRows.T8 := by kernel_rfl
theorem hornbooklaw02_UtfRows.bits8 : waitsOk hornbooklaw02_UtfRows.T8.2 hornbooklaw02_UtfRows.B8 = true := by kernel_rfl
set_option maxHeartbeats 8000000 in
set_option maxRecDepth 100000 in
theorem hornbooklaw02_UtfRows.calls (k : Nat) (A0 : Option Addr) (c0 : Nat) (l0 : List Int) (A1 : Option Addr) (c1 : Nat) (l1 : List Int) (r : Bool) (w : World) (hr0 : Kd.C (Kd.int .i64) w A0 l0.length l0) (hc0 : l0.length ≤ c0) (hr1 : Kd.C (Kd.int .i64) w A1 l1.length l1) (hc1 : l1.length ≤ c1) (h : hornbooklaw02_UtfRows.f k l0 l1 = some r) :
    Calls Tryd.prog 3 #[.slice A0 l0.length c0, .slice A1 l1.length c1] w fun e w' => e = .returned (.bool r) ∧ Below w.heap.size w w' := by
  have HR0 := Aside0.mk hr0
  have HC0 := Aside0.mk hc0
  clear hr0 hc0
  have HR1 := Aside0.mk hr1
  have HC1 := Aside0.mk hc1
  clear hr1 hc1
  have HB := Aside0.mk (Below.refl w.heap.size w)
  have H : ((hornbooklaw02_awake.f k).bind fun t151 => (if (l0.length : Int) > 150 then (hornbooklaw02_UtfRows.j0 k l0 l1 t151 true) else (hornbooklaw02_UtfRows.j0 k l0 l1 t151 (decide ((l1.length : Int) > 150))))) = some r := h
  clear h
  replace H := Option.bind_eq_some_iff.mp H
  obtain ⟨t151, A30, H⟩ := H
  replace H : (if (l0.length : Int) > 150 then (hornbooklaw02_UtfRows.j0 k l0 l1 t151 true) else (hornbooklaw02_UtfRows.j0 k l0 l1 t151 (decide ((l1.length : Int) > 150)))) = some r := H
  have A3 := Aside0.mk A30
  clear A30
  have HC4 := Aside0.mk H
  clear H
  go_enter Tryd.func3, Tryd.ntmps3
  go_upto_region 2 with (first | ((with_reducible refine gate_callee (f := 9) rfl ?_); refine goesL_ (some 8) rfl rfl Tryd.func9 (by kernel_rfl) rfl #[] rfl (by (try simp only [List.map_toArray, List.map_cons, List.map_nil]); first | done | rfl | (simp only [List.length_drop, List.length_take]; rfl)) ?_; (with_reducible refine (hornbooklaw02_awake.calls k  t151 _ A3.out).mono ?_); rintro e w5 ⟨rfl, hb⟩; refine ⟨_, rfl, ?_⟩; have n0_ := Aside0.mk (below_step (by repeat (first | (with_reducible first | exact HB.out | apply below_alloc | apply pw_below_drewN | apply below_drew1) | exact HB.out)) hb); clear HB; have HB := n0_; clear n0_; (try clear hb); (try clear hb2); (try clear hk); (try clear hi)))
  (try simp only [Act.put, List.setIfInBounds_toArray, List.set_cons_zero, List.set_cons_succ])
  go_cut [16] (fun v16 wc => ∃ (kq : Nat) (x16_3 : Bool), v16 = .bool x16_3 ∧ Aside0 (hornbooklaw02_UtfRows.j0 kq l0 l1 t151 x16_3 = some r) ∧ Aside0 (kq ≤ k) ∧ Aside0 (Below w.heap.size w wc))
  case first =>
    have H := HC4.out
    clear HC4
    by_cases c6 : (l0.length : Int) > 150
    · rw [if_pos c6] at H
      have c6b0 : decide (150 < (l0.length : Int)) = true := decide_eq_true c6
      have c6b1 : decide (150 < l0.length) = true := decide_eq_true (by omega)
      clear c6
      (first | rw [c6b0] | (simp only [i64_w, i32_w]; rw [c6b0]) | skip)
      have H' := Aside0.mk H
      clear H
      go_wp2
      go_meet
      case rel => exact ⟨_, (true), (by first | rfl | (simp; done) | (simp [*]; done)), H', ⟨by first | omega | exact Nat.le_refl _⟩, ⟨by repeat (first | (with_reducible first | exact HB.out | apply below_alloc | apply pw_below_drewN | apply below_drew1) | exact HB.out)⟩⟩
    · rw [if_neg c6] at H
      have c6b0 : decide (150 < (l0.length : Int)) = false := decide_eq_false c6
      have c6b1 : decide (150 < l0.length) = false := decide_eq_false (by omega)
      clear c6
      (first | rw [c6b0] | (simp only [i64_w, i32_w]; rw [c6b0]) | skip)
      have H' := Aside0.mk H
      clear H
      go_wp2
      go_meet
      case rel => exact ⟨_, (decide ((l1.length : Int) > 150)), (by first | rfl | (simp; done) | (simp [*]; done)), H', ⟨by first | omega | exact Nat.le_refl _⟩, ⟨by repeat (first | (with_reducible first | exact HB.out | apply below_alloc | apply pw_below_drewN | apply below_drew1) | exact HB.out)⟩⟩
  case rest =>
    clear HC4
    try clear c1
    try clear p2
    try clear c3
    try clear c6
    try clear c6b0
    try clear c6b1
    obtain ⟨kq, x16_3, rfl, HA, HJ3, HB⟩ := hcut
    cases kq with
    | zero => exact absurd HA.out (by simp [hornbooklaw02_UtfRows.j0])
    | succ kj3 =>
      have H := HA.out
      clear HA
      simp only [hornbooklaw02_UtfRows.j0] at H
      by_cases c7 : x16_3 = true
      · subst c7
        have H1 : (some t151) = some r := by rw [if_pos rfl] at H; exact H
        clear H
        have H := H1
        clear H1
        obtain rfl := Option.some.inj H
        go_wp2
        go_ret
        exact ⟨by first | rfl | (simp [errW_none, errW_some] <;> rfl) | (simp [*, errW_none, errW_some] <;> rfl), by repeat (first | (with_reducible first | exact HB.out | apply below_alloc | apply pw_below_drewN | apply below_drew1) | exact HB.out)⟩
      · replace c7 := Bool.eq_false_iff.mpr c7
        subst c7
        have H1 : ((some (([] : List Int) : List Int)).bind fun y152 => (if y152.length + l0.length < 17592186044416 then ((some (y152 ++ l0 : List Int)).bind fun y155 => (if y155.length + l1.length < 17592186044416 then ((some (y155 ++ l1 : List Int)).bind fun y158 => ((some (([] : List Int) : List Int)).bind fun y161 => ((utf_Enc16.f kj3 l0).bind fun t164 => (if y161.length + t164.length < 17592186044416 then ((some (y161 ++ t164 : List Int)).bind fun y167 => ((utf_Enc16.f kj3 l1).bind fun t170 => (if y167.length + t170.length < 17592186044416 then (if t151 = true then ((utf_Enc16.f kj3 y158).bind fun t176 => ((hornbookref02_Same.f kj3 t176 (y167 ++ t170)).bind fun t179 => (if t179 = true then ((utf_Text.f y158).bind fun t180 => ((utf_Text.f l0).bind fun t181 => ((utf_Text.f l1).bind fun t182 => (if t181.size + t182.size ≤ 9223372036854775807 then (if t180.toList = (t181 ++ t182).toList then ((utf_Bytes.f kj3 y158).bind fun t183 => ((utf_Bytes.f kj3 l0).bind fun t186 => ((utf_Bytes.f kj3 l1).bind fun t189 => (if (strOfNums t186).size + (strOfNums t189).size ≤ 9223372036854775807 then (some ((strOfNums t183).toList == ((strOfNums t186) ++ (strOfNums t189)).toList)) else (none))))) else (none)) else (none))))) else (none)))) else (none)) else (none)))) else (none))))) else (none))) else (none))) = some r := by rw [if_neg (show ¬ (false = true) by decide)] at H; exact H
        clear H
        have H := H1
        clear H1
        obtain ⟨y152, hy152⟩ : ∃ y_ : List Int, y_ = (([] : List Int)) := ⟨_, rfl⟩
        replace H : (if y152.length + l0.length < 17592186044416 then ((some (y152 ++ l0 : List Int)).bind fun y155 => (if y155.length + l1.length < 17592186044416 then ((some (y155 ++ l1 : List Int)).bind fun y158 => ((some (([] : List Int) : List Int)).bind fun y161 => ((utf_Enc16.f kj3 l0).bind fun t164 => (if y161.length + t164.length < 17592186044416 then ((some (y161 ++ t164 : List Int)).bind fun y167 => ((utf_Enc16.f kj3 l1).bind fun t170 => (if y167.length + t170.length < 17592186044416 then (if t151 = true then ((utf_Enc16.f kj3 y158).bind fun t176 => ((hornbookref02_Same.f kj3 t176 (y167 ++ t170)).bind fun t179 => (if t179 = true then ((utf_Text.f y158).bind fun t180 => ((utf_Text.f l0).bind fun t181 => ((utf_Text.f l1).bind fun t182 => (if t181.size + t182.size ≤ 9223372036854775807 then (if t180.toList = (t181 ++ t182).toList then ((utf_Bytes.f kj3 y158).bind fun t183 => ((utf_Bytes.f kj3 l0).bind fun t186 => ((utf_Bytes.f kj3 l1).bind fun t189 => (if (strOfNums t186).size + (strOfNums t189).size ≤ 9223372036854775807 then (some ((strOfNums t183).toList == ((strOfNums t186) ++ (strOfNums t189)).toList)) else (none))))) else (none)) else (none))))) else (none)))) else (none)) else (none)))) else (none))))) else (none))) else (none)) = some r := by first | (rw [hy152]; with_reducible exact H) | (have H2_ := (Option.bind_some _ _).symm.trans H; rw [hy152]; with_reducible exact H2_) | (have H2_ := (Option.bind_some _ _).symm.trans H; with_reducible exact H2_) | with_reducible exact H | (rw [hy152]; exact H) | exact H
        have Ny152 := Aside0.mk hy152
        clear hy152
        by_cases c8 : y152.length + l0.length < 17592186044416
        · rw [if_pos c8] at H
          have LMc8 := Aside0.mk c8
          clear c8
          obtain ⟨y155, hy155⟩ : ∃ y_ : List Int, y_ = (y152 ++ l0) := ⟨_, rfl⟩
          replace H : (if y155.length + l1.length < 17592186044416 then ((some (y155 ++ l1 : List Int)).bind fun y158 => ((some (([] : List Int) : List Int)).bind fun y161 => ((utf_Enc16.f kj3 l0).bind fun t164 => (if y161.length + t164.length < 17592186044416 then ((some (y161 ++ t164 : List Int)).bind fun y167 => ((utf_Enc16.f kj3 l1).bind fun t170 => (if y167.length + t170.length < 17592186044416 then (if t151 = true then ((utf_Enc16.f kj3 y158).bind fun t176 => ((hornbookref02_Same.f kj3 t176 (y167 ++ t170)).bind fun t179 => (if t179 = true then ((utf_Text.f y158).bind fun t180 => ((utf_Text.f l0).bind fun t181 => ((utf_Text.f l1).bind fun t182 => (if t181.size + t182.size ≤ 9223372036854775807 then (if t180.toList = (t181 ++ t182).toList then ((utf_Bytes.f kj3 y158).bind fun t183 => ((utf_Bytes.f kj3 l0).bind fun t186 => ((utf_Bytes.f kj3 l1).bind fun t189 => (if (strOfNums t186).size + (strOfNums t189).size ≤ 9223372036854775807 then (some ((strOfNums t183).toList == ((strOfNums t186) ++ (strOfNums t189)).toList)) else (none))))) else (none)) else (none))))) else (none)))) else (none)) else (none)))) else (none))))) else (none)) = some r := by first | (rw [hy155]; with_reducible exact H) | (have H2_ := (Option.bind_some _ _).symm.trans H; rw [hy155]; with_reducible exact H2_) | (have H2_ := (Option.bind_some _ _).symm.trans H; with_reducible exact H2_) | with_reducible exact H | (rw [hy155]; exact H) | exact H
          have Ny155 := Aside0.mk hy155
          clear hy155
          by_cases c9 : y155.length + l1.length < 17592186044416
          · rw [if_pos c9] at H
            have LMc9 := Aside0.mk c9
            clear c9
            obtain ⟨y158, hy158⟩ : ∃ y_ : List Int, y_ = (y155 ++ l1) := ⟨_, rfl⟩
            replace H : ((some (([] : List Int) : List Int)).bind fun y161 => ((utf_Enc16.f kj3 l0).bind fun t164 => (if y161.length + t164.length < 17592186044416 then ((some (y161 ++ t164 : List Int)).bind fun y167 => ((utf_Enc16.f kj3 l1).bind fun t170 => (if y167.length + t170.length < 17592186044416 then (if t151 = true then ((utf_Enc16.f kj3 y158).bind fun t176 => ((hornbookref02_Same.f kj3 t176 (y167 ++ t170)).bind fun t179 => (if t179 = true then ((utf_Text.f y158).bind fun t180 => ((utf_Text.f l0).bind fun t181 => ((utf_Text.f l1).bind fun t182 => (if t181.size + t182.size ≤ 9223372036854775807 then (if t180.toList = (t181 ++ t182).toList then ((utf_Bytes.f kj3 y158).bind fun t183 => ((utf_Bytes.f kj3 l0).bind fun t186 => ((utf_Bytes.f kj3 l1).bind fun t189 => (if (strOfNums t186).size + (strOfNums t189).size ≤ 9223372036854775807 then (some ((strOfNums t183).toList == ((strOfNums t186) ++ (strOfNums t189)).toList)) else (none))))) else (none)) else (none))))) else (none)))) else (none)) else (none)))) else (none)))) = some r := by first | (rw [hy158]; with_reducible exact H) | (have H2_ := (Option.bind_some _ _).symm.trans H; rw [hy158]; with_reducible exact H2_) | (have H2_ := (Option.bind_some _ _).symm.trans H; with_reducible exact H2_) | with_reducible exact H | (rw [hy158]; exact H) | exact H
            have Ny158 := Aside0.mk hy158
            clear hy158
            obtain ⟨y161, hy161⟩ : ∃ y_ : List Int, y_ = (([] : List Int)) := ⟨_, rfl⟩
            replace H : ((utf_Enc16.f kj3 l0).bind fun t164 => (if y161.length + t164.length < 17592186044416 then ((some (y161 ++ t164 : List Int)).bind fun y167 => ((utf_Enc16.f kj3 l1).bind fun t170 => (if y167.length + t170.length < 17592186044416 then (if t151 = true then ((utf_Enc16.f kj3 y158).bind fun t176 => ((hornbookref02_Same.f kj3 t176 (y167 ++ t170)).bind fun t179 => (if t179 = true then ((utf_Text.f y158).bind fun t180 => ((utf_Text.f l0).bind fun t181 => ((utf_Text.f l1).bind fun t182 => (if t181.size + t182.size ≤ 9223372036854775807 then (if t180.toList = (t181 ++ t182).toList then ((utf_Bytes.f kj3 y158).bind fun t183 => ((utf_Bytes.f kj3 l0).bind fun t186 => ((utf_Bytes.f kj3 l1).bind fun t189 => (if (strOfNums t186).size + (strOfNums t189).size ≤ 9223372036854775807 then (some ((strOfNums t183).toList == ((strOfNums t186) ++ (strOfNums t189)).toList)) else (none))))) else (none)) else (none))))) else (none)))) else (none)) else (none)))) else (none))) = some r := by first | (rw [hy161]; with_reducible exact H) | (have H2_ := (Option.bind_some _ _).symm.trans H; rw [hy161]; with_reducible exact H2_) | (have H2_ := (Option.bind_some _ _).symm.trans H; with_reducible exact H2_) | with_reducible exact H | (rw [hy161]; exact H) | exact H
            have Ny161 := Aside0.mk hy161
            clear hy161
            replace H := Option.bind_eq_some_iff.mp H
            obtain ⟨t164, A100, H⟩ := H
            replace H : (if y161.length + t164.length < 17592186044416 then ((some (y161 ++ t164 : List Int)).bind fun y167 => ((utf_Enc16.f kj3 l1).bind fun t170 => (if y167.length + t170.length < 17592186044416 then (if t151 = true then ((utf_Enc16.f kj3 y158).bind fun t176 => ((hornbookref02_Same.f kj3 t176 (y167 ++ t170)).bind fun t179 => (if t179 = true then ((utf_Text.f y158).bind fun t180 => ((utf_Text.f l0).bind fun t181 => ((utf_Text.f l1).bind fun t182 => (if t181.size + t182.size ≤ 9223372036854775807 then (if t180.toList = (t181 ++ t182).toList then ((utf_Bytes.f kj3 y158).bind fun t183 => ((utf_Bytes.f kj3 l0).bind fun t186 => ((utf_Bytes.f kj3 l1).bind fun t189 => (if (strOfNums t186).size + (strOfNums t189).size ≤ 9223372036854775807 then (some ((strOfNums t183).toList == ((strOfNums t186) ++ (strOfNums t189)).toList)) else (none))))) else (none)) else (none))))) else (none)))) else (none)) else (none)))) else (none)) = some r := H
            have A10 := Aside0.mk A100
            clear A100
            by_cases c11 : y161.length + t164.length < 17592186044416
            · rw [if_pos c11] at H
              have LMc11 := Aside0.mk c11
              clear c11
              obtain ⟨y167, hy167⟩ : ∃ y_ : List Int, y_ = (y161 ++ t164) := ⟨_, rfl⟩
              replace H : ((utf_Enc16.f kj3 l1).bind fun t170 => (if y167.length + t170.length < 17592186044416 then (if t151 = true then ((utf_Enc16.f kj3 y158).bind fun t176 => ((hornbookref02_Same.f kj3 t176 (y167 ++ t170)).bind fun t179 => (if t179 = true then ((utf_Text.f y158).bind fun t180 => ((utf_Text.f l0).bind fun t181 => ((utf_Text.f l1).bind fun t182 => (if t181.size + t182.size ≤ 9223372036854775807 then (if t180.toList = (t181 ++ t182).toList then ((utf_Bytes.f kj3 y158).bind fun t183 => ((utf_Bytes.f kj3 l0).bind fun t186 => ((utf_Bytes.f kj3 l1).bind fun t189 => (if (strOfNums t186).size + (strOfNums t189).size ≤ 9223372036854775807 then (some ((strOfNums t183).toList == ((strOfNums t186) ++ (strOfNums t189)).toList)) else (none))))) else (none)) else (none))))) else (none)))) else (none)) else (none))) = some r := by first | (rw [hy167]; with_reducible exact H) | (have H2_ := (Option.bind_some _ _).symm.trans H; rw [hy167]; with_reducible exact H2_) | (have H2_ := (Option.bind_some _ _).symm.trans H; with_reducible exact H2_) | with_reducible exact H | (rw [hy167]; exact H) | exact H
              have Ny167 := Aside0.mk hy167
              clear hy167
              replace H := Option.bind_eq_some_iff.mp H
              obtain ⟨t170, A120, H⟩ := H
              replace H : (if y167.length + t170.length < 17592186044416 then (if t151 = true then ((utf_Enc16.f kj3 y158).bind fun t176 => ((hornbookref02_Same.f kj3 t176 (y167 ++ t170)).bind fun t179 => (if t179 = true then ((utf_Text.f y158).bind fun t180 => ((utf_Text.f l0).bind fun t181 => ((utf_Text.f l1).bind fun t182 => (if t181.size + t182.size ≤ 9223372036854775807 then (if t180.toList = (t181 ++ t182).toList then ((utf_Bytes.f kj3 y158).bind fun t183 => ((utf_Bytes.f kj3 l0).bind fun t186 => ((utf_Bytes.f kj3 l1).bind fun t189 => (if (strOfNums t186).size + (strOfNums t189).size ≤ 9223372036854775807 then (some ((strOfNums t183).toList == ((strOfNums t186) ++ (strOfNums t189)).toList)) else (none))))) else (none)) else (none))))) else (none)))) else (none)) else (none)) = some r := H
              have A12 := Aside0.mk A120
              clear A120
              by_cases c13 : y167.length + t170.length < 17592186044416
              · rw [if_pos c13] at H
                have LMc13 := Aside0.mk c13
                clear c13
                obtain ⟨y173, hy173⟩ : ∃ y_ : List Int, y_ = (y167 ++ t170) := ⟨_, rfl⟩
                replace H : (if t151 = true then ((utf_Enc16.f kj3 y158).bind fun t176 => ((hornbookref02_Same.f kj3 t176 y173).bind fun t179 => (if t179 = true then ((utf_Text.f y158).bind fun t180 => ((utf_Text.f l0).bind fun t181 => ((utf_Text.f l1).bind fun t182 => (if t181.size + t182.size ≤ 9223372036854775807 then (if t180.toList = (t181 ++ t182).toList then ((utf_Bytes.f kj3 y158).bind fun t183 => ((utf_Bytes.f kj3 l0).bind fun t186 => ((utf_Bytes.f kj3 l1).bind fun t189 => (if (strOfNums t186).size + (strOfNums t189).size ≤ 9223372036854775807 then (some ((strOfNums t183).toList == ((strOfNums t186) ++ (strOfNums t189)).toList)) else (none))))) else (none)) else (none))))) else (none)))) else (none)) = some r := by first | (rw [hy173]; with_reducible exact H) | (have H2_ := (Option.bind_some _ _).symm.trans H; rw [hy173]; with_reducible exact H2_) | (have H2_ := (Option.bind_some _ _).symm.trans H; with_reducible exact H2_) | with_reducible exact H | (rw [hy173]; exact H) | exact H
                have Ny173 := Aside0.mk hy173
                clear hy173
                by_cases c14 : t151 = true
                · subst c14
                  have H1 : ((utf_Enc16.f kj3 y158).bind fun t176 => ((hornbookref02_Same.f kj3 t176 y173).bind fun t179 => (if t179 = true then ((utf_Text.f y158).bind fun t180 => ((utf_Text.f l0).bind fun t181 => ((utf_Text.f l1).bind fun t182 => (if t181.size + t182.size ≤ 9223372036854775807 then (if t180.toList = (t181 ++ t182).toList then ((utf_Bytes.f kj3 y158).bind fun t183 => ((utf_Bytes.f kj3 l0).bind fun t186 => ((utf_Bytes.f kj3 l1).bind fun t189 => (if (strOfNums t186).size + (strOfNums t189).size ≤ 9223372036854775807 then (some ((strOfNums t183).toList == ((strOfNums t186) ++ (strOfNums t189)).toList)) else (none))))) else (none)) else (none))))) else (none)))) = some r := by rw [if_pos rfl] at H; exact H
                  clear H
                  have H := H1
                  clear H1
                  replace H := Option.bind_eq_some_iff.mp H
                  obtain ⟨t176, A150, H⟩ := H
                  replace H : ((hornbookref02_Same.f kj3 t176 y173).bind fun t179 => (if t179 = true then ((utf_Text.f y158).bind fun t180 => ((utf_Text.f l0).bind fun t181 => ((utf_Text.f l1).bind fun t182 => (if t181.size + t182.size ≤ 9223372036854775807 then (if t180.toList = (t181 ++ t182).toList then ((utf_Bytes.f kj3 y158).bind fun t183 => ((utf_Bytes.f kj3 l0).bind fun t186 => ((utf_Bytes.f kj3 l1).bind fun t189 => (if (strOfNums t186).size + (strOfNums t189).size ≤ 9223372036854775807 then (some ((strOfNums t183).toList == ((strOfNums t186) ++ (strOfNums t189)).toList)) else (none))))) else (none)) else (none))))) else (none))) = some r := H
                  have A15 := Aside0.mk A150
                  clear A150
                  replace H := Option.bind_eq_some_iff.mp H
                  obtain ⟨t179, A160, H⟩ := H
                  replace H : (if t179 = true then ((utf_Text.f y158).bind fun t180 => ((utf_Text.f l0).bind fun t181 => ((utf_Text.f l1).bind fun t182 => (if t181.size + t182.size ≤ 9223372036854775807 then (if t180.toList = (t181 ++ t182).toList then ((utf_Bytes.f kj3 y158).bind fun t183 => ((utf_Bytes.f kj3 l0).bind fun t186 => ((utf_Bytes.f kj3 l1).bind fun t189 => (if (strOfNums t186).size + (strOfNums t189).size ≤ 9223372036854775807 then (some ((strOfNums t183).toList == ((strOfNums t186) ++ (strOfNums t189)).toList)) else (none))))) else (none)) else (none))))) else (none)) = some r := H
                  have A16 := Aside0.mk A160
                  clear A160
                  by_cases c17 : t179 = true
                  · subst c17
                    have H1 : ((utf_Text.f y158).bind fun t180 => ((utf_Text.f l0).bind fun t181 => ((utf_Text.f l1).bind fun t182 => (if t181.size + t182.size ≤ 9223372036854775807 then (if t180.toList = (t181 ++ t182).toList then ((utf_Bytes.f kj3 y158).bind fun t183 => ((utf_Bytes.f kj3 l0).bind fun t186 => ((utf_Bytes.f kj3 l1).bind fun t189 => (if (strOfNums t186).size + (strOfNums t189).size ≤ 9223372036854775807 then (some ((strOfNums t183).toList == ((strOfNums t186) ++ (strOfNums t189)).toList)) else (none))))) else (none)) else (none))))) = some r := by rw [if_pos rfl] at H; exact H
                    clear H
                    have H := H1
                    clear H1
                    replace H := Option.bind_eq_some_iff.mp H
                    obtain ⟨t180, A180, H⟩ := H
                    replace H : ((utf_Text.f l0).bind fun t181 => ((utf_Text.f l1).bind fun t182 => (if t181.size + t182.size ≤ 9223372036854775807 then (if t180.toList = (t181 ++ t182).toList then ((utf_Bytes.f kj3 y158).bind fun t183 => ((utf_Bytes.f kj3 l0).bind fun t186 => ((utf_Bytes.f kj3 l1).bind fun t189 => (if (strOfNums t186).size + (strOfNums t189).size ≤ 9223372036854775807 then (some ((strOfNums t183).toList == ((strOfNums t186) ++ (strOfNums t189)).toList)) else (none))))) else (none)) else (none)))) = some r := H
                    have A18 := Aside0.mk A180
                    clear A180
                    replace H := Option.bind_eq_some_iff.mp H
                    obtain ⟨t181, A190, H⟩ := H
                    replace H : ((utf_Text.f l1).bind fun t182 => (if t181.size + t182.size ≤ 9223372036854775807 then (if t180.toList = (t181 ++ t182).toList then ((utf_Bytes.f kj3 y158).bind fun t183 => ((utf_Bytes.f kj3 l0).bind fun t186 => ((utf_Bytes.f kj3 l1).bind fun t189 => (if (strOfNums t186).size + (strOfNums t189).size ≤ 9223372036854775807 then (some ((strOfNums t183).toList == ((strOfNums t186) ++ (strOfNums t189)).toList)) else (none))))) else (none)) else (none))) = some r := H
                    have A19 := Aside0.mk A190
                    clear A190
                    replace H := Option.bind_eq_some_iff.mp H
                    obtain ⟨t182, A200, H⟩ := H
                    replace H : (if t181.size + t182.size ≤ 9223372036854775807 then (if t180.toList = (t181 ++ t182).toList then ((utf_Bytes.f kj3 y158).bind fun t183 => ((utf_Bytes.f kj3 l0).bind fun t186 => ((utf_Bytes.f kj3 l1).bind fun t189 => (if (strOfNums t186).size + (strOfNums t189).size ≤ 9223372036854775807 then (some ((strOfNums t183).toList == ((strOfNums t186) ++ (strOfNums t189)).toList)) else (none))))) else (none)) else (none)) = some r := H
                    have A20 := Aside0.mk A200
                    clear A200
                    by_cases c21 : t181.size + t182.size ≤ 9223372036854775807
                    · rw [if_pos c21] at H
                      have c21b0 := eq_true c21
                      have c21b1 : decide (t181.size + t182.size ≤ 9223372036854775807) = true := decide_eq_true c21
                      try have c21b2 : (9223372036854775807 < t181.size + t182.size) = False := eq_false (Nat.not_lt.2 c21)
                      by_cases c22 : t180.toList = (t181 ++ t182).toList
                      · rw [if_pos c22] at H
                        have c22b0 : (t180.toList == (t181 ++ t182).toList) = true := beq_iff_eq.mpr c22
                        have c22b1 : (t180.toList != (t181 ++ t182).toList) = false := bne_eq_false_iff_eq.mpr c22
                        clear c22
                        replace H := Option.bind_eq_some_iff.mp H
                        obtain ⟨t183, A230, H⟩ := H
                        replace H : ((utf_Bytes.f kj3 l0).bind fun t186 => ((utf_Bytes.f kj3 l1).bind fun t189 => (if (strOfNums t186).size + (strOfNums t189).size ≤ 9223372036854775807 then (some ((strOfNums t183).toList == ((strOfNums t186) ++ (strOfNums t189)).toList)) else (none)))) = some r := H
                        have A23 := Aside0.mk A230
                        clear A230
                        replace H := Option.bind_eq_some_iff.mp H
                        obtain ⟨t186, A240, H⟩ := H
                        replace H : ((utf_Bytes.f kj3 l1).bind fun t189 => (if (strOfNums t186).size + (strOfNums t189).size ≤ 9223372036854775807 then (some ((strOfNums t183).toList == ((strOfNums t186) ++ (strOfNums t189)).toList)) else (none))) = some r := H
                        have A24 := Aside0.mk A240
                        clear A240
                        replace H := Option.bind_eq_some_iff.mp H
                        obtain ⟨t189, A250, H⟩ := H
                        replace H : (if (strOfNums t186).size + (strOfNums t189).size ≤ 9223372036854775807 then (some ((strOfNums t183).toList == ((strOfNums t186) ++ (strOfNums t189)).toList)) else (none)) = some r := H
                        have A25 := Aside0.mk A250
                        clear A250
                        by_cases c26 : (strOfNums t186).size + (strOfNums t189).size ≤ 9223372036854775807
                        · rw [if_pos c26] at H
                          have c26b0 := eq_true c26
                          have c26b1 : decide ((strOfNums t186).size + (strOfNums t189).size ≤ 9223372036854775807) = true := decide_eq_true c26
                          try have c26b2 : (9223372036854775807 < (strOfNums t186).size + (strOfNums t189).size) = False := eq_false (Nat.not_lt.2 c26)
                          obtain rfl := Option.some.inj H
                          try go_wp2_with (first | ((with_reducible refine gate_dst (N := 18) rfl ?_); (try (refine gate_guard (by rfl) ?_; dsimp only)); refine Kd.R_lit (Kd.int .i64) _ 3 ?hg (N := 18) ?hd (xs := ([] : List Int)) (inner := []) (ok := fun _ => True) (okp := fun _ => True) ?hr ?hp (fun _ hk => hk) trivial (Below.refl _ _) (Nat.le_refl _) (by simp) ?_; (case hd => rfl); (case hg => rfl); (case hr => first | (go_simp; done) | (go_simp; rfl)); (case hp => exact (Reps.none _ _)); intro v153 w27 ho28 hb hg_ hnew_; clear hg_ hnew_; (first | rw [← Ny152.out] at ho28 | (simp only [Int.reduceToNat] at ho28; rw [← Ny152.out] at ho28)); have n0_ := Aside0.mk (Kd.R_lower ho28 (below_size (by repeat (first | (with_reducible first | exact HB.out | apply below_alloc | apply pw_below_drewN | apply below_drew1) | exact HB.out)))); have n1_ := Aside0.mk (below_step (by repeat (first | (with_reducible first | exact HB.out | apply below_alloc | apply pw_below_drewN | apply below_drew1) | exact HB.out)) hb); clear HB; have HO154 := n0_; have HB := n1_; clear n0_ n1_; clear hb ho28) | ((with_reducible refine gate_builtin (b := .append) (xs := #[.tmp 18, .tmp 19]) rfl ?_); (try (refine gate_guard (by rfl) ?_; dsimp only)); at_builtin; refine Kd.R_append_rows (Kd.int .i64) (w0 := w) w.heap.size rfl (.tmp 18) (.tmp 19) 22 3 (.int .i64 0) 8 rfl Tryd.underlying22 info3 rfl (by decide) (by omega) v153 y152 l0 _ _ _ (fun _ => True) (fun _ => False) rfl rfl ?aO ?aR (fun _ _ h => h) (fun _ h => h.elim) ?aF ?aB ?aS ?aL ?_; (case aR => repeat (first | exact (Kd.C_below HR0.out HB.out) | (with_reducible refine Kd.C_alloc ?_ _) | (with_reducible refine Kd.C_drewN ?_ _) | (with_reducible refine Kd.C_drew ?_))); (case aB => exact (by repeat (first | (with_reducible first | exact HB.out | apply below_alloc | apply pw_below_drewN | apply below_drew1) | exact HB.out))); (case aF => exact (fun _ _ => trivial)); (case aO => exact (by (with_reducible repeat (first | apply Kd.R_alloc | apply Kd.R_drewN | apply Kd.R_drew)); exact HO154.out)); (case aS => exact (below_size (by repeat (first | (with_reducible first | exact HB.out | apply below_alloc | apply pw_below_drewN | apply below_drew1) | exact HB.out)))); (case aL => have := LMc8.out; omega); intro v156 w29 ho hb hg hat; rw [← Ny155.out] at ho; have n0_ := Aside0.mk (hb); have n1_ := Aside0.mk (ho); clear HB; clear HO154; have HB := n0_; have HO157 := n1_; clear n0_ n1_; clear ho hb hg hat) | ((with_reducible refine gate_builtin (b := .append) (xs := #[.tmp 21, .tmp 22]) rfl ?_); (try (refine gate_guard (by rfl) ?_; dsimp only)); at_builtin; refine Kd.R_append_rows (Kd.int .i64) (w0 := w) w.heap.size rfl (.tmp 21) (.tmp 22) 22 3 (.int .i64 0) 8 rfl Tryd.underlying22 info3 rfl (by decide) (by omega) v156 y155 l1 _ _ _ (fun _ => True) (fun _ => False) rfl rfl ?aO ?aR (fun _ _ h => h) (fun _ h => h.elim) ?aF ?aB ?aS ?aL ?_; (case aR => repeat (first | exact (Kd.C_below HR1.out HB.out) | (with_reducible refine Kd.C_alloc ?_ _) | (with_reducible refine Kd.C_drewN ?_ _) | (with_reducible refine Kd.C_drew ?_))); (case aB => exact (by repeat (first | (with_reducible first | exact HB.out | apply below_alloc | apply pw_below_drewN | apply below_drew1) | exact HB.out))); (case aF => exact (fun _ _ => trivial)); (case aO => exact (by (with_reducible repeat (first | apply Kd.R_alloc | apply Kd.R_drewN | apply Kd.R_drew)); exact HO157.out)); (case aS => exact (below_size (by repeat (first | (with_reducible first | exact HB.out | apply below_alloc | apply pw_below_drewN | apply below_drew1) | exact HB.out)))); (case aL => have := LMc9.out; omega); intro v159 w30 ho hb hg hat; rw [← Ny158.out] at ho; have n0_ := Aside0.mk (hb); have n1_ := Aside0.mk (ho); clear HB; clear HO157; have HB := n0_; have HO160 := n1_; clear n0_ n1_; clear ho hb hg hat) | ((with_reducible refine gate_dst (N := 24) rfl ?_); (try (refine gate_guard (by rfl) ?_; dsimp only)); refine Kd.R_lit (Kd.int .i64) _ 3 ?hg (N := 24) ?hd (xs := ([] : List Int)) (inner := []) (ok := fun _ => True) (okp := fun _ => True) ?hr ?hp (fun _ hk => hk) trivial (Below.refl _ _) (Nat.le_refl _) (by simp) ?_; (case hd => rfl); (case hg => rfl); (case hr => first | (go_simp; done) | (go_simp; rfl)); (case hp => exact (Reps.none _ _)); intro v162 w31 ho32 hb hg_ hnew_; clear hg_ hnew_; (first | rw [← Ny161.out] at ho32 | (simp only [Int.reduceToNat] at ho32; rw [← Ny161.out] at ho32)); have n0_ := Aside0.mk (Kd.R_elder' (by (with_reducible repeat (first | apply Kd.R_alloc | apply Kd.R_drewN | apply Kd.R_drew)); exact HO160.out) (Kd.R_base ho32) hb); have n1_ := Aside0.mk (Kd.R_lower (Kd.R_new' ho32 (Kd.R_lt (by (with_reducible repeat (first | apply Kd.R_alloc | apply Kd.R_drewN | apply Kd.R_drew)); exact HO160.out))) (below_size (by repeat (first | (with_reducible first | exact HB.out | apply below_alloc | apply pw_below_drewN | apply below_drew1) | exact HB.out)))); have n2_ := Aside0.mk (below_step (by repeat (first | (with_reducible first | exact HB.out | apply below_alloc | apply pw_below_drewN | apply below_drew1) | exact HB.out)) hb); clear HO160; clear HB; have HO160 := n0_; have HO163 := n1_; have HB := n2_; clear n0_ n1_ n2_; clear hb ho32) | ((with_reducible refine gate_callee (f := 10) rfl ?_); refine goesL_ (some 26) rfl rfl Tryd.func10 (by kernel_rfl) rfl #[.slice A0 l0.length c0] rfl (by (try simp only [List.map_toArray, List.map_cons, List.map_nil]); first | done | rfl | (simp only [List.length_drop, List.length_take]; rfl)) ?_; (with_reducible refine (utf_Enc16.calls kj3 _ _ l0 t164 _ ?side1 ?side2 A10.out).mono ?_); (case side1 => repeat (first | exact (Kd.C_below HR0.out HB.out) | (with_reducible refine Kd.C_alloc ?_ _) | (with_reducible refine Kd.C_drewN ?_ _) | (with_reducible refine Kd.C_drew ?_))); (case side2 => exact HC0.out); rintro e w33 ⟨v165, rfl, ho0, hb⟩; refine ⟨_, rfl, ?_⟩; have n0_ := Aside0.mk (Kd.R_elder' (by (with_reducible repeat (first | apply Kd.R_alloc | apply Kd.R_drewN | apply Kd.R_drew)); exact HO160.out) (Kd.R_base ho0) hb); have n1_ := Aside0.mk (Kd.R_elder' (by (with_reducible repeat (first | apply Kd.R_alloc | apply Kd.R_drewN | apply Kd.R_drew)); exact HO163.out) (Kd.R_base ho0) hb); have n2_ := Aside0.mk (Kd.R_lower (Kd.R_new' (Kd.R_new' ho0 (Kd.R_lt (by (with_reducible repeat (first | apply Kd.R_alloc | apply Kd.R_drewN | apply Kd.R_drew)); exact HO160.out))) (Kd.R_lt (by (with_reducible repeat (first | apply Kd.R_alloc | apply Kd.R_drewN | apply Kd.R_drew)); exact HO163.out))) (below_size (by repeat (first | (with_reducible first | exact HB.out | apply below_alloc | apply pw_below_drewN | apply below_drew1) | exact HB.out)))); have n3_ := Aside0.mk (below_step (by repeat (first | (with_reducible first | exact HB.out | apply below_alloc | apply pw_below_drewN | apply below_drew1) | exact HB.out)) hb); clear HO160; clear HO163; clear HB; have HO160 := n0_; have HO163 := n1_; have HO166 := n2_; have HB := n3_; clear n0_ n1_ n2_ n3_; (try clear hb); (try clear hb2); (try clear hk); (try clear hi); (try clear ho0); obtain ⟨Ao35, co35, eo35⟩ := Kd.R_slice HO166.out; subst eo35) | ((with_reducible refine gate_builtin (b := .append) (xs := #[.tmp 24, .tmp 26]) rfl ?_); (try (refine gate_guard (by rfl) ?_; dsimp only)); at_builtin; refine Kd.R_append_rows (Kd.int .i64) (w0 := w) w.heap.size rfl (.tmp 24) (.tmp 26) 22 3 (.int .i64 0) 8 rfl Tryd.underlying22 info3 rfl (by decide) (by omega) v162 y161 t164 _ _ _ (fun k_ => some k_ ≠ (v159 : Value).ownBlock ∧ some k_ ≠ (.slice Ao35 t164.length co35 : Value).ownBlock) (fun _ => False) rfl rfl ?aO ?aR (fun _ _ h => h) (fun _ h => h.elim) ?aF ?aB ?aS ?aL ?_; (case aR => repeat (first | exact (Kd.R_reads' HO166.out).2.2 | (with_reducible refine Kd.C_alloc ?_ _) | (with_reducible refine Kd.C_drewN ?_ _) | (with_reducible refine Kd.C_drew ?_))); (case aB => exact (by repeat (first | (with_reducible first | exact HB.out | apply below_alloc | apply pw_below_drewN | apply below_drew1) | exact HB.out))); (case aF => exact (fun k_ hk => ⟨Kd.fresh' (Kd.R_lt (by (with_reducible repeat (first | apply Kd.R_alloc | apply Kd.R_drewN | apply Kd.R_drew)); exact HO160.out)) k_ hk, Kd.fresh' (Kd.R_lt (by (with_reducible repeat (first | apply Kd.R_alloc | apply Kd.R_drewN | apply Kd.R_drew)); exact HO166.out)) k_ hk⟩)); (case aO => exact (by (with_reducible repeat (first | apply Kd.R_alloc | apply Kd.R_drewN | apply Kd.R_drew)); exact Kd.R_mono HO163.out (fun _ hk => ⟨hk.1.2, hk.2⟩))); (case aS => exact (below_size (by repeat (first | (with_reducible first | exact HB.out | apply below_alloc | apply pw_below_drewN | apply below_drew1) | exact HB.out)))); (case aL => have := LMc11.out; omega); intro v168 w34 ho hb hg hat; rw [← Ny167.out] at ho; have n0_ := Aside0.mk (Kd.R_after (ok := (fun k_ => some k_ ≠ (.slice Ao35 t164.length co35 : Value).ownBlock)) (by (with_reducible repeat (first | apply Kd.R_alloc | apply Kd.R_drewN | apply Kd.R_drew)); exact Kd.R_mono HO160.out (fun _ hk => ⟨hk.2, hk.1.2⟩)) hg hat); have n1_ := Aside0.mk (Kd.R_after (ok := (fun k_ => some k_ ≠ (v159 : Value).ownBlock)) (by (with_reducible repeat (first | apply Kd.R_alloc | apply Kd.R_drewN | apply Kd.R_drew)); exact Kd.R_mono HO166.out (fun _ hk => ⟨hk.1.2, hk.2⟩)) hg hat); have n2_ := Aside0.mk (hb); have n3_ := Aside0.mk (ho); clear HO160; clear HO166; clear HB; clear HO163; have HO160 := n0_; have HO166 := n1_; have HB := n2_; have HO169 := n3_; clear n0_ n1_ n2_ n3_; clear ho hb hg hat) | ((with_reducible refine gate_callee (f := 10) rfl ?_); refine goesL_ (some 30) rfl rfl Tryd.func10 (by kernel_rfl) rfl #[.slice A1 l1.length c1] rfl (by (try simp only [List.map_toArray, List.map_cons, List.map_nil]); first | done | rfl | (simp only [List.length_drop, List.length_take]; rfl)) ?_; (with_reducible refine (utf_Enc16.calls kj3 _ _ l1 t170 _ ?side1 ?side2 A12.out).mono ?_); (case side1 => repeat (first | exact (Kd.C_below HR1.out HB.out) | (with_reducible refine Kd.C_alloc ?_ _) | (with_reducible refine Kd.C_drewN ?_ _) | (with_reducible refine Kd.C_drew ?_))); (case side2 => exact HC1.out); rintro e w36 ⟨v171, rfl, ho0, hb⟩; refine ⟨_, rfl, ?_⟩; have n0_ := Aside0.mk (Kd.R_elder' (by (with_reducible repeat (first | apply Kd.R_alloc | apply Kd.R_drewN | apply Kd.R_drew)); exact HO160.out) (Kd.R_base ho0) hb); have n1_ := Aside0.mk (Kd.R_elder' (by (with_reducible repeat (first | apply Kd.R_alloc | apply Kd.R_drewN | apply Kd.R_drew)); exact HO166.out) (Kd.R_base ho0) hb); have n2_ := Aside0.mk (Kd.R_elder' (by (with_reducible repeat (first | apply Kd.R_alloc | apply Kd.R_drewN | apply Kd.R_drew)); exact HO169.out) (Kd.R_base ho0) hb); have n3_ := Aside0.mk (Kd.R_lower (Kd.R_new' (Kd.R_new' (Kd.R_new' ho0 (Kd.R_lt (by (with_reducible repeat (first | apply Kd.R_alloc | apply Kd.R_drewN | apply Kd.R_drew)); exact HO160.out))) (Kd.R_lt (by (with_reducible repeat (first | apply Kd.R_alloc | apply Kd.R_drewN | apply Kd.R_drew)); exact HO166.out))) (Kd.R_lt (by (with_reducible repeat (first | apply Kd.R_alloc | apply Kd.R_drewN | apply Kd.R_drew)); exact HO169.out))) (below_size (by repeat (first | (with_reducible first | exact HB.out | apply below_alloc | apply pw_below_drewN | apply below_drew1) | exact HB.out)))); have n4_ := Aside0.mk (below_step (by repeat (first | (with_reducible first | exact HB.out | apply below_alloc | apply pw_below_drewN | apply below_drew1) | exact HB.out)) hb); clear HO160; clear HO166; clear HO169; clear HB; have HO160 := n0_; have HO166 := n1_; have HO169 := n2_; have HO172 := n3_; have HB := n4_; clear n0_ n1_ n2_ n3_ n4_; (try clear hb); (try clear hb2); (try clear hk); (try clear hi); (try clear ho0); obtain ⟨Ao38, co38, eo38⟩ := Kd.R_slice HO172.out; subst eo38) | ((with_reducible refine gate_builtin (b := .append) (xs := #[.tmp 28, .tmp 30]) rfl ?_); (try (refine gate_guard (by rfl) ?_; dsimp only)); at_builtin; refine Kd.R_append_rows (Kd.int .i64) (w0 := w) w.heap.size rfl (.tmp 28) (.tmp 30) 22 3 (.int .i64 0) 8 rfl Tryd.underlying22 info3 rfl (by decide) (by omega) v168 y167 t170 _ _ _ (fun k_ => some k_ ≠ (v159 : Value).ownBlock ∧ some k_ ≠ (.slice Ao35 t164.length co35 : Value).ownBlock ∧ some k_ ≠ (.slice Ao38 t170.length co38 : Value).ownBlock) (fun _ => False) rfl rfl ?aO ?aR (fun _ _ h => h) (fun _ h => h.elim) ?aF ?aB ?aS ?aL ?_; (case aR => repeat (first | exact (Kd.R_reads' HO172.out).2.2 | (with_reducible refine Kd.C_alloc ?_ _) | (with_reducible refine Kd.C_drewN ?_ _) | (with_reducible refine Kd.C_drew ?_))); (case aB => exact (by repeat (first | (with_reducible first | exact HB.out | apply below_alloc | apply pw_below_drewN | apply below_drew1) | exact HB.out))); (case aF => exact (fun k_ hk => ⟨Kd.fresh' (Kd.R_lt (by (with_reducible repeat (first | apply Kd.R_alloc | apply Kd.R_drewN | apply Kd.R_drew)); exact HO160.out)) k_ hk, Kd.fresh' (Kd.R_lt (by (with_reducible repeat (first | apply Kd.R_alloc | apply Kd.R_drewN | apply Kd.R_drew)); exact HO166.out)) k_ hk, Kd.fresh' (Kd.R_lt (by (with_reducible repeat (first | apply Kd.R_alloc | apply Kd.R_drewN | apply Kd.R_drew)); exact HO172.out)) k_ hk⟩)); (case aO => exact (by (with_reducible repeat (first | apply Kd.R_alloc | apply Kd.R_drewN | apply Kd.R_drew)); exact Kd.R_mono HO169.out (fun _ hk => ⟨hk.1.1, ⟨hk.1.2, hk.2⟩⟩))); (case aS => exact (below_size (by repeat (first | (with_reducible first | exact HB.out | apply below_alloc | apply pw_below_drewN | apply below_drew1) | exact HB.out)))); (case aL => have := LMc13.out; omega); intro v174 w37 ho hb hg hat; rw [← Ny173.out] at ho; have n0_ := Aside0.mk (Kd.R_after (ok := (fun k_ => some k_ ≠ (.slice Ao35 t164.length co35 : Value).ownBlock ∧ some k_ ≠ (.slice Ao38 t170.length co38 : Value).ownBlock)) (by (with_reducible repeat (first | apply Kd.R_alloc | apply Kd.R_drewN | apply Kd.R_drew)); exact Kd.R_mono HO160.out (fun _ hk => ⟨⟨hk.1.1, hk.2⟩, hk.1.2⟩)) hg hat); have n1_ := Aside0.mk (Kd.R_after (ok := (fun k_ => some k_ ≠ (v159 : Value).ownBlock ∧ some k_ ≠ (.slice Ao38 t170.length co38 : Value).ownBlock)) (by (with_reducible repeat (first | apply Kd.R_alloc | apply Kd.R_drewN | apply Kd.R_drew)); exact Kd.R_mono HO166.out (fun _ hk => ⟨⟨hk.1.1, hk.2⟩, hk.1.2⟩)) hg hat); have n2_ := Aside0.mk (Kd.R_after (ok := (fun k_ => some k_ ≠ (v159 : Value).ownBlock ∧ some k_ ≠ (.slice Ao35 t164.length co35 : Value).ownBlock)) (by (with_reducible repeat (first | apply Kd.R_alloc | apply Kd.R_drewN | apply Kd.R_drew)); exact Kd.R_mono HO172.out (fun _ hk => ⟨⟨hk.1.1.2, hk.1.2⟩, hk.2⟩)) hg hat); have n3_ := Aside0.mk (hb); have n4_ := Aside0.mk (ho); clear HO160; clear HO166; clear HO172; clear HB; clear HO169; have HO160 := n0_; have HO166 := n1_; have HO172 := n2_; have HB := n3_; have HO175 := n4_; clear n0_ n1_ n2_ n3_ n4_; clear ho hb hg hat; obtain ⟨Ao39, co39, eo39⟩ := Kd.R_slice HO160.out; subst eo39; obtain ⟨Ao40, co40, eo40⟩ := Kd.R_slice HO175.out; subst eo40))
                          have n0_ := Aside0.mk (Kd.R_drew HO160.out)
                          have n1_ := Aside0.mk (Kd.R_drew HO166.out)
                          have n2_ := Aside0.mk (Kd.R_drew HO172.out)
                          have n3_ := Aside0.mk (Kd.R_drew HO175.out)
                          have n4_ := Aside0.mk (below_drew1 HB.out)
                          clear HO160
                          clear HO166
                          clear HO172
                          clear HO175
                          clear HB
                          have HO160 := n0_
                          have HO166 := n1_
                          have HO172 := n2_
                          have HO175 := n3_
                          have HB := n4_
                          clear n0_ n1_ n2_ n3_ n4_
                          refine start_ (n := 31) (S := fun w' => True) (ds := []) #[false, false, false, false, false, false, false, false, false, false, false, false, false, false, false, false, false, false, false, false, false, false, false, false, false, false, false, false, false, false, false] (by kernel_rfl) rfl rfl trivial (fun hHeld => ?_); refine with_tabW hornbooklaw02_UtfRows.tab8 hornbooklaw02_UtfRows.bits8 (fun HT_ HW_ => ?_)
                          generalize w37.drew = w41 at HO160 HO166 HO172 HO175 HB hHeld ⊢
                          refine pure_ (i := 0) (N := some 32) (v := ?_) (a' := ?_) #[true, false, false, false, false, false, false, false, false, false, false, false, false, false, false, false, false, false, false, false, false, false, false, false, false, false, false, false, false, false, false] rfl rfl (any_of HT_.out (by kernel_rfl)) (fun _ _ _ h => h) (Or.inl ⟨by rfl, ?_⟩) ?_ ?_
                          rotate_left
                          · intro w'
                            go_simp
                            with_reducible rfl
                          rotate_left
                          · simp only [Act.put, List.setIfInBounds_toArray, List.set_cons_zero, List.set_cons_succ, i64_w, i32_w]
                            rfl
                          refine pure_ (i := 1) (N := some 33) (v := ?_) (a' := ?_) #[true, true, false, false, false, false, false, false, false, false, false, false, false, false, false, false, false, false, false, false, false, false, false, false, false, false, false, false, false, false, false] rfl rfl (any_of HT_.out (by kernel_rfl)) (fun _ _ _ h => h) (Or.inl ⟨by rfl, ?_⟩) ?_ ?_
                          rotate_left
                          · intro w'
                            go_simp
                            with_reducible rfl
                          rotate_left
                          · simp only [Act.put, List.setIfInBounds_toArray, List.set_cons_zero, List.set_cons_succ, i64_w, i32_w]
                            rfl
                          refine pure_ (i := 2) (N := some 34) (v := ?_) (a' := ?_) #[true, true, true, false, false, false, false, false, false, false, false, false, false, false, false, false, false, false, false, false, false, false, false, false, false, false, false, false, false, false, false] rfl rfl (any_of HT_.out (by kernel_rfl)) (fun _ _ _ h => h) (Or.inl ⟨by rfl, ?_⟩) ?_ ?_
                          rotate_left
                          · intro w'
                            go_simp
                            with_reducible rfl
                          rotate_left
                          · simp only [Act.put, List.setIfInBounds_toArray, List.set_cons_zero, List.set_cons_succ, i64_w, i32_w]
                            rfl
                          refine pure_ (i := 4) (N := some 36) (v := ?_) (a' := ?_) #[true, true, true, false, true, false, false, false, false, false, false, false, false, false, false, false, false, false, false, false, false, false, false, false, false, false, false, false, false, false, false] rfl rfl (any_of HT_.out (by kernel_rfl)) (fun _ _ _ h => h) (Or.inl ⟨by rfl, ?_⟩) ?_ ?_
                          rotate_left
                          · intro w'
                            go_simp
                            with_reducible rfl
                          rotate_left
                          · simp only [Act.put, List.setIfInBounds_toArray, List.set_cons_zero, List.set_cons_succ, i64_w, i32_w]
                            rfl
                          refine one_ (i := 3) (N := some 35) #[true, true, true, true, true, false, false, false, false, false, false, false, false, false, false, false, false, false, false, false, false, false, false, false, false, false, false, false, false, false, false] rfl rfl (one_of HT_.out (by kernel_rfl)) (by decide) (fun K hK => ?_)
                          refine goes_ Tryd.func10 (by kernel_rfl) rfl #[.slice Ao39 y158.length co39] (by rfl) rfl rfl (by (try simp only [List.map_toArray, List.map_cons, List.map_nil]); first | done | rfl | (simp only [List.length_drop, List.length_take]; rfl)) ?_
                          with_reducible refine (utf_Enc16.calls kj3 _ _ y158 t176 _ ?side1 ?side2 A15.out).mono ?_
                          (case side1 => repeat (first | exact (Kd.R_reads' HO160.out).2.2 | (with_reducible refine Kd.C_alloc ?_ _) | (with_reducible refine Kd.C_drewN ?_ _) | (with_reducible refine Kd.C_drew ?_)))
                          (case side2 => exact (Kd.R_reads' HO160.out).2.1)
                          rintro e w42 ⟨v177, rfl, ho0, hb⟩
                          refine ⟨_, rfl, ?_⟩
                          have n0_ := Aside0.mk (Kd.R_elder' (by (with_reducible repeat (first | apply Kd.R_alloc | apply Kd.R_drewN | apply Kd.R_drew)); exact HO160.out) (Kd.R_base ho0) hb)
                          have n1_ := Aside0.mk (Kd.R_elder' (by (with_reducible repeat (first | apply Kd.R_alloc | apply Kd.R_drewN | apply Kd.R_drew)); exact HO166.out) (Kd.R_base ho0) hb)
                          have n2_ := Aside0.mk (Kd.R_elder' (by (with_reducible repeat (first | apply Kd.R_alloc | apply Kd.R_drewN | apply Kd.R_drew)); exact HO172.out) (Kd.R_base ho0) hb)
                          have n3_ := Aside0.mk (Kd.R_elder' (by (with_reducible repeat (first | apply Kd.R_alloc | apply Kd.R_drewN | apply Kd.R_drew)); exact HO175.out) (Kd.R_base ho0) hb)
                          have n4_ := Aside0.mk (Kd.R_lower (Kd.R_new' (Kd.R_new' (Kd.R_new' (Kd.R_new' ho0 (Kd.R_lt (by (with_reducible repeat (first | apply Kd.R_alloc | apply Kd.R_drewN | apply Kd.R_drew)); exact HO160.out))) (Kd.R_lt (by (with_reducible repeat (first | apply Kd.R_alloc | apply Kd.R_drewN | apply Kd.R_drew)); exact HO166.out))) (Kd.R_lt (by (with_reducible repeat (first | apply Kd.R_alloc | apply Kd.R_drewN | apply Kd.R_drew)); exact HO172.out))) (Kd.R_lt (by (with_reducible repeat (first | apply Kd.R_alloc | apply Kd.R_drewN | apply Kd.R_drew)); exact HO175.out))) (below_size (by repeat (first | (with_reducible first | exact HB.out | apply below_alloc | apply pw_below_drewN | apply below_drew1) | exact HB.out))))
                          have n5_ := Aside0.mk (below_step (by repeat (first | (with_reducible first | exact HB.out | apply below_alloc | apply pw_below_drewN | apply below_drew1) | exact HB.out)) hb)
                          clear HO160
                          clear HO166
                          clear HO172
                          clear HO175
                          clear HB
                          have HO160 := n0_
                          have HO166 := n1_
                          have HO172 := n2_
                          have HO175 := n3_
                          have HO178 := n4_
                          have HB := n5_
                          clear n0_ n1_ n2_ n3_ n4_ n5_
                          (try clear hb)
                          (try clear hb2)
                          (try clear hk)
                          (try clear hi)
                          (try clear ho0)
                          obtain ⟨Ao43, co43, eo43⟩ := Kd.R_slice HO178.out
                          (first | subst eo43 | (injection eo43 with f1_ f2_ f3_; have f4_ := f1_.symm; have f5_ := f3_.symm; clear f1_ f2_ f3_; subst f4_; subst f5_))
                          refine hK.out _ _ trivial (fun hHeld => ?_)
                          clear hK K
                          refine norm_ (a' := ?_) ?_ ?_
                          rotate_left
                          · show Act.put _ (some 35) _ = _
                            simp only [Act.put, List.setIfInBounds_toArray, List.set_cons_zero, List.set_cons_succ, i64_w, i32_w]
                            rfl
                          refine one_ (i := 5) (N := some 37) #[true, true, true, true, true, true, false, false, false, false, false, false, false, false, false, false, false, false, false, false, false, false, false, false, false, false, false, false, false, false, false] rfl rfl (one_of HT_.out (by kernel_rfl)) (by decide) (fun K hK => ?_)
                          refine goes_ Tryd.func11 (by kernel_rfl) rfl #[.slice Ao43 t176.length co43, .slice Ao40 y173.length co40] (by rfl) rfl rfl (by (try simp only [List.map_toArray, List.map_cons, List.map_nil]); first | done | rfl | (simp only [List.length_drop, List.length_take]; rfl)) ?_
                          with_reducible refine (hornbookref02_Same.calls kj3 _ _ t176 _ _ y173 true _ ?side1 ?side2 ?side3 ?side4 A16.out).mono ?_
                          (case side1 => repeat (first | exact (Kd.R_reads' HO178.out).2.2 | (with_reducible refine Kd.C_alloc ?_ _) | (with_reducible refine Kd.C_drewN ?_ _) | (with_reducible refine Kd.C_drew ?_)))
                          (case side2 => exact (Kd.R_reads' HO178.out).2.1)
                          (case side3 => repeat (first | exact (Kd.R_reads' HO175.out).2.2 | (with_reducible refine Kd.C_alloc ?_ _) | (with_reducible refine Kd.C_drewN ?_ _) | (with_reducible refine Kd.C_drew ?_)))
                          (case side4 => exact (Kd.R_reads' HO175.out).2.1)
                          rintro e w' ⟨rfl, ⟨nd, rfl⟩⟩
                          refine ⟨_, rfl, ?_⟩
                          refine hK.out _ _ trivial (fun hHeld => ?_)
                          clear hK K
                          refine norm_ (a' := ?_) ?_ ?_
                          rotate_left
                          · show Act.put _ (some 37) _ = _
                            simp only [Act.put, List.setIfInBounds_toArray, List.set_cons_zero, List.set_cons_succ, i64_w, i32_w]
                            rfl
                          refine pure_ (i := 6) (N := some 38) (v := ?_) (a' := ?_) #[true, true, true, true, true, true, true, false, false, false, false, false, false, false, false, false, false, false, false, false, false, false, false, false, false, false, false, false, false, false, false] rfl rfl (any_of HT_.out (by kernel_rfl)) (fun _ _ _ h => h) (Or.inl ⟨by rfl, ?_⟩) ?_ ?_
                          rotate_left
                          · intro w'
                            go_simp
                            with_reducible rfl
                          rotate_left
                          · simp only [Act.put, List.setIfInBounds_toArray, List.set_cons_zero, List.set_cons_succ, i64_w, i32_w]
                            rfl
                          refine pure_ (i := 7) (N := some 39) (v := ?_) (a' := ?_) #[true, true, true, true, true, true, true, true, false, false, false, false, false, false, false, false, false, false, false, false, false, false, false, false, false, false, false, false, false, false, false] rfl rfl (any_of HT_.out (by kernel_rfl)) (fun _ _ _ h => h) (Or.inl ⟨by rfl, ?_⟩) ?_ ?_
                          rotate_left
                          · intro w'
                            go_simp
                            with_reducible rfl
                          rotate_left
                          · simp only [Act.put, List.setIfInBounds_toArray, List.set_cons_zero, List.set_cons_succ, i64_w, i32_w]
                            rfl
                          refine pure_ (i := 8) (N := some 40) (v := ?_) (a' := ?_) #[true, true, true, true, true, true, true, true, true, false, false, false, false, false, false, false, false, false, false, false, false, false, false, false, false, false, false, false, false, false, false] rfl rfl (any_of HT_.out (by kernel_rfl)) (fun _ _ _ h => h) (Or.inl ⟨by rfl, ?_⟩) ?_ ?_
                          rotate_left
                          · intro w'
                            go_simp
                            with_reducible rfl
                          rotate_left
                          · simp only [Act.put, List.setIfInBounds_toArray, List.set_cons_zero, List.set_cons_succ, i64_w, i32_w]
                            rfl
                          refine pure_ (i := 10) (N := some 42) (v := ?_) (a' := ?_) #[true, true, true, true, true, true, true, true, true, false, true, false, false, false, false, false, false, false, false, false, false, false, false, false, false, false, false, false, false, false, false] rfl rfl (any_of HT_.out (by kernel_rfl)) (fun _ _ _ h => h) (Or.inl ⟨by rfl, ?_⟩) ?_ ?_
                          rotate_left
                          · intro w'
                            go_simp
                            with_reducible rfl
                          rotate_left
                          · simp only [Act.put, List.setIfInBounds_toArray, List.set_cons_zero, List.set_cons_succ, i64_w, i32_w]
                            rfl
                          refine pure_ (i := 12) (N := some 44) (v := ?_) (a' := ?_) #[true, true, true, true, true, true, true, true, true, false, true, false, true, false, false, false, false, false, false, false, false, false, false, false, false, false, false, false, false, false, false] rfl rfl (any_of HT_.out (by kernel_rfl)) (fun _ _ _ h => h) (Or.inl ⟨by rfl, ?_⟩) ?_ ?_
                          rotate_left
                          · intro w'
                            go_simp
                            with_reducible rfl
                          rotate_left
                          · simp only [Act.put, List.setIfInBounds_toArray, List.set_cons_zero, List.set_cons_succ, i64_w, i32_w]
                            rfl
                          refine one_ (i := 9) (N := some 41) #[true, true, true, true, true, true, true, true, true, true, true, false, true, false, false, false, false, false, false, false, false, false, false, false, false, false, false, false, false, false, false] rfl rfl (one_of HT_.out (by kernel_rfl)) (by decide) (fun K hK => ?_)
                          refine goes_ Tryd.func12 (by kernel_rfl) rfl #[.slice Ao39 y158.length co39] (by rfl) rfl rfl (by (try simp only [List.map_toArray, List.map_cons, List.map_nil]); first | done | rfl | (simp only [List.length_drop, List.length_take]; rfl)) ?_
                          with_reducible refine (utf_Text.calls _ _ y158 t180 _ ?side1 ?side2 A18.out).mono ?_
                          (case side1 => repeat (first | exact (Kd.R_reads' HO160.out).2.2 | (with_reducible refine Kd.C_alloc ?_ _) | (with_reducible refine Kd.C_drewN ?_ _) | (with_reducible refine Kd.C_drew ?_)))
                          (case side2 => exact (Kd.R_reads' HO160.out).2.1)
                          rintro e w44 ⟨rfl, hb⟩
                          refine ⟨_, rfl, ?_⟩
                          have n0_ := Aside0.mk (Kd.R_below (by (with_reducible repeat (first | apply Kd.R_alloc | apply Kd.R_drewN | apply Kd.R_drew)); exact HO160.out) hb)
                          have n1_ := Aside0.mk (Kd.R_below (by (with_reducible repeat (first | apply Kd.R_alloc | apply Kd.R_drewN | apply Kd.R_drew)); exact HO166.out) hb)
                          have n2_ := Aside0.mk (Kd.R_below (by (with_reducible repeat (first | apply Kd.R_alloc | apply Kd.R_drewN | apply Kd.R_drew)); exact HO172.out) hb)
                          have n3_ := Aside0.mk (Kd.R_below (by (with_reducible repeat (first | apply Kd.R_alloc | apply Kd.R_drewN | apply Kd.R_drew)); exact HO175.out) hb)
                          have n4_ := Aside0.mk (Kd.R_below (by (with_reducible repeat (first | apply Kd.R_alloc | apply Kd.R_drewN | apply Kd.R_drew)); exact HO178.out) hb)
                          have n5_ := Aside0.mk (below_step (by repeat (first | (with_reducible first | exact HB.out | apply below_alloc | apply pw_below_drewN | apply below_drew1) | exact HB.out)) hb)
                          clear HO160
                          clear HO166
                          clear HO172
                          clear HO175
                          clear HO178
                          clear HB
                          have HO160 := n0_
                          have HO166 := n1_
                          have HO172 := n2_
                          have HO175 := n3_
                          have HO178 := n4_
                          have HB := n5_
                          clear n0_ n1_ n2_ n3_ n4_ n5_
                          (try clear hb)
                          (try clear hb2)
                          (try clear hk)
                          (try clear hi)
                          refine hK.out _ _ trivial (fun hHeld => ?_)
                          clear hK K
                          refine norm_ (a' := ?_) ?_ ?_
                          rotate_left
                          · show Act.put _ (some 41) _ = _
                            simp only [Act.put, List.setIfInBounds_toArray, List.set_cons_zero, List.set_cons_succ, i64_w, i32_w]
                            rfl
                          refine one_ (i := 11) (N := some 43) #[true, true, true, true, true, true, true, true, true, true, true, true, true, false, false, false, false, false, false, false, false, false, false, false, false, false, false, false, false, false, false] rfl rfl (one_of HT_.out (by kernel_rfl)) (by decide) (fun K hK => ?_)
                          refine goes_ Tryd.func12 (by kernel_rfl) rfl #[.slice A0 l0.length c0] (by rfl) rfl rfl (by (try simp only [List.map_toArray, List.map_cons, List.map_nil]); first | done | rfl | (simp only [List.length_drop, List.length_take]; rfl)) ?_
                          with_reducible refine (utf_Text.calls _ _ l0 t181 _ ?side1 ?side2 A19.out).mono ?_
                          (case side1 => repeat (first | exact (Kd.C_below HR0.out HB.out) | (with_reducible refine Kd.C_alloc ?_ _) | (with_reducible refine Kd.C_drewN ?_ _) | (with_reducible refine Kd.C_drew ?_)))
                          (case side2 => exact HC0.out)
                          rintro e w45 ⟨rfl, hb⟩
                          refine ⟨_, rfl, ?_⟩
                          have n0_ := Aside0.mk (Kd.R_below (by (with_reducible repeat (first | apply Kd.R_alloc | apply Kd.R_drewN | apply Kd.R_drew)); exact HO160.out) hb)
                          have n1_ := Aside0.mk (Kd.R_below (by (with_reducible repeat (first | apply Kd.R_alloc | apply Kd.R_drewN | apply Kd.R_drew)); exact HO166.out) hb)
                          have n2_ := Aside0.mk (Kd.R_below (by (with_reducible repeat (first | apply Kd.R_alloc | apply Kd.R_drewN | apply Kd.R_drew)); exact HO172.out) hb)
                          have n3_ := Aside0.mk (Kd.R_below (by (with_reducible repeat (first | apply Kd.R_alloc | apply Kd.R_drewN | apply Kd.R_drew)); exact HO175.out) hb)
                          have n4_ := Aside0.mk (Kd.R_below (by (with_reducible repeat (first | apply Kd.R_alloc | apply Kd.R_drewN | apply Kd.R_drew)); exact HO178.out) hb)
                          have n5_ := Aside0.mk (below_step (by repeat (first | (with_reducible first | exact HB.out | apply below_alloc | apply pw_below_drewN | apply below_drew1) | exact HB.out)) hb)
                          clear HO160
                          clear HO166
                          clear HO172
                          clear HO175
                          clear HO178
                          clear HB
                          have HO160 := n0_
                          have HO166 := n1_
                          have HO172 := n2_
                          have HO175 := n3_
                          have HO178 := n4_
                          have HB := n5_
                          clear n0_ n1_ n2_ n3_ n4_ n5_
                          (try clear hb)
                          (try clear hb2)
                          (try clear hk)
                          (try clear hi)
                          refine hK.out _ _ trivial (fun hHeld => ?_)
                          clear hK K
                          refine norm_ (a' := ?_) ?_ ?_
                          rotate_left
                          · show Act.put _ (some 43) _ = _
                            simp only [Act.put, List.setIfInBounds_toArray, List.set_cons_zero, List.set_cons_succ, i64_w, i32_w]
                            rfl
                          refine one_ (i := 13) (N := some 45) #[true, true, true, true, true, true, true, true, true, true, true, true, true, true, false, false, false, false, false, false, false, false, false, false, false, false, false, false, false, false, false] rfl rfl (one_of HT_.out (by kernel_rfl)) (by decide) (fun K hK => ?_)
                          refine goes_ Tryd.func12 (by kernel_rfl) rfl #[.slice A1 l1.length c1] (by rfl) rfl rfl (by (try simp only [List.map_toArray, List.map_cons, List.map_nil]); first | done | rfl | (simp only [List.length_drop, List.length_take]; rfl)) ?_
                          with_reducible refine (utf_Text.calls _ _ l1 t182 _ ?side1 ?side2 A20.out).mono ?_
                          (case side1 => repeat (first | exact (Kd.C_below HR1.out HB.out) | (with_reducible refine Kd.C_alloc ?_ _) | (with_reducible refine Kd.C_drewN ?_ _) | (with_reducible refine Kd.C_drew ?_)))
                          (case side2 => exact HC1.out)
                          rintro e w46 ⟨rfl, hb⟩
                          refine ⟨_, rfl, ?_⟩
                          have n0_ := Aside0.mk (Kd.R_below (by (with_reducible repeat (first | apply Kd.R_alloc | apply Kd.R_drewN | apply Kd.R_drew)); exact HO160.out) hb)
                          have n1_ := Aside0.mk (Kd.R_below (by (with_reducible repeat (first | apply Kd.R_alloc | apply Kd.R_drewN | apply Kd.R_drew)); exact HO166.out) hb)
                          have n2_ := Aside0.mk (Kd.R_below (by (with_reducible repeat (first | apply Kd.R_alloc | apply Kd.R_drewN | apply Kd.R_drew)); exact HO172.out) hb)
                          have n3_ := Aside0.mk (Kd.R_below (by (with_reducible repeat (first | apply Kd.R_alloc | apply Kd.R_drewN | apply Kd.R_drew)); exact HO175.out) hb)
                          have n4_ := Aside0.mk (Kd.R_below (by (with_reducible repeat (first | apply Kd.R_alloc | apply Kd.R_drewN | apply Kd.R_drew)); exact HO178.out) hb)
                          have n5_ := Aside0.mk (below_step (by repeat (first | (with_reducible first | exact HB.out | apply below_alloc | apply pw_below_drewN | apply below_drew1) | exact HB.out)) hb)
                          clear HO160
                          clear HO166
                          clear HO172
                          clear HO175
                          clear HO178
                          clear HB
                          have HO160 := n0_
                          have HO166 := n1_
                          have HO172 := n2_
                          have HO175 := n3_
                          have HO178 := n4_
                          have HB := n5_
                          clear n0_ n1_ n2_ n3_ n4_ n5_
                          (try clear hb)
                          (try clear hb2)
                          (try clear hk)
                          (try clear hi)
                          refine hK.out _ _ trivial (fun hHeld => ?_)
                          clear hK K
                          refine norm_ (a' := ?_) ?_ ?_
                          rotate_left
                          · show Act.put _ (some 45) _ = _
                            simp only [Act.put, List.setIfInBounds_toArray, List.set_cons_zero, List.set_cons_succ, i64_w, i32_w]
                            rfl
                          refine pure_ (i := 14) (N := some 46) (v := ?_) (a' := ?_) #[true, true, true, true, true, true, true, true, true, true, true, true, true, true, true, false, false, false, false, false, false, false, false, false, false, false, false, false, false, false, false] rfl rfl (any_of HT_.out (by kernel_rfl)) (fun _ _ _ h => h) (Or.inl ⟨by rfl, ?_⟩) ?_ ?_
                          rotate_left
                          · intro w'
                            go_simp
                            with_reducible rfl
                          rotate_left
                          · simp only [Act.put, List.setIfInBounds_toArray, List.set_cons_zero, List.set_cons_succ, i64_w, i32_w]
                            rfl
                          refine pure_ (i := 15) (N := some 47) (v := ?_) (a' := ?_) #[true, true, true, true, true, true, true, true, true, true, true, true, true, true, true, true, false, false, false, false, false, false, false, false, false, false, false, false, false, false, false] rfl rfl (any_of HT_.out (by kernel_rfl)) (fun _ _ _ h => h) (Or.inl ⟨by rfl, ?_⟩) ?_ ?_
                          rotate_left
                          · intro w'
                            go_simp
                            with_reducible rfl
                          rotate_left
                          · simp only [Act.put, List.setIfInBounds_toArray, List.set_cons_zero, List.set_cons_succ, i64_w, i32_w]
                            rfl
                          refine pure_ (i := 16) (N := some 48) (v := ?_) (a' := ?_) #[true, true, true, true, true, true, true, true, true, true, true, true, true, true, true, true, true, false, false, false, false, false, false, false, false, false, false, false, false, false, false] rfl rfl (any_of HT_.out (by kernel_rfl)) (fun _ _ _ h => h) (Or.inl ⟨by rfl, ?_⟩) ?_ ?_
                          rotate_left
                          · intro w'
                            go_simp
                            with_reducible rfl
                          rotate_left
                          · simp only [Act.put, List.setIfInBounds_toArray, List.set_cons_zero, List.set_cons_succ, i64_w, i32_w]
                            rfl
                          refine pure_ (i := 17) (N := some 49) (v := ?_) (a' := ?_) #[true, true, true, true, true, true, true, true, true, true, true, true, true, true, true, true, true, true, false, false, false, false, false, false, false, false, false, false, false, false, false] rfl rfl (any_of HT_.out (by kernel_rfl)) (fun _ _ _ h => h) (Or.inl ⟨by rfl, ?_⟩) ?_ ?_
                          rotate_left
                          · intro w'
                            go_simp
                            with_reducible rfl
                          rotate_left
                          · simp only [Act.put, List.setIfInBounds_toArray, List.set_cons_zero, List.set_cons_succ, i64_w, i32_w]
                            rfl
                          refine pure_ (i := 18) (N := some 50) (v := ?_) (a' := ?_) #[true, true, true, true, true, true, true, true, true, true, true, true, true, true, true, true, true, true, true, false, false, false, false, false, false, false, false, false, false, false, false] rfl rfl (any_of HT_.out (by kernel_rfl)) (fun _ _ _ h => h) (Or.inl ⟨by rfl, ?_⟩) ?_ ?_
                          rotate_left
                          · intro w'
                            go_simp
                            with_reducible rfl
                          rotate_left
                          · simp only [Act.put, List.setIfInBounds_toArray, List.set_cons_zero, List.set_cons_succ, i64_w, i32_w]
                            rfl
                          refine pure_ (i := 21) (N := some 53) (v := ?_) (a' := ?_) #[true, true, true, true, true, true, true, true, true, true, true, true, true, true, true, true, true, true, true, false, false, true, false, false, false, false, false, false, false, false, false] rfl rfl (any_of HT_.out (by kernel_rfl)) (fun _ _ _ h => h) (Or.inl ⟨by rfl, ?_⟩) ?_ ?_
                          rotate_left
                          · intro w'
                            go_simp
                            with_reducible rfl
                          rotate_left
                          · simp only [Act.put, List.setIfInBounds_toArray, List.set_cons_zero, List.set_cons_succ, i64_w, i32_w]
                            rfl
                          refine pure_ (i := 24) (N := some 56) (v := ?_) (a' := ?_) #[true, true, true, true, true, true, true, true, true, true, true, true, true, true, true, true, true, true, true, false, false, true, false, false, true, false, false, false, false, false, false] rfl rfl (any_of HT_.out (by kernel_rfl)) (fun _ _ _ h => h) (Or.inl ⟨by rfl, ?_⟩) ?_ ?_
                          rotate_left
                          · intro w'
                            go_simp
                            with_reducible rfl
                          rotate_left
                          · simp only [Act.put, List.setIfInBounds_toArray, List.set_cons_zero, List.set_cons_succ, i64_w, i32_w]
                            rfl
                          refine one_ (i := 19) (N := some 51) #[true, true, true, true, true, true, true, true, true, true, true, true, true, true, true, true, true, true, true, true, false, true, false, false, true, false, false, false, false, false, false] rfl rfl (one_of HT_.out (by kernel_rfl)) (by decide) (fun K hK => ?_)
                          refine goes_ Tryd.func13 (by kernel_rfl) rfl #[.slice Ao39 y158.length co39] (by rfl) rfl rfl (by (try simp only [List.map_toArray, List.map_cons, List.map_nil]); first | done | rfl | (simp only [List.length_drop, List.length_take]; rfl)) ?_
                          with_reducible refine (utf_Bytes.calls kj3 _ _ y158 t183 _ ?side1 ?side2 A23.out).mono ?_
                          (case side1 => repeat (first | exact (Kd.R_reads' HO160.out).2.2 | (with_reducible refine Kd.C_alloc ?_ _) | (with_reducible refine Kd.C_drewN ?_ _) | (with_reducible refine Kd.C_drew ?_)))
                          (case side2 => exact (Kd.R_reads' HO160.out).2.1)
                          rintro e w47 ⟨v184, rfl, ho0, hb⟩
                          refine ⟨_, rfl, ?_⟩
                          have n0_ := Aside0.mk (Kd.R_below (by (with_reducible repeat (first | apply Kd.R_alloc | apply Kd.R_drewN | apply Kd.R_drew)); exact HO160.out) hb)
                          have n1_ := Aside0.mk (Kd.R_below (by (with_reducible repeat (first | apply Kd.R_alloc | apply Kd.R_drewN | apply Kd.R_drew)); exact HO166.out) hb)
                          have n2_ := Aside0.mk (Kd.R_below (by (with_reducible repeat (first | apply Kd.R_alloc | apply Kd.R_drewN | apply Kd.R_drew)); exact HO172.out) hb)
                          have n3_ := Aside0.mk (Kd.R_below (by (with_reducible repeat (first | apply Kd.R_alloc | apply Kd.R_drewN | apply Kd.R_drew)); exact HO175.out) hb)
                          have n4_ := Aside0.mk (Kd.R_below (by (with_reducible repeat (first | apply Kd.R_alloc | apply Kd.R_drewN | apply Kd.R_drew)); exact HO178.out) hb)
                          have n5_ := Aside0.mk (Kd.R_lower ho0 (below_size (by repeat (first | (with_reducible first | exact HB.out | apply below_alloc | apply pw_below_drewN | apply below_drew1) | exact HB.out))))
                          have n6_ := Aside0.mk (below_step (by repeat (first | (with_reducible first | exact HB.out | apply below_alloc | apply pw_below_drewN | apply below_drew1) | exact HB.out)) hb)
                          clear HO160
                          clear HO166
                          clear HO172
                          clear HO175
                          clear HO178
                          clear HB
                          have HO160 := n0_
                          have HO166 := n1_
                          have HO172 := n2_
                          have HO175 := n3_
                          have HO178 := n4_
                          have HO185 := n5_
                          have HB := n6_
                          clear n0_ n1_ n2_ n3_ n4_ n5_ n6_
                          (try clear hb)
                          (try clear hb2)
                          (try clear hk)
                          (try clear hi)
                          (try clear ho0)
                          refine hK.out _ _ trivial (fun hHeld => ?_)
                          clear hK K
                          refine norm_ (a' := ?_) ?_ ?_
                          rotate_left
                          · show Act.put _ (some 51) _ = _
                            simp only [Act.put, List.setIfInBounds_toArray, List.set_cons_zero, List.set_cons_succ, i64_w, i32_w]
                            rfl
                          refine join_ (σ := Value × Value) 3 #[true, true, true, true, true, true, true, true, true, true, true, true, true, true, true, true, true, true, true, true, true, true, true, true, true, true, true, true, false, false, false] (fun s_ => [(52, .string (strOfNums t183)), (54, s_.1), (55, .string (strOfNums t186)), (57, s_.2), (58, .string (strOfNums t189)), (59, .string ((strOfNums t186) ++ (strOfNums t189)))]) (fun s_ w' => (Kd.R (Kd.int .i64) 3 w' w.heap.size (fun k_ => some k_ ≠ (.slice Ao35 t164.length co35 : Value).ownBlock ∧ some k_ ≠ (.slice Ao38 t170.length co38 : Value).ownBlock ∧ some k_ ≠ (.slice Ao40 y173.length co40 : Value).ownBlock ∧ some k_ ≠ (.slice Ao43 t176.length co43 : Value).ownBlock) (.slice Ao39 y158.length co39) y158) ∧ (Kd.R (Kd.int .i64) 3 w' w.heap.size (fun k_ => some k_ ≠ (.slice Ao39 y158.length co39 : Value).ownBlock ∧ some k_ ≠ (.slice Ao38 t170.length co38 : Value).ownBlock ∧ some k_ ≠ (.slice Ao40 y173.length co40 : Value).ownBlock ∧ some k_ ≠ (.slice Ao43 t176.length co43 : Value).ownBlock) (.slice Ao35 t164.length co35) t164) ∧ (Kd.R (Kd.int .i64) 3 w' w.heap.size (fun k_ => some k_ ≠ (.slice Ao39 y158.length co39 : Value).ownBlock ∧ some k_ ≠ (.slice Ao35 t164.length co35 : Value).ownBlock ∧ some k_ ≠ (.slice Ao40 y173.length co40 : Value).ownBlock ∧ some k_ ≠ (.slice Ao43 t176.length co43 : Value).ownBlock) (.slice Ao38 t170.length co38) t170) ∧ (Kd.R (Kd.int .i64) 3 w' w.heap.size (fun k_ => some k_ ≠ (.slice Ao39 y158.length co39 : Value).ownBlock ∧ some k_ ≠ (.slice Ao35 t164.length co35 : Value).ownBlock ∧ some k_ ≠ (.slice Ao38 t170.length co38 : Value).ownBlock ∧ some k_ ≠ (.slice Ao43 t176.length co43 : Value).ownBlock) (.slice Ao40 y173.length co40) y173) ∧ (Kd.R (Kd.int .i64) 3 w' w.heap.size (fun k_ => some k_ ≠ (.slice Ao39 y158.length co39 : Value).ownBlock ∧ some k_ ≠ (.slice Ao35 t164.length co35 : Value).ownBlock ∧ some k_ ≠ (.slice Ao38 t170.length co38 : Value).ownBlock ∧ some k_ ≠ (.slice Ao40 y173.length co40 : Value).ownBlock) (.slice Ao43 t176.length co43) t176) ∧ (Kd.R (Kd.int .u8) 5 w' w.heap.size (fun k_ => some k_ ≠ (s_.1 : Value).ownBlock ∧ some k_ ≠ (s_.2 : Value).ownBlock) v184 t183) ∧ (Kd.R (Kd.int .u8) 5 w' w.heap.size (fun k_ => some k_ ≠ (v184 : Value).ownBlock ∧ some k_ ≠ (s_.2 : Value).ownBlock) s_.1 t186) ∧ (Kd.R (Kd.int .u8) 5 w' w.heap.size (fun k_ => some k_ ≠ (v184 : Value).ownBlock ∧ some k_ ≠ (s_.1 : Value).ownBlock) s_.2 t189) ∧ (Below w.heap.size w w')) ?_ ?_
                          rotate_left
                          · intro hJ20_22_23_25_26
                            refine join_ (σ := Value × Value) 5 #[true, true, true, true, true, true, true, true, true, true, true, true, true, true, true, true, true, true, true, true, true, true, true, true, true, true, false, false, false, false, false] (fun s_ => [(52, .string (strOfNums t183)), (54, s_.1), (55, .string (strOfNums t186)), (57, s_.2)]) (fun s_ w' => (Kd.R (Kd.int .i64) 3 w' w.heap.size (fun k_ => some k_ ≠ (.slice Ao35 t164.length co35 : Value).ownBlock ∧ some k_ ≠ (.slice Ao38 t170.length co38 : Value).ownBlock ∧ some k_ ≠ (.slice Ao40 y173.length co40 : Value).ownBlock ∧ some k_ ≠ (.slice Ao43 t176.length co43 : Value).ownBlock) (.slice Ao39 y158.length co39) y158) ∧ (Kd.R (Kd.int .i64) 3 w' w.heap.size (fun k_ => some k_ ≠ (.slice Ao39 y158.length co39 : Value).ownBlock ∧ some k_ ≠ (.slice Ao38 t170.length co38 : Value).ownBlock ∧ some k_ ≠ (.slice Ao40 y173.length co40 : Value).ownBlock ∧ some k_ ≠ (.slice Ao43 t176.length co43 : Value).ownBlock) (.slice Ao35 t164.length co35) t164) ∧ (Kd.R (Kd.int .i64) 3 w' w.heap.size (fun k_ => some k_ ≠ (.slice Ao39 y158.length co39 : Value).ownBlock ∧ some k_ ≠ (.slice Ao35 t164.length co35 : Value).ownBlock ∧ some k_ ≠ (.slice Ao40 y173.length co40 : Value).ownBlock ∧ some k_ ≠ (.slice Ao43 t176.length co43 : Value).ownBlock) (.slice Ao38 t170.length co38) t170) ∧ (Kd.R (Kd.int .i64) 3 w' w.heap.size (fun k_ => some k_ ≠ (.slice Ao39 y158.length co39 : Value).ownBlock ∧ some k_ ≠ (.slice Ao35 t164.length co35 : Value).ownBlock ∧ some k_ ≠ (.slice Ao38 t170.length co38 : Value).ownBlock ∧ some k_ ≠ (.slice Ao43 t176.length co43 : Value).ownBlock) (.slice Ao40 y173.length co40) y173) ∧ (Kd.R (Kd.int .i64) 3 w' w.heap.size (fun k_ => some k_ ≠ (.slice Ao39 y158.length co39 : Value).ownBlock ∧ some k_ ≠ (.slice Ao35 t164.length co35 : Value).ownBlock ∧ some k_ ≠ (.slice Ao38 t170.length co38 : Value).ownBlock ∧ some k_ ≠ (.slice Ao40 y173.length co40 : Value).ownBlock) (.slice Ao43 t176.length co43) t176) ∧ (Kd.R (Kd.int .u8) 5 w' w.heap.size (fun k_ => some k_ ≠ (s_.1 : Value).ownBlock ∧ some k_ ≠ (s_.2 : Value).ownBlock) v184 t183) ∧ (Kd.R (Kd.int .u8) 5 w' w.heap.size (fun k_ => some k_ ≠ (v184 : Value).ownBlock ∧ some k_ ≠ (s_.2 : Value).ownBlock) s_.1 t186) ∧ (Kd.R (Kd.int .u8) 5 w' w.heap.size (fun k_ => some k_ ≠ (v184 : Value).ownBlock ∧ some k_ ≠ (s_.1 : Value).ownBlock) s_.2 t189) ∧ (Below w.heap.size w w')) ?_ ?_
                            rotate_left
                            · intro hJ20_22_23_25
                              refine join_ (σ := Value × Value) 5 #[true, true, true, true, true, true, true, true, true, true, true, true, true, true, true, true, true, true, true, true, true, true, true, false, true, true, true, false, false, false, false] (fun s_ => [(52, .string (strOfNums t183)), (54, s_.1), (57, s_.2), (58, .string (strOfNums t189))]) (fun s_ w' => (Kd.R (Kd.int .i64) 3 w' w.heap.size (fun k_ => some k_ ≠ (.slice Ao35 t164.length co35 : Value).ownBlock ∧ some k_ ≠ (.slice Ao38 t170.length co38 : Value).ownBlock ∧ some k_ ≠ (.slice Ao40 y173.length co40 : Value).ownBlock ∧ some k_ ≠ (.slice Ao43 t176.length co43 : Value).ownBlock) (.slice Ao39 y158.length co39) y158) ∧ (Kd.R (Kd.int .i64) 3 w' w.heap.size (fun k_ => some k_ ≠ (.slice Ao39 y158.length co39 : Value).ownBlock ∧ some k_ ≠ (.slice Ao38 t170.length co38 : Value).ownBlock ∧ some k_ ≠ (.slice Ao40 y173.length co40 : Value).ownBlock ∧ some k_ ≠ (.slice Ao43 t176.length co43 : Value).ownBlock) (.slice Ao35 t164.length co35) t164) ∧ (Kd.R (Kd.int .i64) 3 w' w.heap.size (fun k_ => some k_ ≠ (.slice Ao39 y158.length co39 : Value).ownBlock ∧ some k_ ≠ (.slice Ao35 t164.length co35 : Value).ownBlock ∧ some k_ ≠ (.slice Ao40 y173.length co40 : Value).ownBlock ∧ some k_ ≠ (.slice Ao43 t176.length co43 : Value).ownBlock) (.slice Ao38 t170.length co38) t170) ∧ (Kd.R (Kd.int .i64) 3 w' w.heap.size (fun k_ => some k_ ≠ (.slice Ao39 y158.length co39 : Value).ownBlock ∧ some k_ ≠ (.slice Ao35 t164.length co35 : Value).ownBlock ∧ some k_ ≠ (.slice Ao38 t170.length co38 : Value).ownBlock ∧ some k_ ≠ (.slice Ao43 t176.length co43 : Value).ownBlock) (.slice Ao40 y173.length co40) y173) ∧ (Kd.R (Kd.int .i64) 3 w' w.heap.size (fun k_ => some k_ ≠ (.slice Ao39 y158.length co39 : Value).ownBlock ∧ some k_ ≠ (.slice Ao35 t164.length co35 : Value).ownBlock ∧ some k_ ≠ (.slice Ao38 t170.length co38 : Value).ownBlock ∧ some k_ ≠ (.slice Ao40 y173.length co40 : Value).ownBlock) (.slice Ao43 t176.length co43) t176) ∧ (Kd.R (Kd.int .u8) 5 w' w.heap.size (fun k_ => some k_ ≠ (s_.1 : Value).ownBlock ∧ some k_ ≠ (s_.2 : Value).ownBlock) v184 t183) ∧ (Kd.R (Kd.int .u8) 5 w' w.heap.size (fun k_ => some k_ ≠ (v184 : Value).ownBlock ∧ some k_ ≠ (s_.2 : Value).ownBlock) s_.1 t186) ∧ (Kd.R (Kd.int .u8) 5 w' w.heap.size (fun k_ => some k_ ≠ (v184 : Value).ownBlock ∧ some k_ ≠ (s_.1 : Value).ownBlock) s_.2 t189) ∧ (Below w.heap.size w w')) ?_ ?_
                              rotate_left
                              · intro hJ20_22_25_26
                                refine join_ (σ := Value × Value) 4 #[true, true, true, true, true, true, true, true, true, true, true, true, true, true, true, true, true, true, true, true, false, true, true, true, true, true, true, true, false, false, false] (fun s_ => [(54, s_.1), (55, .string (strOfNums t186)), (57, s_.2), (58, .string (strOfNums t189)), (59, .string ((strOfNums t186) ++ (strOfNums t189)))]) (fun s_ w' => (Kd.R (Kd.int .i64) 3 w' w.heap.size (fun k_ => some k_ ≠ (.slice Ao35 t164.length co35 : Value).ownBlock ∧ some k_ ≠ (.slice Ao38 t170.length co38 : Value).ownBlock ∧ some k_ ≠ (.slice Ao40 y173.length co40 : Value).ownBlock ∧ some k_ ≠ (.slice Ao43 t176.length co43 : Value).ownBlock) (.slice Ao39 y158.length co39) y158) ∧ (Kd.R (Kd.int .i64) 3 w' w.heap.size (fun k_ => some k_ ≠ (.slice Ao39 y158.length co39 : Value).ownBlock ∧ some k_ ≠ (.slice Ao38 t170.length co38 : Value).ownBlock ∧ some k_ ≠ (.slice Ao40 y173.length co40 : Value).ownBlock ∧ some k_ ≠ (.slice Ao43 t176.length co43 : Value).ownBlock) (.slice Ao35 t164.length co35) t164) ∧ (Kd.R (Kd.int .i64) 3 w' w.heap.size (fun k_ => some k_ ≠ (.slice Ao39 y158.length co39 : Value).ownBlock ∧ some k_ ≠ (.slice Ao35 t164.length co35 : Value).ownBlock ∧ some k_ ≠ (.slice Ao40 y173.length co40 : Value).ownBlock ∧ some k_ ≠ (.slice Ao43 t176.length co43 : Value).ownBlock) (.slice Ao38 t170.length co38) t170) ∧ (Kd.R (Kd.int .i64) 3 w' w.heap.size (fun k_ => some k_ ≠ (.slice Ao39 y158.length co39 : Value).ownBlock ∧ some k_ ≠ (.slice Ao35 t164.length co35 : Value).ownBlock ∧ some k_ ≠ (.slice Ao38 t170.length co38 : Value).ownBlock ∧ some k_ ≠ (.slice Ao43 t176.length co43 : Value).ownBlock) (.slice Ao40 y173.length co40) y173) ∧ (Kd.R (Kd.int .i64) 3 w' w.heap.size (fun k_ => some k_ ≠ (.slice Ao39 y158.length co39 : Value).ownBlock ∧ some k_ ≠ (.slice Ao35 t164.length co35 : Value).ownBlock ∧ some k_ ≠ (.slice Ao38 t170.length co38 : Value).ownBlock ∧ some k_ ≠ (.slice Ao40 y173.length co40 : Value).ownBlock) (.slice Ao43 t176.length co43) t176) ∧ (Kd.R (Kd.int .u8) 5 w' w.heap.size (fun k_ => some k_ ≠ (s_.1 : Value).ownBlock ∧ some k_ ≠ (s_.2 : Value).ownBlock) v184 t183) ∧ (Kd.R (Kd.int .u8) 5 w' w.heap.size (fun k_ => some k_ ≠ (v184 : Value).ownBlock ∧ some k_ ≠ (s_.2 : Value).ownBlock) s_.1 t186) ∧ (Kd.R (Kd.int .u8) 5 w' w.heap.size (fun k_ => some k_ ≠ (v184 : Value).ownBlock ∧ some k_ ≠ (s_.1 : Value).ownBlock) s_.2 t189) ∧ (Below w.heap.size w w')) ?_ ?_
                                rotate_left
                                · intro hJ22_23_25_26
                                  refine join_ (σ := Value) 6 #[true, true, true, true, true, true, true, true, true, true, true, true, true, true, true, true, true, true, true, true, true, true, true, true, true, false, false, false, false, false, false] (fun s_ => [(52, .string (strOfNums t183)), (54, s_), (55, .string (strOfNums t186))]) (fun s_ w' => (Kd.R (Kd.int .i64) 3 w' w.heap.size (fun k_ => some k_ ≠ (.slice Ao35 t164.length co35 : Value).ownBlock ∧ some k_ ≠ (.slice Ao38 t170.length co38 : Value).ownBlock ∧ some k_ ≠ (.slice Ao40 y173.length co40 : Value).ownBlock ∧ some k_ ≠ (.slice Ao43 t176.length co43 : Value).ownBlock) (.slice Ao39 y158.length co39) y158) ∧ (Kd.R (Kd.int .i64) 3 w' w.heap.size (fun k_ => some k_ ≠ (.slice Ao39 y158.length co39 : Value).ownBlock ∧ some k_ ≠ (.slice Ao38 t170.length co38 : Value).ownBlock ∧ some k_ ≠ (.slice Ao40 y173.length co40 : Value).ownBlock ∧ some k_ ≠ (.slice Ao43 t176.length co43 : Value).ownBlock) (.slice Ao35 t164.length co35) t164) ∧ (Kd.R (Kd.int .i64) 3 w' w.heap.size (fun k_ => some k_ ≠ (.slice Ao39 y158.length co39 : Value).ownBlock ∧ some k_ ≠ (.slice Ao35 t164.length co35 : Value).ownBlock ∧ some k_ ≠ (.slice Ao40 y173.length co40 : Value).ownBlock ∧ some k_ ≠ (.slice Ao43 t176.length co43 : Value).ownBlock) (.slice Ao38 t170.length co38) t170) ∧ (Kd.R (Kd.int .i64) 3 w' w.heap.size (fun k_ => some k_ ≠ (.slice Ao39 y158.length co39 : Value).ownBlock ∧ some k_ ≠ (.slice Ao35 t164.length co35 : Value).ownBlock ∧ some k_ ≠ (.slice Ao38 t170.length co38 : Value).ownBlock ∧ some k_ ≠ (.slice Ao43 t176.length co43 : Value).ownBlock) (.slice Ao40 y173.length co40) y173) ∧ (Kd.R (Kd.int .i64) 3 w' w.heap.size (fun k_ => some k_ ≠ (.slice Ao39 y158.length co39 : Value).ownBlock ∧ some k_ ≠ (.slice Ao35 t164.length co35 : Value).ownBlock ∧ some k_ ≠ (.slice Ao38 t170.length co38 : Value).ownBlock ∧ some k_ ≠ (.slice Ao40 y173.length co40 : Value).ownBlock) (.slice Ao43 t176.length co43) t176) ∧ (Kd.R (Kd.int .u8) 5 w' w.heap.size (fun k_ => some k_ ≠ (s_ : Value).ownBlock) v184 t183) ∧ (Kd.R (Kd.int .u8) 5 w' w.heap.size (fun k_ => some k_ ≠ (v184 : Value).ownBlock) s_ t186) ∧ (Below w.heap.size w w')) ?_ ?_
                                  rotate_left
                                  · intro hJ20_22_23
                                    refine join_ (σ := Value × Value) 6 #[true, true, true, true, true, true, true, true, true, true, true, true, true, true, true, true, true, true, true, true, true, true, true, false, true, true, false, false, false, false, false] (fun s_ => [(52, .string (strOfNums t183)), (54, s_.1), (57, s_.2)]) (fun s_ w' => (Kd.R (Kd.int .i64) 3 w' w.heap.size (fun k_ => some k_ ≠ (.slice Ao35 t164.length co35 : Value).ownBlock ∧ some k_ ≠ (.slice Ao38 t170.length co38 : Value).ownBlock ∧ some k_ ≠ (.slice Ao40 y173.length co40 : Value).ownBlock ∧ some k_ ≠ (.slice Ao43 t176.length co43 : Value).ownBlock) (.slice Ao39 y158.length co39) y158) ∧ (Kd.R (Kd.int .i64) 3 w' w.heap.size (fun k_ => some k_ ≠ (.slice Ao39 y158.length co39 : Value).ownBlock ∧ some k_ ≠ (.slice Ao38 t170.length co38 : Value).ownBlock ∧ some k_ ≠ (.slice Ao40 y173.length co40 : Value).ownBlock ∧ some k_ ≠ (.slice Ao43 t176.length co43 : Value).ownBlock) (.slice Ao35 t164.length co35) t164) ∧ (Kd.R (Kd.int .i64) 3 w' w.heap.size (fun k_ => some k_ ≠ (.slice Ao39 y158.length co39 : Value).ownBlock ∧ some k_ ≠ (.slice Ao35 t164.length co35 : Value).ownBlock ∧ some k_ ≠ (.slice Ao40 y173.length co40 : Value).ownBlock ∧ some k_ ≠ (.slice Ao43 t176.length co43 : Value).ownBlock) (.slice Ao38 t170.length co38) t170) ∧ (Kd.R (Kd.int .i64) 3 w' w.heap.size (fun k_ => some k_ ≠ (.slice Ao39 y158.length co39 : Value).ownBlock ∧ some k_ ≠ (.slice Ao35 t164.length co35 : Value).ownBlock ∧ some k_ ≠ (.slice Ao38 t170.length co38 : Value).ownBlock ∧ some k_ ≠ (.slice Ao43 t176.length co43 : Value).ownBlock) (.slice Ao40 y173.length co40) y173) ∧ (Kd.R (Kd.int .i64) 3 w' w.heap.size (fun k_ => some k_ ≠ (.slice Ao39 y158.length co39 : Value).ownBlock ∧ some k_ ≠ (.slice Ao35 t164.length co35 : Value).ownBlock ∧ some k_ ≠ (.slice Ao38 t170.length co38 : Value).ownBlock ∧ some k_ ≠ (.slice Ao40 y173.length co40 : Value).ownBlock) (.slice Ao43 t176.length co43) t176) ∧ (Kd.R (Kd.int .u8) 5 w' w.heap.size (fun k_ => some k_ ≠ (s_.1 : Value).ownBlock ∧ some k_ ≠ (s_.2 : Value).ownBlock) v184 t183) ∧ (Kd.R (Kd.int .u8) 5 w' w.heap.size (fun k_ => some k_ ≠ (v184 : Value).ownBlock ∧ some k_ ≠ (s_.2 : Value).ownBlock) s_.1 t186) ∧ (Kd.R (Kd.int .u8) 5 w' w.heap.size (fun k_ => some k_ ≠ (v184 : Value).ownBlock ∧ some k_ ≠ (s_.1 : Value).ownBlock) s_.2 t189) ∧ (Below w.heap.size w w')) ?_ ?_
                                    rotate_left
                                    · intro hJ20_22_25
                                      refine join_ (σ := Value × Value) 6 #[true, true, true, true, true, true, true, true, true, true, true, true, true, true, true, true, true, true, true, true, false, true, true, true, true, true, false, false, false, false, false] (fun s_ => [(54, s_.1), (55, .string (strOfNums t186)), (57, s_.2)]) (fun s_ w' => (Kd.R (Kd.int .i64) 3 w' w.heap.size (fun k_ => some k_ ≠ (.slice Ao35 t164.length co35 : Value).ownBlock ∧ some k_ ≠ (.slice Ao38 t170.length co38 : Value).ownBlock ∧ some k_ ≠ (.slice Ao40 y173.length co40 : Value).ownBlock ∧ some k_ ≠ (.slice Ao43 t176.length co43 : Value).ownBlock) (.slice Ao39 y158.length co39) y158) ∧ (Kd.R (Kd.int .i64) 3 w' w.heap.size (fun k_ => some k_ ≠ (.slice Ao39 y158.length co39 : Value).ownBlock ∧ some k_ ≠ (.slice Ao38 t170.length co38 : Value).ownBlock ∧ some k_ ≠ (.slice Ao40 y173.length co40 : Value).ownBlock ∧ some k_ ≠ (.slice Ao43 t176.length co43 : Value).ownBlock) (.slice Ao35 t164.length co35) t164) ∧ (Kd.R (Kd.int .i64) 3 w' w.heap.size (fun k_ => some k_ ≠ (.slice Ao39 y158.length co39 : Value).ownBlock ∧ some k_ ≠ (.slice Ao35 t164.length co35 : Value).ownBlock ∧ some k_ ≠ (.slice Ao40 y173.length co40 : Value).ownBlock ∧ some k_ ≠ (.slice Ao43 t176.length co43 : Value).ownBlock) (.slice Ao38 t170.length co38) t170) ∧ (Kd.R (Kd.int .i64) 3 w' w.heap.size (fun k_ => some k_ ≠ (.slice Ao39 y158.length co39 : Value).ownBlock ∧ some k_ ≠ (.slice Ao35 t164.length co35 : Value).ownBlock ∧ some k_ ≠ (.slice Ao38 t170.length co38 : Value).ownBlock ∧ some k_ ≠ (.slice Ao43 t176.length co43 : Value).ownBlock) (.slice Ao40 y173.length co40) y173) ∧ (Kd.R (Kd.int .i64) 3 w' w.heap.size (fun k_ => some k_ ≠ (.slice Ao39 y158.length co39 : Value).ownBlock ∧ some k_ ≠ (.slice Ao35 t164.length co35 : Value).ownBlock ∧ some k_ ≠ (.slice Ao38 t170.length co38 : Value).ownBlock ∧ some k_ ≠ (.slice Ao40 y173.length co40 : Value).ownBlock) (.slice Ao43 t176.length co43) t176) ∧ (Kd.R (Kd.int .u8) 5 w' w.heap.size (fun k_ => some k_ ≠ (s_.1 : Value).ownBlock ∧ some k_ ≠ (s_.2 : Value).ownBlock) v184 t183) ∧ (Kd.R (Kd.int .u8) 5 w' w.heap.size (fun k_ => some k_ ≠ (v184 : Value).ownBlock ∧ some k_ ≠ (s_.2 : Value).ownBlock) s_.1 t186) ∧ (Kd.R (Kd.int .u8) 5 w' w.heap.size (fun k_ => some k_ ≠ (v184 : Value).ownBlock ∧ some k_ ≠ (s_.1 : Value).ownBlock) s_.2 t189) ∧ (Below w.heap.size w w')) ?_ ?_
                                      rotate_left
                                      · intro hJ22_23_25
                                        refine join_ (σ := Value × Value) 6 #[true, true, true, true, true, true, true, true, true, true, true, true, true, true, true, true, true, true, true, true, false, true, true, false, true, true, true, false, false, false, false] (fun s_ => [(54, s_.1), (57, s_.2), (58, .string (strOfNums t189))]) (fun s_ w' => (Kd.R (Kd.int .i64) 3 w' w.heap.size (fun k_ => some k_ ≠ (.slice Ao35 t164.length co35 : Value).ownBlock ∧ some k_ ≠ (.slice Ao38 t170.length co38 : Value).ownBlock ∧ some k_ ≠ (.slice Ao40 y173.length co40 : Value).ownBlock ∧ some k_ ≠ (.slice Ao43 t176.length co43 : Value).ownBlock) (.slice Ao39 y158.length co39) y158) ∧ (Kd.R (Kd.int .i64) 3 w' w.heap.size (fun k_ => some k_ ≠ (.slice Ao39 y158.length co39 : Value).ownBlock ∧ some k_ ≠ (.slice Ao38 t170.length co38 : Value).ownBlock ∧ some k_ ≠ (.slice Ao40 y173.length co40 : Value).ownBlock ∧ some k_ ≠ (.slice Ao43 t176.length co43 : Value).ownBlock) (.slice Ao35 t164.length co35) t164) ∧ (Kd.R (Kd.int .i64) 3 w' w.heap.size (fun k_ => some k_ ≠ (.slice Ao39 y158.length co39 : Value).ownBlock ∧ some k_ ≠ (.slice Ao35 t164.length co35 : Value).ownBlock ∧ some k_ ≠ (.slice Ao40 y173.length co40 : Value).ownBlock ∧ some k_ ≠ (.slice Ao43 t176.length co43 : Value).ownBlock) (.slice Ao38 t170.length co38) t170) ∧ (Kd.R (Kd.int .i64) 3 w' w.heap.size (fun k_ => some k_ ≠ (.slice Ao39 y158.length co39 : Value).ownBlock ∧ some k_ ≠ (.slice Ao35 t164.length co35 : Value).ownBlock ∧ some k_ ≠ (.slice Ao38 t170.length co38 : Value).ownBlock ∧ some k_ ≠ (.slice Ao43 t176.length co43 : Value).ownBlock) (.slice Ao40 y173.length co40) y173) ∧ (Kd.R (Kd.int .i64) 3 w' w.heap.size (fun k_ => some k_ ≠ (.slice Ao39 y158.length co39 : Value).ownBlock ∧ some k_ ≠ (.slice Ao35 t164.length co35 : Value).ownBlock ∧ some k_ ≠ (.slice Ao38 t170.length co38 : Value).ownBlock ∧ some k_ ≠ (.slice Ao40 y173.length co40 : Value).ownBlock) (.slice Ao43 t176.length co43) t176) ∧ (Kd.R (Kd.int .u8) 5 w' w.heap.size (fun k_ => some k_ ≠ (s_.1 : Value).ownBlock ∧ some k_ ≠ (s_.2 : Value).ownBlock) v184 t183) ∧ (Kd.R (Kd.int .u8) 5 w' w.heap.size (fun k_ => some k_ ≠ (v184 : Value).ownBlock ∧ some k_ ≠ (s_.2 : Value).ownBlock) s_.1 t186) ∧ (Kd.R (Kd.int .u8) 5 w' w.heap.size (fun k_ => some k_ ≠ (v184 : Value).ownBlock ∧ some k_ ≠ (s_.1 : Value).ownBlock) s_.2 t189) ∧ (Below w.heap.size w w')) ?_ ?_
                                        rotate_left
                                        · intro hJ22_25_26
                                          refine join_ (σ := Value) 7 #[true, true, true, true, true, true, true, true, true, true, true, true, true, true, true, true, true, true, true, true, true, true, true, false, true, false, false, false, false, false, false] (fun s_ => [(52, .string (strOfNums t183)), (54, s_)]) (fun s_ w' => (Kd.R (Kd.int .i64) 3 w' w.heap.size (fun k_ => some k_ ≠ (.slice Ao35 t164.length co35 : Value).ownBlock ∧ some k_ ≠ (.slice Ao38 t170.length co38 : Value).ownBlock ∧ some k_ ≠ (.slice Ao40 y173.length co40 : Value).ownBlock ∧ some k_ ≠ (.slice Ao43 t176.length co43 : Value).ownBlock) (.slice Ao39 y158.length co39) y158) ∧ (Kd.R (Kd.int .i64) 3 w' w.heap.size (fun k_ => some k_ ≠ (.slice Ao39 y158.length co39 : Value).ownBlock ∧ some k_ ≠ (.slice Ao38 t170.length co38 : Value).ownBlock ∧ some k_ ≠ (.slice Ao40 y173.length co40 : Value).ownBlock ∧ some k_ ≠ (.slice Ao43 t176.length co43 : Value).ownBlock) (.slice Ao35 t164.length co35) t164) ∧ (Kd.R (Kd.int .i64) 3 w' w.heap.size (fun k_ => some k_ ≠ (.slice Ao39 y158.length co39 : Value).ownBlock ∧ some k_ ≠ (.slice Ao35 t164.length co35 : Value).ownBlock ∧ some k_ ≠ (.slice Ao40 y173.length co40 : Value).ownBlock ∧ some k_ ≠ (.slice Ao43 t176.length co43 : Value).ownBlock) (.slice Ao38 t170.length co38) t170) ∧ (Kd.R (Kd.int .i64) 3 w' w.heap.size (fun k_ => some k_ ≠ (.slice Ao39 y158.length co39 : Value).ownBlock ∧ some k_ ≠ (.slice Ao35 t164.length co35 : Value).ownBlock ∧ some k_ ≠ (.slice Ao38 t170.length co38 : Value).ownBlock ∧ some k_ ≠ (.slice Ao43 t176.length co43 : Value).ownBlock) (.slice Ao40 y173.length co40) y173) ∧ (Kd.R (Kd.int .i64) 3 w' w.heap.size (fun k_ => some k_ ≠ (.slice Ao39 y158.length co39 : Value).ownBlock ∧ some k_ ≠ (.slice Ao35 t164.length co35 : Value).ownBlock ∧ some k_ ≠ (.slice Ao38 t170.length co38 : Value).ownBlock ∧ some k_ ≠ (.slice Ao40 y173.length co40 : Value).ownBlock) (.slice Ao43 t176.length co43) t176) ∧ (Kd.R (Kd.int .u8) 5 w' w.heap.size (fun k_ => some k_ ≠ (s_ : Value).ownBlock) v184 t183) ∧ (Kd.R (Kd.int .u8) 5 w' w.heap.size (fun k_ => some k_ ≠ (v184 : Value).ownBlock) s_ t186) ∧ (Below w.heap.size w w')) ?_ ?_
                                          rotate_left
                                          · intro hJ20_22
                                            refine join_ (σ := Value) 7 #[true, true, true, true, true, true, true, true, true, true, true, true, true, true, true, true, true, true, true, true, false, true, true, true, true, false, false, false, false, false, false] (fun s_ => [(54, s_), (55, .string (strOfNums t186))]) (fun s_ w' => (Kd.R (Kd.int .i64) 3 w' w.heap.size (fun k_ => some k_ ≠ (.slice Ao35 t164.length co35 : Value).ownBlock ∧ some k_ ≠ (.slice Ao38 t170.length co38 : Value).ownBlock ∧ some k_ ≠ (.slice Ao40 y173.length co40 : Value).ownBlock ∧ some k_ ≠ (.slice Ao43 t176.length co43 : Value).ownBlock) (.slice Ao39 y158.length co39) y158) ∧ (Kd.R (Kd.int .i64) 3 w' w.heap.size (fun k_ => some k_ ≠ (.slice Ao39 y158.length co39 : Value).ownBlock ∧ some k_ ≠ (.slice Ao38 t170.length co38 : Value).ownBlock ∧ some k_ ≠ (.slice Ao40 y173.length co40 : Value).ownBlock ∧ some k_ ≠ (.slice Ao43 t176.length co43 : Value).ownBlock) (.slice Ao35 t164.length co35) t164) ∧ (Kd.R (Kd.int .i64) 3 w' w.heap.size (fun k_ => some k_ ≠ (.slice Ao39 y158.length co39 : Value).ownBlock ∧ some k_ ≠ (.slice Ao35 t164.length co35 : Value).ownBlock ∧ some k_ ≠ (.slice Ao40 y173.length co40 : Value).ownBlock ∧ some k_ ≠ (.slice Ao43 t176.length co43 : Value).ownBlock) (.slice Ao38 t170.length co38) t170) ∧ (Kd.R (Kd.int .i64) 3 w' w.heap.size (fun k_ => some k_ ≠ (.slice Ao39 y158.length co39 : Value).ownBlock ∧ some k_ ≠ (.slice Ao35 t164.length co35 : Value).ownBlock ∧ some k_ ≠ (.slice Ao38 t170.length co38 : Value).ownBlock ∧ some k_ ≠ (.slice Ao43 t176.length co43 : Value).ownBlock) (.slice Ao40 y173.length co40) y173) ∧ (Kd.R (Kd.int .i64) 3 w' w.heap.size (fun k_ => some k_ ≠ (.slice Ao39 y158.length co39 : Value).ownBlock ∧ some k_ ≠ (.slice Ao35 t164.length co35 : Value).ownBlock ∧ some k_ ≠ (.slice Ao38 t170.length co38 : Value).ownBlock ∧ some k_ ≠ (.slice Ao40 y173.length co40 : Value).ownBlock) (.slice Ao43 t176.length co43) t176) ∧ (Kd.R (Kd.int .u8) 5 w' w.heap.size (fun k_ => some k_ ≠ (s_ : Value).ownBlock) v184 t183) ∧ (Kd.R (Kd.int .u8) 5 w' w.heap.size (fun k_ => some k_ ≠ (v184 : Value).ownBlock) s_ t186) ∧ (Below w.heap.size w w')) ?_ ?_
                                            rotate_left
                                            · intro hJ22_23
                                              refine join_ (σ := Value × Value) 7 #[true, true, true, true, true, true, true, true, true, true, true, true, true, true, true, true, true, true, true, true, false, true, true, false, true, true, false, false, false, false, false] (fun s_ => [(54, s_.1), (57, s_.2)]) (fun s_ w' => (Kd.R (Kd.int .i64) 3 w' w.heap.size (fun k_ => some k_ ≠ (.slice Ao35 t164.length co35 : Value).ownBlock ∧ some k_ ≠ (.slice Ao38 t170.length co38 : Value).ownBlock ∧ some k_ ≠ (.slice Ao40 y173.length co40 : Value).ownBlock ∧ some k_ ≠ (.slice Ao43 t176.length co43 : Value).ownBlock) (.slice Ao39 y158.length co39) y158) ∧ (Kd.R (Kd.int .i64) 3 w' w.heap.size (fun k_ => some k_ ≠ (.slice Ao39 y158.length co39 : Value).ownBlock ∧ some k_ ≠ (.slice Ao38 t170.length co38 : Value).ownBlock ∧ some k_ ≠ (.slice Ao40 y173.length co40 : Value).ownBlock ∧ some k_ ≠ (.slice Ao43 t176.length co43 : Value).ownBlock) (.slice Ao35 t164.length co35) t164) ∧ (Kd.R (Kd.int .i64) 3 w' w.heap.size (fun k_ => some k_ ≠ (.slice Ao39 y158.length co39 : Value).ownBlock ∧ some k_ ≠ (.slice Ao35 t164.length co35 : Value).ownBlock ∧ some k_ ≠ (.slice Ao40 y173.length co40 : Value).ownBlock ∧ some k_ ≠ (.slice Ao43 t176.length co43 : Value).ownBlock) (.slice Ao38 t170.length co38) t170) ∧ (Kd.R (Kd.int .i64) 3 w' w.heap.size (fun k_ => some k_ ≠ (.slice Ao39 y158.length co39 : Value).ownBlock ∧ some k_ ≠ (.slice Ao35 t164.length co35 : Value).ownBlock ∧ some k_ ≠ (.slice Ao38 t170.length co38 : Value).ownBlock ∧ some k_ ≠ (.slice Ao43 t176.length co43 : Value).ownBlock) (.slice Ao40 y173.length co40) y173) ∧ (Kd.R (Kd.int .i64) 3 w' w.heap.size (fun k_ => some k_ ≠ (.slice Ao39 y158.length co39 : Value).ownBlock ∧ some k_ ≠ (.slice Ao35 t164.length co35 : Value).ownBlock ∧ some k_ ≠ (.slice Ao38 t170.length co38 : Value).ownBlock ∧ some k_ ≠ (.slice Ao40 y173.length co40 : Value).ownBlock) (.slice Ao43 t176.length co43) t176) ∧ (Kd.R (Kd.int .u8) 5 w' w.heap.size (fun k_ => some k_ ≠ (s_.1 : Value).ownBlock ∧ some k_ ≠ (s_.2 : Value).ownBlock) v184 t183) ∧ (Kd.R (Kd.int .u8) 5 w' w.heap.size (fun k_ => some k_ ≠ (v184 : Value).ownBlock ∧ some k_ ≠ (s_.2 : Value).ownBlock) s_.1 t186) ∧ (Kd.R (Kd.int .u8) 5 w' w.heap.size (fun k_ => some k_ ≠ (v184 : Value).ownBlock ∧ some k_ ≠ (s_.1 : Value).ownBlock) s_.2 t189) ∧ (Below w.heap.size w w')) ?_ ?_
                                              rotate_left
                                              · intro hJ22_25
                                                refine join_ (σ := Unit) 8 #[true, true, true, true, true, true, true, true, true, true, true, true, true, true, true, true, true, true, true, true, true, true, false, false, true, false, false, false, false, false, false] (fun s_ => [(52, .string (strOfNums t183))]) (fun s_ w' => (Kd.R (Kd.int .i64) 3 w' w.heap.size (fun k_ => some k_ ≠ (.slice Ao35 t164.length co35 : Value).ownBlock ∧ some k_ ≠ (.slice Ao38 t170.length co38 : Value).ownBlock ∧ some k_ ≠ (.slice Ao40 y173.length co40 : Value).ownBlock ∧ some k_ ≠ (.slice Ao43 t176.length co43 : Value).ownBlock) (.slice Ao39 y158.length co39) y158) ∧ (Kd.R (Kd.int .i64) 3 w' w.heap.size (fun k_ => some k_ ≠ (.slice Ao39 y158.length co39 : Value).ownBlock ∧ some k_ ≠ (.slice Ao38 t170.length co38 : Value).ownBlock ∧ some k_ ≠ (.slice Ao40 y173.length co40 : Value).ownBlock ∧ some k_ ≠ (.slice Ao43 t176.length co43 : Value).ownBlock) (.slice Ao35 t164.length co35) t164) ∧ (Kd.R (Kd.int .i64) 3 w' w.heap.size (fun k_ => some k_ ≠ (.slice Ao39 y158.length co39 : Value).ownBlock ∧ some k_ ≠ (.slice Ao35 t164.length co35 : Value).ownBlock ∧ some k_ ≠ (.slice Ao40 y173.length co40 : Value).ownBlock ∧ some k_ ≠ (.slice Ao43 t176.length co43 : Value).ownBlock) (.slice Ao38 t170.length co38) t170) ∧ (Kd.R (Kd.int .i64) 3 w' w.heap.size (fun k_ => some k_ ≠ (.slice Ao39 y158.length co39 : Value).ownBlock ∧ some k_ ≠ (.slice Ao35 t164.length co35 : Value).ownBlock ∧ some k_ ≠ (.slice Ao38 t170.length co38 : Value).ownBlock ∧ some k_ ≠ (.slice Ao43 t176.length co43 : Value).ownBlock) (.slice Ao40 y173.length co40) y173) ∧ (Kd.R (Kd.int .i64) 3 w' w.heap.size (fun k_ => some k_ ≠ (.slice Ao39 y158.length co39 : Value).ownBlock ∧ some k_ ≠ (.slice Ao35 t164.length co35 : Value).ownBlock ∧ some k_ ≠ (.slice Ao38 t170.length co38 : Value).ownBlock ∧ some k_ ≠ (.slice Ao40 y173.length co40 : Value).ownBlock) (.slice Ao43 t176.length co43) t176) ∧ (Kd.R (Kd.int .u8) 5 w' w.heap.size (fun _ => True) v184 t183) ∧ (Below w.heap.size w w')) ?_ ?_
                                                rotate_left
                                                · intro hJ20
                                                  refine join_ (σ := Value) 8 #[true, true, true, true, true, true, true, true, true, true, true, true, true, true, true, true, true, true, true, true, false, true, true, false, true, false, false, false, false, false, false] (fun s_ => [(54, s_)]) (fun s_ w' => (Kd.R (Kd.int .i64) 3 w' w.heap.size (fun k_ => some k_ ≠ (.slice Ao35 t164.length co35 : Value).ownBlock ∧ some k_ ≠ (.slice Ao38 t170.length co38 : Value).ownBlock ∧ some k_ ≠ (.slice Ao40 y173.length co40 : Value).ownBlock ∧ some k_ ≠ (.slice Ao43 t176.length co43 : Value).ownBlock) (.slice Ao39 y158.length co39) y158) ∧ (Kd.R (Kd.int .i64) 3 w' w.heap.size (fun k_ => some k_ ≠ (.slice Ao39 y158.length co39 : Value).ownBlock ∧ some k_ ≠ (.slice Ao38 t170.length co38 : Value).ownBlock ∧ some k_ ≠ (.slice Ao40 y173.length co40 : Value).ownBlock ∧ some k_ ≠ (.slice Ao43 t176.length co43 : Value).ownBlock) (.slice Ao35 t164.length co35) t164) ∧ (Kd.R (Kd.int .i64) 3 w' w.heap.size (fun k_ => some k_ ≠ (.slice Ao39 y158.length co39 : Value).ownBlock ∧ some k_ ≠ (.slice Ao35 t164.length co35 : Value).ownBlock ∧ some k_ ≠ (.slice Ao40 y173.length co40 : Value).ownBlock ∧ some k_ ≠ (.slice Ao43 t176.length co43 : Value).ownBlock) (.slice Ao38 t170.length co38) t170) ∧ (Kd.R (Kd.int .i64) 3 w' w.heap.size (fun k_ => some k_ ≠ (.slice Ao39 y158.length co39 : Value).ownBlock ∧ some k_ ≠ (.slice Ao35 t164.length co35 : Value).ownBlock ∧ some k_ ≠ (.slice Ao38 t170.length co38 : Value).ownBlock ∧ some k_ ≠ (.slice Ao43 t176.length co43 : Value).ownBlock) (.slice Ao40 y173.length co40) y173) ∧ (Kd.R (Kd.int .i64) 3 w' w.heap.size (fun k_ => some k_ ≠ (.slice Ao39 y158.length co39 : Value).ownBlock ∧ some k_ ≠ (.slice Ao35 t164.length co35 : Value).ownBlock ∧ some k_ ≠ (.slice Ao38 t170.length co38 : Value).ownBlock ∧ some k_ ≠ (.slice Ao40 y173.length co40 : Value).ownBlock) (.slice Ao43 t176.length co43) t176) ∧ (Kd.R (Kd.int .u8) 5 w' w.heap.size (fun k_ => some k_ ≠ (s_ : Value).ownBlock) v184 t183) ∧ (Kd.R (Kd.int .u8) 5 w' w.heap.size (fun k_ => some k_ ≠ (v184 : Value).ownBlock) s_ t186) ∧ (Below w.heap.size w w')) ?_ ?_
                                                  rotate_left
                                                  · intro hJ22
                                                    refine two_ (i := 20) (j := 22) (Ni := some 52) (Nj := some 54) #[true, true, true, true, true, true, true, true, true, true, true, true, true, true, true, true, true, true, true, true, true, true, false, false, true, false, false, false, false, false, false] #[true, true, true, true, true, true, true, true, true, true, true, true, true, true, true, true, true, true, true, true, false, true, true, false, true, false, false, false, false, false, false] rfl rfl rfl rfl (two_of HT_.out (by kernel_rfl)) (by decide) (by decide) (fun K hK => ?_) (fun K hK => ?_)
                                                    · skip
                                                      have hcv48 := own_string (P := Tryd.prog) Tryd.underlying27 Tryd.underlying5 Tryd.underlying9 (Kd.own_of_R HO185.out)
                                                      refine value_ (w1 := ?_) (v := ?_) (by rfl) rfl ?_ ?_
                                                      rotate_left 2
                                                      · go_simp
                                                        constructor
                                                        · rfl
                                                        · rfl
                                                      clear hcv48
                                                      refine hK.out _ _ trivial (fun hHeld => ?_)
                                                      clear hK K
                                                      refine norm_ (a' := ?_) ?_ ?_
                                                      rotate_left
                                                      · show Act.put _ (some 52) _ = _
                                                        simp only [Act.put, List.setIfInBounds_toArray, List.set_cons_zero, List.set_cons_succ, i64_w, i32_w]
                                                        rfl
                                                      exact norm_ (by first | (simp only [putAll, Act.put, List.setIfInBounds_toArray, List.set_cons_zero, List.set_cons_succ]; done) | (simp only [putAll, Act.put, List.setIfInBounds_toArray, List.set_cons_zero, List.set_cons_succ]; rfl)) (hJ20 () _ ⟨(by (with_reducible repeat (first | apply Kd.R_alloc | apply Kd.R_drewN | apply Kd.R_drew)); exact Kd.R_mono HO160.out (fun _ hk => ⟨hk.1.1.1, ⟨hk.1.1.2, ⟨hk.1.2, hk.2⟩⟩⟩)), (by (with_reducible repeat (first | apply Kd.R_alloc | apply Kd.R_drewN | apply Kd.R_drew)); exact Kd.R_mono HO166.out (fun _ hk => ⟨hk.1.1.1, ⟨hk.1.1.2, ⟨hk.1.2, hk.2⟩⟩⟩)), (by (with_reducible repeat (first | apply Kd.R_alloc | apply Kd.R_drewN | apply Kd.R_drew)); exact Kd.R_mono HO172.out (fun _ hk => ⟨hk.1.1.1, ⟨hk.1.1.2, ⟨hk.1.2, hk.2⟩⟩⟩)), (by (with_reducible repeat (first | apply Kd.R_alloc | apply Kd.R_drewN | apply Kd.R_drew)); exact Kd.R_mono HO175.out (fun _ hk => ⟨hk.1.1, ⟨hk.1.2.1, ⟨hk.1.2.2, hk.2⟩⟩⟩)), (by (with_reducible repeat (first | apply Kd.R_alloc | apply Kd.R_drewN | apply Kd.R_drew)); exact Kd.R_mono HO178.out (fun _ hk => ⟨hk.1.1.1.2, ⟨hk.1.1.2, ⟨hk.1.2, hk.2⟩⟩⟩)), (by (with_reducible repeat (first | apply Kd.R_alloc | apply Kd.R_drewN | apply Kd.R_drew)); exact HO185.out), (by repeat (first | (with_reducible first | exact HB.out | apply below_alloc | apply pw_below_drewN | apply below_drew1) | exact HB.out))⟩)
                                                    · skip
                                                      refine goes_ Tryd.func13 (by kernel_rfl) rfl #[.slice A0 l0.length c0] (by rfl) rfl rfl (by (try simp only [List.map_toArray, List.map_cons, List.map_nil]); first | done | rfl | (simp only [List.length_drop, List.length_take]; rfl)) ?_
                                                      with_reducible refine (utf_Bytes.calls kj3 _ _ l0 t186 _ ?side1 ?side2 A24.out).mono ?_
                                                      (case side1 => repeat (first | exact (Kd.C_below HR0.out HB.out) | (with_reducible refine Kd.C_alloc ?_ _) | (with_reducible refine Kd.C_drewN ?_ _) | (with_reducible refine Kd.C_drew ?_)))
                                                      (case side2 => exact HC0.out)
                                                      rintro e w48 ⟨v187, rfl, ho0, hb⟩
                                                      refine ⟨_, rfl, ?_⟩
                                                      have n0_ := Aside0.mk (Kd.R_below (by (with_reducible repeat (first | apply Kd.R_alloc | apply Kd.R_drewN | apply Kd.R_drew)); exact HO160.out) hb)
                                                      have n1_ := Aside0.mk (Kd.R_below (by (with_reducible repeat (first | apply Kd.R_alloc | apply Kd.R_drewN | apply Kd.R_drew)); exact HO166.out) hb)
                                                      have n2_ := Aside0.mk (Kd.R_below (by (with_reducible repeat (first | apply Kd.R_alloc | apply Kd.R_drewN | apply Kd.R_drew)); exact HO172.out) hb)
                                                      have n3_ := Aside0.mk (Kd.R_below (by (with_reducible repeat (first | apply Kd.R_alloc | apply Kd.R_drewN | apply Kd.R_drew)); exact HO175.out) hb)
                                                      have n4_ := Aside0.mk (Kd.R_below (by (with_reducible repeat (first | apply Kd.R_alloc | apply Kd.R_drewN | apply Kd.R_drew)); exact HO178.out) hb)
                                                      have n5_ := Aside0.mk (Kd.R_elder' (by (with_reducible repeat (first | apply Kd.R_alloc | apply Kd.R_drewN | apply Kd.R_drew)); exact HO185.out) (Kd.R_base ho0) hb)
                                                      have n6_ := Aside0.mk (Kd.R_lower (Kd.R_new' ho0 (Kd.R_lt (by (with_reducible repeat (first | apply Kd.R_alloc | apply Kd.R_drewN | apply Kd.R_drew)); exact HO185.out))) (below_size (by repeat (first | (with_reducible first | exact HB.out | apply below_alloc | apply pw_below_drewN | apply below_drew1) | exact HB.out))))
                                                      have n7_ := Aside0.mk (below_step (by repeat (first | (with_reducible first | exact HB.out | apply below_alloc | apply pw_below_drewN | apply below_drew1) | exact HB.out)) hb)
                                                      clear HO160
                                                      clear HO166
                                                      clear HO172
                                                      clear HO175
                                                      clear HO178
                                                      clear HO185
                                                      clear HB
                                                      have HO160 := n0_
                                                      have HO166 := n1_
                                                      have HO172 := n2_
                                                      have HO175 := n3_
                                                      have HO178 := n4_
                                                      have HO185 := n5_
                                                      have HO188 := n6_
                                                      have HB := n7_
                                                      clear n0_ n1_ n2_ n3_ n4_ n5_ n6_ n7_
                                                      (try clear hb)
                                                      (try clear hb2)
                                                      (try clear hk)
                                                      (try clear hi)
                                                      (try clear ho0)
                                                      refine hK.out _ _ trivial (fun hHeld => ?_)
                                                      clear hK K
                                                      refine norm_ (a' := ?_) ?_ ?_
                                                      rotate_left
                                                      · show Act.put _ (some 54) _ = _
                                                        simp only [Act.put, List.setIfInBounds_toArray, List.set_cons_zero, List.set_cons_succ, i64_w, i32_w]
                                                        rfl
                                                      exact norm_ (by first | (simp only [putAll, Act.put, List.setIfInBounds_toArray, List.set_cons_zero, List.set_cons_succ]; done) | (simp only [putAll, Act.put, List.setIfInBounds_toArray, List.set_cons_zero, List.set_cons_succ]; rfl)) (hJ22 (v187) _ ⟨(by (with_reducible repeat (first | apply Kd.R_alloc | apply Kd.R_drewN | apply Kd.R_drew)); exact Kd.R_mono HO160.out (fun _ hk => ⟨hk.1.1.1, ⟨hk.1.1.2, ⟨hk.1.2, hk.2⟩⟩⟩)), (by (with_reducible repeat (first | apply Kd.R_alloc | apply Kd.R_drewN | apply Kd.R_drew)); exact Kd.R_mono HO166.out (fun _ hk => ⟨hk.1.1.1, ⟨hk.1.1.2, ⟨hk.1.2, hk.2⟩⟩⟩)), (by (with_reducible repeat (first | apply Kd.R_alloc | apply Kd.R_drewN | apply Kd.R_drew)); exact Kd.R_mono HO172.out (fun _ hk => ⟨hk.1.1.1, ⟨hk.1.1.2, ⟨hk.1.2, hk.2⟩⟩⟩)), (by (with_reducible repeat (first | apply Kd.R_alloc | apply Kd.R_drewN | apply Kd.R_drew)); exact Kd.R_mono HO175.out (fun _ hk => ⟨hk.1.1, ⟨hk.1.2.1, ⟨hk.1.2.2, hk.2⟩⟩⟩)), (by (with_reducible repeat (first | apply Kd.R_alloc | apply Kd.R_drewN | apply Kd.R_drew)); exact Kd.R_mono HO178.out (fun _ hk => ⟨hk.1.1.1.2, ⟨hk.1.1.2, ⟨hk.1.2, hk.2⟩⟩⟩)), (by (with_reducible repeat (first | apply Kd.R_alloc | apply Kd.R_drewN | apply Kd.R_drew)); exact Kd.R_mono HO185.out (fun _ hk => hk.2)), (by (with_reducible repeat (first | apply Kd.R_alloc | apply Kd.R_drewN | apply Kd.R_drew)); exact Kd.R_mono HO188.out (fun _ hk => hk.2)), (by repeat (first | (with_reducible first | exact HB.out | apply below_alloc | apply pw_below_drewN | apply below_drew1) | exact HB.out))⟩)
                                                  · skip
                                                    rintro v187 w49 ⟨h0_, h1_, h2_, h3_, h4_, h5_, h6_, h7_⟩
                                                    have n0_ : Aside0 (Kd.R (Kd.int .i64) 3 w49 w.heap.size (fun k_ => some k_ ≠ (.slice Ao35 t164.length co35 : Value).ownBlock ∧ some k_ ≠ (.slice Ao38 t170.length co38 : Value).ownBlock ∧ some k_ ≠ (.slice Ao40 y173.length co40 : Value).ownBlock ∧ some k_ ≠ (.slice Ao43 t176.length co43 : Value).ownBlock) (.slice Ao39 y158.length co39) y158) := ⟨h0_⟩
                                                    have n1_ : Aside0 (Kd.R (Kd.int .i64) 3 w49 w.heap.size (fun k_ => some k_ ≠ (.slice Ao39 y158.length co39 : Value).ownBlock ∧ some k_ ≠ (.slice Ao38 t170.length co38 : Value).ownBlock ∧ some k_ ≠ (.slice Ao40 y173.length co40 : Value).ownBlock ∧ some k_ ≠ (.slice Ao43 t176.length co43 : Value).ownBlock) (.slice Ao35 t164.length co35) t164) := ⟨h1_⟩
                                                    have n2_ : Aside0 (Kd.R (Kd.int .i64) 3 w49 w.heap.size (fun k_ => some k_ ≠ (.slice Ao39 y158.length co39 : Value).ownBlock ∧ some k_ ≠ (.slice Ao35 t164.length co35 : Value).ownBlock ∧ some k_ ≠ (.slice Ao40 y173.length co40 : Value).ownBlock ∧ some k_ ≠ (.slice Ao43 t176.length co43 : Value).ownBlock) (.slice Ao38 t170.length co38) t170) := ⟨h2_⟩
                                                    have n3_ : Aside0 (Kd.R (Kd.int .i64) 3 w49 w.heap.size (fun k_ => some k_ ≠ (.slice Ao39 y158.length co39 : Value).ownBlock ∧ some k_ ≠ (.slice Ao35 t164.length co35 : Value).ownBlock ∧ some k_ ≠ (.slice Ao38 t170.length co38 : Value).ownBlock ∧ some k_ ≠ (.slice Ao43 t176.length co43 : Value).ownBlock) (.slice Ao40 y173.length co40) y173) := ⟨h3_⟩
                                                    have n4_ : Aside0 (Kd.R (Kd.int .i64) 3 w49 w.heap.size (fun k_ => some k_ ≠ (.slice Ao39 y158.length co39 : Value).ownBlock ∧ some k_ ≠ (.slice Ao35 t164.length co35 : Value).ownBlock ∧ some k_ ≠ (.slice Ao38 t170.length co38 : Value).ownBlock ∧ some k_ ≠ (.slice Ao40 y173.length co40 : Value).ownBlock) (.slice Ao43 t176.length co43) t176) := ⟨h4_⟩
                                                    have n5_ : Aside0 (Kd.R (Kd.int .u8) 5 w49 w.heap.size (fun k_ => some k_ ≠ (v187 : Value).ownBlock) v184 t183) := ⟨h5_⟩
                                                    have n6_ : Aside0 (Kd.R (Kd.int .u8) 5 w49 w.heap.size (fun k_ => some k_ ≠ (v184 : Value).ownBlock) v187 t186) := ⟨h6_⟩
                                                    have n7_ : Aside0 (Below w.heap.size w w49) := ⟨h7_⟩
                                                    clear HO160
                                                    clear HO166
                                                    clear HO172
                                                    clear HO175
                                                    clear HB
                                                    clear h0_ h1_ h2_ h3_ h4_ h5_ h6_ h7_
                                                    have HO160 := n0_
                                                    have HO166 := n1_
                                                    have HO172 := n2_
                                                    have HO175 := n3_
                                                    have HO178 := n4_
                                                    have HO185 := n5_
                                                    have HO188 := n6_
                                                    have HB := n7_
                                                    clear n0_ n1_ n2_ n3_ n4_ n5_ n6_ n7_
                                                    have hHeld := trivial
                                                    refine norm_ (a' := ?_) ?_ ?_
                                                    rotate_left
                                                    · simp only [putAll, Act.put, List.setIfInBounds_toArray, List.set_cons_zero, List.set_cons_succ]
                                                      rfl
                                                    refine three_ (i := 20) (j := 23) (k := 25) (Ni := some 52) (Nj := some 55) (Nk := some 57) #[true, true, true, true, true, true, true, true, true, true, true, true, true, true, true, true, true, true, true, true, true, true, true, false, true, false, false, false, false, false, false] #[true, true, true, true, true, true, true, true, true, true, true, true, true, true, true, true, true, true, true, true, false, true, true, true, true, false, false, false, false, false, false] #[true, true, true, true, true, true, true, true, true, true, true, true, true, true, true, true, true, true, true, true, false, true, true, false, true, true, false, false, false, false, false] rfl rfl rfl rfl rfl rfl (three_of HT_.out (by kernel_rfl)) (by decide) (by decide) (by decide) (fun K hK => ?_) (fun K hK => ?_) (fun K hK => ?_)
                                                    · skip
                                                      have hcv50 := own_string (P := Tryd.prog) Tryd.underlying27 Tryd.underlying5 Tryd.underlying9 (Kd.own_of_R HO185.out)
                                                      refine value_ (w1 := ?_) (v := ?_) (by rfl) rfl ?_ ?_
                                                      rotate_left 2
                                                      · go_simp
                                                        constructor
                                                        · rfl
                                                        · rfl
                                                      clear hcv50
                                                      refine hK.out _ _ trivial (fun hHeld => ?_)
                                                      clear hK K
                                                      refine norm_ (a' := ?_) ?_ ?_
                                                      rotate_left
                                                      · show Act.put _ (some 52) _ = _
                                                        simp only [Act.put, List.setIfInBounds_toArray, List.set_cons_zero, List.set_cons_succ, i64_w, i32_w]
                                                        rfl
                                                      exact norm_ (by first | (simp only [putAll, Act.put, List.setIfInBounds_toArray, List.set_cons_zero, List.set_cons_succ]; done) | (simp only [putAll, Act.put, List.setIfInBounds_toArray, List.set_cons_zero, List.set_cons_succ]; rfl)) (hJ20_22 (v187) _ ⟨(by (with_reducible repeat (first | apply Kd.R_alloc | apply Kd.R_drewN | apply Kd.R_drew)); exact HO160.out), (by (with_reducible repeat (first | apply Kd.R_alloc | apply Kd.R_drewN | apply Kd.R_drew)); exact HO166.out), (by (with_reducible repeat (first | apply Kd.R_alloc | apply Kd.R_drewN | apply Kd.R_drew)); exact HO172.out), (by (with_reducible repeat (first | apply Kd.R_alloc | apply Kd.R_drewN | apply Kd.R_drew)); exact HO175.out), (by (with_reducible repeat (first | apply Kd.R_alloc | apply Kd.R_drewN | apply Kd.R_drew)); exact HO178.out), (by (with_reducible repeat (first | apply Kd.R_alloc | apply Kd.R_drewN | apply Kd.R_drew)); exact HO185.out), (by (with_reducible repeat (first | apply Kd.R_alloc | apply Kd.R_drewN | apply Kd.R_drew)); exact HO188.out), (by repeat (first | (with_reducible first | exact HB.out | apply below_alloc | apply pw_below_drewN | apply below_drew1) | exact HB.out))⟩)
                                                    · skip
                                                      have hcv50 := own_string (P := Tryd.prog) Tryd.underlying27 Tryd.underlying5 Tryd.underlying9 (Kd.own_of_R HO188.out)
                                                      refine value_ (w1 := ?_) (v := ?_) (by rfl) rfl ?_ ?_
                                                      rotate_left 2
                                                      · go_simp
                                                        constructor
                                                        · rfl
                                                        · rfl
                                                      clear hcv50
                                                      refine hK.out _ _ trivial (fun hHeld => ?_)
                                                      clear hK K
                                                      refine norm_ (a' := ?_) ?_ ?_
                                                      rotate_left
                                                      · show Act.put _ (some 55) _ = _
                                                        simp only [Act.put, List.setIfInBounds_toArray, List.set_cons_zero, List.set_cons_succ, i64_w, i32_w]
                                                        rfl
                                                      exact norm_ (by first | (simp only [putAll, Act.put, List.setIfInBounds_toArray, List.set_cons_zero, List.set_cons_succ]; done) | (simp only [putAll, Act.put, List.setIfInBounds_toArray, List.set_cons_zero, List.set_cons_succ]; rfl)) (hJ22_23 (v187) _ ⟨(by (with_reducible repeat (first | apply Kd.R_alloc | apply Kd.R_drewN | apply Kd.R_drew)); exact HO160.out), (by (with_reducible repeat (first | apply Kd.R_alloc | apply Kd.R_drewN | apply Kd.R_drew)); exact HO166.out), (by (with_reducible repeat (first | apply Kd.R_alloc | apply Kd.R_drewN | apply Kd.R_drew)); exact HO172.out), (by (with_reducible repeat (first | apply Kd.R_alloc | apply Kd.R_drewN | apply Kd.R_drew)); exact HO175.out), (by (with_reducible repeat (first | apply Kd.R_alloc | apply Kd.R_drewN | apply Kd.R_drew)); exact HO178.out), (by (with_reducible repeat (first | apply Kd.R_alloc | apply Kd.R_drewN | apply Kd.R_drew)); exact HO185.out), (by (with_reducible repeat (first | apply Kd.R_alloc | apply Kd.R_drewN | apply Kd.R_drew)); exact HO188.out), (by repeat (first | (with_reducible first | exact HB.out | apply below_alloc | apply pw_below_drewN | apply below_drew1) | exact HB.out))⟩)
                                                    · skip
                                                      refine goes_ Tryd.func13 (by kernel_rfl) rfl #[.slice A1 l1.length c1] (by rfl) rfl rfl (by (try simp only [List.map_toArray, List.map_cons, List.map_nil]); first | done | rfl | (simp only [List.length_drop, List.length_take]; rfl)) ?_
                                                      with_reducible refine (utf_Bytes.calls kj3 _ _ l1 t189 _ ?side1 ?side2 A25.out).mono ?_
                                                      (case side1 => repeat (first | exact (Kd.C_below HR1.out HB.out) | (with_reducible refine Kd.C_alloc ?_ _) | (with_reducible refine Kd.C_drewN ?_ _) | (with_reducible refine Kd.C_drew ?_)))
                                                      (case side2 => exact HC1.out)
                                                      rintro e w50 ⟨v190, rfl, ho0, hb⟩
                                                      refine ⟨_, rfl, ?_⟩
                                                      have n0_ := Aside0.mk (Kd.R_below (by (with_reducible repeat (first | apply Kd.R_alloc | apply Kd.R_drewN | apply Kd.R_drew)); exact HO160.out) hb)
                                                      have n1_ := Aside0.mk (Kd.R_below (by (with_reducible repeat (first | apply Kd.R_alloc | apply Kd.R_drewN | apply Kd.R_drew)); exact HO166.out) hb)
                                                      have n2_ := Aside0.mk (Kd.R_below (by (with_reducible repeat (first | apply Kd.R_alloc | apply Kd.R_drewN | apply Kd.R_drew)); exact HO172.out) hb)
                                                      have n3_ := Aside0.mk (Kd.R_below (by (with_reducible repeat (first | apply Kd.R_alloc | apply Kd.R_drewN | apply Kd.R_drew)); exact HO175.out) hb)
                                                      have n4_ := Aside0.mk (Kd.R_below (by (with_reducible repeat (first | apply Kd.R_alloc | apply Kd.R_drewN | apply Kd.R_drew)); exact HO178.out) hb)
                                                      have n5_ := Aside0.mk (Kd.R_elder' (by (with_reducible repeat (first | apply Kd.R_alloc | apply Kd.R_drewN | apply Kd.R_drew)); exact HO185.out) (Kd.R_base ho0) hb)
                                                      have n6_ := Aside0.mk (Kd.R_elder' (by (with_reducible repeat (first | apply Kd.R_alloc | apply Kd.R_drewN | apply Kd.R_drew)); exact HO188.out) (Kd.R_base ho0) hb)
                                                      have n7_ := Aside0.mk (Kd.R_lower (Kd.R_new' (Kd.R_new' ho0 (Kd.R_lt (by (with_reducible repeat (first | apply Kd.R_alloc | apply Kd.R_drewN | apply Kd.R_drew)); exact HO185.out))) (Kd.R_lt (by (with_reducible repeat (first | apply Kd.R_alloc | apply Kd.R_drewN | apply Kd.R_drew)); exact HO188.out))) (below_size (by repeat (first | (with_reducible first | exact HB.out | apply below_alloc | apply pw_below_drewN | apply below_drew1) | exact HB.out))))
                                                      have n8_ := Aside0.mk (below_step (by repeat (first | (with_reducible first | exact HB.out | apply below_alloc | apply pw_below_drewN | apply below_drew1) | exact HB.out)) hb)
                                                      clear HO160
                                                      clear HO166
                                                      clear HO172
                                                      clear HO175
                                                      clear HO178
                                                      clear HO185
                                                      clear HO188
                                                      clear HB
                                                      have HO160 := n0_
                                                      have HO166 := n1_
                                                      have HO172 := n2_
                                                      have HO175 := n3_
                                                      have HO178 := n4_
                                                      have HO185 := n5_
                                                      have HO188 := n6_
                                                      have HO191 := n7_
                                                      have HB := n8_
                                                      clear n0_ n1_ n2_ n3_ n4_ n5_ n6_ n7_ n8_
                                                      (try clear hb)
                                                      (try clear hb2)
                                                      (try clear hk)
                                                      (try clear hi)
                                                      (try clear ho0)
                                                      refine hK.out _ _ trivial (fun hHeld => ?_)
                                                      clear hK K
                                                      refine norm_ (a' := ?_) ?_ ?_
                                                      rotate_left
                                                      · show Act.put _ (some 57) _ = _
                                                        simp only [Act.put, List.setIfInBounds_toArray, List.set_cons_zero, List.set_cons_succ, i64_w, i32_w]
                                                        rfl
                                                      exact norm_ (by first | (simp only [putAll, Act.put, List.setIfInBounds_toArray, List.set_cons_zero, List.set_cons_succ]; done) | (simp only [putAll, Act.put, List.setIfInBounds_toArray, List.set_cons_zero, List.set_cons_succ]; rfl)) (hJ22_25 (v187, v190) _ ⟨(by (with_reducible repeat (first | apply Kd.R_alloc | apply Kd.R_drewN | apply Kd.R_drew)); exact HO160.out), (by (with_reducible repeat (first | apply Kd.R_alloc | apply Kd.R_drewN | apply Kd.R_drew)); exact HO166.out), (by (with_reducible repeat (first | apply Kd.R_alloc | apply Kd.R_drewN | apply Kd.R_drew)); exact HO172.out), (by (with_reducible repeat (first | apply Kd.R_alloc | apply Kd.R_drewN | apply Kd.R_drew)); exact HO175.out), (by (with_reducible repeat (first | apply Kd.R_alloc | apply Kd.R_drewN | apply Kd.R_drew)); exact HO178.out), (by (with_reducible repeat (first | apply Kd.R_alloc | apply Kd.R_drewN | apply Kd.R_drew)); exact HO185.out), (by (with_reducible repeat (first | apply Kd.R_alloc | apply Kd.R_drewN | apply Kd.R_drew)); exact HO188.out), (by (with_reducible repeat (first | apply Kd.R_alloc | apply Kd.R_drewN | apply Kd.R_drew)); exact Kd.R_mono HO191.out (fun _ hk => ⟨hk.1.2, hk.2⟩)), (by repeat (first | (with_reducible first | exact HB.out | apply below_alloc | apply pw_below_drewN | apply below_drew1) | exact HB.out))⟩)
                                                · skip
                                                  rintro _ w49 ⟨h0_, h1_, h2_, h3_, h4_, h5_, h6_⟩
                                                  have n0_ : Aside0 (Kd.R (Kd.int .i64) 3 w49 w.heap.size (fun k_ => some k_ ≠ (.slice Ao35 t164.length co35 : Value).ownBlock ∧ some k_ ≠ (.slice Ao38 t170.length co38 : Value).ownBlock ∧ some k_ ≠ (.slice Ao40 y173.length co40 : Value).ownBlock ∧ some k_ ≠ (.slice Ao43 t176.length co43 : Value).ownBlock) (.slice Ao39 y158.length co39) y158) := ⟨h0_⟩
                                                  have n1_ : Aside0 (Kd.R (Kd.int .i64) 3 w49 w.heap.size (fun k_ => some k_ ≠ (.slice Ao39 y158.length co39 : Value).ownBlock ∧ some k_ ≠ (.slice Ao38 t170.length co38 : Value).ownBlock ∧ some k_ ≠ (.slice Ao40 y173.length co40 : Value).ownBlock ∧ some k_ ≠ (.slice Ao43 t176.length co43 : Value).ownBlock) (.slice Ao35 t164.length co35) t164) := ⟨h1_⟩
                                                  have n2_ : Aside0 (Kd.R (Kd.int .i64) 3 w49 w.heap.size (fun k_ => some k_ ≠ (.slice Ao39 y158.length co39 : Value).ownBlock ∧ some k_ ≠ (.slice Ao35 t164.length co35 : Value).ownBlock ∧ some k_ ≠ (.slice Ao40 y173.length co40 : Value).ownBlock ∧ some k_ ≠ (.slice Ao43 t176.length co43 : Value).ownBlock) (.slice Ao38 t170.length co38) t170) := ⟨h2_⟩
                                                  have n3_ : Aside0 (Kd.R (Kd.int .i64) 3 w49 w.heap.size (fun k_ => some k_ ≠ (.slice Ao39 y158.length co39 : Value).ownBlock ∧ some k_ ≠ (.slice Ao35 t164.length co35 : Value).ownBlock ∧ some k_ ≠ (.slice Ao38 t170.length co38 : Value).ownBlock ∧ some k_ ≠ (.slice Ao43 t176.length co43 : Value).ownBlock) (.slice Ao40 y173.length co40) y173) := ⟨h3_⟩
                                                  have n4_ : Aside0 (Kd.R (Kd.int .i64) 3 w49 w.heap.size (fun k_ => some k_ ≠ (.slice Ao39 y158.length co39 : Value).ownBlock ∧ some k_ ≠ (.slice Ao35 t164.length co35 : Value).ownBlock ∧ some k_ ≠ (.slice Ao38 t170.length co38 : Value).ownBlock ∧ some k_ ≠ (.slice Ao40 y173.length co40 : Value).ownBlock) (.slice Ao43 t176.length co43) t176) := ⟨h4_⟩
                                                  have n5_ : Aside0 (Kd.R (Kd.int .u8) 5 w49 w.heap.size (fun _ => True) v184 t183) := ⟨h5_⟩
                                                  have n6_ : Aside0 (Below w.heap.size w w49) := ⟨h6_⟩
                                                  clear HO160
                                                  clear HO166
                                                  clear HO172
                                                  clear HO175
                                                  clear HB
                                                  clear h0_ h1_ h2_ h3_ h4_ h5_ h6_
                                                  have HO160 := n0_
                                                  have HO166 := n1_
                                                  have HO172 := n2_
                                                  have HO175 := n3_
                                                  have HO178 := n4_
                                                  have HO185 := n5_
                                                  have HB := n6_
                                                  clear n0_ n1_ n2_ n3_ n4_ n5_ n6_
                                                  have hHeld := trivial
                                                  refine norm_ (a' := ?_) ?_ ?_
                                                  rotate_left
                                                  · simp only [putAll, Act.put, List.setIfInBounds_toArray, List.set_cons_zero, List.set_cons_succ]
                                                    rfl
                                                  refine one_ (i := 22) (N := some 54) #[true, true, true, true, true, true, true, true, true, true, true, true, true, true, true, true, true, true, true, true, true, true, true, false, true, false, false, false, false, false, false] rfl rfl (one_of HT_.out (by kernel_rfl)) (by decide) (fun K hK => ?_)
                                                  refine goes_ Tryd.func13 (by kernel_rfl) rfl #[.slice A0 l0.length c0] (by rfl) rfl rfl (by (try simp only [List.map_toArray, List.map_cons, List.map_nil]); first | done | rfl | (simp only [List.length_drop, List.length_take]; rfl)) ?_
                                                  with_reducible refine (utf_Bytes.calls kj3 _ _ l0 t186 _ ?side1 ?side2 A24.out).mono ?_
                                                  (case side1 => repeat (first | exact (Kd.C_below HR0.out HB.out) | (with_reducible refine Kd.C_alloc ?_ _) | (with_reducible refine Kd.C_drewN ?_ _) | (with_reducible refine Kd.C_drew ?_)))
                                                  (case side2 => exact HC0.out)
                                                  rintro e w50 ⟨v187, rfl, ho0, hb⟩
                                                  refine ⟨_, rfl, ?_⟩
                                                  have n0_ := Aside0.mk (Kd.R_below (by (with_reducible repeat (first | apply Kd.R_alloc | apply Kd.R_drewN | apply Kd.R_drew)); exact HO160.out) hb)
                                                  have n1_ := Aside0.mk (Kd.R_below (by (with_reducible repeat (first | apply Kd.R_alloc | apply Kd.R_drewN | apply Kd.R_drew)); exact HO166.out) hb)
                                                  have n2_ := Aside0.mk (Kd.R_below (by (with_reducible repeat (first | apply Kd.R_alloc | apply Kd.R_drewN | apply Kd.R_drew)); exact HO172.out) hb)
                                                  have n3_ := Aside0.mk (Kd.R_below (by (with_reducible repeat (first | apply Kd.R_alloc | apply Kd.R_drewN | apply Kd.R_drew)); exact HO175.out) hb)
                                                  have n4_ := Aside0.mk (Kd.R_below (by (with_reducible repeat (first | apply Kd.R_alloc | apply Kd.R_drewN | apply Kd.R_drew)); exact HO178.out) hb)
                                                  have n5_ := Aside0.mk (Kd.R_elder' (by (with_reducible repeat (first | apply Kd.R_alloc | apply Kd.R_drewN | apply Kd.R_drew)); exact HO185.out) (Kd.R_base ho0) hb)
                                                  have n6_ := Aside0.mk (Kd.R_lower (Kd.R_new' ho0 (Kd.R_lt (by (with_reducible repeat (first | apply Kd.R_alloc | apply Kd.R_drewN | apply Kd.R_drew)); exact HO185.out))) (below_size (by repeat (first | (with_reducible first | exact HB.out | apply below_alloc | apply pw_below_drewN | apply below_drew1) | exact HB.out))))
                                                  have n7_ := Aside0.mk (below_step (by repeat (first | (with_reducible first | exact HB.out | apply below_alloc | apply pw_below_drewN | apply below_drew1) | exact HB.out)) hb)
                                                  clear HO160
                                                  clear HO166
                                                  clear HO172
                                                  clear HO175
                                                  clear HO178
                                                  clear HO185
                                                  clear HB
                                                  have HO160 := n0_
                                                  have HO166 := n1_
                                                  have HO172 := n2_
                                                  have HO175 := n3_
                                                  have HO178 := n4_
                                                  have HO185 := n5_
                                                  have HO188 := n6_
                                                  have HB := n7_
                                                  clear n0_ n1_ n2_ n3_ n4_ n5_ n6_ n7_
                                                  (try clear hb)
                                                  (try clear hb2)
                                                  (try clear hk)
                                                  (try clear hi)
                                                  (try clear ho0)
                                                  refine hK.out _ _ trivial (fun hHeld => ?_)
                                                  clear hK K
                                                  refine norm_ (a' := ?_) ?_ ?_
                                                  rotate_left
                                                  · show Act.put _ (some 54) _ = _
                                                    simp only [Act.put, List.setIfInBounds_toArray, List.set_cons_zero, List.set_cons_succ, i64_w, i32_w]
                                                    rfl
                                                  exact norm_ (by first | (simp only [putAll, Act.put, List.setIfInBounds_toArray, List.set_cons_zero, List.set_cons_succ]; done) | (simp only [putAll, Act.put, List.setIfInBounds_toArray, List.set_cons_zero, List.set_cons_succ]; rfl)) (hJ20_22 (v187) _ ⟨(by (with_reducible repeat (first | apply Kd.R_alloc | apply Kd.R_drewN | apply Kd.R_drew)); exact HO160.out), (by (with_reducible repeat (first | apply Kd.R_alloc | apply Kd.R_drewN | apply Kd.R_drew)); exact HO166.out), (by (with_reducible repeat (first | apply Kd.R_alloc | apply Kd.R_drewN | apply Kd.R_drew)); exact HO172.out), (by (with_reducible repeat (first | apply Kd.R_alloc | apply Kd.R_drewN | apply Kd.R_drew)); exact HO175.out), (by (with_reducible repeat (first | apply Kd.R_alloc | apply Kd.R_drewN | apply Kd.R_drew)); exact HO178.out), (by (with_reducible repeat (first | apply Kd.R_alloc | apply Kd.R_drewN | apply Kd.R_drew)); exact Kd.R_mono HO185.out (fun _ hk => hk.2)), (by (with_reducible repeat (first | apply Kd.R_alloc | apply Kd.R_drewN | apply Kd.R_drew)); exact Kd.R_mono HO188.out (fun _ hk => hk.2)), (by repeat (first | (with_reducible first | exact HB.out | apply below_alloc | apply pw_below_drewN | apply below_drew1) | exact HB.out))⟩)
                                              · skip
                                                rintro ⟨v187, v190⟩ w50 ⟨h0_, h1_, h2_, h3_, h4_, h5_, h6_, h7_, h8_⟩
                                                have n0_ : Aside0 (Kd.R (Kd.int .i64) 3 w50 w.heap.size (fun k_ => some k_ ≠ (.slice Ao35 t164.length co35 : Value).ownBlock ∧ some k_ ≠ (.slice Ao38 t170.length co38 : Value).ownBlock ∧ some k_ ≠ (.slice Ao40 y173.length co40 : Value).ownBlock ∧ some k_ ≠ (.slice Ao43 t176.length co43 : Value).ownBlock) (.slice Ao39 y158.length co39) y158) := ⟨h0_⟩
                                                have n1_ : Aside0 (Kd.R (Kd.int .i64) 3 w50 w.heap.size (fun k_ => some k_ ≠ (.slice Ao39 y158.length co39 : Value).ownBlock ∧ some k_ ≠ (.slice Ao38 t170.length co38 : Value).ownBlock ∧ some k_ ≠ (.slice Ao40 y173.length co40 : Value).ownBlock ∧ some k_ ≠ (.slice Ao43 t176.length co43 : Value).ownBlock) (.slice Ao35 t164.length co35) t164) := ⟨h1_⟩
                                                have n2_ : Aside0 (Kd.R (Kd.int .i64) 3 w50 w.heap.size (fun k_ => some k_ ≠ (.slice Ao39 y158.length co39 : Value).ownBlock ∧ some k_ ≠ (.slice Ao35 t164.length co35 : Value).ownBlock ∧ some k_ ≠ (.slice Ao40 y173.length co40 : Value).ownBlock ∧ some k_ ≠ (.slice Ao43 t176.length co43 : Value).ownBlock) (.slice Ao38 t170.length co38) t170) := ⟨h2_⟩
                                                have n3_ : Aside0 (Kd.R (Kd.int .i64) 3 w50 w.heap.size (fun k_ => some k_ ≠ (.slice Ao39 y158.length co39 : Value).ownBlock ∧ some k_ ≠ (.slice Ao35 t164.length co35 : Value).ownBlock ∧ some k_ ≠ (.slice Ao38 t170.length co38 : Value).ownBlock ∧ some k_ ≠ (.slice Ao43 t176.length co43 : Value).ownBlock) (.slice Ao40 y173.length co40) y173) := ⟨h3_⟩
                                                have n4_ : Aside0 (Kd.R (Kd.int .i64) 3 w50 w.heap.size (fun k_ => some k_ ≠ (.slice Ao39 y158.length co39 : Value).ownBlock ∧ some k_ ≠ (.slice Ao35 t164.length co35 : Value).ownBlock ∧ some k_ ≠ (.slice Ao38 t170.length co38 : Value).ownBlock ∧ some k_ ≠ (.slice Ao40 y173.length co40 : Value).ownBlock) (.slice Ao43 t176.length co43) t176) := ⟨h4_⟩
                                                have n5_ : Aside0 (Kd.R (Kd.int .u8) 5 w50 w.heap.size (fun k_ => some k_ ≠ (v187 : Value).ownBlock ∧ some k_ ≠ (v190 : Value).ownBlock) v184 t183) := ⟨h5_⟩
                                                have n6_ : Aside0 (Kd.R (Kd.int .u8) 5 w50 w.heap.size (fun k_ => some k_ ≠ (v184 : Value).ownBlock ∧ some k_ ≠ (v190 : Value).ownBlock) v187 t186) := ⟨h6_⟩
                                                have n7_ : Aside0 (Kd.R (Kd.int .u8) 5 w50 w.heap.size (fun k_ => some k_ ≠ (v184 : Value).ownBlock ∧ some k_ ≠ (v187 : Value).ownBlock) v190 t189) := ⟨h7_⟩
                                                have n8_ : Aside0 (Below w.heap.size w w50) := ⟨h8_⟩
                                                clear HO160
                                                clear HO166
                                                clear HO172
                                                clear HO175
                                                clear HB
                                                clear h0_ h1_ h2_ h3_ h4_ h5_ h6_ h7_ h8_
                                                have HO160 := n0_
                                                have HO166 := n1_
                                                have HO172 := n2_
                                                have HO175 := n3_
                                                have HO178 := n4_
                                                have HO185 := n5_
                                                have HO188 := n6_
                                                have HO191 := n7_
                                                have HB := n8_
                                                clear n0_ n1_ n2_ n3_ n4_ n5_ n6_ n7_ n8_
                                                have hHeld := trivial
                                                refine norm_ (a' := ?_) ?_ ?_
                                                rotate_left
                                                · simp only [putAll, Act.put, List.setIfInBounds_toArray, List.set_cons_zero, List.set_cons_succ]
                                                  rfl
                                                refine three_ (i := 20) (j := 23) (k := 26) (Ni := some 52) (Nj := some 55) (Nk := some 58) #[true, true, true, true, true, true, true, true, true, true, true, true, true, true, true, true, true, true, true, true, true, true, true, false, true, true, false, false, false, false, false] #[true, true, true, true, true, true, true, true, true, true, true, true, true, true, true, true, true, true, true, true, false, true, true, true, true, true, false, false, false, false, false] #[true, true, true, true, true, true, true, true, true, true, true, true, true, true, true, true, true, true, true, true, false, true, true, false, true, true, true, false, false, false, false] rfl rfl rfl rfl rfl rfl (three_of HT_.out (by kernel_rfl)) (by decide) (by decide) (by decide) (fun K hK => ?_) (fun K hK => ?_) (fun K hK => ?_)
                                                · skip
                                                  have hcv51 := own_string (P := Tryd.prog) Tryd.underlying27 Tryd.underlying5 Tryd.underlying9 (Kd.own_of_R HO185.out)
                                                  refine value_ (w1 := ?_) (v := ?_) (by rfl) rfl ?_ ?_
                                                  rotate_left 2
                                                  · go_simp
                                                    constructor
                                                    · rfl
                                                    · rfl
                                                  clear hcv51
                                                  refine hK.out _ _ trivial (fun hHeld => ?_)
                                                  clear hK K
                                                  refine norm_ (a' := ?_) ?_ ?_
                                                  rotate_left
                                                  · show Act.put _ (some 52) _ = _
                                                    simp only [Act.put, List.setIfInBounds_toArray, List.set_cons_zero, List.set_cons_succ, i64_w, i32_w]
                                                    rfl
                                                  exact norm_ (by first | (simp only [putAll, Act.put, List.setIfInBounds_toArray, List.set_cons_zero, List.set_cons_succ]; done) | (simp only [putAll, Act.put, List.setIfInBounds_toArray, List.set_cons_zero, List.set_cons_succ]; rfl)) (hJ20_22_25 (v187, v190) _ ⟨(by (with_reducible repeat (first | apply Kd.R_alloc | apply Kd.R_drewN | apply Kd.R_drew)); exact HO160.out), (by (with_reducible repeat (first | apply Kd.R_alloc | apply Kd.R_drewN | apply Kd.R_drew)); exact HO166.out), (by (with_reducible repeat (first | apply Kd.R_alloc | apply Kd.R_drewN | apply Kd.R_drew)); exact HO172.out), (by (with_reducible repeat (first | apply Kd.R_alloc | apply Kd.R_drewN | apply Kd.R_drew)); exact HO175.out), (by (with_reducible repeat (first | apply Kd.R_alloc | apply Kd.R_drewN | apply Kd.R_drew)); exact HO178.out), (by (with_reducible repeat (first | apply Kd.R_alloc | apply Kd.R_drewN | apply Kd.R_drew)); exact HO185.out), (by (with_reducible repeat (first | apply Kd.R_alloc | apply Kd.R_drewN | apply Kd.R_drew)); exact HO188.out), (by (with_reducible repeat (first | apply Kd.R_alloc | apply Kd.R_drewN | apply Kd.R_drew)); exact HO191.out), (by repeat (first | (with_reducible first | exact HB.out | apply below_alloc | apply pw_below_drewN | apply below_drew1) | exact HB.out))⟩)
                                                · skip
                                                  have hcv51 := own_string (P := Tryd.prog) Tryd.underlying27 Tryd.underlying5 Tryd.underlying9 (Kd.own_of_R HO188.out)
                                                  refine value_ (w1 := ?_) (v := ?_) (by rfl) rfl ?_ ?_
                                                  rotate_left 2
                                                  · go_simp
                                                    constructor
                                                    · rfl
                                                    · rfl
                                                  clear hcv51
                                                  refine hK.out _ _ trivial (fun hHeld => ?_)
                                                  clear hK K
                                                  refine norm_ (a' := ?_) ?_ ?_
                                                  rotate_left
                                                  · show Act.put _ (some 55) _ = _
                                                    simp only [Act.put, List.setIfInBounds_toArray, List.set_cons_zero, List.set_cons_succ, i64_w, i32_w]
                                                    rfl
                                                  exact norm_ (by first | (simp only [putAll, Act.put, List.setIfInBounds_toArray, List.set_cons_zero, List.set_cons_succ]; done) | (simp only [putAll, Act.put, List.setIfInBounds_toArray, List.set_cons_zero, List.set_cons_succ]; rfl)) (hJ22_23_25 (v187, v190) _ ⟨(by (with_reducible repeat (first | apply Kd.R_alloc | apply Kd.R_drewN | apply Kd.R_drew)); exact HO160.out), (by (with_reducible repeat (first | apply Kd.R_alloc | apply Kd.R_drewN | apply Kd.R_drew)); exact HO166.out), (by (with_reducible repeat (first | apply Kd.R_alloc | apply Kd.R_drewN | apply Kd.R_drew)); exact HO172.out), (by (with_reducible repeat (first | apply Kd.R_alloc | apply Kd.R_drewN | apply Kd.R_drew)); exact HO175.out), (by (with_reducible repeat (first | apply Kd.R_alloc | apply Kd.R_drewN | apply Kd.R_drew)); exact HO178.out), (by (with_reducible repeat (first | apply Kd.R_alloc | apply Kd.R_drewN | apply Kd.R_drew)); exact HO185.out), (by (with_reducible repeat (first | apply Kd.R_alloc | apply Kd.R_drewN | apply Kd.R_drew)); exact HO188.out), (by (with_reducible repeat (first | apply Kd.R_alloc | apply Kd.R_drewN | apply Kd.R_drew)); exact HO191.out), (by repeat (first | (with_reducible first | exact HB.out | apply below_alloc | apply pw_below_drewN | apply below_drew1) | exact HB.out))⟩)
                                                · skip
                                                  have hcv51 := own_string (P := Tryd.prog) Tryd.underlying27 Tryd.underlying5 Tryd.underlying9 (Kd.own_of_R HO191.out)
                                                  refine value_ (w1 := ?_) (v := ?_) (by rfl) rfl ?_ ?_
                                                  rotate_left 2
                                                  · go_simp
                                                    constructor
                                                    · rfl
                                                    · rfl
                                                  clear hcv51
                                                  refine hK.out _ _ trivial (fun hHeld => ?_)
                                                  clear hK K
                                                  refine norm_ (a' := ?_) ?_ ?_
                                                  rotate_left
                                                  · show Act.put _ (some 58) _ = _
                                                    simp only [Act.put, List.setIfInBounds_toArray, List.set_cons_zero, List.set_cons_succ, i64_w, i32_w]
                                                    rfl
                                                  exact norm_ (by first | (simp only [putAll, Act.put, List.setIfInBounds_toArray, List.set_cons_zero, List.set_cons_succ]; done) | (simp only [putAll, Act.put, List.setIfInBounds_toArray, List.set_cons_zero, List.set_cons_succ]; rfl)) (hJ22_25_26 (v187, v190) _ ⟨(by (with_reducible repeat (first | apply Kd.R_alloc | apply Kd.R_drewN | apply Kd.R_drew)); exact HO160.out), (by (with_reducible repeat (first | apply Kd.R_alloc | apply Kd.R_drewN | apply Kd.R_drew)); exact HO166.out), (by (with_reducible repeat (first | apply Kd.R_alloc | apply Kd.R_drewN | apply Kd.R_drew)); exact HO172.out), (by (with_reducible repeat (first | apply Kd.R_alloc | apply Kd.R_drewN | apply Kd.R_drew)); exact HO175.out), (by (with_reducible repeat (first | apply Kd.R_alloc | apply Kd.R_drewN | apply Kd.R_drew)); exact HO178.out), (by (with_reducible repeat (first | apply Kd.R_alloc | apply Kd.R_drewN | apply Kd.R_drew)); exact HO185.out), (by (with_reducible repeat (first | apply Kd.R_alloc | apply Kd.R_drewN | apply Kd.R_drew)); exact HO188.out), (by (with_reducible repeat (first | apply Kd.R_alloc | apply Kd.R_drewN | apply Kd.R_drew)); exact HO191.out), (by repeat (first | (with_reducible first | exact HB.out | apply below_alloc | apply pw_below_drewN | apply below_drew1) | exact HB.out))⟩)
                                            · skip
                                              rintro v187 w50 ⟨h0_, h1_, h2_, h3_, h4_, h5_, h6_, h7_⟩
                                              have n0_ : Aside0 (Kd.R (Kd.int .i64) 3 w50 w.heap.size (fun k_ => some k_ ≠ (.slice Ao35 t164.length co35 : Value).ownBlock ∧ some k_ ≠ (.slice Ao38 t170.length co38 : Value).ownBlock ∧ some k_ ≠ (.slice Ao40 y173.length co40 : Value).ownBlock ∧ some k_ ≠ (.slice Ao43 t176.length co43 : Value).ownBlock) (.slice Ao39 y158.length co39) y158) := ⟨h0_⟩
                                              have n1_ : Aside0 (Kd.R (Kd.int .i64) 3 w50 w.heap.size (fun k_ => some k_ ≠ (.slice Ao39 y158.length co39 : Value).ownBlock ∧ some k_ ≠ (.slice Ao38 t170.length co38 : Value).ownBlock ∧ some k_ ≠ (.slice Ao40 y173.length co40 : Value).ownBlock ∧ some k_ ≠ (.slice Ao43 t176.length co43 : Value).ownBlock) (.slice Ao35 t164.length co35) t164) := ⟨h1_⟩
                                              have n2_ : Aside0 (Kd.R (Kd.int .i64) 3 w50 w.heap.size (fun k_ => some k_ ≠ (.slice Ao39 y158.length co39 : Value).ownBlock ∧ some k_ ≠ (.slice Ao35 t164.length co35 : Value).ownBlock ∧ some k_ ≠ (.slice Ao40 y173.length co40 : Value).ownBlock ∧ some k_ ≠ (.slice Ao43 t176.length co43 : Value).ownBlock) (.slice Ao38 t170.length co38) t170) := ⟨h2_⟩
                                              have n3_ : Aside0 (Kd.R (Kd.int .i64) 3 w50 w.heap.size (fun k_ => some k_ ≠ (.slice Ao39 y158.length co39 : Value).ownBlock ∧ some k_ ≠ (.slice Ao35 t164.length co35 : Value).ownBlock ∧ some k_ ≠ (.slice Ao38 t170.length co38 : Value).ownBlock ∧ some k_ ≠ (.slice Ao43 t176.length co43 : Value).ownBlock) (.slice Ao40 y173.length co40) y173) := ⟨h3_⟩
                                              have n4_ : Aside0 (Kd.R (Kd.int .i64) 3 w50 w.heap.size (fun k_ => some k_ ≠ (.slice Ao39 y158.length co39 : Value).ownBlock ∧ some k_ ≠ (.slice Ao35 t164.length co35 : Value).ownBlock ∧ some k_ ≠ (.slice Ao38 t170.length co38 : Value).ownBlock ∧ some k_ ≠ (.slice Ao40 y173.length co40 : Value).ownBlock) (.slice Ao43 t176.length co43) t176) := ⟨h4_⟩
                                              have n5_ : Aside0 (Kd.R (Kd.int .u8) 5 w50 w.heap.size (fun k_ => some k_ ≠ (v187 : Value).ownBlock) v184 t183) := ⟨h5_⟩
                                              have n6_ : Aside0 (Kd.R (Kd.int .u8) 5 w50 w.heap.size (fun k_ => some k_ ≠ (v184 : Value).ownBlock) v187 t186) := ⟨h6_⟩
                                              have n7_ : Aside0 (Below w.heap.size w w50) := ⟨h7_⟩
                                              clear HO160
                                              clear HO166
                                              clear HO172
                                              clear HO175
                                              clear HB
                                              clear h0_ h1_ h2_ h3_ h4_ h5_ h6_ h7_
                                              have HO160 := n0_
                                              have HO166 := n1_
                                              have HO172 := n2_
                                              have HO175 := n3_
                                              have HO178 := n4_
                                              have HO185 := n5_
                                              have HO188 := n6_
                                              have HB := n7_
                                              clear n0_ n1_ n2_ n3_ n4_ n5_ n6_ n7_
                                              have hHeld := trivial
                                              refine norm_ (a' := ?_) ?_ ?_
                                              rotate_left
                                              · simp only [putAll, Act.put, List.setIfInBounds_toArray, List.set_cons_zero, List.set_cons_succ]
                                                rfl
                                              refine two_ (i := 20) (j := 25) (Ni := some 52) (Nj := some 57) #[true, true, true, true, true, true, true, true, true, true, true, true, true, true, true, true, true, true, true, true, true, true, true, true, true, false, false, false, false, false, false] #[true, true, true, true, true, true, true, true, true, true, true, true, true, true, true, true, true, true, true, true, false, true, true, true, true, true, false, false, false, false, false] rfl rfl rfl rfl (two_of HT_.out (by kernel_rfl)) (by decide) (by decide) (fun K hK => ?_) (fun K hK => ?_)
                                              · skip
                                                have hcv51 := own_string (P := Tryd.prog) Tryd.underlying27 Tryd.underlying5 Tryd.underlying9 (Kd.own_of_R HO185.out)
                                                refine value_ (w1 := ?_) (v := ?_) (by rfl) rfl ?_ ?_
                                                rotate_left 2
                                                · go_simp
                                                  constructor
                                                  · rfl
                                                  · rfl
                                                clear hcv51
                                                refine hK.out _ _ trivial (fun hHeld => ?_)
                                                clear hK K
                                                refine norm_ (a' := ?_) ?_ ?_
                                                rotate_left
                                                · show Act.put _ (some 52) _ = _
                                                  simp only [Act.put, List.setIfInBounds_toArray, List.set_cons_zero, List.set_cons_succ, i64_w, i32_w]
                                                  rfl
                                                exact norm_ (by first | (simp only [putAll, Act.put, List.setIfInBounds_toArray, List.set_cons_zero, List.set_cons_succ]; done) | (simp only [putAll, Act.put, List.setIfInBounds_toArray, List.set_cons_zero, List.set_cons_succ]; rfl)) (hJ20_22_23 (v187) _ ⟨(by (with_reducible repeat (first | apply Kd.R_alloc | apply Kd.R_drewN | apply Kd.R_drew)); exact HO160.out), (by (with_reducible repeat (first | apply Kd.R_alloc | apply Kd.R_drewN | apply Kd.R_drew)); exact HO166.out), (by (with_reducible repeat (first | apply Kd.R_alloc | apply Kd.R_drewN | apply Kd.R_drew)); exact HO172.out), (by (with_reducible repeat (first | apply Kd.R_alloc | apply Kd.R_drewN | apply Kd.R_drew)); exact HO175.out), (by (with_reducible repeat (first | apply Kd.R_alloc | apply Kd.R_drewN | apply Kd.R_drew)); exact HO178.out), (by (with_reducible repeat (first | apply Kd.R_alloc | apply Kd.R_drewN | apply Kd.R_drew)); exact HO185.out), (by (with_reducible repeat (first | apply Kd.R_alloc | apply Kd.R_drewN | apply Kd.R_drew)); exact HO188.out), (by repeat (first | (with_reducible first | exact HB.out | apply below_alloc | apply pw_below_drewN | apply below_drew1) | exact HB.out))⟩)
                                              · skip
                                                refine goes_ Tryd.func13 (by kernel_rfl) rfl #[.slice A1 l1.length c1] (by rfl) rfl rfl (by (try simp only [List.map_toArray, List.map_cons, List.map_nil]); first | done | rfl | (simp only [List.length_drop, List.length_take]; rfl)) ?_
                                                with_reducible refine (utf_Bytes.calls kj3 _ _ l1 t189 _ ?side1 ?side2 A25.out).mono ?_
                                                (case side1 => repeat (first | exact (Kd.C_below HR1.out HB.out) | (with_reducible refine Kd.C_alloc ?_ _) | (with_reducible refine Kd.C_drewN ?_ _) | (with_reducible refine Kd.C_drew ?_)))
                                                (case side2 => exact HC1.out)
                                                rintro e w51 ⟨v190, rfl, ho0, hb⟩
                                                refine ⟨_, rfl, ?_⟩
                                                have n0_ := Aside0.mk (Kd.R_below (by (with_reducible repeat (first | apply Kd.R_alloc | apply Kd.R_drewN | apply Kd.R_drew)); exact HO160.out) hb)
                                                have n1_ := Aside0.mk (Kd.R_below (by (with_reducible repeat (first | apply Kd.R_alloc | apply Kd.R_drewN | apply Kd.R_drew)); exact HO166.out) hb)
                                                have n2_ := Aside0.mk (Kd.R_below (by (with_reducible repeat (first | apply Kd.R_alloc | apply Kd.R_drewN | apply Kd.R_drew)); exact HO172.out) hb)
                                                have n3_ := Aside0.mk (Kd.R_below (by (with_reducible repeat (first | apply Kd.R_alloc | apply Kd.R_drewN | apply Kd.R_drew)); exact HO175.out) hb)
                                                have n4_ := Aside0.mk (Kd.R_below (by (with_reducible repeat (first | apply Kd.R_alloc | apply Kd.R_drewN | apply Kd.R_drew)); exact HO178.out) hb)
                                                have n5_ := Aside0.mk (Kd.R_elder' (by (with_reducible repeat (first | apply Kd.R_alloc | apply Kd.R_drewN | apply Kd.R_drew)); exact HO185.out) (Kd.R_base ho0) hb)
                                                have n6_ := Aside0.mk (Kd.R_elder' (by (with_reducible repeat (first | apply Kd.R_alloc | apply Kd.R_drewN | apply Kd.R_drew)); exact HO188.out) (Kd.R_base ho0) hb)
                                                have n7_ := Aside0.mk (Kd.R_lower (Kd.R_new' (Kd.R_new' ho0 (Kd.R_lt (by (with_reducible repeat (first | apply Kd.R_alloc | apply Kd.R_drewN | apply Kd.R_drew)); exact HO185.out))) (Kd.R_lt (by (with_reducible repeat (first | apply Kd.R_alloc | apply Kd.R_drewN | apply Kd.R_drew)); exact HO188.out))) (below_size (by repeat (first | (with_reducible first | exact HB.out | apply below_alloc | apply pw_below_drewN | apply below_drew1) | exact HB.out))))
                                                have n8_ := Aside0.mk (below_step (by repeat (first | (with_reducible first | exact HB.out | apply below_alloc | apply pw_below_drewN | apply below_drew1) | exact HB.out)) hb)
                                                clear HO160
                                                clear HO166
                                                clear HO172
                                                clear HO175
                                                clear HO178
                                                clear HO185
                                                clear HO188
                                                clear HB
                                                have HO160 := n0_
                                                have HO166 := n1_
                                                have HO172 := n2_
                                                have HO175 := n3_
                                                have HO178 := n4_
                                                have HO185 := n5_
                                                have HO188 := n6_
                                                have HO191 := n7_
                                                have HB := n8_
                                                clear n0_ n1_ n2_ n3_ n4_ n5_ n6_ n7_ n8_
                                                (try clear hb)
                                                (try clear hb2)
                                                (try clear hk)
                                                (try clear hi)
                                                (try clear ho0)
                                                refine hK.out _ _ trivial (fun hHeld => ?_)
                                                clear hK K
                                                refine norm_ (a' := ?_) ?_ ?_
                                                rotate_left
                                                · show Act.put _ (some 57) _ = _
                                                  simp only [Act.put, List.setIfInBounds_toArray, List.set_cons_zero, List.set_cons_succ, i64_w, i32_w]
                                                  rfl
                                                exact norm_ (by first | (simp only [putAll, Act.put, List.setIfInBounds_toArray, List.set_cons_zero, List.set_cons_succ]; done) | (simp only [putAll, Act.put, List.setIfInBounds_toArray, List.set_cons_zero, List.set_cons_succ]; rfl)) (hJ22_23_25 (v187, v190) _ ⟨(by (with_reducible repeat (first | apply Kd.R_alloc | apply Kd.R_drewN | apply Kd.R_drew)); exact HO160.out), (by (with_reducible repeat (first | apply Kd.R_alloc | apply Kd.R_drewN | apply Kd.R_drew)); exact HO166.out), (by (with_reducible repeat (first | apply Kd.R_alloc | apply Kd.R_drewN | apply Kd.R_drew)); exact HO172.out), (by (with_reducible repeat (first | apply Kd.R_alloc | apply Kd.R_drewN | apply Kd.R_drew)); exact HO175.out), (by (with_reducible repeat (first | apply Kd.R_alloc | apply Kd.R_drewN | apply Kd.R_drew)); exact HO178.out), (by (with_reducible repeat (first | apply Kd.R_alloc | apply Kd.R_drewN | apply Kd.R_drew)); exact HO185.out), (by (with_reducible repeat (first | apply Kd.R_alloc | apply Kd.R_drewN | apply Kd.R_drew)); exact HO188.out), (by (with_reducible repeat (first | apply Kd.R_alloc | apply Kd.R_drewN | apply Kd.R_drew)); exact Kd.R_mono HO191.out (fun _ hk => ⟨hk.1.2, hk.2⟩)), (by repeat (first | (with_reducible first | exact HB.out | apply below_alloc | apply pw_below_drewN | apply below_drew1) | exact HB.out))⟩)
                                          · skip
                                            rintro v187 w50 ⟨h0_, h1_, h2_, h3_, h4_, h5_, h6_, h7_⟩
                                            have n0_ : Aside0 (Kd.R (Kd.int .i64) 3 w50 w.heap.size (fun k_ => some k_ ≠ (.slice Ao35 t164.length co35 : Value).ownBlock ∧ some k_ ≠ (.slice Ao38 t170.length co38 : Value).ownBlock ∧ some k_ ≠ (.slice Ao40 y173.length co40 : Value).ownBlock ∧ some k_ ≠ (.slice Ao43 t176.length co43 : Value).ownBlock) (.slice Ao39 y158.length co39) y158) := ⟨h0_⟩
                                            have n1_ : Aside0 (Kd.R (Kd.int .i64) 3 w50 w.heap.size (fun k_ => some k_ ≠ (.slice Ao39 y158.length co39 : Value).ownBlock ∧ some k_ ≠ (.slice Ao38 t170.length co38 : Value).ownBlock ∧ some k_ ≠ (.slice Ao40 y173.length co40 : Value).ownBlock ∧ some k_ ≠ (.slice Ao43 t176.length co43 : Value).ownBlock) (.slice Ao35 t164.length co35) t164) := ⟨h1_⟩
                                            have n2_ : Aside0 (Kd.R (Kd.int .i64) 3 w50 w.heap.size (fun k_ => some k_ ≠ (.slice Ao39 y158.length co39 : Value).ownBlock ∧ some k_ ≠ (.slice Ao35 t164.length co35 : Value).ownBlock ∧ some k_ ≠ (.slice Ao40 y173.length co40 : Value).ownBlock ∧ some k_ ≠ (.slice Ao43 t176.length co43 : Value).ownBlock) (.slice Ao38 t170.length co38) t170) := ⟨h2_⟩
                                            have n3_ : Aside0 (Kd.R (Kd.int .i64) 3 w50 w.heap.size (fun k_ => some k_ ≠ (.slice Ao39 y158.length co39 : Value).ownBlock ∧ some k_ ≠ (.slice Ao35 t164.length co35 : Value).ownBlock ∧ some k_ ≠ (.slice Ao38 t170.length co38 : Value).ownBlock ∧ some k_ ≠ (.slice Ao43 t176.length co43 : Value).ownBlock) (.slice Ao40 y173.length co40) y173) := ⟨h3_⟩
                                            have n4_ : Aside0 (Kd.R (Kd.int .i64) 3 w50 w.heap.size (fun k_ => some k_ ≠ (.slice Ao39 y158.length co39 : Value).ownBlock ∧ some k_ ≠ (.slice Ao35 t164.length co35 : Value).ownBlock ∧ some k_ ≠ (.slice Ao38 t170.length co38 : Value).ownBlock ∧ some k_ ≠ (.slice Ao40 y173.length co40 : Value).ownBlock) (.slice Ao43 t176.length co43) t176) := ⟨h4_⟩
                                            have n5_ : Aside0 (Kd.R (Kd.int .u8) 5 w50 w.heap.size (fun k_ => some k_ ≠ (v187 : Value).ownBlock) v184 t183) := ⟨h5_⟩
                                            have n6_ : Aside0 (Kd.R (Kd.int .u8) 5 w50 w.heap.size (fun k_ => some k_ ≠ (v184 : Value).ownBlock) v187 t186) := ⟨h6_⟩
                                            have n7_ : Aside0 (Below w.heap.size w w50) := ⟨h7_⟩
                                            clear HO160
                                            clear HO166
                                            clear HO172
                                            clear HO175
                                            clear HB
                                            clear h0_ h1_ h2_ h3_ h4_ h5_ h6_ h7_
                                            have HO160 := n0_
                                            have HO166 := n1_
                                            have HO172 := n2_
                                            have HO175 := n3_
                                            have HO178 := n4_
                                            have HO185 := n5_
                                            have HO188 := n6_
                                            have HB := n7_
                                            clear n0_ n1_ n2_ n3_ n4_ n5_ n6_ n7_
                                            have hHeld := trivial
                                            refine norm_ (a' := ?_) ?_ ?_
                                            rotate_left
                                            · simp only [putAll, Act.put, List.setIfInBounds_toArray, List.set_cons_zero, List.set_cons_succ]
                                              rfl
                                            refine two_ (i := 23) (j := 25) (Ni := some 55) (Nj := some 57) #[true, true, true, true, true, true, true, true, true, true, true, true, true, true, true, true, true, true, true, true, true, true, true, true, true, false, false, false, false, false, false] #[true, true, true, true, true, true, true, true, true, true, true, true, true, true, true, true, true, true, true, true, true, true, true, false, true, true, false, false, false, false, false] rfl rfl rfl rfl (two_of HT_.out (by kernel_rfl)) (by decide) (by decide) (fun K hK => ?_) (fun K hK => ?_)
                                            · skip
                                              have hcv51 := own_string (P := Tryd.prog) Tryd.underlying27 Tryd.underlying5 Tryd.underlying9 (Kd.own_of_R HO188.out)
                                              refine value_ (w1 := ?_) (v := ?_) (by rfl) rfl ?_ ?_
                                              rotate_left 2
                                              · go_simp
                                                constructor
                                                · rfl
                                                · rfl
                                              clear hcv51
                                              refine hK.out _ _ trivial (fun hHeld => ?_)
                                              clear hK K
                                              refine norm_ (a' := ?_) ?_ ?_
                                              rotate_left
                                              · show Act.put _ (some 55) _ = _
                                                simp only [Act.put, List.setIfInBounds_toArray, List.set_cons_zero, List.set_cons_succ, i64_w, i32_w]
                                                rfl
                                              exact norm_ (by first | (simp only [putAll, Act.put, List.setIfInBounds_toArray, List.set_cons_zero, List.set_cons_succ]; done) | (simp only [putAll, Act.put, List.setIfInBounds_toArray, List.set_cons_zero, List.set_cons_succ]; rfl)) (hJ20_22_23 (v187) _ ⟨(by (with_reducible repeat (first | apply Kd.R_alloc | apply Kd.R_drewN | apply Kd.R_drew)); exact HO160.out), (by (with_reducible repeat (first | apply Kd.R_alloc | apply Kd.R_drewN | apply Kd.R_drew)); exact HO166.out), (by (with_reducible repeat (first | apply Kd.R_alloc | apply Kd.R_drewN | apply Kd.R_drew)); exact HO172.out), (by (with_reducible repeat (first | apply Kd.R_alloc | apply Kd.R_drewN | apply Kd.R_drew)); exact HO175.out), (by (with_reducible repeat (first | apply Kd.R_alloc | apply Kd.R_drewN | apply Kd.R_drew)); exact HO178.out), (by (with_reducible repeat (first | apply Kd.R_alloc | apply Kd.R_drewN | apply Kd.R_drew)); exact HO185.out), (by (with_reducible repeat (first | apply Kd.R_alloc | apply Kd.R_drewN | apply Kd.R_drew)); exact HO188.out), (by repeat (first | (with_reducible first | exact HB.out | apply below_alloc | apply pw_below_drewN | apply below_drew1) | exact HB.out))⟩)
                                            · skip
                                              refine goes_ Tryd.func13 (by kernel_rfl) rfl #[.slice A1 l1.length c1] (by rfl) rfl rfl (by (try simp only [List.map_toArray, List.map_cons, List.map_nil]); first | done | rfl | (simp only [List.length_drop, List.length_take]; rfl)) ?_
                                              with_reducible refine (utf_Bytes.calls kj3 _ _ l1 t189 _ ?side1 ?side2 A25.out).mono ?_
                                              (case side1 => repeat (first | exact (Kd.C_below HR1.out HB.out) | (with_reducible refine Kd.C_alloc ?_ _) | (with_reducible refine Kd.C_drewN ?_ _) | (with_reducible refine Kd.C_drew ?_)))
                                              (case side2 => exact HC1.out)
                                              rintro e w51 ⟨v190, rfl, ho0, hb⟩
                                              refine ⟨_, rfl, ?_⟩
                                              have n0_ := Aside0.mk (Kd.R_below (by (with_reducible repeat (first | apply Kd.R_alloc | apply Kd.R_drewN | apply Kd.R_drew)); exact HO160.out) hb)
                                              have n1_ := Aside0.mk (Kd.R_below (by (with_reducible repeat (first | apply Kd.R_alloc | apply Kd.R_drewN | apply Kd.R_drew)); exact HO166.out) hb)
                                              have n2_ := Aside0.mk (Kd.R_below (by (with_reducible repeat (first | apply Kd.R_alloc | apply Kd.R_drewN | apply Kd.R_drew)); exact HO172.out) hb)
                                              have n3_ := Aside0.mk (Kd.R_below (by (with_reducible repeat (first | apply Kd.R_alloc | apply Kd.R_drewN | apply Kd.R_drew)); exact HO175.out) hb)
                                              have n4_ := Aside0.mk (Kd.R_below (by (with_reducible repeat (first | apply Kd.R_alloc | apply Kd.R_drewN | apply Kd.R_drew)); exact HO178.out) hb)
                                              have n5_ := Aside0.mk (Kd.R_elder' (by (with_reducible repeat (first | apply Kd.R_alloc | apply Kd.R_drewN | apply Kd.R_drew)); exact HO185.out) (Kd.R_base ho0) hb)
                                              have n6_ := Aside0.mk (Kd.R_elder' (by (with_reducible repeat (first | apply Kd.R_alloc | apply Kd.R_drewN | apply Kd.R_drew)); exact HO188.out) (Kd.R_base ho0) hb)
                                              have n7_ := Aside0.mk (Kd.R_lower (Kd.R_new' (Kd.R_new' ho0 (Kd.R_lt (by (with_reducible repeat (first | apply Kd.R_alloc | apply Kd.R_drewN | apply Kd.R_drew)); exact HO185.out))) (Kd.R_lt (by (with_reducible repeat (first | apply Kd.R_alloc | apply Kd.R_drewN | apply Kd.R_drew)); exact HO188.out))) (below_size (by repeat (first | (with_reducible first | exact HB.out | apply below_alloc | apply pw_below_drewN | apply below_drew1) | exact HB.out))))
                                              have n8_ := Aside0.mk (below_step (by repeat (first | (with_reducible first | exact HB.out | apply below_alloc | apply pw_below_drewN | apply below_drew1) | exact HB.out)) hb)
                                              clear HO160
                                              clear HO166
                                              clear HO172
                                              clear HO175
                                              clear HO178
                                              clear HO185
                                              clear HO188
                                              clear HB
                                              have HO160 := n0_
                                              have HO166 := n1_
                                              have HO172 := n2_
                                              have HO175 := n3_
                                              have HO178 := n4_
                                              have HO185 := n5_
                                              have HO188 := n6_
                                              have HO191 := n7_
                                              have HB := n8_
                                              clear n0_ n1_ n2_ n3_ n4_ n5_ n6_ n7_ n8_
                                              (try clear hb)
                                              (try clear hb2)
                                              (try clear hk)
                                              (try clear hi)
                                              (try clear ho0)
                                              refine hK.out _ _ trivial (fun hHeld => ?_)
                                              clear hK K
                                              refine norm_ (a' := ?_) ?_ ?_
                                              rotate_left
                                              · show Act.put _ (some 57) _ = _
                                                simp only [Act.put, List.setIfInBounds_toArray, List.set_cons_zero, List.set_cons_succ, i64_w, i32_w]
                                                rfl
                                              exact norm_ (by first | (simp only [putAll, Act.put, List.setIfInBounds_toArray, List.set_cons_zero, List.set_cons_succ]; done) | (simp only [putAll, Act.put, List.setIfInBounds_toArray, List.set_cons_zero, List.set_cons_succ]; rfl)) (hJ20_22_25 (v187, v190) _ ⟨(by (with_reducible repeat (first | apply Kd.R_alloc | apply Kd.R_drewN | apply Kd.R_drew)); exact HO160.out), (by (with_reducible repeat (first | apply Kd.R_alloc | apply Kd.R_drewN | apply Kd.R_drew)); exact HO166.out), (by (with_reducible repeat (first | apply Kd.R_alloc | apply Kd.R_drewN | apply Kd.R_drew)); exact HO172.out), (by (with_reducible repeat (first | apply Kd.R_alloc | apply Kd.R_drewN | apply Kd.R_drew)); exact HO175.out), (by (with_reducible repeat (first | apply Kd.R_alloc | apply Kd.R_drewN | apply Kd.R_drew)); exact HO178.out), (by (with_reducible repeat (first | apply Kd.R_alloc | apply Kd.R_drewN | apply Kd.R_drew)); exact HO185.out), (by (with_reducible repeat (first | apply Kd.R_alloc | apply Kd.R_drewN | apply Kd.R_drew)); exact HO188.out), (by (with_reducible repeat (first | apply Kd.R_alloc | apply Kd.R_drewN | apply Kd.R_drew)); exact Kd.R_mono HO191.out (fun _ hk => ⟨hk.1.2, hk.2⟩)), (by repeat (first | (with_reducible first | exact HB.out | apply below_alloc | apply pw_below_drewN | apply below_drew1) | exact HB.out))⟩)
                                        · skip
                                          rintro ⟨v187, v190⟩ w51 ⟨h0_, h1_, h2_, h3_, h4_, h5_, h6_, h7_, h8_⟩
                                          have n0_ : Aside0 (Kd.R (Kd.int .i64) 3 w51 w.heap.size (fun k_ => some k_ ≠ (.slice Ao35 t164.length co35 : Value).ownBlock ∧ some k_ ≠ (.slice Ao38 t170.length co38 : Value).ownBlock ∧ some k_ ≠ (.slice Ao40 y173.length co40 : Value).ownBlock ∧ some k_ ≠ (.slice Ao43 t176.length co43 : Value).ownBlock) (.slice Ao39 y158.length co39) y158) := ⟨h0_⟩
                                          have n1_ : Aside0 (Kd.R (Kd.int .i64) 3 w51 w.heap.size (fun k_ => some k_ ≠ (.slice Ao39 y158.length co39 : Value).ownBlock ∧ some k_ ≠ (.slice Ao38 t170.length co38 : Value).ownBlock ∧ some k_ ≠ (.slice Ao40 y173.length co40 : Value).ownBlock ∧ some k_ ≠ (.slice Ao43 t176.length co43 : Value).ownBlock) (.slice Ao35 t164.length co35) t164) := ⟨h1_⟩
                                          have n2_ : Aside0 (Kd.R (Kd.int .i64) 3 w51 w.heap.size (fun k_ => some k_ ≠ (.slice Ao39 y158.length co39 : Value).ownBlock ∧ some k_ ≠ (.slice Ao35 t164.length co35 : Value).ownBlock ∧ some k_ ≠ (.slice Ao40 y173.length co40 : Value).ownBlock ∧ some k_ ≠ (.slice Ao43 t176.length co43 : Value).ownBlock) (.slice Ao38 t170.length co38) t170) := ⟨h2_⟩
                                          have n3_ : Aside0 (Kd.R (Kd.int .i64) 3 w51 w.heap.size (fun k_ => some k_ ≠ (.slice Ao39 y158.length co39 : Value).ownBlock ∧ some k_ ≠ (.slice Ao35 t164.length co35 : Value).ownBlock ∧ some k_ ≠ (.slice Ao38 t170.length co38 : Value).ownBlock ∧ some k_ ≠ (.slice Ao43 t176.length co43 : Value).ownBlock) (.slice Ao40 y173.length co40) y173) := ⟨h3_⟩
                                          have n4_ : Aside0 (Kd.R (Kd.int .i64) 3 w51 w.heap.size (fun k_ => some k_ ≠ (.slice Ao39 y158.length co39 : Value).ownBlock ∧ some k_ ≠ (.slice Ao35 t164.length co35 : Value).ownBlock ∧ some k_ ≠ (.slice Ao38 t170.length co38 : Value).ownBlock ∧ some k_ ≠ (.slice Ao40 y173.length co40 : Value).ownBlock) (.slice Ao43 t176.length co43) t176) := ⟨h4_⟩
                                          have n5_ : Aside0 (Kd.R (Kd.int .u8) 5 w51 w.heap.size (fun k_ => some k_ ≠ (v187 : Value).ownBlock ∧ some k_ ≠ (v190 : Value).ownBlock) v184 t183) := ⟨h5_⟩
                                          have n6_ : Aside0 (Kd.R (Kd.int .u8) 5 w51 w.heap.size (fun k_ => some k_ ≠ (v184 : Value).ownBlock ∧ some k_ ≠ (v190 : Value).ownBlock) v187 t186) := ⟨h6_⟩
                                          have n7_ : Aside0 (Kd.R (Kd.int .u8) 5 w51 w.heap.size (fun k_ => some k_ ≠ (v184 : Value).ownBlock ∧ some k_ ≠ (v187 : Value).ownBlock) v190 t189) := ⟨h7_⟩
                                          have n8_ : Aside0 (Below w.heap.size w w51) := ⟨h8_⟩
                                          clear HO160
                                          clear HO166
                                          clear HO172
                                          clear HO175
                                          clear HB
                                          clear h0_ h1_ h2_ h3_ h4_ h5_ h6_ h7_ h8_
                                          have HO160 := n0_
                                          have HO166 := n1_
                                          have HO172 := n2_
                                          have HO175 := n3_
                                          have HO178 := n4_
                                          have HO185 := n5_
                                          have HO188 := n6_
                                          have HO191 := n7_
                                          have HB := n8_
                                          clear n0_ n1_ n2_ n3_ n4_ n5_ n6_ n7_ n8_
                                          have hHeld := trivial
                                          refine norm_ (a' := ?_) ?_ ?_
                                          rotate_left
                                          · simp only [putAll, Act.put, List.setIfInBounds_toArray, List.set_cons_zero, List.set_cons_succ]
                                            rfl
                                          refine two_ (i := 20) (j := 23) (Ni := some 52) (Nj := some 55) #[true, true, true, true, true, true, true, true, true, true, true, true, true, true, true, true, true, true, true, true, true, true, true, false, true, true, true, false, false, false, false] #[true, true, true, true, true, true, true, true, true, true, true, true, true, true, true, true, true, true, true, true, false, true, true, true, true, true, true, false, false, false, false] rfl rfl rfl rfl (two_of HT_.out (by kernel_rfl)) (by decide) (by decide) (fun K hK => ?_) (fun K hK => ?_)
                                          · skip
                                            have hcv52 := own_string (P := Tryd.prog) Tryd.underlying27 Tryd.underlying5 Tryd.underlying9 (Kd.own_of_R HO185.out)
                                            refine value_ (w1 := ?_) (v := ?_) (by rfl) rfl ?_ ?_
                                            rotate_left 2
                                            · go_simp
                                              constructor
                                              · rfl
                                              · rfl
                                            clear hcv52
                                            refine hK.out _ _ trivial (fun hHeld => ?_)
                                            clear hK K
                                            refine norm_ (a' := ?_) ?_ ?_
                                            rotate_left
                                            · show Act.put _ (some 52) _ = _
                                              simp only [Act.put, List.setIfInBounds_toArray, List.set_cons_zero, List.set_cons_succ, i64_w, i32_w]
                                              rfl
                                            exact norm_ (by first | (simp only [putAll, Act.put, List.setIfInBounds_toArray, List.set_cons_zero, List.set_cons_succ]; done) | (simp only [putAll, Act.put, List.setIfInBounds_toArray, List.set_cons_zero, List.set_cons_succ]; rfl)) (hJ20_22_25_26 (v187, v190) _ ⟨(by (with_reducible repeat (first | apply Kd.R_alloc | apply Kd.R_drewN | apply Kd.R_drew)); exact HO160.out), (by (with_reducible repeat (first | apply Kd.R_alloc | apply Kd.R_drewN | apply Kd.R_drew)); exact HO166.out), (by (with_reducible repeat (first | apply Kd.R_alloc | apply Kd.R_drewN | apply Kd.R_drew)); exact HO172.out), (by (with_reducible repeat (first | apply Kd.R_alloc | apply Kd.R_drewN | apply Kd.R_drew)); exact HO175.out), (by (with_reducible repeat (first | apply Kd.R_alloc | apply Kd.R_drewN | apply Kd.R_drew)); exact HO178.out), (by (with_reducible repeat (first | apply Kd.R_alloc | apply Kd.R_drewN | apply Kd.R_drew)); exact HO185.out), (by (with_reducible repeat (first | apply Kd.R_alloc | apply Kd.R_drewN | apply Kd.R_drew)); exact HO188.out), (by (with_reducible repeat (first | apply Kd.R_alloc | apply Kd.R_drewN | apply Kd.R_drew)); exact HO191.out), (by repeat (first | (with_reducible first | exact HB.out | apply below_alloc | apply pw_below_drewN | apply below_drew1) | exact HB.out))⟩)
                                          · skip
                                            have hcv52 := own_string (P := Tryd.prog) Tryd.underlying27 Tryd.underlying5 Tryd.underlying9 (Kd.own_of_R HO188.out)
                                            refine value_ (w1 := ?_) (v := ?_) (by rfl) rfl ?_ ?_
                                            rotate_left 2
                                            · go_simp
                                              constructor
                                              · rfl
                                              · rfl
                                            clear hcv52
                                            refine hK.out _ _ trivial (fun hHeld => ?_)
                                            clear hK K
                                            refine norm_ (a' := ?_) ?_ ?_
                                            rotate_left
                                            · show Act.put _ (some 55) _ = _
                                              simp only [Act.put, List.setIfInBounds_toArray, List.set_cons_zero, List.set_cons_succ, i64_w, i32_w]
                                              rfl
                                            refine pure_ (i := 27) (N := some 59) (v := ?_) (a' := ?_) #[true, true, true, true, true, true, true, true, true, true, true, true, true, true, true, true, true, true, true, true, false, true, true, true, true, true, true, true, false, false, false] rfl rfl (any_of HT_.out (by kernel_rfl)) (fun _ _ _ h => h) (Or.inl ⟨by rfl, ?_⟩) ?_ ?_
                                            rotate_left
                                            · intro w'
                                              go_simp
                                              with_reducible rfl
                                            rotate_left
                                            · simp only [Act.put, List.setIfInBounds_toArray, List.set_cons_zero, List.set_cons_succ, i64_w, i32_w]
                                              rfl
                                            exact norm_ (by first | (simp only [putAll, Act.put, List.setIfInBounds_toArray, List.set_cons_zero, List.set_cons_succ]; done) | (simp only [putAll, Act.put, List.setIfInBounds_toArray, List.set_cons_zero, List.set_cons_succ]; rfl)) (hJ22_23_25_26 (v187, v190) _ ⟨(by (with_reducible repeat (first | apply Kd.R_alloc | apply Kd.R_drewN | apply Kd.R_drew)); exact HO160.out), (by (with_reducible repeat (first | apply Kd.R_alloc | apply Kd.R_drewN | apply Kd.R_drew)); exact HO166.out), (by (with_reducible repeat (first | apply Kd.R_alloc | apply Kd.R_drewN | apply Kd.R_drew)); exact HO172.out), (by (with_reducible repeat (first | apply Kd.R_alloc | apply Kd.R_drewN | apply Kd.R_drew)); exact HO175.out), (by (with_reducible repeat (first | apply Kd.R_alloc | apply Kd.R_drewN | apply Kd.R_drew)); exact HO178.out), (by (with_reducible repeat (first | apply Kd.R_alloc | apply Kd.R_drewN | apply Kd.R_drew)); exact HO185.out), (by (with_reducible repeat (first | apply Kd.R_alloc | apply Kd.R_drewN | apply Kd.R_drew)); exact HO188.out), (by (with_reducible repeat (first | apply Kd.R_alloc | apply Kd.R_drewN | apply Kd.R_drew)); exact HO191.out), (by repeat (first | (with_reducible first | exact HB.out | apply below_alloc | apply pw_below_drewN | apply below_drew1) | exact HB.out))⟩)
                                      · skip
                                        rintro ⟨v187, v190⟩ w51 ⟨h0_, h1_, h2_, h3_, h4_, h5_, h6_, h7_, h8_⟩
                                        have n0_ : Aside0 (Kd.R (Kd.int .i64) 3 w51 w.heap.size (fun k_ => some k_ ≠ (.slice Ao35 t164.length co35 : Value).ownBlock ∧ some k_ ≠ (.slice Ao38 t170.length co38 : Value).ownBlock ∧ some k_ ≠ (.slice Ao40 y173.length co40 : Value).ownBlock ∧ some k_ ≠ (.slice Ao43 t176.length co43 : Value).ownBlock) (.slice Ao39 y158.length co39) y158) := ⟨h0_⟩
                                        have n1_ : Aside0 (Kd.R (Kd.int .i64) 3 w51 w.heap.size (fun k_ => some k_ ≠ (.slice Ao39 y158.length co39 : Value).ownBlock ∧ some k_ ≠ (.slice Ao38 t170.length co38 : Value).ownBlock ∧ some k_ ≠ (.slice Ao40 y173.length co40 : Value).ownBlock ∧ some k_ ≠ (.slice Ao43 t176.length co43 : Value).ownBlock) (.slice Ao35 t164.length co35) t164) := ⟨h1_⟩
                                        have n2_ : Aside0 (Kd.R (Kd.int .i64) 3 w51 w.heap.size (fun k_ => some k_ ≠ (.slice Ao39 y158.length co39 : Value).ownBlock ∧ some k_ ≠ (.slice Ao35 t164.length co35 : Value).ownBlock ∧ some k_ ≠ (.slice Ao40 y173.length co40 : Value).ownBlock ∧ some k_ ≠ (.slice Ao43 t176.length co43 : Value).ownBlock) (.slice Ao38 t170.length co38) t170) := ⟨h2_⟩
                                        have n3_ : Aside0 (Kd.R (Kd.int .i64) 3 w51 w.heap.size (fun k_ => some k_ ≠ (.slice Ao39 y158.length co39 : Value).ownBlock ∧ some k_ ≠ (.slice Ao35 t164.length co35 : Value).ownBlock ∧ some k_ ≠ (.slice Ao38 t170.length co38 : Value).ownBlock ∧ some k_ ≠ (.slice Ao43 t176.length co43 : Value).ownBlock) (.slice Ao40 y173.length co40) y173) := ⟨h3_⟩
                                        have n4_ : Aside0 (Kd.R (Kd.int .i64) 3 w51 w.heap.size (fun k_ => some k_ ≠ (.slice Ao39 y158.length co39 : Value).ownBlock ∧ some k_ ≠ (.slice Ao35 t164.length co35 : Value).ownBlock ∧ some k_ ≠ (.slice Ao38 t170.length co38 : Value).ownBlock ∧ some k_ ≠ (.slice Ao40 y173.length co40 : Value).ownBlock) (.slice Ao43 t176.length co43) t176) := ⟨h4_⟩
                                        have n5_ : Aside0 (Kd.R (Kd.int .u8) 5 w51 w.heap.size (fun k_ => some k_ ≠ (v187 : Value).ownBlock ∧ some k_ ≠ (v190 : Value).ownBlock) v184 t183) := ⟨h5_⟩
                                        have n6_ : Aside0 (Kd.R (Kd.int .u8) 5 w51 w.heap.size (fun k_ => some k_ ≠ (v184 : Value).ownBlock ∧ some k_ ≠ (v190 : Value).ownBlock) v187 t186) := ⟨h6_⟩
                                        have n7_ : Aside0 (Kd.R (Kd.int .u8) 5 w51 w.heap.size (fun k_ => some k_ ≠ (v184 : Value).ownBlock ∧ some k_ ≠ (v187 : Value).ownBlock) v190 t189) := ⟨h7_⟩
                                        have n8_ : Aside0 (Below w.heap.size w w51) := ⟨h8_⟩
                                        clear HO160
                                        clear HO166
                                        clear HO172
                                        clear HO175
                                        clear HB
                                        clear h0_ h1_ h2_ h3_ h4_ h5_ h6_ h7_ h8_
                                        have HO160 := n0_
                                        have HO166 := n1_
                                        have HO172 := n2_
                                        have HO175 := n3_
                                        have HO178 := n4_
                                        have HO185 := n5_
                                        have HO188 := n6_
                                        have HO191 := n7_
                                        have HB := n8_
                                        clear n0_ n1_ n2_ n3_ n4_ n5_ n6_ n7_ n8_
                                        have hHeld := trivial
                                        refine norm_ (a' := ?_) ?_ ?_
                                        rotate_left
                                        · simp only [putAll, Act.put, List.setIfInBounds_toArray, List.set_cons_zero, List.set_cons_succ]
                                          rfl
                                        refine two_ (i := 20) (j := 26) (Ni := some 52) (Nj := some 58) #[true, true, true, true, true, true, true, true, true, true, true, true, true, true, true, true, true, true, true, true, true, true, true, true, true, true, false, false, false, false, false] #[true, true, true, true, true, true, true, true, true, true, true, true, true, true, true, true, true, true, true, true, false, true, true, true, true, true, true, false, false, false, false] rfl rfl rfl rfl (two_of HT_.out (by kernel_rfl)) (by decide) (by decide) (fun K hK => ?_) (fun K hK => ?_)
                                        · skip
                                          have hcv52 := own_string (P := Tryd.prog) Tryd.underlying27 Tryd.underlying5 Tryd.underlying9 (Kd.own_of_R HO185.out)
                                          refine value_ (w1 := ?_) (v := ?_) (by rfl) rfl ?_ ?_
                                          rotate_left 2
                                          · go_simp
                                            constructor
                                            · rfl
                                            · rfl
                                          clear hcv52
                                          refine hK.out _ _ trivial (fun hHeld => ?_)
                                          clear hK K
                                          refine norm_ (a' := ?_) ?_ ?_
                                          rotate_left
                                          · show Act.put _ (some 52) _ = _
                                            simp only [Act.put, List.setIfInBounds_toArray, List.set_cons_zero, List.set_cons_succ, i64_w, i32_w]
                                            rfl
                                          exact norm_ (by first | (simp only [putAll, Act.put, List.setIfInBounds_toArray, List.set_cons_zero, List.set_cons_succ]; done) | (simp only [putAll, Act.put, List.setIfInBounds_toArray, List.set_cons_zero, List.set_cons_succ]; rfl)) (hJ20_22_23_25 (v187, v190) _ ⟨(by (with_reducible repeat (first | apply Kd.R_alloc | apply Kd.R_drewN | apply Kd.R_drew)); exact HO160.out), (by (with_reducible repeat (first | apply Kd.R_alloc | apply Kd.R_drewN | apply Kd.R_drew)); exact HO166.out), (by (with_reducible repeat (first | apply Kd.R_alloc | apply Kd.R_drewN | apply Kd.R_drew)); exact HO172.out), (by (with_reducible repeat (first | apply Kd.R_alloc | apply Kd.R_drewN | apply Kd.R_drew)); exact HO175.out), (by (with_reducible repeat (first | apply Kd.R_alloc | apply Kd.R_drewN | apply Kd.R_drew)); exact HO178.out), (by (with_reducible repeat (first | apply Kd.R_alloc | apply Kd.R_drewN | apply Kd.R_drew)); exact HO185.out), (by (with_reducible repeat (first | apply Kd.R_alloc | apply Kd.R_drewN | apply Kd.R_drew)); exact HO188.out), (by (with_reducible repeat (first | apply Kd.R_alloc | apply Kd.R_drewN | apply Kd.R_drew)); exact HO191.out), (by repeat (first | (with_reducible first | exact HB.out | apply below_alloc | apply pw_below_drewN | apply below_drew1) | exact HB.out))⟩)
                                        · skip
                                          have hcv52 := own_string (P := Tryd.prog) Tryd.underlying27 Tryd.underlying5 Tryd.underlying9 (Kd.own_of_R HO191.out)
                                          refine value_ (w1 := ?_) (v := ?_) (by rfl) rfl ?_ ?_
                                          rotate_left 2
                                          · go_simp
                                            constructor
                                            · rfl
                                            · rfl
                                          clear hcv52
                                          refine hK.out _ _ trivial (fun hHeld => ?_)
                                          clear hK K
                                          refine norm_ (a' := ?_) ?_ ?_
                                          rotate_left
                                          · show Act.put _ (some 58) _ = _
                                            simp only [Act.put, List.setIfInBounds_toArray, List.set_cons_zero, List.set_cons_succ, i64_w, i32_w]
                                            rfl
                                          refine pure_ (i := 27) (N := some 59) (v := ?_) (a' := ?_) #[true, true, true, true, true, true, true, true, true, true, true, true, true, true, true, true, true, true, true, true, false, true, true, true, true, true, true, true, false, false, false] rfl rfl (any_of HT_.out (by kernel_rfl)) (fun _ _ _ h => h) (Or.inl ⟨by rfl, ?_⟩) ?_ ?_
                                          rotate_left
                                          · intro w'
                                            go_simp
                                            with_reducible rfl
                                          rotate_left
                                          · simp only [Act.put, List.setIfInBounds_toArray, List.set_cons_zero, List.set_cons_succ, i64_w, i32_w]
                                            rfl
                                          exact norm_ (by first | (simp only [putAll, Act.put, List.setIfInBounds_toArray, List.set_cons_zero, List.set_cons_succ]; done) | (simp only [putAll, Act.put, List.setIfInBounds_toArray, List.set_cons_zero, List.set_cons_succ]; rfl)) (hJ22_23_25_26 (v187, v190) _ ⟨(by (with_reducible repeat (first | apply Kd.R_alloc | apply Kd.R_drewN | apply Kd.R_drew)); exact HO160.out), (by (with_reducible repeat (first | apply Kd.R_alloc | apply Kd.R_drewN | apply Kd.R_drew)); exact HO166.out), (by (with_reducible repeat (first | apply Kd.R_alloc | apply Kd.R_drewN | apply Kd.R_drew)); exact HO172.out), (by (with_reducible repeat (first | apply Kd.R_alloc | apply Kd.R_drewN | apply Kd.R_drew)); exact HO175.out), (by (with_reducible repeat (first | apply Kd.R_alloc | apply Kd.R_drewN | apply Kd.R_drew)); exact HO178.out), (by (with_reducible repeat (first | apply Kd.R_alloc | apply Kd.R_drewN | apply Kd.R_drew)); exact HO185.out), (by (with_reducible repeat (first | apply Kd.R_alloc | apply Kd.R_drewN | apply Kd.R_drew)); exact HO188.out), (by (with_reducible repeat (first | apply Kd.R_alloc | apply Kd.R_drewN | apply Kd.R_drew)); exact HO191.out), (by repeat (first | (with_reducible first | exact HB.out | apply below_alloc | apply pw_below_drewN | apply below_drew1) | exact HB.out))⟩)
                                    · skip
                                      rintro ⟨v187, v190⟩ w51 ⟨h0_, h1_, h2_, h3_, h4_, h5_, h6_, h7_, h8_⟩
                                      have n0_ : Aside0 (Kd.R (Kd.int .i64) 3 w51 w.heap.size (fun k_ => some k_ ≠ (.slice Ao35 t164.length co35 : Value).ownBlock ∧ some k_ ≠ (.slice Ao38 t170.length co38 : Value).ownBlock ∧ some k_ ≠ (.slice Ao40 y173.length co40 : Value).ownBlock ∧ some k_ ≠ (.slice Ao43 t176.length co43 : Value).ownBlock) (.slice Ao39 y158.length co39) y158) := ⟨h0_⟩
                                      have n1_ : Aside0 (Kd.R (Kd.int .i64) 3 w51 w.heap.size (fun k_ => some k_ ≠ (.slice Ao39 y158.length co39 : Value).ownBlock ∧ some k_ ≠ (.slice Ao38 t170.length co38 : Value).ownBlock ∧ some k_ ≠ (.slice Ao40 y173.length co40 : Value).ownBlock ∧ some k_ ≠ (.slice Ao43 t176.length co43 : Value).ownBlock) (.slice Ao35 t164.length co35) t164) := ⟨h1_⟩
                                      have n2_ : Aside0 (Kd.R (Kd.int .i64) 3 w51 w.heap.size (fun k_ => some k_ ≠ (.slice Ao39 y158.length co39 : Value).ownBlock ∧ some k_ ≠ (.slice Ao35 t164.length co35 : Value).ownBlock ∧ some k_ ≠ (.slice Ao40 y173.length co40 : Value).ownBlock ∧ some k_ ≠ (.slice Ao43 t176.length co43 : Value).ownBlock) (.slice Ao38 t170.length co38) t170) := ⟨h2_⟩
                                      have n3_ : Aside0 (Kd.R (Kd.int .i64) 3 w51 w.heap.size (fun k_ => some k_ ≠ (.slice Ao39 y158.length co39 : Value).ownBlock ∧ some k_ ≠ (.slice Ao35 t164.length co35 : Value).ownBlock ∧ some k_ ≠ (.slice Ao38 t170.length co38 : Value).ownBlock ∧ some k_ ≠ (.slice Ao43 t176.length co43 : Value).ownBlock) (.slice Ao40 y173.length co40) y173) := ⟨h3_⟩
                                      have n4_ : Aside0 (Kd.R (Kd.int .i64) 3 w51 w.heap.size (fun k_ => some k_ ≠ (.slice Ao39 y158.length co39 : Value).ownBlock ∧ some k_ ≠ (.slice Ao35 t164.length co35 : Value).ownBlock ∧ some k_ ≠ (.slice Ao38 t170.length co38 : Value).ownBlock ∧ some k_ ≠ (.slice Ao40 y173.length co40 : Value).ownBlock) (.slice Ao43 t176.length co43) t176) := ⟨h4_⟩
                                      have n5_ : Aside0 (Kd.R (Kd.int .u8) 5 w51 w.heap.size (fun k_ => some k_ ≠ (v187 : Value).ownBlock ∧ some k_ ≠ (v190 : Value).ownBlock) v184 t183) := ⟨h5_⟩
                                      have n6_ : Aside0 (Kd.R (Kd.int .u8) 5 w51 w.heap.size (fun k_ => some k_ ≠ (v184 : Value).ownBlock ∧ some k_ ≠ (v190 : Value).ownBlock) v187 t186) := ⟨h6_⟩
                                      have n7_ : Aside0 (Kd.R (Kd.int .u8) 5 w51 w.heap.size (fun k_ => some k_ ≠ (v184 : Value).ownBlock ∧ some k_ ≠ (v187 : Value).ownBlock) v190 t189) := ⟨h7_⟩
                                      have n8_ : Aside0 (Below w.heap.size w w51) := ⟨h8_⟩
                                      clear HO160
                                      clear HO166
                                      clear HO172
                                      clear HO175
                                      clear HB
                                      clear h0_ h1_ h2_ h3_ h4_ h5_ h6_ h7_ h8_
                                      have HO160 := n0_
                                      have HO166 := n1_
                                      have HO172 := n2_
                                      have HO175 := n3_
                                      have HO178 := n4_
                                      have HO185 := n5_
                                      have HO188 := n6_
                                      have HO191 := n7_
                                      have HB := n8_
                                      clear n0_ n1_ n2_ n3_ n4_ n5_ n6_ n7_ n8_
                                      have hHeld := trivial
                                      refine norm_ (a' := ?_) ?_ ?_
                                      rotate_left
                                      · simp only [putAll, Act.put, List.setIfInBounds_toArray, List.set_cons_zero, List.set_cons_succ]
                                        rfl
                                      refine two_ (i := 23) (j := 26) (Ni := some 55) (Nj := some 58) #[true, true, true, true, true, true, true, true, true, true, true, true, true, true, true, true, true, true, true, true, true, true, true, true, true, true, false, false, false, false, false] #[true, true, true, true, true, true, true, true, true, true, true, true, true, true, true, true, true, true, true, true, true, true, true, false, true, true, true, false, false, false, false] rfl rfl rfl rfl (two_of HT_.out (by kernel_rfl)) (by decide) (by decide) (fun K hK => ?_) (fun K hK => ?_)
                                      · skip
                                        have hcv52 := own_string (P := Tryd.prog) Tryd.underlying27 Tryd.underlying5 Tryd.underlying9 (Kd.own_of_R HO188.out)
                                        refine value_ (w1 := ?_) (v := ?_) (by rfl) rfl ?_ ?_
                                        rotate_left 2
                                        · go_simp
                                          constructor
                                          · rfl
                                          · rfl
                                        clear hcv52
                                        refine hK.out _ _ trivial (fun hHeld => ?_)
                                        clear hK K
                                        refine norm_ (a' := ?_) ?_ ?_
                                        rotate_left
                                        · show Act.put _ (some 55) _ = _
                                          simp only [Act.put, List.setIfInBounds_toArray, List.set_cons_zero, List.set_cons_succ, i64_w, i32_w]
                                          rfl
                                        exact norm_ (by first | (simp only [putAll, Act.put, List.setIfInBounds_toArray, List.set_cons_zero, List.set_cons_succ]; done) | (simp only [putAll, Act.put, List.setIfInBounds_toArray, List.set_cons_zero, List.set_cons_succ]; rfl)) (hJ20_22_23_25 (v187, v190) _ ⟨(by (with_reducible repeat (first | apply Kd.R_alloc | apply Kd.R_drewN | apply Kd.R_drew)); exact HO160.out), (by (with_reducible repeat (first | apply Kd.R_alloc | apply Kd.R_drewN | apply Kd.R_drew)); exact HO166.out), (by (with_reducible repeat (first | apply Kd.R_alloc | apply Kd.R_drewN | apply Kd.R_drew)); exact HO172.out), (by (with_reducible repeat (first | apply Kd.R_alloc | apply Kd.R_drewN | apply Kd.R_drew)); exact HO175.out), (by (with_reducible repeat (first | apply Kd.R_alloc | apply Kd.R_drewN | apply Kd.R_drew)); exact HO178.out), (by (with_reducible repeat (first | apply Kd.R_alloc | apply Kd.R_drewN | apply Kd.R_drew)); exact HO185.out), (by (with_reducible repeat (first | apply Kd.R_alloc | apply Kd.R_drewN | apply Kd.R_drew)); exact HO188.out), (by (with_reducible repeat (first | apply Kd.R_alloc | apply Kd.R_drewN | apply Kd.R_drew)); exact HO191.out), (by repeat (first | (with_reducible first | exact HB.out | apply below_alloc | apply pw_below_drewN | apply below_drew1) | exact HB.out))⟩)
                                      · skip
                                        have hcv52 := own_string (P := Tryd.prog) Tryd.underlying27 Tryd.underlying5 Tryd.underlying9 (Kd.own_of_R HO191.out)
                                        refine value_ (w1 := ?_) (v := ?_) (by rfl) rfl ?_ ?_
                                        rotate_left 2
                                        · go_simp
                                          constructor
                                          · rfl
                                          · rfl
                                        clear hcv52
                                        refine hK.out _ _ trivial (fun hHeld => ?_)
                                        clear hK K
                                        refine norm_ (a' := ?_) ?_ ?_
                                        rotate_left
                                        · show Act.put _ (some 58) _ = _
                                          simp only [Act.put, List.setIfInBounds_toArray, List.set_cons_zero, List.set_cons_succ, i64_w, i32_w]
                                          rfl
                                        exact norm_ (by first | (simp only [putAll, Act.put, List.setIfInBounds_toArray, List.set_cons_zero, List.set_cons_succ]; done) | (simp only [putAll, Act.put, List.setIfInBounds_toArray, List.set_cons_zero, List.set_cons_succ]; rfl)) (hJ20_22_25_26 (v187, v190) _ ⟨(by (with_reducible repeat (first | apply Kd.R_alloc | apply Kd.R_drewN | apply Kd.R_drew)); exact HO160.out), (by (with_reducible repeat (first | apply Kd.R_alloc | apply Kd.R_drewN | apply Kd.R_drew)); exact HO166.out), (by (with_reducible repeat (first | apply Kd.R_alloc | apply Kd.R_drewN | apply Kd.R_drew)); exact HO172.out), (by (with_reducible repeat (first | apply Kd.R_alloc | apply Kd.R_drewN | apply Kd.R_drew)); exact HO175.out), (by (with_reducible repeat (first | apply Kd.R_alloc | apply Kd.R_drewN | apply Kd.R_drew)); exact HO178.out), (by (with_reducible repeat (first | apply Kd.R_alloc | apply Kd.R_drewN | apply Kd.R_drew)); exact HO185.out), (by (with_reducible repeat (first | apply Kd.R_alloc | apply Kd.R_drewN | apply Kd.R_drew)); exact HO188.out), (by (with_reducible repeat (first | apply Kd.R_alloc | apply Kd.R_drewN | apply Kd.R_drew)); exact HO191.out), (by repeat (first | (with_reducible first | exact HB.out | apply below_alloc | apply pw_below_drewN | apply below_drew1) | exact HB.out))⟩)
                                  · skip
                                    rintro v187 w51 ⟨h0_, h1_, h2_, h3_, h4_, h5_, h6_, h7_⟩
                                    have n0_ : Aside0 (Kd.R (Kd.int .i64) 3 w51 w.heap.size (fun k_ => some k_ ≠ (.slice Ao35 t164.length co35 : Value).ownBlock ∧ some k_ ≠ (.slice Ao38 t170.length co38 : Value).ownBlock ∧ some k_ ≠ (.slice Ao40 y173.length co40 : Value).ownBlock ∧ some k_ ≠ (.slice Ao43 t176.length co43 : Value).ownBlock) (.slice Ao39 y158.length co39) y158) := ⟨h0_⟩
                                    have n1_ : Aside0 (Kd.R (Kd.int .i64) 3 w51 w.heap.size (fun k_ => some k_ ≠ (.slice Ao39 y158.length co39 : Value).ownBlock ∧ some k_ ≠ (.slice Ao38 t170.length co38 : Value).ownBlock ∧ some k_ ≠ (.slice Ao40 y173.length co40 : Value).ownBlock ∧ some k_ ≠ (.slice Ao43 t176.length co43 : Value).ownBlock) (.slice Ao35 t164.length co35) t164) := ⟨h1_⟩
                                    have n2_ : Aside0 (Kd.R (Kd.int .i64) 3 w51 w.heap.size (fun k_ => some k_ ≠ (.slice Ao39 y158.length co39 : Value).ownBlock ∧ some k_ ≠ (.slice Ao35 t164.length co35 : Value).ownBlock ∧ some k_ ≠ (.slice Ao40 y173.length co40 : Value).ownBlock ∧ some k_ ≠ (.slice Ao43 t176.length co43 : Value).ownBlock) (.slice Ao38 t170.length co38) t170) := ⟨h2_⟩
                                    have n3_ : Aside0 (Kd.R (Kd.int .i64) 3 w51 w.heap.size (fun k_ => some k_ ≠ (.slice Ao39 y158.length co39 : Value).ownBlock ∧ some k_ ≠ (.slice Ao35 t164.length co35 : Value).ownBlock ∧ some k_ ≠ (.slice Ao38 t170.length co38 : Value).ownBlock ∧ some k_ ≠ (.slice Ao43 t176.length co43 : Value).ownBlock) (.slice Ao40 y173.length co40) y173) := ⟨h3_⟩
                                    have n4_ : Aside0 (Kd.R (Kd.int .i64) 3 w51 w.heap.size (fun k_ => some k_ ≠ (.slice Ao39 y158.length co39 : Value).ownBlock ∧ some k_ ≠ (.slice Ao35 t164.length co35 : Value).ownBlock ∧ some k_ ≠ (.slice Ao38 t170.length co38 : Value).ownBlock ∧ some k_ ≠ (.slice Ao40 y173.length co40 : Value).ownBlock) (.slice Ao43 t176.length co43) t176) := ⟨h4_⟩
                                    have n5_ : Aside0 (Kd.R (Kd.int .u8) 5 w51 w.heap.size (fun k_ => some k_ ≠ (v187 : Value).ownBlock) v184 t183) := ⟨h5_⟩
                                    have n6_ : Aside0 (Kd.R (Kd.int .u8) 5 w51 w.heap.size (fun k_ => some k_ ≠ (v184 : Value).ownBlock) v187 t186) := ⟨h6_⟩
                                    have n7_ : Aside0 (Below w.heap.size w w51) := ⟨h7_⟩
                                    clear HO160
                                    clear HO166
                                    clear HO172
                                    clear HO175
                                    clear HB
                                    clear h0_ h1_ h2_ h3_ h4_ h5_ h6_ h7_
                                    have HO160 := n0_
                                    have HO166 := n1_
                                    have HO172 := n2_
                                    have HO175 := n3_
                                    have HO178 := n4_
                                    have HO185 := n5_
                                    have HO188 := n6_
                                    have HB := n7_
                                    clear n0_ n1_ n2_ n3_ n4_ n5_ n6_ n7_
                                    have hHeld := trivial
                                    refine norm_ (a' := ?_) ?_ ?_
                                    rotate_left
                                    · simp only [putAll, Act.put, List.setIfInBounds_toArray, List.set_cons_zero, List.set_cons_succ]
                                      rfl
                                    refine one_ (i := 25) (N := some 57) #[true, true, true, true, true, true, true, true, true, true, true, true, true, true, true, true, true, true, true, true, true, true, true, true, true, true, false, false, false, false, false] rfl rfl (one_of HT_.out (by kernel_rfl)) (by decide) (fun K hK => ?_)
                                    refine goes_ Tryd.func13 (by kernel_rfl) rfl #[.slice A1 l1.length c1] (by rfl) rfl rfl (by (try simp only [List.map_toArray, List.map_cons, List.map_nil]); first | done | rfl | (simp only [List.length_drop, List.length_take]; rfl)) ?_
                                    with_reducible refine (utf_Bytes.calls kj3 _ _ l1 t189 _ ?side1 ?side2 A25.out).mono ?_
                                    (case side1 => repeat (first | exact (Kd.C_below HR1.out HB.out) | (with_reducible refine Kd.C_alloc ?_ _) | (with_reducible refine Kd.C_drewN ?_ _) | (with_reducible refine Kd.C_drew ?_)))
                                    (case side2 => exact HC1.out)
                                    rintro e w52 ⟨v190, rfl, ho0, hb⟩
                                    refine ⟨_, rfl, ?_⟩
                                    have n0_ := Aside0.mk (Kd.R_below (by (with_reducible repeat (first | apply Kd.R_alloc | apply Kd.R_drewN | apply Kd.R_drew)); exact HO160.out) hb)
                                    have n1_ := Aside0.mk (Kd.R_below (by (with_reducible repeat (first | apply Kd.R_alloc | apply Kd.R_drewN | apply Kd.R_drew)); exact HO166.out) hb)
                                    have n2_ := Aside0.mk (Kd.R_below (by (with_reducible repeat (first | apply Kd.R_alloc | apply Kd.R_drewN | apply Kd.R_drew)); exact HO172.out) hb)
                                    have n3_ := Aside0.mk (Kd.R_below (by (with_reducible repeat (first | apply Kd.R_alloc | apply Kd.R_drewN | apply Kd.R_drew)); exact HO175.out) hb)
                                    have n4_ := Aside0.mk (Kd.R_below (by (with_reducible repeat (first | apply Kd.R_alloc | apply Kd.R_drewN | apply Kd.R_drew)); exact HO178.out) hb)
                                    have n5_ := Aside0.mk (Kd.R_elder' (by (with_reducible repeat (first | apply Kd.R_alloc | apply Kd.R_drewN | apply Kd.R_drew)); exact HO185.out) (Kd.R_base ho0) hb)
                                    have n6_ := Aside0.mk (Kd.R_elder' (by (with_reducible repeat (first | apply Kd.R_alloc | apply Kd.R_drewN | apply Kd.R_drew)); exact HO188.out) (Kd.R_base ho0) hb)
                                    have n7_ := Aside0.mk (Kd.R_lower (Kd.R_new' (Kd.R_new' ho0 (Kd.R_lt (by (with_reducible repeat (first | apply Kd.R_alloc | apply Kd.R_drewN | apply Kd.R_drew)); exact HO185.out))) (Kd.R_lt (by (with_reducible repeat (first | apply Kd.R_alloc | apply Kd.R_drewN | apply Kd.R_drew)); exact HO188.out))) (below_size (by repeat (first | (with_reducible first | exact HB.out | apply below_alloc | apply pw_below_drewN | apply below_drew1) | exact HB.out))))
                                    have n8_ := Aside0.mk (below_step (by repeat (first | (with_reducible first | exact HB.out | apply below_alloc | apply pw_below_drewN | apply below_drew1) | exact HB.out)) hb)
                                    clear HO160
                                    clear HO166
                                    clear HO172
                                    clear HO175
                                    clear HO178
                                    clear HO185
                                    clear HO188
                                    clear HB
                                    have HO160 := n0_
                                    have HO166 := n1_
                                    have HO172 := n2_
                                    have HO175 := n3_
                                    have HO178 := n4_
                                    have HO185 := n5_
                                    have HO188 := n6_
                                    have HO191 := n7_
                                    have HB := n8_
                                    clear n0_ n1_ n2_ n3_ n4_ n5_ n6_ n7_ n8_
                                    (try clear hb)
                                    (try clear hb2)
                                    (try clear hk)
                                    (try clear hi)
                                    (try clear ho0)
                                    refine hK.out _ _ trivial (fun hHeld => ?_)
                                    clear hK K
                                    refine norm_ (a' := ?_) ?_ ?_
                                    rotate_left
                                    · show Act.put _ (some 57) _ = _
                                      simp only [Act.put, List.setIfInBounds_toArray, List.set_cons_zero, List.set_cons_succ, i64_w, i32_w]
                                      rfl
                                    exact norm_ (by first | (simp only [putAll, Act.put, List.setIfInBounds_toArray, List.set_cons_zero, List.set_cons_succ]; done) | (simp only [putAll, Act.put, List.setIfInBounds_toArray, List.set_cons_zero, List.set_cons_succ]; rfl)) (hJ20_22_23_25 (v187, v190) _ ⟨(by (with_reducible repeat (first | apply Kd.R_alloc | apply Kd.R_drewN | apply Kd.R_drew)); exact HO160.out), (by (with_reducible repeat (first | apply Kd.R_alloc | apply Kd.R_drewN | apply Kd.R_drew)); exact HO166.out), (by (with_reducible repeat (first | apply Kd.R_alloc | apply Kd.R_drewN | apply Kd.R_drew)); exact HO172.out), (by (with_reducible repeat (first | apply Kd.R_alloc | apply Kd.R_drewN | apply Kd.R_drew)); exact HO175.out), (by (with_reducible repeat (first | apply Kd.R_alloc | apply Kd.R_drewN | apply Kd.R_drew)); exact HO178.out), (by (with_reducible repeat (first | apply Kd.R_alloc | apply Kd.R_drewN | apply Kd.R_drew)); exact HO185.out), (by (with_reducible repeat (first | apply Kd.R_alloc | apply Kd.R_drewN | apply Kd.R_drew)); exact HO188.out), (by (with_reducible repeat (first | apply Kd.R_alloc | apply Kd.R_drewN | apply Kd.R_drew)); exact Kd.R_mono HO191.out (fun _ hk => ⟨hk.1.2, hk.2⟩)), (by repeat (first | (with_reducible first | exact HB.out | apply below_alloc | apply pw_below_drewN | apply below_drew1) | exact HB.out))⟩)
                                · skip
                                  rintro ⟨v187, v190⟩ w52 ⟨h0_, h1_, h2_, h3_, h4_, h5_, h6_, h7_, h8_⟩
                                  have n0_ : Aside0 (Kd.R (Kd.int .i64) 3 w52 w.heap.size (fun k_ => some k_ ≠ (.slice Ao35 t164.length co35 : Value).ownBlock ∧ some k_ ≠ (.slice Ao38 t170.length co38 : Value).ownBlock ∧ some k_ ≠ (.slice Ao40 y173.length co40 : Value).ownBlock ∧ some k_ ≠ (.slice Ao43 t176.length co43 : Value).ownBlock) (.slice Ao39 y158.length co39) y158) := ⟨h0_⟩
                                  have n1_ : Aside0 (Kd.R (Kd.int .i64) 3 w52 w.heap.size (fun k_ => some k_ ≠ (.slice Ao39 y158.length co39 : Value).ownBlock ∧ some k_ ≠ (.slice Ao38 t170.length co38 : Value).ownBlock ∧ some k_ ≠ (.slice Ao40 y173.length co40 : Value).ownBlock ∧ some k_ ≠ (.slice Ao43 t176.length co43 : Value).ownBlock) (.slice Ao35 t164.length co35) t164) := ⟨h1_⟩
                                  have n2_ : Aside0 (Kd.R (Kd.int .i64) 3 w52 w.heap.size (fun k_ => some k_ ≠ (.slice Ao39 y158.length co39 : Value).ownBlock ∧ some k_ ≠ (.slice Ao35 t164.length co35 : Value).ownBlock ∧ some k_ ≠ (.slice Ao40 y173.length co40 : Value).ownBlock ∧ some k_ ≠ (.slice Ao43 t176.length co43 : Value).ownBlock) (.slice Ao38 t170.length co38) t170) := ⟨h2_⟩
                                  have n3_ : Aside0 (Kd.R (Kd.int .i64) 3 w52 w.heap.size (fun k_ => some k_ ≠ (.slice Ao39 y158.length co39 : Value).ownBlock ∧ some k_ ≠ (.slice Ao35 t164.length co35 : Value).ownBlock ∧ some k_ ≠ (.slice Ao38 t170.length co38 : Value).ownBlock ∧ some k_ ≠ (.slice Ao43 t176.length co43 : Value).ownBlock) (.slice Ao40 y173.length co40) y173) := ⟨h3_⟩
                                  have n4_ : Aside0 (Kd.R (Kd.int .i64) 3 w52 w.heap.size (fun k_ => some k_ ≠ (.slice Ao39 y158.length co39 : Value).ownBlock ∧ some k_ ≠ (.slice Ao35 t164.length co35 : Value).ownBlock ∧ some k_ ≠ (.slice Ao38 t170.length co38 : Value).ownBlock ∧ some k_ ≠ (.slice Ao40 y173.length co40 : Value).ownBlock) (.slice Ao43 t176.length co43) t176) := ⟨h4_⟩
                                  have n5_ : Aside0 (Kd.R (Kd.int .u8) 5 w52 w.heap.size (fun k_ => some k_ ≠ (v187 : Value).ownBlock ∧ some k_ ≠ (v190 : Value).ownBlock) v184 t183) := ⟨h5_⟩
                                  have n6_ : Aside0 (Kd.R (Kd.int .u8) 5 w52 w.heap.size (fun k_ => some k_ ≠ (v184 : Value).ownBlock ∧ some k_ ≠ (v190 : Value).ownBlock) v187 t186) := ⟨h6_⟩
                                  have n7_ : Aside0 (Kd.R (Kd.int .u8) 5 w52 w.heap.size (fun k_ => some k_ ≠ (v184 : Value).ownBlock ∧ some k_ ≠ (v187 : Value).ownBlock) v190 t189) := ⟨h7_⟩
                                  have n8_ : Aside0 (Below w.heap.size w w52) := ⟨h8_⟩
                                  clear HO160
                                  clear HO166
                                  clear HO172
                                  clear HO175
                                  clear HB
                                  clear h0_ h1_ h2_ h3_ h4_ h5_ h6_ h7_ h8_
                                  have HO160 := n0_
                                  have HO166 := n1_
                                  have HO172 := n2_
                                  have HO175 := n3_
                                  have HO178 := n4_
                                  have HO185 := n5_
                                  have HO188 := n6_
                                  have HO191 := n7_
                                  have HB := n8_
                                  clear n0_ n1_ n2_ n3_ n4_ n5_ n6_ n7_ n8_
                                  have hHeld := trivial
                                  refine norm_ (a' := ?_) ?_ ?_
                                  rotate_left
                                  · simp only [putAll, Act.put, List.setIfInBounds_toArray, List.set_cons_zero, List.set_cons_succ]
                                    rfl
                                  refine one_ (i := 20) (N := some 52) #[true, true, true, true, true, true, true, true, true, true, true, true, true, true, true, true, true, true, true, true, true, true, true, true, true, true, true, true, false, false, false] rfl rfl (one_of HT_.out (by kernel_rfl)) (by decide) (fun K hK => ?_)
                                  have hcv53 := own_string (P := Tryd.prog) Tryd.underlying27 Tryd.underlying5 Tryd.underlying9 (Kd.own_of_R HO185.out)
                                  refine value_ (w1 := ?_) (v := ?_) (by rfl) rfl ?_ ?_
                                  rotate_left 2
                                  · go_simp
                                    constructor
                                    · rfl
                                    · rfl
                                  clear hcv53
                                  refine hK.out _ _ trivial (fun hHeld => ?_)
                                  clear hK K
                                  refine norm_ (a' := ?_) ?_ ?_
                                  rotate_left
                                  · show Act.put _ (some 52) _ = _
                                    simp only [Act.put, List.setIfInBounds_toArray, List.set_cons_zero, List.set_cons_succ, i64_w, i32_w]
                                    rfl
                                  exact norm_ (by first | (simp only [putAll, Act.put, List.setIfInBounds_toArray, List.set_cons_zero, List.set_cons_succ]; done) | (simp only [putAll, Act.put, List.setIfInBounds_toArray, List.set_cons_zero, List.set_cons_succ]; rfl)) (hJ20_22_23_25_26 (v187, v190) _ ⟨(by (with_reducible repeat (first | apply Kd.R_alloc | apply Kd.R_drewN | apply Kd.R_drew)); exact HO160.out), (by (with_reducible repeat (first | apply Kd.R_alloc | apply Kd.R_drewN | apply Kd.R_drew)); exact HO166.out), (by (with_reducible repeat (first | apply Kd.R_alloc | apply Kd.R_drewN | apply Kd.R_drew)); exact HO172.out), (by (with_reducible repeat (first | apply Kd.R_alloc | apply Kd.R_drewN | apply Kd.R_drew)); exact HO175.out), (by (with_reducible repeat (first | apply Kd.R_alloc | apply Kd.R_drewN | apply Kd.R_drew)); exact HO178.out), (by (with_reducible repeat (first | apply Kd.R_alloc | apply Kd.R_drewN | apply Kd.R_drew)); exact HO185.out), (by (with_reducible repeat (first | apply Kd.R_alloc | apply Kd.R_drewN | apply Kd.R_drew)); exact HO188.out), (by (with_reducible repeat (first | apply Kd.R_alloc | apply Kd.R_drewN | apply Kd.R_drew)); exact HO191.out), (by repeat (first | (with_reducible first | exact HB.out | apply below_alloc | apply pw_below_drewN | apply below_drew1) | exact HB.out))⟩)
                              · skip
                                rintro ⟨v187, v190⟩ w52 ⟨h0_, h1_, h2_, h3_, h4_, h5_, h6_, h7_, h8_⟩
                                have n0_ : Aside0 (Kd.R (Kd.int .i64) 3 w52 w.heap.size (fun k_ => some k_ ≠ (.slice Ao35 t164.length co35 : Value).ownBlock ∧ some k_ ≠ (.slice Ao38 t170.length co38 : Value).ownBlock ∧ some k_ ≠ (.slice Ao40 y173.length co40 : Value).ownBlock ∧ some k_ ≠ (.slice Ao43 t176.length co43 : Value).ownBlock) (.slice Ao39 y158.length co39) y158) := ⟨h0_⟩
                                have n1_ : Aside0 (Kd.R (Kd.int .i64) 3 w52 w.heap.size (fun k_ => some k_ ≠ (.slice Ao39 y158.length co39 : Value).ownBlock ∧ some k_ ≠ (.slice Ao38 t170.length co38 : Value).ownBlock ∧ some k_ ≠ (.slice Ao40 y173.length co40 : Value).ownBlock ∧ some k_ ≠ (.slice Ao43 t176.length co43 : Value).ownBlock) (.slice Ao35 t164.length co35) t164) := ⟨h1_⟩
                                have n2_ : Aside0 (Kd.R (Kd.int .i64) 3 w52 w.heap.size (fun k_ => some k_ ≠ (.slice Ao39 y158.length co39 : Value).ownBlock ∧ some k_ ≠ (.slice Ao35 t164.length co35 : Value).ownBlock ∧ some k_ ≠ (.slice Ao40 y173.length co40 : Value).ownBlock ∧ some k_ ≠ (.slice Ao43 t176.length co43 : Value).ownBlock) (.slice Ao38 t170.length co38) t170) := ⟨h2_⟩
                                have n3_ : Aside0 (Kd.R (Kd.int .i64) 3 w52 w.heap.size (fun k_ => some k_ ≠ (.slice Ao39 y158.length co39 : Value).ownBlock ∧ some k_ ≠ (.slice Ao35 t164.length co35 : Value).ownBlock ∧ some k_ ≠ (.slice Ao38 t170.length co38 : Value).ownBlock ∧ some k_ ≠ (.slice Ao43 t176.length co43 : Value).ownBlock) (.slice Ao40 y173.length co40) y173) := ⟨h3_⟩
                                have n4_ : Aside0 (Kd.R (Kd.int .i64) 3 w52 w.heap.size (fun k_ => some k_ ≠ (.slice Ao39 y158.length co39 : Value).ownBlock ∧ some k_ ≠ (.slice Ao35 t164.length co35 : Value).ownBlock ∧ some k_ ≠ (.slice Ao38 t170.length co38 : Value).ownBlock ∧ some k_ ≠ (.slice Ao40 y173.length co40 : Value).ownBlock) (.slice Ao43 t176.length co43) t176) := ⟨h4_⟩
                                have n5_ : Aside0 (Kd.R (Kd.int .u8) 5 w52 w.heap.size (fun k_ => some k_ ≠ (v187 : Value).ownBlock ∧ some k_ ≠ (v190 : Value).ownBlock) v184 t183) := ⟨h5_⟩
                                have n6_ : Aside0 (Kd.R (Kd.int .u8) 5 w52 w.heap.size (fun k_ => some k_ ≠ (v184 : Value).ownBlock ∧ some k_ ≠ (v190 : Value).ownBlock) v187 t186) := ⟨h6_⟩
                                have n7_ : Aside0 (Kd.R (Kd.int .u8) 5 w52 w.heap.size (fun k_ => some k_ ≠ (v184 : Value).ownBlock ∧ some k_ ≠ (v187 : Value).ownBlock) v190 t189) := ⟨h7_⟩
                                have n8_ : Aside0 (Below w.heap.size w w52) := ⟨h8_⟩
                                clear HO160
                                clear HO166
                                clear HO172
                                clear HO175
                                clear HB
                                clear h0_ h1_ h2_ h3_ h4_ h5_ h6_ h7_ h8_
                                have HO160 := n0_
                                have HO166 := n1_
                                have HO172 := n2_
                                have HO175 := n3_
                                have HO178 := n4_
                                have HO185 := n5_
                                have HO188 := n6_
                                have HO191 := n7_
                                have HB := n8_
                                clear n0_ n1_ n2_ n3_ n4_ n5_ n6_ n7_ n8_
                                have hHeld := trivial
                                refine norm_ (a' := ?_) ?_ ?_
                                rotate_left
                                · simp only [putAll, Act.put, List.setIfInBounds_toArray, List.set_cons_zero, List.set_cons_succ]
                                  rfl
                                refine one_ (i := 23) (N := some 55) #[true, true, true, true, true, true, true, true, true, true, true, true, true, true, true, true, true, true, true, true, true, true, true, true, true, true, true, false, false, false, false] rfl rfl (one_of HT_.out (by kernel_rfl)) (by decide) (fun K hK => ?_)
                                have hcv53 := own_string (P := Tryd.prog) Tryd.underlying27 Tryd.underlying5 Tryd.underlying9 (Kd.own_of_R HO188.out)
                                refine value_ (w1 := ?_) (v := ?_) (by rfl) rfl ?_ ?_
                                rotate_left 2
                                · go_simp
                                  constructor
                                  · rfl
                                  · rfl
                                clear hcv53
                                refine hK.out _ _ trivial (fun hHeld => ?_)
                                clear hK K
                                refine norm_ (a' := ?_) ?_ ?_
                                rotate_left
                                · show Act.put _ (some 55) _ = _
                                  simp only [Act.put, List.setIfInBounds_toArray, List.set_cons_zero, List.set_cons_succ, i64_w, i32_w]
                                  rfl
                                refine pure_ (i := 27) (N := some 59) (v := ?_) (a' := ?_) #[true, true, true, true, true, true, true, true, true, true, true, true, true, true, true, true, true, true, true, true, true, true, true, true, true, true, true, true, false, false, false] rfl rfl (any_of HT_.out (by kernel_rfl)) (fun _ _ _ h => h) (Or.inl ⟨by rfl, ?_⟩) ?_ ?_
                                rotate_left
                                · intro w'
                                  go_simp
                                  with_reducible rfl
                                rotate_left
                                · simp only [Act.put, List.setIfInBounds_toArray, List.set_cons_zero, List.set_cons_succ, i64_w, i32_w]
                                  rfl
                                exact norm_ (by first | (simp only [putAll, Act.put, List.setIfInBounds_toArray, List.set_cons_zero, List.set_cons_succ]; done) | (simp only [putAll, Act.put, List.setIfInBounds_toArray, List.set_cons_zero, List.set_cons_succ]; rfl)) (hJ20_22_23_25_26 (v187, v190) _ ⟨(by (with_reducible repeat (first | apply Kd.R_alloc | apply Kd.R_drewN | apply Kd.R_drew)); exact HO160.out), (by (with_reducible repeat (first | apply Kd.R_alloc | apply Kd.R_drewN | apply Kd.R_drew)); exact HO166.out), (by (with_reducible repeat (first | apply Kd.R_alloc | apply Kd.R_drewN | apply Kd.R_drew)); exact HO172.out), (by (with_reducible repeat (first | apply Kd.R_alloc | apply Kd.R_drewN | apply Kd.R_drew)); exact HO175.out), (by (with_reducible repeat (first | apply Kd.R_alloc | apply Kd.R_drewN | apply Kd.R_drew)); exact HO178.out), (by (with_reducible repeat (first | apply Kd.R_alloc | apply Kd.R_drewN | apply Kd.R_drew)); exact HO185.out), (by (with_reducible repeat (first | apply Kd.R_alloc | apply Kd.R_drewN | apply Kd.R_drew)); exact HO188.out), (by (with_reducible repeat (first | apply Kd.R_alloc | apply Kd.R_drewN | apply Kd.R_drew)); exact HO191.out), (by repeat (first | (with_reducible first | exact HB.out | apply below_alloc | apply pw_below_drewN | apply below_drew1) | exact HB.out))⟩)
                            · skip
                              rintro ⟨v187, v190⟩ w52 ⟨h0_, h1_, h2_, h3_, h4_, h5_, h6_, h7_, h8_⟩
                              have n0_ : Aside0 (Kd.R (Kd.int .i64) 3 w52 w.heap.size (fun k_ => some k_ ≠ (.slice Ao35 t164.length co35 : Value).ownBlock ∧ some k_ ≠ (.slice Ao38 t170.length co38 : Value).ownBlock ∧ some k_ ≠ (.slice Ao40 y173.length co40 : Value).ownBlock ∧ some k_ ≠ (.slice Ao43 t176.length co43 : Value).ownBlock) (.slice Ao39 y158.length co39) y158) := ⟨h0_⟩
                              have n1_ : Aside0 (Kd.R (Kd.int .i64) 3 w52 w.heap.size (fun k_ => some k_ ≠ (.slice Ao39 y158.length co39 : Value).ownBlock ∧ some k_ ≠ (.slice Ao38 t170.length co38 : Value).ownBlock ∧ some k_ ≠ (.slice Ao40 y173.length co40 : Value).ownBlock ∧ some k_ ≠ (.slice Ao43 t176.length co43 : Value).ownBlock) (.slice Ao35 t164.length co35) t164) := ⟨h1_⟩
                              have n2_ : Aside0 (Kd.R (Kd.int .i64) 3 w52 w.heap.size (fun k_ => some k_ ≠ (.slice Ao39 y158.length co39 : Value).ownBlock ∧ some k_ ≠ (.slice Ao35 t164.length co35 : Value).ownBlock ∧ some k_ ≠ (.slice Ao40 y173.length co40 : Value).ownBlock ∧ some k_ ≠ (.slice Ao43 t176.length co43 : Value).ownBlock) (.slice Ao38 t170.length co38) t170) := ⟨h2_⟩
                              have n3_ : Aside0 (Kd.R (Kd.int .i64) 3 w52 w.heap.size (fun k_ => some k_ ≠ (.slice Ao39 y158.length co39 : Value).ownBlock ∧ some k_ ≠ (.slice Ao35 t164.length co35 : Value).ownBlock ∧ some k_ ≠ (.slice Ao38 t170.length co38 : Value).ownBlock ∧ some k_ ≠ (.slice Ao43 t176.length co43 : Value).ownBlock) (.slice Ao40 y173.length co40) y173) := ⟨h3_⟩
                              have n4_ : Aside0 (Kd.R (Kd.int .i64) 3 w52 w.heap.size (fun k_ => some k_ ≠ (.slice Ao39 y158.length co39 : Value).ownBlock ∧ some k_ ≠ (.slice Ao35 t164.length co35 : Value).ownBlock ∧ some k_ ≠ (.slice Ao38 t170.length co38 : Value).ownBlock ∧ some k_ ≠ (.slice Ao40 y173.length co40 : Value).ownBlock) (.slice Ao43 t176.length co43) t176) := ⟨h4_⟩
                              have n5_ : Aside0 (Kd.R (Kd.int .u8) 5 w52 w.heap.size (fun k_ => some k_ ≠ (v187 : Value).ownBlock ∧ some k_ ≠ (v190 : Value).ownBlock) v184 t183) := ⟨h5_⟩
                              have n6_ : Aside0 (Kd.R (Kd.int .u8) 5 w52 w.heap.size (fun k_ => some k_ ≠ (v184 : Value).ownBlock ∧ some k_ ≠ (v190 : Value).ownBlock) v187 t186) := ⟨h6_⟩
                              have n7_ : Aside0 (Kd.R (Kd.int .u8) 5 w52 w.heap.size (fun k_ => some k_ ≠ (v184 : Value).ownBlock ∧ some k_ ≠ (v187 : Value).ownBlock) v190 t189) := ⟨h7_⟩
                              have n8_ : Aside0 (Below w.heap.size w w52) := ⟨h8_⟩
                              clear HO160
                              clear HO166
                              clear HO172
                              clear HO175
                              clear HB
                              clear h0_ h1_ h2_ h3_ h4_ h5_ h6_ h7_ h8_
                              have HO160 := n0_
                              have HO166 := n1_
                              have HO172 := n2_
                              have HO175 := n3_
                              have HO178 := n4_
                              have HO185 := n5_
                              have HO188 := n6_
                              have HO191 := n7_
                              have HB := n8_
                              clear n0_ n1_ n2_ n3_ n4_ n5_ n6_ n7_ n8_
                              have hHeld := trivial
                              refine norm_ (a' := ?_) ?_ ?_
                              rotate_left
                              · simp only [putAll, Act.put, List.setIfInBounds_toArray, List.set_cons_zero, List.set_cons_succ]
                                rfl
                              refine one_ (i := 26) (N := some 58) #[true, true, true, true, true, true, true, true, true, true, true, true, true, true, true, true, true, true, true, true, true, true, true, true, true, true, true, false, false, false, false] rfl rfl (one_of HT_.out (by kernel_rfl)) (by decide) (fun K hK => ?_)
                              have hcv53 := own_string (P := Tryd.prog) Tryd.underlying27 Tryd.underlying5 Tryd.underlying9 (Kd.own_of_R HO191.out)
                              refine value_ (w1 := ?_) (v := ?_) (by rfl) rfl ?_ ?_
                              rotate_left 2
                              · go_simp
                                constructor
                                · rfl
                                · rfl
                              clear hcv53
                              refine hK.out _ _ trivial (fun hHeld => ?_)
                              clear hK K
                              refine norm_ (a' := ?_) ?_ ?_
                              rotate_left
                              · show Act.put _ (some 58) _ = _
                                simp only [Act.put, List.setIfInBounds_toArray, List.set_cons_zero, List.set_cons_succ, i64_w, i32_w]
                                rfl
                              refine pure_ (i := 27) (N := some 59) (v := ?_) (a' := ?_) #[true, true, true, true, true, true, true, true, true, true, true, true, true, true, true, true, true, true, true, true, true, true, true, true, true, true, true, true, false, false, false] rfl rfl (any_of HT_.out (by kernel_rfl)) (fun _ _ _ h => h) (Or.inl ⟨by rfl, ?_⟩) ?_ ?_
                              rotate_left
                              · intro w'
                                go_simp
                                with_reducible rfl
                              rotate_left
                              · simp only [Act.put, List.setIfInBounds_toArray, List.set_cons_zero, List.set_cons_succ, i64_w, i32_w]
                                rfl
                              exact norm_ (by first | (simp only [putAll, Act.put, List.setIfInBounds_toArray, List.set_cons_zero, List.set_cons_succ]; done) | (simp only [putAll, Act.put, List.setIfInBounds_toArray, List.set_cons_zero, List.set_cons_succ]; rfl)) (hJ20_22_23_25_26 (v187, v190) _ ⟨(by (with_reducible repeat (first | apply Kd.R_alloc | apply Kd.R_drewN | apply Kd.R_drew)); exact HO160.out), (by (with_reducible repeat (first | apply Kd.R_alloc | apply Kd.R_drewN | apply Kd.R_drew)); exact HO166.out), (by (with_reducible repeat (first | apply Kd.R_alloc | apply Kd.R_drewN | apply Kd.R_drew)); exact HO172.out), (by (with_reducible repeat (first | apply Kd.R_alloc | apply Kd.R_drewN | apply Kd.R_drew)); exact HO175.out), (by (with_reducible repeat (first | apply Kd.R_alloc | apply Kd.R_drewN | apply Kd.R_drew)); exact HO178.out), (by (with_reducible repeat (first | apply Kd.R_alloc | apply Kd.R_drewN | apply Kd.R_drew)); exact HO185.out), (by (with_reducible repeat (first | apply Kd.R_alloc | apply Kd.R_drewN | apply Kd.R_drew)); exact HO188.out), (by (with_reducible repeat (first | apply Kd.R_alloc | apply Kd.R_drewN | apply Kd.R_drew)); exact HO191.out), (by repeat (first | (with_reducible first | exact HB.out | apply below_alloc | apply pw_below_drewN | apply below_drew1) | exact HB.out))⟩)
                          rintro ⟨v187, v190⟩ w53 ⟨h0_, h1_, h2_, h3_, h4_, h5_, h6_, h7_, h8_⟩
                          have n0_ : Aside0 (Kd.R (Kd.int .i64) 3 w53 w.heap.size (fun k_ => some k_ ≠ (.slice Ao35 t164.length co35 : Value).ownBlock ∧ some k_ ≠ (.slice Ao38 t170.length co38 : Value).ownBlock ∧ some k_ ≠ (.slice Ao40 y173.length co40 : Value).ownBlock ∧ some k_ ≠ (.slice Ao43 t176.length co43 : Value).ownBlock) (.slice Ao39 y158.length co39) y158) := ⟨h0_⟩
                          have n1_ : Aside0 (Kd.R (Kd.int .i64) 3 w53 w.heap.size (fun k_ => some k_ ≠ (.slice Ao39 y158.length co39 : Value).ownBlock ∧ some k_ ≠ (.slice Ao38 t170.length co38 : Value).ownBlock ∧ some k_ ≠ (.slice Ao40 y173.length co40 : Value).ownBlock ∧ some k_ ≠ (.slice Ao43 t176.length co43 : Value).ownBlock) (.slice Ao35 t164.length co35) t164) := ⟨h1_⟩
                          have n2_ : Aside0 (Kd.R (Kd.int .i64) 3 w53 w.heap.size (fun k_ => some k_ ≠ (.slice Ao39 y158.length co39 : Value).ownBlock ∧ some k_ ≠ (.slice Ao35 t164.length co35 : Value).ownBlock ∧ some k_ ≠ (.slice Ao40 y173.length co40 : Value).ownBlock ∧ some k_ ≠ (.slice Ao43 t176.length co43 : Value).ownBlock) (.slice Ao38 t170.length co38) t170) := ⟨h2_⟩
                          have n3_ : Aside0 (Kd.R (Kd.int .i64) 3 w53 w.heap.size (fun k_ => some k_ ≠ (.slice Ao39 y158.length co39 : Value).ownBlock ∧ some k_ ≠ (.slice Ao35 t164.length co35 : Value).ownBlock ∧ some k_ ≠ (.slice Ao38 t170.length co38 : Value).ownBlock ∧ some k_ ≠ (.slice Ao43 t176.length co43 : Value).ownBlock) (.slice Ao40 y173.length co40) y173) := ⟨h3_⟩
                          have n4_ : Aside0 (Kd.R (Kd.int .i64) 3 w53 w.heap.size (fun k_ => some k_ ≠ (.slice Ao39 y158.length co39 : Value).ownBlock ∧ some k_ ≠ (.slice Ao35 t164.length co35 : Value).ownBlock ∧ some k_ ≠ (.slice Ao38 t170.length co38 : Value).ownBlock ∧ some k_ ≠ (.slice Ao40 y173.length co40 : Value).ownBlock) (.slice Ao43 t176.length co43) t176) := ⟨h4_⟩
                          have n5_ : Aside0 (Kd.R (Kd.int .u8) 5 w53 w.heap.size (fun k_ => some k_ ≠ (v187 : Value).ownBlock ∧ some k_ ≠ (v190 : Value).ownBlock) v184 t183) := ⟨h5_⟩
                          have n6_ : Aside0 (Kd.R (Kd.int .u8) 5 w53 w.heap.size (fun k_ => some k_ ≠ (v184 : Value).ownBlock ∧ some k_ ≠ (v190 : Value).ownBlock) v187 t186) := ⟨h6_⟩
                          have n7_ : Aside0 (Kd.R (Kd.int .u8) 5 w53 w.heap.size (fun k_ => some k_ ≠ (v184 : Value).ownBlock ∧ some k_ ≠ (v187 : Value).ownBlock) v190 t189) := ⟨h7_⟩
                          have n8_ : Aside0 (Below w.heap.size w w53) := ⟨h8_⟩
                          clear HO160
                          clear HO166
                          clear HO172
                          clear HO175
                          clear HB
                          clear h0_ h1_ h2_ h3_ h4_ h5_ h6_ h7_ h8_
                          have HO160 := n0_
                          have HO166 := n1_
                          have HO172 := n2_
                          have HO175 := n3_
                          have HO178 := n4_
                          have HO185 := n5_
                          have HO188 := n6_
                          have HO191 := n7_
                          have HB := n8_
                          clear n0_ n1_ n2_ n3_ n4_ n5_ n6_ n7_ n8_
                          have hHeld := trivial
                          refine norm_ (a' := ?_) ?_ ?_
                          rotate_left
                          · simp only [putAll, Act.put, List.setIfInBounds_toArray, List.set_cons_zero, List.set_cons_succ]
                            rfl
                          refine pure_ (i := 28) (N := some 60) (v := ?_) (a' := ?_) #[true, true, true, true, true, true, true, true, true, true, true, true, true, true, true, true, true, true, true, true, true, true, true, true, true, true, true, true, true, false, false] rfl rfl (any_of HT_.out (by kernel_rfl)) (fun _ _ _ h => h) (Or.inl ⟨by rfl, ?_⟩) ?_ ?_
                          rotate_left
                          · intro w'
                            go_simp
                            with_reducible rfl
                          rotate_left
                          · simp only [Act.put, List.setIfInBounds_toArray, List.set_cons_zero, List.set_cons_succ, i64_w, i32_w]
                            rfl
                          refine pure_ (i := 29) (N := some 61) (v := ?_) (a' := ?_) #[true, true, true, true, true, true, true, true, true, true, true, true, true, true, true, true, true, true, true, true, true, true, true, true, true, true, true, true, true, true, false] rfl rfl (any_of HT_.out (by kernel_rfl)) (fun _ _ _ h => h) (Or.inl ⟨by rfl, ?_⟩) ?_ ?_
                          rotate_left
                          · intro w'
                            go_simp
                            with_reducible rfl
                          rotate_left
                          · simp only [Act.put, List.setIfInBounds_toArray, List.set_cons_zero, List.set_cons_succ, i64_w, i32_w]
                            rfl
                          refine pure_ (i := 30) (N := some 4) (v := ?_) (a' := ?_) #[true, true, true, true, true, true, true, true, true, true, true, true, true, true, true, true, true, true, true, true, true, true, true, true, true, true, true, true, true, true, true] rfl rfl (any_of HT_.out (by kernel_rfl)) (fun _ _ _ h => h) (Or.inl ⟨by rfl, ?_⟩) ?_ ?_
                          rotate_left
                          · intro w'
                            go_simp
                            with_reducible rfl
                          rotate_left
                          · simp only [Act.put, List.setIfInBounds_toArray, List.set_cons_zero, List.set_cons_succ, i64_w, i32_w]
                            rfl
                          refine done_ (done_of HT_.out (by kernel_rfl)) ?_
                          try go_wp2
                          go_ret
                          exact ⟨by first | rfl | (simp [errW_none, errW_some] <;> rfl) | (simp [*, errW_none, errW_some] <;> rfl), by repeat (first | (with_reducible first | exact HB.out | apply below_alloc | apply pw_below_drewN | apply below_drew1) | exact HB.out)⟩
                        · rw [if_neg c26] at H
                          exact absurd H (by simp)
                      · rw [if_neg c22] at H
                        exact absurd H (by simp)
                    · rw [if_neg c21] at H
                      exact absurd H (by simp)
                  · rw [if_neg c17] at H
                    exact absurd H (by simp)
                · rw [if_neg c14] at H
                  exact absurd H (by simp)
              · rw [if_neg c13] at H
                exact absurd H (by simp)
            · rw [if_neg c11] at H
              exact absurd H (by simp)
          · rw [if_neg c9] at H
            exact absurd H (by simp)
        · rw [if_neg c8] at H
          exact absurd H (by simp)

end Go.Proofs.YtlipfldicjihhaaDoor.PAll
