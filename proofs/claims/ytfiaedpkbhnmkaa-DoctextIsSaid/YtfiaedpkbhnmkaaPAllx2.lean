-- made by xprint.py of this session
import Derived.Test.YtfiaedpkbhnmkaaPAllx0
import Derived.Test.YtfiaedpkbhnmkaaPAllx1
import Derived.Laws.CopyRow
import Derived.Laws.CopyOwn
import Derived.RegionTactic
namespace Go.Proofs.Ytfiaedpkbhnmkaa.PAll
open Go.RowKit Go.Proofs.YtfiaedpkbhnmkaaW.PrintWords Go.Proofs.YtfiaedpkbhnmkaaW.PrintLast Go.Proofs.YtfiaedpkbhnmkaaW.PrintMore
attribute [local go_sem] max2_int min2_int max_two min_two max_three min_three max_four min_four   -- for this text's walks alone
set_option linter.unusedVariables false
set_option linter.unusedSimpArgs false

/-! ### EXT doctext_table: function 30 -/
-- IMPORTS Derived.Laws.CopyRow;Derived.Laws.CopyOwn;Derived.RegionTactic
/-! doctext.table: an array of 256 numbers, filled. -/
/-- The cells of an array whose i-th number is f i. -/
def cellsT (f : Nat → Int) : Array Value := ((List.range 256).map fun i => Value.int .i64 (f i)).toArray
theorem cellsT_size (f : Nat → Int) : (cellsT f).size = 256 := by simp [cellsT]
theorem cellsT_get (f : Nat → Int) {i : Nat} (h : i < 256) : (cellsT f)[i]? = some (.int .i64 (f i)) := by
  unfold cellsT
  rw [List.getElem?_toArray, List.getElem?_map, List.getElem?_range h]
  rfl
theorem cellsT_set (f : Nat → Int) (i : Nat) (v : Int) : (cellsT f).setIfInBounds i (.int .i64 v) = cellsT fun j => if j = i then v else f j := by
  apply Array.ext'
  apply List.ext_getElem?
  intro j
  rw [Array.toList_setIfInBounds, List.getElem?_set]
  by_cases hj : j < 256
  · have e1 := cellsT_get (fun j => if j = i then v else f j) hj
    have e2 := cellsT_get f hj
    rw [← Array.getElem?_toList] at e1 e2
    rw [e1]
    by_cases h : i = j
    · subst h
      simp [cellsT, hj]
    · rw [if_neg h, e2, if_neg (fun e => h e.symm)]
  · rw [List.getElem?_eq_none (by simp [cellsT]; omega), List.getElem?_eq_none (by simp [cellsT]; omega)]
    simp [cellsT]
    omega
theorem cellsT_congr {f g : Nat → Int} (h : ∀ i, i < 256 → f i = g i) : cellsT f = cellsT g := by
  unfold cellsT
  congr 1
  refine List.map_congr_left fun i hi => ?_
  rw [h i (List.mem_range.mp hi)]
theorem cellsT_copy (f : Nat → Int) (o : Nat) (xs : List Int) (h : o + xs.length ≤ 256) :
    ((cellsT f).toList.take o ++ nums .i64 xs ++ (cellsT f).toList.drop (o + xs.length)).toArray = cellsT fun j => if o ≤ j ∧ j < o + xs.length then xs.getD (j - o) 0 else f j := by
  apply Array.ext'
  apply List.ext_getElem?
  intro i
  have hl : ((cellsT f).toList.take o).length = o := by
    rw [List.length_take]
    simp [cellsT]
    omega
  have hn : (nums .i64 xs).length = xs.length := nums_length _ _
  simp only
  by_cases hi : i < 256
  · have e1 := cellsT_get (fun j => if o ≤ j ∧ j < o + xs.length then xs.getD (j - o) 0 else f j) hi
    have e2 := cellsT_get f hi
    rw [← Array.getElem?_toList] at e1 e2
    rw [e1]
    rw [List.append_assoc]
    rcases Nat.lt_or_ge i o with h1 | h1
    · rw [List.getElem?_append_left (by omega), List.getElem?_take_of_lt h1, e2, if_neg (by omega)]
    · rw [List.getElem?_append_right (by omega), hl]
      rcases Nat.lt_or_ge (i - o) xs.length with h2 | h2
      · rw [List.getElem?_append_left (by omega), if_pos (by omega)]
        simp [nums, List.getElem?_map, List.getElem?_eq_getElem h2, List.getD, h2]
      · rw [List.getElem?_append_right (by omega), hn, List.getElem?_drop, show o + xs.length + (i - o - xs.length) = i by omega, e2, if_neg (by omega)]
  · have e1 : (cellsT fun j => if o ≤ j ∧ j < o + xs.length then xs.getD (j - o) 0 else f j).toList[i]? = none := List.getElem?_eq_none (by simp [cellsT]; omega)
    rw [e1]
    refine List.getElem?_eq_none ?_
    simp [cellsT, nums]
    omega
def tabB (c : Nat) : Bool := decide (32 ≤ c ∧ c ≤ 126 ∨ 160 < c ∧ c ≠ 173)
def lowL : List Int := [728, 711, 710, 729, 733, 731, 730, 732]
def highL : List Int := [8226, 8224, 8225, 8230, 8212, 8211, 402, 8260, 8249, 8250, 8722, 8240, 8222, 8220, 8221, 8216, 8217, 8218, 8482, 64257, 64258, 321, 338, 352, 376, 381, 305, 322, 339, 353, 382]
def tab0 (k : Nat) (c : Nat) : Int := if (1 ≤ k ∧ c = 9) ∨ (2 ≤ k ∧ c = 10) ∨ (3 ≤ k ∧ c = 13) then (c : Int) else 0
def tab1 (k : Nat) (c : Nat) : Int := if c < k ∧ tabB c = true then (c : Int) else tab0 3 c
def tab2 (c : Nat) : Int := if 24 ≤ c ∧ c < 24 + lowL.length then lowL.getD (c - 24) 0 else tab1 256 c
def tab3 (c : Nat) : Int := if 128 ≤ c ∧ c < 128 + highL.length then highL.getD (c - 128) 0 else tab2 c
/-- All bytes' values; 0: none. -/
def tabT (c : Nat) : Int := if c = 160 then 8364 else tab3 c

theorem wp_load_run {P : Program} {o : Oper} {a : Act} {w : World} {K : Act → World → Prop} {Q : Exit → Act → World → Prop} {v : Value} (t : TypeId) (x : Operand) (ho : o.op = .load t x) (hrun : (Instr.loadAt t (a.eval x)).run P w = .ok v w)
    (h : K (a.put o.dst v) w) : Oper.wp P o a w K Q := by
  unfold Oper.wp execOp
  simp only [ho, Sem.run_bind, hrun, Result.andThen_ok, Sem.run_pure]
  exact h
theorem wp_store_run {P : Program} {o : Oper} {a : Act} {w w' : World} {K : Act → World → Prop} {Q : Exit → Act → World → Prop} (t : TypeId) (x y : Operand) (ho : o.op = .store t x y) (hrun : (Instr.storeAt t (a.eval x) (a.eval y)).run P w = .ok () w')
    (h : K (a.put o.dst undef) w') : Oper.wp P o a w K Q := by
  unfold Oper.wp execOp
  simp only [ho, Sem.run_bind, hrun, Result.andThen_ok, Sem.run_pure]
  exact h
theorem tab1_zero : cellsT (tab1 0) = cellsT (tab0 3) := cellsT_congr fun j hj => by
  unfold tab1
  rw [if_neg (by omega)]
theorem tab1_yes {c : Nat} (h : tabB c = true) : (cellsT fun j => if j = c then (c : Int) else tab1 c j) = cellsT (tab1 (c + 1)) := cellsT_congr fun j hj => by
  unfold tab1
  by_cases e : j = c
  · subst e
    rw [if_pos rfl, if_pos ⟨by omega, h⟩]
  · rw [if_neg e]
    by_cases e2 : j < c
    · simp only [e2, show j < c + 1 by omega]
    · simp only [e2, show ¬ j < c + 1 by omega]
theorem tab1_no {c : Nat} (h : tabB c = false) : cellsT (tab1 (c + 1)) = cellsT (tab1 c) := cellsT_congr fun j hj => by
  unfold tab1
  by_cases e : j = c
  · subst e
    rw [h]
    simp
  · by_cases e2 : j < c
    · simp only [e2, show j < c + 1 by omega]
    · simp only [e2, show ¬ j < c + 1 by omega]
/-- A row of numbers, copied into the array. -/
theorem doctext_table.copy (ty : TypeId) (w : World) (gt o : Nat) (f : Nat → Int) (t : TypeId) (l cap : Nat) (A : Addr) (c : Nat) (xs : List Int) (hg : w.heap[gt]? = some (.cells (cellsT f) t (0, 0))) (hC : Kd.C (Kd.int .i64) w (some A) xs.length xs) (ho : o + xs.length ≤ 256) (hl : xs.length ≤ l) :
    (Builtin.copy_ #[22, 22] ty #[.slice (some ⟨gt, o, none⟩) l cap, .slice (some A) xs.length c]).run Try.prog w = .ok (goInt xs.length) (w.setRow gt (cellsT fun j => if o ≤ j ∧ j < o + xs.length then xs.getD (j - o) 0 else f j)) := by
  have h := run_copy_row Try.prog w 22 22 ty 3 gt o l cap A xs.length c (cellsT f) t (nums .i64 xs) Try.underlying22 (by kernel_rfl) hg (by rw [nums_length]; exact (Nat.min_eq_left hl).symm) (fun j v hv => by
    obtain ⟨hj, hv'⟩ := List.getElem?_eq_some_iff.mp hv
    rw [nums_length] at hj
    obtain ⟨ad, e, h⟩ := Kd.at_int hC (j : Int) (by omega) (by omega)
    cases e
    rw [Int.toNat_natCast] at h
    rw [h, ← hv']
    simp [nums, rd, List.getD, hj]) (by rw [nums_length, cellsT_size]; exact ho) (fun v hv => by
    unfold nums at hv
    obtain ⟨x, _, rfl⟩ := List.mem_map.mp hv
    rfl)
  rw [nums_length, cellsT_copy f o xs ho] at h
  exact h
set_option maxRecDepth 100000 in
set_option maxHeartbeats 4000000 in
theorem doctext_table.calls (w : World) : Calls Try.prog 30 #[] w fun e w' => e = .returned (.agg (cellsT tabT)) ∧ Below w.heap.size w w' := by
  have HB := Aside0.mk (Below.refl w.heap.size w)
  go_enter Try.func30, Try.ntmps30
  go_wp2_with (first | ((with_reducible refine gate_dst (N := 0) rfl ?_); refine box_event ?hg (N := 0) ?hd (cs := cellsT (tab0 0)) (t := 44) ?hr ?_; (case hd => rfl); (case hg => rfl); (case hr => kernel_rfl); intro gr hg w1 hbox hb; have n0_ := Aside0.mk (below_step HB.out hb); have n1_ := Aside0.mk hbox; have n2_ := Aside0.mk ((by rw [hg]; exact Nat.le_refl _) : w.heap.size ≤ gr); clear HB; have HB := n0_; have BKr := n1_; have GEr := n2_; clear n0_ n1_ n2_; clear hb hbox hg) | ((with_reducible refine gate_dst (N := 1) rfl ?_); refine box_event ?hg (N := 1) ?hd (cs := cellsT (tab0 0)) (t := 44) ?hr ?_; (case hd => rfl); (case hg => rfl); (case hr => kernel_rfl); intro gt hg w2 hbox hb; have n0_ := Aside0.mk (below_step HB.out hb); have n1_ := Aside0.mk hbox; have n2_ := Aside0.mk ((by rw [hg]; exact below_size HB.out) : w.heap.size ≤ gt); have n3_ := Aside0.mk (blk_below BKr.out hb); have n4_ := Aside0.mk ((by rw [hg]; exact Nat.ne_of_lt (blk_lt BKr.out)) : gr ≠ gt); clear HB BKr; have HB := n0_; have BKt := n1_; have GEt := n2_; have BKr := n3_; have NB := n4_; clear n0_ n1_ n2_ n3_ n4_; clear hb hbox hg))
  have BKl := Aside0.mk (heap_alloc_new w2 (.cells #[.int .i64 9, .int .i64 10, .int .i64 13] 3))
  have BKt2 := Aside0.mk (blk_alloc BKt.out (.cells #[.int .i64 9, .int .i64 10, .int .i64 13] 3))
  have BKr2 := Aside0.mk (blk_alloc BKr.out (.cells #[.int .i64 9, .int .i64 10, .int .i64 13] 3))
  have HB2 := Aside0.mk (below_alloc HB.out (.cells #[.int .i64 9, .int .i64 10, .int .i64 13] 3))
  have NL := Aside0.mk (show w2.heap.size ≠ gt by have := blk_lt BKt.out; omega)
  clear HB BKt BKr
  generalize (w2.alloc (.cells #[.int .i64 9, .int .i64 10, .int .i64 13] 3)) = w3 at *
  generalize w2.heap.size = gl at *
  go_loopg [7] 4 (fun kq v7 w' => ∃ (i : Nat), v7 = .int .i64 (i : Nat) ∧ Aside0 (i ≤ 3 ∧ 4 ≤ kq + i) ∧ Aside0 (w'.heap[gl]? = some (.cells #[.int .i64 9, .int .i64 10, .int .i64 13] 3 (0, 0))) ∧ Aside0 (w'.heap[gt]? = some (.cells (cellsT (tab0 i)) 44 (0, 0))) ∧ Aside0 (w'.heap[gr]? = some (.cells (cellsT (tab0 0)) 44 (0, 0))) ∧ Aside0 (Below w.heap.size w w'))
  case atStart => exact ⟨0, rfl, ⟨by omega⟩, BKl, BKt2, BKr2, HB2⟩
  case round =>
    clear BKl BKt2 BKr2 HB2
    obtain ⟨i, rfl, HI, BKl, BKt, BKr, HB⟩ := hrel
    cases gk with
    | zero => have := HI.out; omega
    | succ k1 =>
      have hi : i = 0 ∨ i = 1 ∨ i = 2 ∨ i = 3 := by have := HI.out; omega
      rcases hi with rfl | rfl | rfl | rfl
      · have hl0 : wr.cell? ⟨gl, 0, none⟩ = some (.int .i64 9) := (blk_cell BKl.out 0).trans rfl
        have ht0 : wr.cell? ⟨gt, 9, none⟩ = some (.int .i64 (tab0 0 9)) := (blk_cell BKt.out 9).trans (cellsT_get _ (by decide))
        have ht1 := blk_frozen BKt.out 9
        go_wp2
        go_roundg k1
        case measure => have := HI.out; omega
        case rel => exact ⟨1, rfl, ⟨by have := HI.out; omega⟩, ⟨blk_far BKl.out NL.out _⟩, ⟨blk_put BKt.out 9 _ ((cellsT_set _ _ _).trans (cellsT_congr fun j hj => by unfold tab0; split <;> (try split) <;> (try split) <;> omega))⟩, ⟨blk_far BKr.out NB.out _⟩, ⟨by repeat (first | (with_reducible first | exact HB.out | apply below_alloc | apply pw_below_drewN | apply below_drew1 | refine below_set ?_ GEt.out) | exact HB.out)⟩⟩
      · have hl0 : wr.cell? ⟨gl, 1, none⟩ = some (.int .i64 10) := (blk_cell BKl.out 1).trans rfl
        have ht0 : wr.cell? ⟨gt, 10, none⟩ = some (.int .i64 (tab0 1 10)) := (blk_cell BKt.out 10).trans (cellsT_get _ (by decide))
        have ht1 := blk_frozen BKt.out 10
        go_wp2
        go_roundg k1
        case measure => have := HI.out; omega
        case rel => exact ⟨2, rfl, ⟨by have := HI.out; omega⟩, ⟨blk_far BKl.out NL.out _⟩, ⟨blk_put BKt.out 10 _ ((cellsT_set _ _ _).trans (cellsT_congr fun j hj => by unfold tab0; split <;> (try split) <;> (try split) <;> omega))⟩, ⟨blk_far BKr.out NB.out _⟩, ⟨by repeat (first | (with_reducible first | exact HB.out | apply below_alloc | apply pw_below_drewN | apply below_drew1 | refine below_set ?_ GEt.out) | exact HB.out)⟩⟩
      · have hl0 : wr.cell? ⟨gl, 2, none⟩ = some (.int .i64 13) := (blk_cell BKl.out 2).trans rfl
        have ht0 : wr.cell? ⟨gt, 13, none⟩ = some (.int .i64 (tab0 2 13)) := (blk_cell BKt.out 13).trans (cellsT_get _ (by decide))
        have ht1 := blk_frozen BKt.out 13
        go_wp2
        go_roundg k1
        case measure => have := HI.out; omega
        case rel => exact ⟨3, rfl, ⟨by have := HI.out; omega⟩, ⟨blk_far BKl.out NL.out _⟩, ⟨blk_put BKt.out 13 _ ((cellsT_set _ _ _).trans (cellsT_congr fun j hj => by unfold tab0; split <;> (try split) <;> (try split) <;> omega))⟩, ⟨blk_far BKr.out NB.out _⟩, ⟨by repeat (first | (with_reducible first | exact HB.out | apply below_alloc | apply pw_below_drewN | apply below_drew1 | refine below_set ?_ GEt.out) | exact HB.out)⟩⟩
      · go_wp2
        have BKt1 := Aside0.mk (show wr.heap[gt]? = some (.cells (cellsT (tab1 0)) 44 (0, 0)) by
          rw [tab1_zero]
          exact BKt.out)
        clear BKt BKl HI
        go_loopg [15] 257 (fun kq v15 w' => ∃ (c : Nat), v15 = .int .i64 (c : Nat) ∧ Aside0 (c ≤ 256 ∧ 257 ≤ kq + c) ∧ Aside0 (w'.heap[gt]? = some (.cells (cellsT (tab1 c)) 44 (0, 0))) ∧ Aside0 (w'.heap[gr]? = some (.cells (cellsT (tab0 0)) 44 (0, 0))) ∧ Aside0 (Below w.heap.size w w'))
        case atStart => exact ⟨0, rfl, ⟨by omega⟩, BKt1, BKr, HB⟩
        case round =>
          clear BKt1 BKr HB
          obtain ⟨c, rfl, HI, BKt, BKr, HB⟩ := hrel
          cases gk with
          | zero => have := HI.out; omega
          | succ k2 =>
            by_cases hc : c < 256
            · have ht0 : wr.cell? ⟨gt, c, none⟩ = some (.int .i64 (tab1 c c)) := (blk_cell BKt.out c).trans (cellsT_get _ hc)
              have ht1 := blk_frozen BKt.out c
              have h0 : ((c : Int) < 256) = True := eq_true (by omega)
              have h00 : (0 ≤ (c : Int)) = True := eq_true (by omega)
              have hcs : (c < 32) ∨ (32 ≤ c ∧ c ≤ 126) ∨ (126 < c ∧ c ≤ 160) ∨ (160 < c ∧ c ≠ 173) ∨ c = 173 := by omega
              rcases hcs with h | h | h | h | h
              · have h1 : (32 ≤ (c : Int)) = False := eq_false (by omega)
                have h2 : ((c : Int) ≤ 126) = True := eq_true (by omega)
                have h3 : (160 < (c : Int)) = False := eq_false (by omega)
                have h4 : ((c : Int) = 173) = False := eq_false (by omega)
                have HT := Aside0.mk (show tabB c = false from decide_eq_false (by omega))
                go_wp2
                go_roundg k2
                case measure => have := HI.out; omega
                case rel => exact ⟨c + 1, (by first | rfl | (congr 1; unfold wrap64; omega) | (simp [wrap64]; omega)), ⟨by have := HI.out; omega⟩, ⟨by rw [tab1_no HT.out]; exact BKt.out⟩, BKr, ⟨by repeat (first | (with_reducible first | exact HB.out | apply below_alloc | apply pw_below_drewN | apply below_drew1 | refine below_set ?_ GEt.out) | exact HB.out)⟩⟩
              · have h1 : (32 ≤ (c : Int)) = True := eq_true (by omega)
                have h2 : ((c : Int) ≤ 126) = True := eq_true (by omega)
                have h3 : (160 < (c : Int)) = False := eq_false (by omega)
                have h4 : ((c : Int) = 173) = False := eq_false (by omega)
                have HT := Aside0.mk (show tabB c = true from decide_eq_true (by omega))
                go_wp2
                go_roundg k2
                case measure => have := HI.out; omega
                case rel => exact ⟨c + 1, (by first | rfl | (congr 1; unfold wrap64; omega) | (simp [wrap64]; omega)), ⟨by have := HI.out; omega⟩, ⟨blk_put BKt.out c _ ((cellsT_set _ _ _).trans (tab1_yes HT.out))⟩, ⟨blk_far BKr.out NB.out _⟩, ⟨by repeat (first | (with_reducible first | exact HB.out | apply below_alloc | apply pw_below_drewN | apply below_drew1 | refine below_set ?_ GEt.out) | exact HB.out)⟩⟩
              · have h1 : (32 ≤ (c : Int)) = True := eq_true (by omega)
                have h2 : ((c : Int) ≤ 126) = False := eq_false (by omega)
                have h3 : (160 < (c : Int)) = False := eq_false (by omega)
                have h4 : ((c : Int) = 173) = False := eq_false (by omega)
                have HT := Aside0.mk (show tabB c = false from decide_eq_false (by omega))
                go_wp2
                go_roundg k2
                case measure => have := HI.out; omega
                case rel => exact ⟨c + 1, (by first | rfl | (congr 1; unfold wrap64; omega) | (simp [wrap64]; omega)), ⟨by have := HI.out; omega⟩, ⟨by rw [tab1_no HT.out]; exact BKt.out⟩, BKr, ⟨by repeat (first | (with_reducible first | exact HB.out | apply below_alloc | apply pw_below_drewN | apply below_drew1 | refine below_set ?_ GEt.out) | exact HB.out)⟩⟩
              · have h1 : (32 ≤ (c : Int)) = True := eq_true (by omega)
                have h2 : ((c : Int) ≤ 126) = False := eq_false (by omega)
                have h3 : (160 < (c : Int)) = True := eq_true (by omega)
                have h4 : ((c : Int) = 173) = False := eq_false (by omega)
                have HT := Aside0.mk (show tabB c = true from decide_eq_true (by omega))
                go_wp2
                go_roundg k2
                case measure => have := HI.out; omega
                case rel => exact ⟨c + 1, (by first | rfl | (congr 1; unfold wrap64; omega) | (simp [wrap64]; omega)), ⟨by have := HI.out; omega⟩, ⟨blk_put BKt.out c _ ((cellsT_set _ _ _).trans (tab1_yes HT.out))⟩, ⟨blk_far BKr.out NB.out _⟩, ⟨by repeat (first | (with_reducible first | exact HB.out | apply below_alloc | apply pw_below_drewN | apply below_drew1 | refine below_set ?_ GEt.out) | exact HB.out)⟩⟩
              · have h1 : (32 ≤ (c : Int)) = True := eq_true (by omega)
                have h2 : ((c : Int) ≤ 126) = False := eq_false (by omega)
                have h3 : (160 < (c : Int)) = True := eq_true (by omega)
                have h4 : ((c : Int) = 173) = True := eq_true (by omega)
                have HT := Aside0.mk (show tabB c = false from decide_eq_false (by omega))
                go_wp2
                go_roundg k2
                case measure => have := HI.out; omega
                case rel => exact ⟨c + 1, (by first | rfl | (congr 1; unfold wrap64; omega) | (simp [wrap64]; omega)), ⟨by have := HI.out; omega⟩, ⟨by rw [tab1_no HT.out]; exact BKt.out⟩, BKr, ⟨by repeat (first | (with_reducible first | exact HB.out | apply below_alloc | apply pw_below_drewN | apply below_drew1 | refine below_set ?_ GEt.out) | exact HB.out)⟩⟩
            · obtain rfl : c = 256 := by have := HI.out; omega
              go_wp2
              refine wp_region_any (by kernel_rfl) ?_
              change wpAny _ _ _ _ _ _ _ (World.drew _)
              refine wpAny_take (i := 0) (v := ?_) rfl (by kernel_rfl) (by kernel_rfl) (by kernel_rfl) (fun _ _ _ h => h) (Or.inl ⟨by rfl, ?_⟩) ?_
              rotate_left
              · intro w'
                go_simp
                (try with_reducible rfl)
              refine wpAny_ready (rs := [1]) (by kernel_rfl) (by simp) ?_
              refine AllReady.cons rfl (fun K hK => ?_) AllReady.nil
              go_simp
              refine (doctext_low.calls _ _ rfl).mono ?_
              rintro e w4 ⟨v0, rfl, ho, hb⟩
              obtain ⟨A0, c0, rfl⟩ := Kd.R_slice1 ho (by decide)
              have hC := (Kd.R_reads' ho).2.2
              have q1 := Aside0.mk (blk_below (blk_drew BKt.out) hb)
              have q2 := Aside0.mk (blk_below (blk_drew BKr.out) hb)
              have q3 := Aside0.mk (below_step (below_drew HB.out) hb)
              clear BKt BKr HB hb
              have hcp : (Builtin.copy_ #[22, 22] 3 #[.slice (some ⟨gt, 24, none⟩) 232 232, .slice (some A0) 8 c0]).run Try.prog w4 = .ok (goInt 8) (w4.setRow gt (cellsT tab2)) := doctext_table.copy 3 w4 gt 24 (tab1 256) _ 232 232 A0 c0 lowL q1.out hC (by decide) (by decide)
              have q4 := Aside0.mk (setRow_heap w4 gt _ (cellsT tab2) _ _ q1.out)
              have q5 := Aside0.mk ((setRow_other w4 gt gr (cellsT tab2) NB.out).trans q2.out)
              have q6 := Aside0.mk (below_setRow q3.out GEt.out (cellsT tab2))
              clear ho hC
              refine hK _ _ ?_
              clear hK K
              refine wpAny_ready (rs := [2]) (by kernel_rfl) (by simp) ?_
              refine AllReady.cons rfl (fun K hK => ?_) AllReady.nil
              go_simp
              refine hK _ _ ?_
              clear hK K hcp q1 q2 q3
              refine wpAny_done (by kernel_rfl) ?_ _
              generalize w4.setRow gt (cellsT tab2) = w5 at *
              have BKt := q4
              have BKr := q5
              have HB := q6
              clear q4 q5 q6
              go_wp2
              refine wp_region_any (by kernel_rfl) ?_
              change wpAny _ _ _ _ _ _ _ (World.drew _)
              refine wpAny_take (i := 0) (v := ?_) rfl (by kernel_rfl) (by kernel_rfl) (by kernel_rfl) (fun _ _ _ h => h) (Or.inl ⟨by rfl, ?_⟩) ?_
              rotate_left
              · intro w'
                go_simp
                (try with_reducible rfl)
              refine wpAny_ready (rs := [1]) (by kernel_rfl) (by simp) ?_
              refine AllReady.cons rfl (fun K hK => ?_) AllReady.nil
              go_simp
              refine (doctext_high.calls _ _ rfl).mono ?_
              rintro e w6 ⟨v0, rfl, ho, hb⟩
              obtain ⟨A0, c0, rfl⟩ := Kd.R_slice1 ho (by decide)
              have hC := (Kd.R_reads' ho).2.2
              have q1 := Aside0.mk (blk_below (blk_drew BKt.out) hb)
              have q2 := Aside0.mk (blk_below (blk_drew BKr.out) hb)
              have q3 := Aside0.mk (below_step (below_drew HB.out) hb)
              clear BKt BKr HB hb
              have hcp : (Builtin.copy_ #[22, 22] 3 #[.slice (some ⟨gt, 128, none⟩) 128 128, .slice (some A0) 31 c0]).run Try.prog w6 = .ok (goInt 31) (w6.setRow gt (cellsT tab3)) := doctext_table.copy 3 w6 gt 128 (tab2) _ 128 128 A0 c0 highL q1.out hC (by decide) (by decide)
              have q4 := Aside0.mk (setRow_heap w6 gt _ (cellsT tab3) _ _ q1.out)
              have q5 := Aside0.mk ((setRow_other w6 gt gr (cellsT tab3) NB.out).trans q2.out)
              have q6 := Aside0.mk (below_setRow q3.out GEt.out (cellsT tab3))
              clear ho hC
              refine hK _ _ ?_
              clear hK K
              refine wpAny_ready (rs := [2]) (by kernel_rfl) (by simp) ?_
              refine AllReady.cons rfl (fun K hK => ?_) AllReady.nil
              go_simp
              refine hK _ _ ?_
              clear hK K hcp q1 q2 q3
              refine wpAny_done (by kernel_rfl) ?_ _
              generalize w6.setRow gt (cellsT tab3) = w7 at *
              have BKt := q4
              have BKr := q5
              have HB := q6
              clear q4 q5 q6
              have ht0 : w7.cell? ⟨gt, 160, none⟩ = some (.int .i64 (tab3 160)) := (blk_cell BKt.out 160).trans (cellsT_get _ (by decide))
              have ht1 := blk_frozen BKt.out 160
              have p1 := Aside0.mk (show (w7.setCell ⟨gt, 160, none⟩ (.int .i64 8364)).heap[gt]? = some (.cells (cellsT tabT) 44 (0, 0)) from blk_put BKt.out 160 _ (cellsT_set _ _ _))
              have p2 := Aside0.mk (show (w7.setCell ⟨gt, 160, none⟩ (.int .i64 8364)).heap[gr]? = some (.cells (cellsT (tab0 0)) 44 (0, 0)) from blk_far BKr.out NB.out _)
              have p3 := Aside0.mk (show Below w.heap.size w (w7.setCell ⟨gt, 160, none⟩ (.int .i64 8364)) from below_set HB.out GEt.out)
              have hu := Try.underlying44
              have hsz : (Try.prog.info? 44).map (·.size) = some 256 := by kernel_rfl
              have hld : (Instr.loadAt 44 (.pointer (some ⟨gt, 0, none⟩))).run Try.prog (w7.setCell ⟨gt, 160, none⟩ (.int .i64 8364)) = .ok (.agg (cellsT tabT)) (w7.setCell ⟨gt, 160, none⟩ (.int .i64 8364)) := by
                have h := run_loadVar_row (P := Try.prog) _ gt 44 44 (cellsT tabT) (0, 0) _ p1.out hu rfl (by rw [cellsT_size]; exact hsz)
                simpa [Instr.loadAt, Instr.sureAddr, asAddr, Sem.run_bind] using h
              have hst : (storeCells ⟨gr, 0, none⟩ (cellsT tabT).toList).run Try.prog (w7.setCell ⟨gt, 160, none⟩ (.int .i64 8364)) = .ok () ((w7.setCell ⟨gt, 160, none⟩ (.int .i64 8364)).setRow gr (cellsT tabT)) := by
                have h := run_storeCells_from (P := Try.prog) gr 44 (cellsT tabT).toList 0 _ _ p2.out (by simp [cellsT_size]) (fun v hv => by
                  unfold cellsT at hv
                  obtain ⟨x, _, rfl⟩ := List.mem_map.mp hv
                  rfl)
                simpa [cellsT_size] using h
              have p4 := Aside0.mk (setRow_heap (w7.setCell ⟨gt, 160, none⟩ (.int .i64 8364)) gr _ (cellsT tabT) _ _ p2.out)
              have p5 := Aside0.mk (below_setRow p3.out GEr.out (cellsT tabT))
              clear hu hsz BKt BKr HB
              go_wp2
              refine wp_load_run 44 (.tmp 1) rfl hld ?_
              go_wp2
              refine bodyPost_ret (results_single rfl (.cell gr 44 (cellsT tabT) (0, 0) _ rfl p4.out Try.underlying44 rfl (by rw [cellsT_size]; kernel_rfl) .nil)) rfl ?_
              exact ⟨rfl, p5.out⟩

end Go.Proofs.Ytfiaedpkbhnmkaa.PAll
