-- made by xprint.py of this session
import Derived.Test.YtehknkgplldiiaaPIsx0
import Derived.Test.YtehknkgplldiiaaPIsx2
import Derived.Test.YtehknkgplldiiaaPIsx3
import Derived.Shelf.Abstract
namespace Go.Proofs.Ytehknkgplldiiaa.PIs
open Go.RowKit Go.Proofs.YtehknkgplldiiaaW.PrintWords Go.Proofs.YtehknkgplldiiaaW.PrintLast Go.Proofs.YtehknkgplldiiaaW.PrintMore
attribute [local go_sem] max2_int min2_int max_two min_two max_three min_three max_four min_four   -- for this text's walks alone
set_option linter.unusedVariables false
set_option linter.unusedSimpArgs false

/-! ### EXT slices_BSF_Span: function 29 -/
-- IMPORTS Derived.Shelf.Abstract
/-! slices.BinarySearchFunc over spans, by span.order. -/
/-- Which of two goes ahead. -/
def ordS (x y : S23) : Int := if x.f0 < y.f0 then -1 else if y.f0 < x.f0 then 1 else if x.f1 < y.f1 then -1 else if y.f1 < x.f1 then 1 else 0
def cmpI (a b : Int) : Int := if a < b then -1 else if b < a then 1 else 0
theorem cmpI_is (a b : Int) : cmp_Compare_int.f a b = some (cmpI a b) := by
  unfold cmp_Compare_int.f cmp_isNaN_int.f cmpI
  simp only [Option.bind_some, bne_self_eq_false, if_neg (show ¬ (false = true) by decide)]
  by_cases h : a < b
  · rw [if_pos h, if_pos h]
  · rw [if_neg h, if_neg h]
    by_cases h2 : b < a
    · rw [if_pos (show a > b from h2), if_pos h2]
    · rw [if_neg (show ¬ a > b from h2), if_neg h2]
theorem or2_is (x y : Int) : cmp_Or_int.f 3 [x, y] = some (if x = 0 then y else x) := by
  have w1 : wrap64 (0 + 1) = 1 := by unfold wrap64; omega
  have w2 : wrap64 (1 + 1) = 2 := by unfold wrap64; omega
  have r0 : rd [x, y] 0 = x := rfl
  have r1 : rd [x, y] 1 = y := rfl
  have l2 : ((([x, y] : List Int).length : Nat) : Int) = 2 := rfl
  unfold cmp_Or_int.f
  rw [l2]
  simp only [cmp_Or_int.l0, l2, r0, r1, w1, w2, if_pos (show (0 : Int) < 2 by decide), if_pos (show (0 : Int) ≤ 0 by decide), if_pos (show (1 : Int) < 2 by decide), if_pos (show (0 : Int) ≤ 1 by decide), if_neg (show ¬ (2 : Int) < 2 by decide)]
  by_cases h : x = 0
  · rw [if_pos h, if_pos h]
    by_cases h2 : y = 0
    · rw [if_pos h2, h2]
    · rw [if_neg h2]
  · rw [if_neg h, if_neg h]
theorem ordS_is (x y : S23) : span_order.f 3 x.f0 x.f1 x.f2 x.f3 y.f0 y.f1 y.f2 y.f3 = some (ordS x y) := by
  unfold span_order.f
  rw [cmpI_is, cmpI_is]
  simp only [Option.bind_some]
  rw [or2_is]
  simp only [Option.bind_some]
  unfold cmpI ordS
  congr 1
  repeat' split
  all_goals omega
/-- An element, by its place. -/
def elS (l : List S23) (i : Nat) : S23 := rd_T23 l (i : Int)
theorem atc_T23 {w : World} {ad : Addr} {n : Nat} {xs : List S23} (h : Kd.C k23 w (some ad) n xs) (i : Nat) (hi : i < n) : w.cell? (ad.add (i * 4)) = some (.int .i64 (elS xs i).f0) ∧ w.cell? ⟨(ad.add (i * 4)).block, (ad.add (i * 4)).off + 1, none⟩ = some (.int .i64 (elS xs i).f1) ∧ w.cell? ⟨(ad.add (i * 4)).block, (ad.add (i * 4)).off + 2, none⟩ = some (.int .i64 (elS xs i).f2) ∧ w.cell? ⟨(ad.add (i * 4)).block, (ad.add (i * 4)).off + 3, none⟩ = some (.int .i64 (elS xs i).f3) := by
  obtain ⟨ad', e, h0, h1, h2, h3⟩ := at_T23 h (i : Int) (by omega) (by omega)
  cases e
  rw [Int.toNat_natCast] at h0 h1 h2 h3
  exact ⟨h0, h1, h2, h3⟩
theorem order_any (x y : S23) (w : World) : Calls Try.prog 30 #[.agg #[.int .i64 x.f0, .int .i64 x.f1, .int .i64 x.f2, .int .i64 x.f3], .agg #[.int .i64 y.f0, .int .i64 y.f1, .int .i64 y.f2, .int .i64 y.f3]] w fun e w' => e = .returned (.int .i64 (ordS x y)) ∧ Below w.heap.size w w' :=
  span_order.calls 3 _ _ _ _ _ _ _ _ _ w (ordS_is x y)
/-- The search. -/
def bsS (l : List S23) (t : S23) : Nat → Nat → Nat → Nat
  | 0, i, _ => i
  | n + 1, i, j => if i < j then (if ordS (elS l ((i + j) / 2)) t < 0 then bsS l t n ((i + j) / 2 + 1) j else bsS l t n i ((i + j) / 2)) else i
def findS (l : List S23) (t : S23) : Nat := bsS l t l.length 0 l.length
def slices_BSF_Span.f (l0 : List S23) (t : S23) : Option (Int × Bool) := if l0.length < 4294967296 then some ((findS l0 t : Nat), decide (findS l0 t < l0.length ∧ ordS (elS l0 (findS l0 t)) t = 0)) else none
set_option maxRecDepth 100000 in
set_option maxHeartbeats 4000000 in
theorem slices_BSF_Span.calls (A0 : Option Addr) (c0 : Nat) (l0 : List S23) (t : S23) (w : World) (hr0 : Kd.C k23 w A0 l0.length l0) (hc0 : l0.length ≤ c0) (hl : l0.length < 4294967296) :
    Calls Try.prog 29 #[.slice A0 l0.length c0, .agg #[.int .i64 t.f0, .int .i64 t.f1, .int .i64 t.f2, .int .i64 t.f3], .func (.func 30) #[] #[]] w fun e w' => e = .returned (.tuple #[.int .i64 (findS l0 t : Nat), .bool (decide (findS l0 t < l0.length ∧ ordS (elS l0 (findS l0 t)) t = 0))]) ∧ Below w.heap.size w w' := by
  have HR0 := Aside0.mk hr0
  have HC0 := Aside0.mk hc0
  have HL := Aside0.mk hl
  have HB := Aside0.mk (Below.refl w.heap.size w)
  have hu := Try.underlying23
  clear hr0 hc0 hl
  go_enter Try.func29, Try.ntmps29
  go_wp2_with ((with_reducible refine gate_dst (N := 4) rfl ?_); refine box_event ?hg (N := 4) ?hd (cs := #[.int .i64 t.f0, .int .i64 t.f1, .int .i64 t.f2, .int .i64 t.f3]) (t := 23) ?hr ?_; (case hd => rfl); (case hg => rfl); (case hr => first | (go_simp; done) | (go_simp; rfl)); intro gt hg w4 hbox hb; have n0_ := Aside0.mk (below_step HB.out hb); have n1_ := Aside0.mk hbox; have n2_ := Aside0.mk ((by rw [hg]; exact Nat.le_refl _) : w.heap.size ≤ gt); clear HB hbox hb hg; have HB := n0_; have BKt := n1_; have GE := n2_; clear n0_ n1_ n2_)
  go_loopg [9, 10] (l0.length + 1) (fun kq v9 v10 w' => ∃ (i j fuel : Nat), v9 = .int .i64 (i : Nat) ∧ v10 = .int .i64 (j : Nat) ∧ Aside0 (i ≤ j ∧ j ≤ l0.length ∧ j + 1 ≤ kq + i ∧ j ≤ fuel + i) ∧ Aside0 (bsS l0 t fuel i j = findS l0 t) ∧ Aside0 (w'.heap[gt]? = some (.cells #[.int .i64 t.f0, .int .i64 t.f1, .int .i64 t.f2, .int .i64 t.f3] 23 (0, 0))) ∧ Aside0 (Below w.heap.size w w'))
  case atStart => exact ⟨0, l0.length, l0.length, rfl, rfl, ⟨by omega⟩, ⟨rfl⟩, BKt, HB⟩
  case round =>
    clear BKt HB
    obtain ⟨i, j, fuel, rfl, rfl, HI, HS, BKt, HB⟩ := hrel
    have hi0 := HI.out
    have hl0 := HL.out
    by_cases hij : i < j
    · cases gk with
      | zero => omega
      | succ k1 =>
        obtain ⟨f, rfl⟩ : ∃ f, fuel = f + 1 := ⟨fuel - 1, by omega⟩
        have hm : (i + j) / 2 < l0.length := by omega
        have hq0 : (0 : Int) ≤ ((i : Int) + (j : Int)) / 2 := by omega
        have hqn : (((i : Int) + (j : Int)) / 2).toNat = (i + j) / 2 := by omega
        have hq1 : ((i : Int) + (j : Int)) / 2 < (l0.length : Int) := by omega
        obtain ⟨ad, ead, _⟩ := at_T23 (Kd.C_below HR0.out HB.out) (((i + j) / 2 : Nat) : Int) (by omega) (by omega)
        subst ead
        have hs := HS.out
        simp only [bsS, if_pos hij] at hs
        by_cases hy : ordS (elS l0 ((i + j) / 2)) t < 0
        · rw [if_pos hy] at hs
          have hsh : ∀ W : World, (Op.shift .shr .u64 ((i : Int) + (j : Int)) .u64 1).run Try.prog W = .ok (.int .u64 (((i : Int) + (j : Int)) / 2)) W := fun W => by
            have e : ((i : Int) + (j : Int)).fdiv 2 = ((i : Int) + (j : Int)) / 2 := Int.fdiv_eq_ediv_of_nonneg _ (by decide)
            simp [Op.shift, IntKind.bits, e]
          go_upto_region 5 with (fail)
          (try simp only [Act.put, List.setIfInBounds_toArray, List.set_cons_zero, List.set_cons_succ])
          go_region_held3 (fun W => (W.heap[gt]? = some (.cells #[.int .i64 t.f0, .int .i64 t.f1, .int .i64 t.f2, .int .i64 t.f3] 23 (0, 0))) ∧ (Below w.heap.size w W) ∧ W.cell? ⟨gt, 0, none⟩ = some (.int .i64 t.f0) ∧ W.cell? ⟨gt, 1, none⟩ = some (.int .i64 t.f1) ∧ W.cell? ⟨gt, 2, none⟩ = some (.int .i64 t.f2) ∧ W.cell? ⟨gt, 3, none⟩ = some (.int .i64 t.f3) ∧ W.cell? (ad.add (((i + j) / 2) * 4)) = some (.int .i64 (elS l0 (((i + j) / 2))).f0) ∧ W.cell? ⟨(ad.add (((i + j) / 2) * 4)).block, (ad.add (((i + j) / 2) * 4)).off + 1, none⟩ = some (.int .i64 (elS l0 (((i + j) / 2))).f1) ∧ W.cell? ⟨(ad.add (((i + j) / 2) * 4)).block, (ad.add (((i + j) / 2) * 4)).off + 2, none⟩ = some (.int .i64 (elS l0 (((i + j) / 2))).f2) ∧ W.cell? ⟨(ad.add (((i + j) / 2) * 4)).block, (ad.add (((i + j) / 2) * 4)).off + 3, none⟩ = some (.int .i64 (elS l0 (((i + j) / 2))).f3)) (exact ⟨(bkm BKt.out), hbm HB.out, (blk_cell (bkm BKt.out) 0).trans rfl, (blk_cell (bkm BKt.out) 1).trans rfl, (blk_cell (bkm BKt.out) 2).trans rfl, (blk_cell (bkm BKt.out) 3).trans rfl, (atc_T23 (Kd.C_below HR0.out (hbm HB.out)) ((i + j) / 2) hm).1, (atc_T23 (Kd.C_below HR0.out (hbm HB.out)) ((i + j) / 2) hm).2.1, (atc_T23 (Kd.C_below HR0.out (hbm HB.out)) ((i + j) / 2) hm).2.2.1, (atc_T23 (Kd.C_below HR0.out (hbm HB.out)) ((i + j) / 2) hm).2.2.2⟩) (first | (go_at_call 30; (with_reducible refine (order_any (elS l0 (((i + j) / 2))) t _).mono ?_); rintro e w5 ⟨rfl, hb⟩; have n0_ := Aside0.mk (blk_below (g := gt) (o := .cells #[.int .i64 t.f0, .int .i64 t.f1, .int .i64 t.f2, .int .i64 t.f3] 23 (0, 0)) (bkm BKt.out) hb); have n1_ := Aside0.mk (below_step (hbm HB.out) hb); (try clear BKt); (try clear HB); have BKt := n0_; have HB := n1_; clear n0_ n1_; (try clear hb)))
          all_goals go_wp2
          go_roundg k1
          case measure => omega
          case rel => exact ⟨(i + j) / 2 + 1, j, f, by first | rfl | (congr 1; omega), rfl, ⟨by omega⟩, ⟨hs⟩, ⟨(bkm BKt.out)⟩, ⟨hbm HB.out⟩⟩
        · rw [if_neg hy] at hs
          have hsh : ∀ W : World, (Op.shift .shr .u64 ((i : Int) + (j : Int)) .u64 1).run Try.prog W = .ok (.int .u64 (((i : Int) + (j : Int)) / 2)) W := fun W => by
            have e : ((i : Int) + (j : Int)).fdiv 2 = ((i : Int) + (j : Int)) / 2 := Int.fdiv_eq_ediv_of_nonneg _ (by decide)
            simp [Op.shift, IntKind.bits, e]
          go_upto_region 5 with (fail)
          (try simp only [Act.put, List.setIfInBounds_toArray, List.set_cons_zero, List.set_cons_succ])
          go_region_held3 (fun W => (W.heap[gt]? = some (.cells #[.int .i64 t.f0, .int .i64 t.f1, .int .i64 t.f2, .int .i64 t.f3] 23 (0, 0))) ∧ (Below w.heap.size w W) ∧ W.cell? ⟨gt, 0, none⟩ = some (.int .i64 t.f0) ∧ W.cell? ⟨gt, 1, none⟩ = some (.int .i64 t.f1) ∧ W.cell? ⟨gt, 2, none⟩ = some (.int .i64 t.f2) ∧ W.cell? ⟨gt, 3, none⟩ = some (.int .i64 t.f3) ∧ W.cell? (ad.add (((i + j) / 2) * 4)) = some (.int .i64 (elS l0 (((i + j) / 2))).f0) ∧ W.cell? ⟨(ad.add (((i + j) / 2) * 4)).block, (ad.add (((i + j) / 2) * 4)).off + 1, none⟩ = some (.int .i64 (elS l0 (((i + j) / 2))).f1) ∧ W.cell? ⟨(ad.add (((i + j) / 2) * 4)).block, (ad.add (((i + j) / 2) * 4)).off + 2, none⟩ = some (.int .i64 (elS l0 (((i + j) / 2))).f2) ∧ W.cell? ⟨(ad.add (((i + j) / 2) * 4)).block, (ad.add (((i + j) / 2) * 4)).off + 3, none⟩ = some (.int .i64 (elS l0 (((i + j) / 2))).f3)) (exact ⟨(bkm BKt.out), hbm HB.out, (blk_cell (bkm BKt.out) 0).trans rfl, (blk_cell (bkm BKt.out) 1).trans rfl, (blk_cell (bkm BKt.out) 2).trans rfl, (blk_cell (bkm BKt.out) 3).trans rfl, (atc_T23 (Kd.C_below HR0.out (hbm HB.out)) ((i + j) / 2) hm).1, (atc_T23 (Kd.C_below HR0.out (hbm HB.out)) ((i + j) / 2) hm).2.1, (atc_T23 (Kd.C_below HR0.out (hbm HB.out)) ((i + j) / 2) hm).2.2.1, (atc_T23 (Kd.C_below HR0.out (hbm HB.out)) ((i + j) / 2) hm).2.2.2⟩) (first | (go_at_call 30; (with_reducible refine (order_any (elS l0 (((i + j) / 2))) t _).mono ?_); rintro e w5 ⟨rfl, hb⟩; have n0_ := Aside0.mk (blk_below (g := gt) (o := .cells #[.int .i64 t.f0, .int .i64 t.f1, .int .i64 t.f2, .int .i64 t.f3] 23 (0, 0)) (bkm BKt.out) hb); have n1_ := Aside0.mk (below_step (hbm HB.out) hb); (try clear BKt); (try clear HB); have BKt := n0_; have HB := n1_; clear n0_ n1_; (try clear hb)))
          all_goals go_wp2
          go_roundg k1
          case measure => omega
          case rel => exact ⟨i, (i + j) / 2, f, rfl, by first | rfl | (congr 1; omega), ⟨by omega⟩, ⟨hs⟩, ⟨(bkm BKt.out)⟩, ⟨hbm HB.out⟩⟩
    · obtain rfl : i = j := by omega
      have hf : findS l0 t = i := by
        rw [← HS.out]
        cases fuel with
        | zero => rfl
        | succ f => simp [bsS]
      by_cases hin : i < l0.length
      · have hq0 : (0 : Int) ≤ (i : Int) := by omega
        have hq1 : (i : Int) < (l0.length : Int) := by omega
        obtain ⟨ad, ead, _⟩ := at_T23 (Kd.C_below HR0.out HB.out) (i : Int) (by omega) (by omega)
        subst ead
        by_cases hz : ordS (elS l0 i) t = 0
        · go_upto_region 8 with (fail)
          (try simp only [Act.put, List.setIfInBounds_toArray, List.set_cons_zero, List.set_cons_succ])
          go_region_held3 (fun W => (W.heap[gt]? = some (.cells #[.int .i64 t.f0, .int .i64 t.f1, .int .i64 t.f2, .int .i64 t.f3] 23 (0, 0))) ∧ (Below w.heap.size w W) ∧ W.cell? ⟨gt, 0, none⟩ = some (.int .i64 t.f0) ∧ W.cell? ⟨gt, 1, none⟩ = some (.int .i64 t.f1) ∧ W.cell? ⟨gt, 2, none⟩ = some (.int .i64 t.f2) ∧ W.cell? ⟨gt, 3, none⟩ = some (.int .i64 t.f3) ∧ W.cell? (ad.add (i * 4)) = some (.int .i64 (elS l0 (i)).f0) ∧ W.cell? ⟨(ad.add (i * 4)).block, (ad.add (i * 4)).off + 1, none⟩ = some (.int .i64 (elS l0 (i)).f1) ∧ W.cell? ⟨(ad.add (i * 4)).block, (ad.add (i * 4)).off + 2, none⟩ = some (.int .i64 (elS l0 (i)).f2) ∧ W.cell? ⟨(ad.add (i * 4)).block, (ad.add (i * 4)).off + 3, none⟩ = some (.int .i64 (elS l0 (i)).f3)) (exact ⟨(bkm BKt.out), hbm HB.out, (blk_cell (bkm BKt.out) 0).trans rfl, (blk_cell (bkm BKt.out) 1).trans rfl, (blk_cell (bkm BKt.out) 2).trans rfl, (blk_cell (bkm BKt.out) 3).trans rfl, (atc_T23 (Kd.C_below HR0.out (hbm HB.out)) i hin).1, (atc_T23 (Kd.C_below HR0.out (hbm HB.out)) i hin).2.1, (atc_T23 (Kd.C_below HR0.out (hbm HB.out)) i hin).2.2.1, (atc_T23 (Kd.C_below HR0.out (hbm HB.out)) i hin).2.2.2⟩) (first | (go_at_call 30; (with_reducible refine (order_any (elS l0 (i)) t _).mono ?_); rintro e w5 ⟨rfl, hb⟩; have n0_ := Aside0.mk (blk_below (g := gt) (o := .cells #[.int .i64 t.f0, .int .i64 t.f1, .int .i64 t.f2, .int .i64 t.f3] 23 (0, 0)) (bkm BKt.out) hb); have n1_ := Aside0.mk (below_step (hbm HB.out) hb); (try clear BKt); (try clear HB); have BKt := n0_; have HB := n1_; clear n0_ n1_; (try clear hb)))
          all_goals go_wp2
          go_ret2
          exact ⟨by rw [hf]; simp [hz, hin], hbm HB.out⟩
        · go_upto_region 8 with (fail)
          (try simp only [Act.put, List.setIfInBounds_toArray, List.set_cons_zero, List.set_cons_succ])
          go_region_held3 (fun W => (W.heap[gt]? = some (.cells #[.int .i64 t.f0, .int .i64 t.f1, .int .i64 t.f2, .int .i64 t.f3] 23 (0, 0))) ∧ (Below w.heap.size w W) ∧ W.cell? ⟨gt, 0, none⟩ = some (.int .i64 t.f0) ∧ W.cell? ⟨gt, 1, none⟩ = some (.int .i64 t.f1) ∧ W.cell? ⟨gt, 2, none⟩ = some (.int .i64 t.f2) ∧ W.cell? ⟨gt, 3, none⟩ = some (.int .i64 t.f3) ∧ W.cell? (ad.add (i * 4)) = some (.int .i64 (elS l0 (i)).f0) ∧ W.cell? ⟨(ad.add (i * 4)).block, (ad.add (i * 4)).off + 1, none⟩ = some (.int .i64 (elS l0 (i)).f1) ∧ W.cell? ⟨(ad.add (i * 4)).block, (ad.add (i * 4)).off + 2, none⟩ = some (.int .i64 (elS l0 (i)).f2) ∧ W.cell? ⟨(ad.add (i * 4)).block, (ad.add (i * 4)).off + 3, none⟩ = some (.int .i64 (elS l0 (i)).f3)) (exact ⟨(bkm BKt.out), hbm HB.out, (blk_cell (bkm BKt.out) 0).trans rfl, (blk_cell (bkm BKt.out) 1).trans rfl, (blk_cell (bkm BKt.out) 2).trans rfl, (blk_cell (bkm BKt.out) 3).trans rfl, (atc_T23 (Kd.C_below HR0.out (hbm HB.out)) i hin).1, (atc_T23 (Kd.C_below HR0.out (hbm HB.out)) i hin).2.1, (atc_T23 (Kd.C_below HR0.out (hbm HB.out)) i hin).2.2.1, (atc_T23 (Kd.C_below HR0.out (hbm HB.out)) i hin).2.2.2⟩) (first | (go_at_call 30; (with_reducible refine (order_any (elS l0 (i)) t _).mono ?_); rintro e w5 ⟨rfl, hb⟩; have n0_ := Aside0.mk (blk_below (g := gt) (o := .cells #[.int .i64 t.f0, .int .i64 t.f1, .int .i64 t.f2, .int .i64 t.f3] 23 (0, 0)) (bkm BKt.out) hb); have n1_ := Aside0.mk (below_step (hbm HB.out) hb); (try clear BKt); (try clear HB); have BKt := n0_; have HB := n1_; clear n0_ n1_; (try clear hb)))
          all_goals go_wp2
          go_ret2
          exact ⟨by rw [hf]; simp [hz, hin], hbm HB.out⟩
      · go_upto_region 8 with (fail)
        (try simp only [Act.put, List.setIfInBounds_toArray, List.set_cons_zero, List.set_cons_succ])
        go_quiet (fail)
        go_wp2
        go_ret2
        exact ⟨by rw [hf]; simp [hin], hbm HB.out⟩

end Go.Proofs.Ytehknkgplldiiaa.PIs
