-- made by xprint.py of this session
import Derived.Test.YtfiaedpkbhnmkaaPAllx0
import Derived.Test.YtfiaedpkbhnmkaaPAllx2
import Derived.Test.YtfiaedpkbhnmkaaPAllx9
import Derived.Maps.OwnSet
namespace Go.Proofs.Ytfiaedpkbhnmkaa.PAll
open Go.RowKit Go.Proofs.YtfiaedpkbhnmkaaW.PrintWords Go.Proofs.YtfiaedpkbhnmkaaW.PrintLast Go.Proofs.YtfiaedpkbhnmkaaW.PrintMore
attribute [local go_sem] max2_int min2_int max_two min_two max_three min_three max_four min_four   -- for this text's walks alone
set_option linter.unusedVariables false
set_option linter.unusedSimpArgs false

/-! ### EXT doctext_back: function 37 -/
-- IMPORTS Derived.Maps.OwnSet
/-! doctext.back: each value's byte, as a map. -/
open Go.Maps in
def backM : Nat → DataW Unit
  | 0 => .map []
  | c + 1 => if tabT c = 0 then backM c else (backM c).put (.int .i64 (tabT c)) (.lit (.int .i64 (c : Int)))
theorem tab_wf : ∀ c, c < 256 → (Lit.int .i64 (tabT c)).wf = true := by decide +kernel
theorem nat_wf : ∀ c : Nat, c < 256 → (Lit.int .i64 (c : Int)).wf = true := by decide +kernel
theorem ownsMap_below {H : Type} {P : Program} {k : TypeId} {R : Value → Option (DataW H × List MemPlace)} {b n : Nat} {D : DataW H} {w w' : World} (h : w.ownsMap P k R b n D) (hb : Below w.heap.size w w') : w'.ownsMap P k R b n D := by
  have hlt := h.lt
  obtain ⟨es, clock, hh, r⟩ := h
  exact ⟨es, clock, (hb.block b hlt).trans hh, r⟩
set_option maxRecDepth 100000 in
set_option maxHeartbeats 2000000 in
open Go.Maps in
theorem doctext_back.calls (w : World) : Calls Try.prog 37 #[] w fun e w' => ∃ b, e = .returned (.map (some b)) ∧ w'.ownsMap Try.prog 3 (plainElem (H := Unit) Try.prog 3) b 256 (backM 256) ∧ Below w.heap.size w w' := by
  have hmm := @run_makeMap Try.prog
  have hm0 : (w.alloc (.map #[] 0)).ownsMap Try.prog 3 (plainElem (H := Unit) Try.prog 3) w.heap.size 0 (.map []) := World.ownsMap_made _ _ _ _
  have HM := Aside0.mk hm0
  have HB := Aside0.mk (below_alloc (Below.refl w.heap.size w) (.map #[] 0))
  clear hm0
  go_enter Try.func37, Try.ntmps37
  go_wp2_with (go_at_call 30; refine (doctext_table.calls _).mono ?_; rintro e w1 ⟨rfl, hb⟩; have n1_ := Aside0.mk (hb.trans (Below.refl _ _)); have n2_ := Aside0.mk (below_step HB.out hb); clear HB; have HB := n2_; have HN := n1_; clear n1_ n2_ hb)
  have HM1 := Aside0.mk (ownsMap_below HM.out HN.out)
  clear HM HN
  go_loopg [6] 257 (fun kq v6 w' => ∃ (c : Nat), v6 = .int .i64 (c : Nat) ∧ Aside0 (c ≤ 256 ∧ 257 ≤ kq + c) ∧ Aside0 (w'.ownsMap Try.prog 3 (plainElem (H := Unit) Try.prog 3) w.heap.size c (backM c)) ∧ Aside0 (Below w.heap.size w w'))
  case atStart => exact ⟨0, rfl, ⟨by omega⟩, HM1, HB⟩
  case round =>
    clear HM1 HB
    obtain ⟨c, rfl, HI, HM, HB⟩ := hrel
    cases gk with
    | zero => have := HI.out; omega
    | succ k1 =>
      by_cases hc : c < 256
      · have hix := cellsT_index tabT c hc
        have h0 : ((c : Int) < 256) = True := eq_true (by omega)
        have hwk := Aside0.mk (tab_wf c hc)
        have hwv := Aside0.mk (nat_wf c hc)
        by_cases hz : tabT c = 0
        · have hz1 : (tabT c != 0) = false := by rw [hz]; rfl
          have HZ := Aside0.mk hz
          clear hz
          go_wp2
          go_roundg k1
          case measure => have := HI.out; omega
          case rel => exact ⟨c + 1, (by first | rfl | (congr 1; unfold wrap64; omega) | (simp [wrap64]; omega)), ⟨by have := HI.out; omega⟩, ⟨by rw [backM, if_pos HZ.out]; exact HM.out.mono (Nat.le_succ _)⟩, HB⟩
        · have hz1 : (tabT c != 0) = true := bne_iff_ne.mpr hz
          have HZ := Aside0.mk hz
          clear hz
          have hown := HM.out
          go_wp2_with (at_mapUpdate; refine wpList_mapUpdate_own _ rfl _ _ _ 49 rfl 3 3 (Maps.int_keyed Try.underlying3) Try.underlying49 _ w.heap.size c _ rfl hown (by unfold maxLen; omega) _ _ _ rfl rfl (Maps.keyOf_int_mk Try.underlying3 hwk.out) _ [] (plainElem_int Try.underlying3 hwv.out) ?_; intro w2 hown2 hgrow2; have HM2 := Aside0.mk hown2; have HB2 := Aside0.mk (HB.out.grown hgrow2 HB.out.size (fun j hj => by cases hj; exact Nat.le_refl _)); clear hown hown2 hgrow2)
          go_roundg k1
          case measure => have := HI.out; omega
          case rel => exact ⟨c + 1, (by first | rfl | (congr 1; unfold wrap64; omega) | (simp [wrap64]; omega)), ⟨by have := HI.out; omega⟩, ⟨by rw [backM, if_neg HZ.out]; exact HM2.out⟩, HB2⟩
      · obtain rfl : c = 256 := by have := HI.out; omega
        go_wp2
        go_ret
        exact ⟨_, rfl, HM.out, HB.out⟩

end Go.Proofs.Ytfiaedpkbhnmkaa.PAll
