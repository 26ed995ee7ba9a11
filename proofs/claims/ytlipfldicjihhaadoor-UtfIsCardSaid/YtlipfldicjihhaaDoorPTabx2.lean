-- made by xprint.py of this session
import Derived.Test.YtlipfldicjihhaaDoorPTabx0
import Derived.Test.YtlipfldicjihhaaDoorPTabx1
import Derived.Test.YtlipfldicjihhaaDoorShelf
namespace Go.Proofs.YtlipfldicjihhaaDoor.PTab
open Go.RowKit Go.Proofs.YtlipfldicjihhaaDoorW.PrintWords Go.Proofs.YtlipfldicjihhaaDoorW.PrintLast Go.Proofs.YtlipfldicjihhaaDoorW.PrintMore
attribute [local go_sem] max2_int min2_int max_two min_two max_three min_three max_four min_four   -- for this text's walks alone
set_option linter.unusedVariables false
set_option linter.unusedSimpArgs false

/-! ### EXT utf_Text: function 12 -/
-- IMPORTS Derived.Test.YtlipfldicjihhaaDoorShelf
/-! utf.Text: values in UTF-8. -/
def utf_Text.gd (x : Int) : Int := if 0 ≤ x ∧ x ≤ 1114111 ∧ (x < 55296 ∨ 57343 < x) then x else 65533
theorem utf_Text.good_is (x : Int) : utf_good.f x = some (utf_Text.gd x) := by
  have hG : utf_Good.f x = some (decide (0 ≤ x ∧ x ≤ 1114111 ∧ (x < 55296 ∨ 57343 < x))) := by
    unfold utf_Good.f
    by_cases h0 : x ≥ 0
    · rw [if_pos h0]
      by_cases h1 : x ≤ 1114111
      · rw [if_pos h1]
        by_cases h2 : x < 55296
        · rw [if_pos h2, decide_eq_true (show 0 ≤ x ∧ x ≤ 1114111 ∧ (x < 55296 ∨ 57343 < x) by omega)]
        · rw [if_neg h2]
          congr 1
          rw [decide_eq_decide]
          omega
      · rw [if_neg h1, decide_eq_false (by omega)]
    · rw [if_neg h0, decide_eq_false (by omega)]
  unfold utf_good.f utf_Text.gd
  rw [hG, Option.bind_some]
  by_cases h : 0 ≤ x ∧ x ≤ 1114111 ∧ (x < 55296 ∨ 57343 < x)
  · rw [decide_eq_true h, if_pos rfl, if_pos h]
  · rw [decide_eq_false h, if_neg (by simp), if_neg h]
theorem utf_Text.gd_range (x : Int) : 0 ≤ utf_Text.gd x ∧ utf_Text.gd x ≤ 1114111 := by
  unfold utf_Text.gd
  split <;> omega
def utf_Text.enc (l : List Int) : List UInt8 := l.flatMap fun x => Lib.encodeRune (utf_Text.gd x)
theorem utf_Text.enc_len : ∀ l : List Int, (utf_Text.enc l).length ≤ 4 * l.length
  | [] => by simp [utf_Text.enc]
  | x :: l => by
    have h := utf_Text.enc_len l
    have h2 := Lib.runeCells_le (utf_Text.gd x)
    rw [Lib.runeCells_length] at h2
    unfold utf_Text.enc at h ⊢
    rw [List.flatMap_cons, List.length_append, List.length_cons]
    omega
def utf_Text.f (a0 : List Int) : Option ByteArray := if a0.length < 4398046511104 then some ⟨(utf_Text.enc a0).toArray⟩ else none
set_option maxRecDepth 100000 in
set_option maxHeartbeats 4000000 in
theorem utf_Text.calls (A0 : Option Addr) (c0 : Nat) (l0 : List Int) (r : ByteArray) (w : World) (hr0 : Kd.C (Kd.int .i64) w A0 l0.length l0) (hc0 : l0.length ≤ c0) (h : utf_Text.f l0 = some r) :
    Calls Tryd.prog 12 #[.slice A0 l0.length c0] w fun e w' => e = .returned (.string r) ∧ Below w.heap.size w w' := by
  unfold utf_Text.f at h
  by_cases hl : l0.length < 4398046511104
  case neg =>
    rw [if_neg hl] at h
    cases h
  rw [if_pos hl] at h
  obtain rfl := Option.some.inj h
  have HL := Aside0.mk hl
  have HR0 := Aside0.mk hr0
  have HC0 := Aside0.mk hc0
  clear h hl hr0 hc0
  go_enter Tryd.func12, Tryd.ntmps12
  go_wp2
  go_loopg [8] (l0.length + 1) (fun kq v8 w' => ∃ (i : Nat), v8 = .int .i64 (i : Nat) ∧ Aside0 (i ≤ l0.length ∧ l0.length + 1 ≤ kq + i) ∧ Aside0 (Lib.IsBuilderF 42 5 w.heap.size w.heap.size (Lib.byteCells (utf_Text.enc (l0.take i))) w') ∧ Aside0 (Below w.heap.size w w'))
  case atStart => exact ⟨0, rfl, ⟨by omega⟩, ⟨Lib.IsBuilderF.of (Lib.fresh_isBuilder 42 5 w)⟩, ⟨(Below.refl _ w).alloc (Nat.le_refl _) _⟩⟩
  case round =>
    obtain ⟨i, rfl, HI, HO, HB⟩ := hrel
    cases gk with
    | zero => have := HI.out; omega
    | succ k1 =>
      by_cases hi : i < l0.length
      · obtain ⟨ad, ead, hcell⟩ := Kd.at_int (Kd.C_below HR0.out HB.out) (i : Int) (by omega) (by omega)
        subst ead
        have hrd : rd l0 (i : Int) = l0[i] := by unfold rd; simp [List.getD, hi]
        rw [hrd, Int.toNat_natCast] at hcell
        have htk : utf_Text.enc (l0.take (i + 1)) = utf_Text.enc (l0.take i) ++ Lib.encodeRune (utf_Text.gd l0[i]) := by rw [List.take_succ_eq_append_getElem hi]; unfold utf_Text.enc; rw [List.flatMap_append]; simp
        have hln := utf_Text.enc_len (l0.take i)
        have hl2 : (utf_Text.enc (l0.take i)).length ≤ 4 * i := by rw [List.length_take] at hln; omega
        have hg := utf_Text.gd_range l0[i]
        have hgi := utf_Text.good_is l0[i]
        have p0 : (0 ≤ (i : Int)) = True := eq_true (by omega)
        have p1 : ((i : Int) < (l0.length : Int)) = True := eq_true (by omega)
        have HTK := Aside0.mk htk
        have HL2 := Aside0.mk hl2
        have HLi := Aside0.mk hi
        clear htk hln hl2 hrd
        generalize utf_Text.gd l0[i] = y at *
        generalize l0[i] = x at *
        have hg0 := hg.1
        have hg1 := hg.2
        have HG := Aside0.mk hg
        have HGI := Aside0.mk hgi
        clear hg hgi
        go_wp2_with (first | ((with_reducible refine gate_callee (f := 27) rfl ?_); refine goesL_ (some 13) rfl rfl Tryd.func27 (by kernel_rfl) rfl #[.int .i64 x] rfl (by (try simp only [List.map_toArray, List.map_cons, List.map_nil]); first | done | rfl) ?_; (with_reducible refine (utf_good.calls _ _ _ HGI.out).mono ?_); rintro e w1 ⟨rfl, ⟨nd, rfl⟩⟩; refine ⟨_, rfl, ?_⟩) | (go_at_call 28; have hbn := Aside0.mk (show Below w.heap.size w (wr.drewN nd) by repeat (first | (with_reducible first | exact HB.out | apply below_alloc | apply pw_below_drewN | apply below_drew1) | exact HB.out)); refine (Tryd.Builder_WriteRune_k w.heap.size w.heap.size (Lib.byteCells (utf_Text.enc (l0.take i))) y (by have := HG.out; omega) (by have := HG.out; omega) (wr.drewN nd) HO.out (by rw [Lib.byteCells_length]; have := HL.out; have := HL2.out; have := HLi.out; omega) (below_size hbn.out)).mono ?_; rintro e W1 ⟨rfl, h1, b1, _⟩))
        go_roundg k1
        case measure => have := HI.out; omega
        case rel => exact ⟨i + 1, (by first | rfl | (have := HL.out; have := HLi.out; congr 1; unfold wrap64; omega) | (have := HL.out; have := HLi.out; simp [wrap64]; omega)), ⟨by have := HI.out; omega⟩, ⟨by rw [HTK.out, Lib.byteCells_append, Lib.byteCells_encodeRune]; exact Or.inr h1⟩, ⟨hbn.out.trans b1⟩⟩
      · obtain rfl : i = l0.length := by have := HI.out; omega
        have ho := HO.out
        rw [List.take_length] at ho
        clear HO
        have HO := Aside0.mk ho
        clear ho
        go_wp2_with (go_at_call 29; refine (Tryd.Builder_String_any_k w.heap.size w.heap.size (utf_Text.enc l0) _ HO.out (below_size HB.out)).mono ?_; rintro e W1 ⟨rfl, _, b1, _⟩)
        go_ret
        exact ⟨rfl, HB.out.trans b1⟩

end Go.Proofs.YtlipfldicjihhaaDoor.PTab
