/- utf.Text: values in UTF-8: strings.Builder, by hand. -/
import Derived.Test.YtmgjojgfocbjfaaDoorAUtf
import Derived.Test.YtmgjojgfocbjfaaDoorABld
import Derived.Shelf.Abstract
import Derived.Shelf.RegionOpen
import Derived.WalkKit
import Derived.LoopN
import Derived.Deep.LoopGhost
set_option linter.all false
set_option maxRecDepth 100000
namespace Go.Abs.Txt
open Go.RowKit Go.Proofs Go.Abs.Utf
attribute [local go_sem] Oper.semAt_some
structure Aside0 (p : Prop) : Prop where mk :: (out : p)
theorem isB_below {T e : TypeId} {B b : Nat} {bs : List Value} {w w' : World} (h : Lib.IsBuilderF T e B b bs w) (hb : Below w.heap.size w w') : Lib.IsBuilderF T e B b bs w' := by
  have key : ∀ p, Lib.BuilderAtF T e B b p bs w → Lib.BuilderAtF T e B b p bs w' := fun p h => by
    have hlt := h.lt
    obtain ⟨hB, v, hbk, hown, hne⟩ := h
    exact ⟨hB, v, (hb.block b hlt).trans hbk, hown.kept (row := none) ⟨hb.os, hb.tape, hb.output, hb.size, fun k hk _ => hb.block k hk⟩ (by cases hv : v.ownBlock <;> simp), hne⟩
  exact h.elim (fun h => .inl (key _ h)) (fun h => .inr (key _ h))
theorem gd_range (x : Int) : 0 ≤ gd x ∧ gd x ≤ 1114111 := by
  unfold gd goodB
  split
  · rename_i h
    rw [decide_eq_true_eq] at h
    omega
  · omega
def enc (l : List Int) : List UInt8 := l.flatMap fun x => Lib.encodeRune (gd x)
def encB (l : List Int) : ByteArray := ⟨(enc l).toArray⟩
theorem enc_len : ∀ l : List Int, (enc l).length ≤ 4 * l.length
  | [] => by simp [enc]
  | x :: l => by
    have h := enc_len l
    have h2 := Lib.runeCells_le (gd x)
    rw [Lib.runeCells_length] at h2
    unfold enc at h ⊢
    rw [List.flatMap_cons, List.length_append, List.length_cons]
    omega
theorem goodC (x : Int) (w : World) : Calls Tryd.prog 19 #[.int .i64 x] w fun e w' => e = .returned (.int .i64 (gd x)) ∧ Below w.heap.size w w' := by
  refine ((gdf x trivial).2 w (fun _ => False) [.int .i64 x] (fun _ h => h.elim) ⟨rfl, fun i a v h1 h2 => ?_⟩).mono ?_
  · match i, h1, h2 with
    | 0, h1, h2 =>
      obtain rfl := Option.some.inj h1
      obtain rfl := Option.some.inj h2
      exact .int _ _
  · rintro e w' ⟨v, S', rfl, hr, _, _, hb⟩
    cases hr
    exact ⟨rfl, hb⟩
/-- The cells of a row of numbers. -/
theorem intCells {w : World} {S : Nat → Prop} {l : List Int} {v : Value} (h : RV0 w S (aI l) v) : ∃ A c, v = .slice A l.length c ∧ l.length ≤ c ∧ c ≤ maxLen ∧ ∀ i, i < l.length → ∃ ad, A = some ad ∧ S ad.block ∧ w.cell? (ad.add i) = some (.int .i64 (l.getD i default)) := by
  generalize ha : aI l = a at h
  cases h with
  | sl sz n el A cap g hcap hmax hl hm hr =>
    unfold aI at ha
    injection ha with h1 h2 h3
    subst h1 h2 h3
    refine ⟨A, cap, rfl, hcap, hmax, fun i hi => ?_⟩
    obtain ⟨ad, e1, e2, e3⟩ := hm i 0 hi (by omega)
    have e4 := hr i 0 (.int .i64 (l.getD i default)) hi rfl
    generalize hg : g i 0 = u at e3 e4
    cases e4
    refine ⟨ad, e1, e2, ?_⟩
    rw [← e3]
    simp
  | _ => exact absurd ha (by unfold aI; intro h; cases h)
def SText : Sp := ⟨List Int, fun l => l.length < 4398046511104, fun l => [aI l], fun l => .st (.str (encB l))⟩
set_option maxHeartbeats 4000000 in
theorem textC (A0 : Option Addr) (c0 : Nat) (l0 : List Int) (S : Nat → Prop) (w : World) (hS : ∀ b, S b → b < w.heap.size) (hr0 : ∀ i, i < l0.length → ∃ ad, A0 = some ad ∧ S ad.block ∧ w.cell? (ad.add i) = some (.int .i64 (l0.getD i default))) (hc0 : l0.length ≤ c0) (hl : l0.length < 4398046511104) :
    Calls Tryd.prog 9 #[.slice A0 l0.length c0] w fun e w' => e = .returned (.string (encB l0)) ∧ Below w.heap.size w w' := by
  have HL := Aside0.mk hl
  have HR0 := Aside0.mk hr0
  have HC0 := Aside0.mk hc0
  have HS := Aside0.mk hS
  clear hl hr0 hc0 hS
  go_enter Tryd.func9, Tryd.ntmps9
  go_wp2
  go_loopg [8] (l0.length + 1) (fun kq v8 w' => ∃ (i : Nat), v8 = .int .i64 (i : Nat) ∧ Aside0 (i ≤ l0.length ∧ l0.length + 1 ≤ kq + i) ∧ Aside0 (Lib.IsBuilderF 55 5 w.heap.size w.heap.size (Lib.byteCells (enc (l0.take i))) w') ∧ Aside0 (Below w.heap.size w w'))
  case atStart => exact ⟨0, rfl, ⟨by omega⟩, ⟨Lib.IsBuilderF.of (Lib.fresh_isBuilder 55 5 w)⟩, ⟨(Below.refl _ w).alloc (Nat.le_refl _) _⟩⟩
  case round =>
    obtain ⟨i, rfl, HI, HO, HB⟩ := hrel
    cases gk with
    | zero => have := HI.out; omega
    | succ k1 =>
      by_cases hi : i < l0.length
      · obtain ⟨ad, ead, hsb, hcell0⟩ := HR0.out i hi
        have hcell : wr.cell? (ad.add i) = some (.int .i64 l0[i]) := by
          rw [World.cell?_of_block (w := w) (by
            have : (ad.add i).block = ad.block := by unfold Addr.add; split <;> rfl
            rw [this]
            exact HB.out.block _ (HS.out _ hsb)), hcell0]
          simp [List.getD, hi]
        clear hcell0
        subst ead
        have htk : enc (l0.take (i + 1)) = enc (l0.take i) ++ Lib.encodeRune (gd l0[i]) := by rw [List.take_succ_eq_append_getElem hi]; unfold enc; rw [List.flatMap_append]; simp
        have hln := enc_len (l0.take i)
        have hl2 : (enc (l0.take i)).length ≤ 4 * i := by rw [List.length_take] at hln; omega
        have hg := gd_range l0[i]
        have p0 : (0 ≤ (i : Int)) = True := eq_true (by omega)
        have p1 : ((i : Int) < (l0.length : Int)) = True := eq_true (by omega)
        have HTK := Aside0.mk htk
        have HL2 := Aside0.mk hl2
        have HLi := Aside0.mk hi
        have hgd := goodC l0[i]
        clear htk hln hl2
        generalize gd l0[i] = y at *
        generalize l0[i] = x at *
        have hg0 := hg.1
        have hg1 := hg.2
        have HG := Aside0.mk hg
        have HGD := Aside0.mk hgd
        clear hg hgd
        go_wp2_with (first | (go_at_call 19; refine (HGD.out _).mono ?_; rintro e w1 ⟨rfl, hb1⟩; have HB1 := Aside0.mk hb1; clear hb1) | (go_at_call 18; have hbn := Aside0.mk (HB.out.trans (HB1.out.mono HB.out.size)); refine (Tryd.Builder_WriteRune_k w.heap.size w.heap.size (Lib.byteCells (enc (l0.take i))) y (by have := HG.out; omega) (by have := HG.out; omega) _ (isB_below HO.out HB1.out) (by rw [Lib.byteCells_length]; have := HL.out; have := HL2.out; have := HLi.out; omega) hbn.out.size).mono ?_; rintro e W1 ⟨rfl, h1, b1, _⟩))
        go_roundg k1
        case measure => have := HI.out; omega
        case rel => exact ⟨i + 1, (by first | rfl | (have := HL.out; have := HLi.out; congr 1; unfold wrap64; omega) | (have := HL.out; have := HLi.out; simp [wrap64]; omega)), ⟨by have := HI.out; omega⟩, ⟨by rw [HTK.out, Lib.byteCells_append, Lib.byteCells_encodeRune]; exact Or.inr h1⟩, ⟨hbn.out.trans b1⟩⟩
      · obtain rfl : i = l0.length := by have := HI.out; omega
        have ho := HO.out
        rw [List.take_length] at ho
        clear HO
        have HO := Aside0.mk ho
        clear ho
        go_wp2_with (go_at_call 20; refine (Tryd.Builder_String_any_k w.heap.size w.heap.size (enc l0) _ HO.out (HB.out.size)).mono ?_; rintro e W1 ⟨rfl, _, b1, _⟩)
        go_ret
        exact ⟨rfl, HB.out.trans b1⟩
theorem text : SpOK Tryd.prog 9 SText := fun (l : List Int) hl => by
  refine ⟨⟨_, Tryd.func9, rfl, rfl⟩, fun w S vs hS hv => ?_⟩
  obtain ⟨hl1, hv2⟩ := hv
  match vs, hl1, hv2 with
  | [v], hl1, hv2 =>
    obtain ⟨A, c, rfl, h1, h2, h3⟩ := intCells (hv2 0 _ _ rfl rfl)
    refine (textC A c l S w hS h3 h1 hl).mono ?_
    rintro e w' ⟨rfl, hb⟩
    exact ⟨_, S, rfl, .str _, fun _ q => q, fun b q => ⟨Nat.lt_of_lt_of_le (hS b q) hb.size, .inl q⟩, hb⟩
end Go.Abs.Txt
