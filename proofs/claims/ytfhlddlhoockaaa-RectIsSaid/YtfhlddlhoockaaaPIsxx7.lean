-- made by xprint.py of this session
import Derived.Test.YtfhlddlhoockaaaPIsxx0
import Derived.Test.YtfhlddlhoockaaaPIsxx3
import Derived.Test.YtfhlddlhoockaaaPIsxx5
import Derived.Test.YtfhlddlhoockaaaPIsxx6
import Derived.Shelf.SlSortCmp.NoneTotal
import Derived.Shelf.SlicesE.Clone
import Derived.Sort.Grow
import Derived.Test.YtfhlddlhoockaaaShelf
namespace Go.Proofs.Ytfhlddlhoockaaa.PIsx
open Go.RowKit Go.Proofs.YtfhlddlhoockaaaW.PrintWords Go.Proofs.YtfhlddlhoockaaaW.PrintLast Go.Proofs.YtfhlddlhoockaaaW.PrintMore
attribute [local go_sem] max2_int min2_int max_two min_two max_three min_three max_four min_four   -- for this text's walks alone
set_option linter.unusedVariables false
set_option linter.unusedSimpArgs false

/-! ### EXT rect_Canon: function 12 -/
-- IMPORTS Derived.Shelf.SlSortCmp.NoneTotal;Derived.Shelf.SlicesE.Clone;Derived.Sort.Grow;Derived.Test.YtfhlddlhoockaaaShelf
def encR (r : S31) : List Value := [.int .i64 r.f0, .int .i64 r.f1, .int .i64 r.f2]
def cellsR : List S31 → List Value
  | [] => []
  | r :: l => encR r ++ cellsR l
theorem cellsR_len : ∀ l, (cellsR l).length = l.length * 3
  | [] => rfl
  | r :: l => by rw [cellsR, List.length_append, cellsR_len l, List.length_cons]; simp [encR]; omega
theorem cellsR_app : ∀ a b, cellsR (a ++ b) = cellsR a ++ cellsR b
  | [], _ => rfl
  | r :: l, b => by rw [List.cons_append, cellsR, cellsR, cellsR_app l b, List.append_assoc]
theorem cellsR_get : ∀ (l : List S31) (i : Nat) (h : i < l.length), (cellsR l)[i * 3]? = some (.int .i64 l[i].f0) ∧ (cellsR l)[i * 3 + 1]? = some (.int .i64 l[i].f1) ∧ (cellsR l)[i * 3 + 2]? = some (.int .i64 l[i].f2)
  | r :: l, 0, _ => ⟨rfl, rfl, rfl⟩
  | r :: l, i + 1, h => by
    have ih := cellsR_get l i (by simpa using h)
    rw [cellsR, List.getElem_cons_succ]
    refine ⟨?_, ?_, ?_⟩
    · rw [List.getElem?_append_right (by simp [encR]; omega), show (i + 1) * 3 - (encR r).length = i * 3 by simp [encR]; omega]; exact ih.1
    · rw [List.getElem?_append_right (by simp [encR]; omega), show (i + 1) * 3 + 1 - (encR r).length = i * 3 + 1 by simp [encR]; omega]; exact ih.2.1
    · rw [List.getElem?_append_right (by simp [encR]; omega), show (i + 1) * 3 + 2 - (encR r).length = i * 3 + 2 by simp [encR]; omega]; exact ih.2.2
/-- Block g holds the rects l, and behind them what it holds. -/
def RowB (w : World) (g : Nat) (l : List S31) (rest : List Value) : Prop := w.heap[g]? = some (.cells (cellsR l ++ rest).toArray 31 (0, 0))
theorem RowB.get {w : World} {g : Nat} {l : List S31} {rest : List Value} (h : RowB w g l rest) (i : Nat) (hi : i < l.length) :
    w.cell? ⟨g, i * 3, none⟩ = some (.int .i64 l[i].f0) ∧ w.cell? ⟨g, i * 3 + 1, none⟩ = some (.int .i64 l[i].f1) ∧ w.cell? ⟨g, i * 3 + 2, none⟩ = some (.int .i64 l[i].f2) := by
  obtain ⟨h0, h1, h2⟩ := cellsR_get l i hi
  have hl := cellsR_len l
  refine ⟨?_, ?_, ?_⟩
  · rw [blk_cell h]; simp only [List.getElem?_toArray]; rw [List.getElem?_append_left (by omega)]; exact h0
  · rw [blk_cell h]; simp only [List.getElem?_toArray]; rw [List.getElem?_append_left (by omega)]; exact h1
  · rw [blk_cell h]; simp only [List.getElem?_toArray]; rw [List.getElem?_append_left (by omega)]; exact h2
theorem cellsR_set (r : S31) : ∀ (l : List S31) (i : Nat), i < l.length → (((cellsR l).set (i * 3) (.int .i64 r.f0)).set (i * 3 + 1) (.int .i64 r.f1)).set (i * 3 + 2) (.int .i64 r.f2) = cellsR (l.set i r)
  | x :: l, 0, _ => rfl
  | x :: l, i + 1, h => by
    have ih := cellsR_set r l i (by simpa using h)
    rw [List.set_cons_succ, cellsR, cellsR, ← ih, show (i + 1) * 3 = i * 3 + 3 by omega]
    rfl
theorem RowB.put {w : World} {g : Nat} {l : List S31} {rest : List Value} (h : RowB w g l rest) (i : Nat) (hi : i < l.length) (r : S31) :
    RowB (((w.setCell ⟨g, i * 3, none⟩ (.int .i64 r.f0)).setCell ⟨g, i * 3 + 1, none⟩ (.int .i64 r.f1)).setCell ⟨g, i * 3 + 2, none⟩ (.int .i64 r.f2)) g (l.set i r) rest := by
  have hl := cellsR_len l
  have h3 := blk_set (blk_set (blk_set h (i * 3) (.int .i64 r.f0)) (i * 3 + 1) (.int .i64 r.f1)) (i * 3 + 2) (.int .i64 r.f2)
  have e : (((cellsR l ++ rest).toArray.setIfInBounds (i * 3) (.int .i64 r.f0)).setIfInBounds (i * 3 + 1) (.int .i64 r.f1)).setIfInBounds (i * 3 + 2) (.int .i64 r.f2) = (cellsR (l.set i r) ++ rest).toArray := by
    rw [List.setIfInBounds_toArray, List.setIfInBounds_toArray, List.setIfInBounds_toArray, List.set_append_left _ _ (by omega), List.set_append_left _ _ (by simp; omega), List.set_append_left _ _ (by simp; omega), cellsR_set r l i hi]
  rw [e] at h3
  exact h3
def neR (o r : S31) : Bool := (!(o.f0 == r.f0) || (!(o.f1 == r.f1) || (!(o.f2 == r.f2))))
def heldR.l0 : Nat → List S31 → S31 → Int → Option Bool
  | 0, _, _, _ => none
  | k + 1, l, r, x8 => if x8 < (l.length : Int) then (if 0 ≤ x8 then ((if neR (rd_T31 l x8) r = true then rect_Holds.f k (rd_T31 l x8).f0 (rd_T31 l x8).f1 (rd_T31 l x8).f2 r.f0 r.f1 r.f2 else some false).bind fun b => if b = true then (some true) else heldR.l0 k l r (wrap64 (x8 + 1))) else none) else (some false)
theorem heldR.mono_l : ∀ k, (∀ y0 y1 y2, LeO (heldR.l0 k y0 y1 y2) (heldR.l0 (k + 1) y0 y1 y2))
  | 0 => fun _ _ _ r h => by simp [heldR.l0] at h
  | k + 1 => by
    have ih0 := heldR.mono_l k
    intro y0 y1 y2
    unfold heldR.l0
    exact LeO.ite (LeO.ite (LeO.bind (LeO.ite (rect_Holds.mono _ _ _ _ _ _ _) (LeO.refl _)) (fun b => LeO.ite (LeO.refl _) (ih0 _ _ _))) (LeO.none _)) (LeO.refl _)
theorem rect_Canon.eqA (d : Nat) (w : World) (x0 y0 : Int) (x1 y1 : Int) (x2 y2 : Int) :
    (Op.equalIn (d + 2) 31 (.agg #[.int .i64 x0, .int .i64 x1, .int .i64 x2]) (.agg #[.int .i64 y0, .int .i64 y1, .int .i64 y2])).run Try.prog w = .ok (x0 == y0 && (x1 == y1 && (x2 == y2))) w := by
  refine eqA_of Try.underlying31 (by kernel_rfl) ?_
  refine eqf_cons (by rfl) (by go_simp; rfl) (by go_simp; rfl) (by go_simp) ?_
  refine eqf_cons (by rfl) (by go_simp; rfl) (by go_simp; rfl) (by go_simp) ?_
  exact eqf_last (by rfl) (by go_simp; rfl) (by go_simp; rfl) (by go_simp)
attribute [local go_sem high] rect_Canon.eqA
set_option maxHeartbeats 2000000 in
set_option maxRecDepth 100000 in
theorem rect_Canon.clos2 (k : Nat) (x0 x1 x2 : Int) (g : Nat) (a b c : Int) (r : Bool) (w : World) (hg : g < w.heap.size) (h0 : w.cell? ⟨g, 0, none⟩ = some (.int .i64 a)) (h1 : w.cell? ⟨g, 1, none⟩ = some (.int .i64 b)) (h2 : w.cell? ⟨g, 2, none⟩ = some (.int .i64 c)) (h : (if (!(x0 == a) || (!(x1 == b) || (!(x2 == c)))) = true then rect_Holds.f k x0 x1 x2 a b c else some false) = some r) :
    Calls Try.prog 34 #[.agg #[.int .i64 x0, .int .i64 x1, .int .i64 x2], .pointer (some ⟨g, 0, none⟩)] w fun e w' => e = .returned (.bool r) ∧ Below w.heap.size w w' := by
  have hu2 := Try.underlying31
  by_cases hne : (!(x0 == a) || (!(x1 == b) || (!(x2 == c)))) = true
  · rw [if_pos hne] at h
    have H := Aside0.mk h
    clear h
    go_enter Try.func34, Try.ntmps34
    go_wp2_with (go_at_call 15; with_reducible refine (rect_Holds.calls k x0 x1 x2 a b c r _ H.out).mono ?_; rintro e w' ⟨rfl, hb⟩)
    go_ret
    exact ⟨rfl, below_step (below_alloc (Below.refl _ _) _) hb⟩
  · rw [if_neg hne] at h
    obtain rfl := Option.some.inj h
    replace hne := Bool.eq_false_iff.mpr hne
    clear h
    go_enter Try.func34, Try.ntmps34
    go_wp2
    go_ret
    exact ⟨rfl, below_alloc (Below.refl _ _) _⟩
set_option maxHeartbeats 2000000 in
set_option maxRecDepth 100000 in
theorem rect_Canon.idx2 (k : Nat) (A0 : Option Addr) (c0 : Nat) (l0 : List S31) (g : Nat) (y : S31) (r : Bool) (w : World) (hr0 : Kd.C k31 w A0 l0.length l0) (hc0 : l0.length ≤ c0) (hg : g < w.heap.size) (h0 : w.cell? ⟨g, 0, none⟩ = some (.int .i64 y.f0)) (h1 : w.cell? ⟨g, 1, none⟩ = some (.int .i64 y.f1)) (h2 : w.cell? ⟨g, 2, none⟩ = some (.int .i64 y.f2)) (h : heldR.l0 k l0 y 0 = some r) :
    Calls Try.prog 54 #[.slice A0 l0.length c0, .func (.func 34) #[] #[.pointer (some ⟨g, 0, none⟩)]] w fun e w' => (∃ i : Int, e = .returned (.int .i64 i) ∧ decide (0 ≤ i) = r) ∧ Below w.heap.size w w' := by
  have hu2 := Try.underlying31
  have HR0 := Aside0.mk hr0
  have HC0 := Aside0.mk hc0
  have HG := Aside0.mk hg
  have H0 := Aside0.mk h0
  have H1 := Aside0.mk h1
  have H2 := Aside0.mk h2
  have H' := Aside0.mk h
  clear h hr0 hc0 hg h0 h1 h2
  go_enter Try.func54, Try.ntmps54
  go_wp2
  go_loopg [8] k (fun kq v8 w' => ∃ x8 : Int, v8 = .int .i64 x8 ∧ Aside0 (heldR.l0 kq l0 y x8 = some r) ∧ Aside0 (kq ≤ k) ∧ Aside0 (Below w.heap.size w w'))
  case atStart => exact ⟨0, rfl, H', ⟨Nat.le_refl _⟩, ⟨Below.refl _ _⟩⟩
  case round =>
    clear H'
    obtain ⟨x8, rfl, HA, HK1, HB⟩ := hrel
    cases gk with
    | zero => exact absurd HA.out (by simp [heldR.l0])
    | succ k1 =>
      have HG' : Aside0 (g < wr.heap.size) := Aside0.mk (Nat.lt_of_lt_of_le HG.out HB.out.size)
      have H0' := Aside0.mk ((HB.out.cell (p := ⟨g, 0, none⟩) HG.out).trans H0.out)
      have H1' := Aside0.mk ((HB.out.cell (p := ⟨g, 1, none⟩) HG.out).trans H1.out)
      have H2' := Aside0.mk ((HB.out.cell (p := ⟨g, 2, none⟩) HG.out).trans H2.out)
      have H := HA.out
      clear HA
      simp only [heldR.l0] at H
      by_cases c2 : x8 < (l0.length : Int)
      · rw [if_pos c2] at H
        have c2b0 : decide (x8 < (l0.length : Int)) = true := decide_eq_true c2
        by_cases c3 : 0 ≤ x8
        · rw [if_pos c3] at H
          have c3b0 : decide (0 ≤ x8) = true := decide_eq_true c3
          obtain ⟨t, ht, H⟩ := Option.bind_eq_some_iff.mp H
          obtain ⟨ad, e, hx0, hx1, hx2⟩ := at_T31 HR0.out x8 c3 c2
          cases e
          replace hx0 := (HB.out.cell (World.block_lt_of_cell? w _ hx0)).trans hx0
          replace hx1 := (HB.out.cell (World.block_lt_of_cell? w _ hx1)).trans hx1
          replace hx2 := (HB.out.cell (World.block_lt_of_cell? w _ hx2)).trans hx2
          replace c2 := eq_true c2
          replace c3 := eq_true c3
          have HT := Aside0.mk ht
          clear ht
          cases t with
          | true =>
            have hx' : some true = some r := by rw [if_pos rfl] at H; exact H
            obtain rfl := Option.some.inj hx'
            clear H hx'
            go_wp2_with (refine (rect_Canon.clos2 k1 _ _ _ g y.f0 y.f1 y.f2 true _ HG'.out H0'.out H1'.out H2'.out HT.out).mono ?_; rintro e w1 ⟨rfl, hb⟩)
            go_ret
            exact ⟨⟨_, rfl, by assumption⟩, below_step HB.out hb⟩
          | false =>
            have HX : Aside0 (heldR.l0 k1 l0 y (wrap64 (x8 + 1)) = some r) := ⟨by rw [if_neg (by decide)] at H; exact H⟩
            clear H
            go_wp2_with (refine (rect_Canon.clos2 k1 _ _ _ g y.f0 y.f1 y.f2 false _ HG'.out H0'.out H1'.out H2'.out HT.out).mono ?_; rintro e w1 ⟨rfl, hb⟩)
            go_roundg k1
            case measure => have := HK1.out; omega
            case rel => exact ⟨_, rfl, HX, ⟨by have := HK1.out; omega⟩, ⟨below_step HB.out hb⟩⟩
        · rw [if_neg c3] at H
          exact absurd H (by simp)
      · rw [if_neg c2] at H
        have c2b0 : decide (x8 < (l0.length : Int)) = false := decide_eq_false c2
        clear c2
        obtain rfl := Option.some.inj H
        go_wp2
        go_ret
        exact ⟨⟨_, rfl, by decide⟩, HB.out⟩
set_option maxHeartbeats 2000000 in
set_option maxRecDepth 100000 in
theorem rect_Canon.cont2 (k : Nat) (A0 : Option Addr) (c0 : Nat) (l0 : List S31) (g : Nat) (y : S31) (r : Bool) (w : World) (hr0 : Kd.C k31 w A0 l0.length l0) (hc0 : l0.length ≤ c0) (hg : g < w.heap.size) (h0 : w.cell? ⟨g, 0, none⟩ = some (.int .i64 y.f0)) (h1 : w.cell? ⟨g, 1, none⟩ = some (.int .i64 y.f1)) (h2 : w.cell? ⟨g, 2, none⟩ = some (.int .i64 y.f2)) (h : heldR.l0 k l0 y 0 = some r) :
    Calls Try.prog 33 #[.slice A0 l0.length c0, .func (.func 34) #[] #[.pointer (some ⟨g, 0, none⟩)]] w fun e w' => e = .returned (.bool r) ∧ Below w.heap.size w w' := by
  have HR0 := Aside0.mk hr0
  have HC0 := Aside0.mk hc0
  have HG := Aside0.mk hg
  have H0 := Aside0.mk h0
  have H1 := Aside0.mk h1
  have H2 := Aside0.mk h2
  have H' := Aside0.mk h
  clear h hr0 hc0 hg h0 h1 h2
  go_enter Try.func33, Try.ntmps33
  go_wp2_with (refine (rect_Canon.idx2 k _ _ l0 g y r _ HR0.out HC0.out HG.out H0.out H1.out H2.out H'.out).mono ?_; rintro e w1 ⟨⟨i, rfl, rfl⟩, hb⟩)
  go_ret
  exact ⟨by simp, hb⟩
set_option maxHeartbeats 2000000 in
set_option maxRecDepth 100000 in
theorem rect_Canon.clos1 (k : Nat) (A0 : Option Addr) (c0 : Nat) (l0 : List S31) (g : Nat) (y : S31) (r : Bool) (w : World) (hr0 : Kd.C k31 w A0 l0.length l0) (hc0 : l0.length ≤ c0) (hg : w.cell? ⟨g, 0, none⟩ = some (.slice A0 l0.length c0)) (h : heldR.l0 k l0 y 0 = some r) :
    Calls Try.prog 32 #[.agg #[.int .i64 y.f0, .int .i64 y.f1, .int .i64 y.f2], .pointer (some ⟨g, 0, none⟩)] w fun e w' => e = .returned (.bool r) ∧ Below w.heap.size w w' := by
  have hu2 := Try.underlying31
  have hmf : ∀ (fn : Fn) (first cap : Array Value) (w : World), (Instr.makeFunc fn first cap).run Try.prog w = .ok (.func fn first cap) w := fun _ _ _ _ => rfl
  have HR0 := Aside0.mk hr0
  have HC0 := Aside0.mk hc0
  have H' := Aside0.mk h
  have hl := World.block_lt_of_cell? w _ hg
  clear h hr0 hc0
  go_enter Try.func32, Try.ntmps32
  go_wp2_with (refine (rect_Canon.cont2 k _ _ l0 w.heap.size y r _ (Kd.C_below HR0.out (below_alloc (Below.refl _ _) _)) HC0.out (by simp) (by simp [go_sem]) (by simp [go_sem]) (by simp [go_sem]) H'.out).mono ?_; rintro e w1 ⟨rfl, hb⟩)
  go_ret
  exact ⟨rfl, below_step (below_alloc (Below.refl _ _) _) hb⟩
/-- All but block g is as it was. -/
structure KB (g : Nat) (w w' : World) : Prop where
  os : w'.os = w.os
  tape : w'.tape = w.tape
  output : w'.output = w.output
  size : w.heap.size ≤ w'.heap.size
  block : ∀ k, k < w.heap.size → k ≠ g → w'.heap[k]? = w.heap[k]?
theorem KB.refl (g : Nat) (w : World) : KB g w w := ⟨rfl, rfl, rfl, Nat.le_refl _, fun _ _ _ => rfl⟩
theorem KB.trans {g : Nat} {a b c : World} (h : KB g a b) (k : KB g b c) : KB g a c :=
  ⟨k.os.trans h.os, k.tape.trans h.tape, k.output.trans h.output, Nat.le_trans h.size k.size, fun i hi hn => (k.block i (Nat.lt_of_lt_of_le hi h.size) hn).trans (h.block i hi hn)⟩
theorem KB.below {g : Nat} {w w' : World} (h : Below w.heap.size w w') : KB g w w' := ⟨h.os, h.tape, h.output, h.size, fun k hk _ => h.block k hk⟩
theorem KB.step {g : Nat} {a b c : World} (h : KB g a b) (k : Below b.heap.size b c) : KB g a c := h.trans (KB.below k)
theorem KB.alloc {g : Nat} {a b : World} (h : KB g a b) (o : Obj) : KB g a (b.alloc o) := h.step (below_alloc (Below.refl _ _) o)
theorem KB.drew {g : Nat} {a b : World} (h : KB g a b) : KB g a b.drew := ⟨h.os, h.tape, h.output, h.size, h.block⟩
theorem KB.set {g : Nat} {a b : World} (h : KB g a b) (i : Nat) (v : Value) : KB g a (b.setCell ⟨g, i, none⟩ v) :=
  h.trans ⟨rfl, rfl, rfl, by simp [World.setCell], fun k _ hn => Below.heap_setCell b ⟨g, i, none⟩ v k hn⟩
theorem KB.setNew {g : Nat} {a b : World} (h : KB g a b) (p : Addr) (hp : a.heap.size ≤ p.block) (v : Value) : KB g a (b.setCell p v) :=
  ⟨h.os, h.tape, h.output, by simpa [World.setCell] using h.size, fun k hk hn => (Below.heap_setCell b p v k (by omega)).trans (h.block k hk hn)⟩
theorem KB.blk {g : Nat} {a b : World} (h : KB g a b) {k : Nat} {o : Obj} (hk : a.heap[k]? = some o) (hn : k ≠ g) : b.heap[k]? = some o := (h.block k (blk_lt hk) hn).trans hk
theorem KB.cell {g : Nat} {a b : World} (h : KB g a b) {p : Addr} {v : Value} (hv : a.cell? p = some v) (hn : p.block ≠ g) : b.cell? p = some v := by
  have := h.block p.block (World.block_lt_of_cell? a _ hv) hn
  unfold World.cell? at hv ⊢
  rw [this]
  exact hv
theorem KB.row {g k : Nat} {a b : World} (h : KB g a b) {l : List S31} {rest : List Value} (hk : RowB a k l rest) (hn : k ≠ g) : RowB b k l rest := h.blk hk hn
theorem Below.row {k : Nat} {a b : World} (h : Below a.heap.size a b) {l : List S31} {rest : List Value} (hk : RowB a k l rest) : RowB b k l rest := blk_below hk h
/-- A row that block g holds, read. -/
theorem RowB.toC {w : World} {g : Nat} {l : List S31} {rest : List Value} (h : RowB w g l rest) (hl : l.length ≤ 9223372036854775807) : Kd.C k31 w (some ⟨g, 0, none⟩) l.length l := by
  refine ⟨rfl, hl, fun _ => ⟨_, rfl, fun j p hj => ⟨encR p, rfl, ⟨_, _, rfl, rfl, ⟨_, _, rfl, rfl, rfl⟩⟩, fun i u hu => ?_⟩⟩⟩
  obtain ⟨hj1, rfl⟩ := List.getElem?_eq_some_iff.1 hj
  obtain ⟨h0, h1, h2⟩ := h.get j hj1
  have e : ((⟨g, 0, none⟩ : Addr).add (j * k31.sz + i)) = ⟨g, j * 3 + i, none⟩ := by
    show ((⟨g, 0, none⟩ : Addr).add (j * 3 + i)) = _
    unfold Addr.add
    split <;> simp_all
  rw [e]
  match i, hu with
  | 0, hu => obtain rfl : u = _ := by simpa [encR] using hu.symm
             exact h0
  | 1, hu => obtain rfl : u = _ := by simpa [encR] using hu.symm
             exact h1
  | 2, hu => obtain rfl : u = _ := by simpa [encR] using hu.symm
             exact h2
  | i + 3, hu => simp [encR] at hu
set_option maxHeartbeats 2000000 in
set_option maxRecDepth 100000 in
theorem rect_Canon.idx1 (k : Nat) (A0 : Option Addr) (c0 : Nat) (l0 : List S31) (g : Nat) (B0 : Option Addr) (d0 : Nat) (l : List S31) (p : S31 → Bool) (w : World) (hr0 : Kd.C k31 w A0 l0.length l0) (hc0 : l0.length ≤ c0) (hg : w.cell? ⟨g, 0, none⟩ = some (.slice A0 l0.length c0))
    (hr1 : Kd.C k31 w B0 l.length l) (hd0 : l.length ≤ d0) (hp : ∀ i (h : i < l.length), heldR.l0 k l0 l[i] 0 = some (p l[i])) :
    Calls Try.prog 54 #[.slice B0 l.length d0, .func (.func 32) #[] #[.pointer (some ⟨g, 0, none⟩)]] w fun e w' => ((∃ i, ∃ h : i < l.length, e = .returned (.int .i64 (i : Nat)) ∧ p l[i] = true ∧ ∀ j (hj : j < i), p (l[j]'(by omega)) = false) ∨ (e = .returned (.int .i64 (-1)) ∧ ∀ j (hj : j < l.length), p l[j] = false)) ∧ Below w.heap.size w w' := by
  have hu2 := Try.underlying31
  have HR0 := Aside0.mk hr0
  have HC0 := Aside0.mk hc0
  have HG := Aside0.mk hg
  have HR1 := Aside0.mk hr1
  have HD0 := Aside0.mk hd0
  have HP := Aside0.mk hp
  have hll : l.length ≤ 9223372036854775807 := hr1.2.1
  clear hr0 hc0 hg hr1 hd0 hp
  go_enter Try.func54, Try.ntmps54
  go_wp2
  go_loopg [8] (l.length + 1) (fun kq v8 w' => ∃ i : Nat, v8 = .int .i64 (i : Nat) ∧ Aside0 (i ≤ l.length ∧ kq + i = l.length + 1) ∧ Aside0 (∀ j (hj : j < i) (hjl : j < l.length), p l[j] = false) ∧ Aside0 (Below w.heap.size w w'))
  case atStart => exact ⟨0, rfl, ⟨⟨Nat.zero_le _, rfl⟩⟩, ⟨fun j hj => absurd hj (by omega)⟩, ⟨Below.refl _ _⟩⟩
  case round =>
    obtain ⟨i, rfl, HK, HJ, HB⟩ := hrel
    by_cases c2 : (i : Int) < (l.length : Int)
    · have c2b0 : decide ((i : Int) < (l.length : Int)) = true := decide_eq_true c2
      have c3 : (0 : Int) ≤ (i : Int) := by omega
      have c3b0 : decide ((0 : Int) ≤ (i : Int)) = true := decide_eq_true c3
      have hil : i < l.length := by omega
      obtain ⟨ad, e, hx0, hx1, hx2⟩ := at_T31 HR1.out (i : Int) c3 c2
      cases e
      replace hx0 := (HB.out.cell (World.block_lt_of_cell? w _ hx0)).trans hx0
      replace hx1 := (HB.out.cell (World.block_lt_of_cell? w _ hx1)).trans hx1
      replace hx2 := (HB.out.cell (World.block_lt_of_cell? w _ hx2)).trans hx2
      have er : rd_T31 l (i : Int) = l[i] := by
        unfold rd_T31
        rw [Int.toNat_natCast, List.getD_eq_getElem?_getD, List.getElem?_eq_getElem hil, Option.getD_some]
      rw [er] at hx0 hx1 hx2
      have HPI := Aside0.mk (HP.out i hil)
      have HGI := Aside0.mk ((HB.out.cell (World.block_lt_of_cell? w _ HG.out)).trans HG.out)
      have hwi : IntKind.i64.wrap ((i : Int) + 1) = ((i + 1 : Nat) : Int) := by
        rw [IntKind.wrap_i64]; omega
      have HL := Aside0.mk hil
      replace c2 := eq_true c2
      replace c3 := eq_true c3
      obtain ⟨y, hy⟩ : ∃ y, l[i] = y := ⟨_, rfl⟩
      rw [hy] at hx0 hx1 hx2 HPI
      rw [Int.toNat_natCast] at hx0 hx1 hx2
      obtain ⟨t, hpi⟩ : ∃ t, p y = t := ⟨_, rfl⟩
      rw [hpi] at HPI
      have HPT : Aside0 (∀ (h : i < l.length), p l[i] = t) := ⟨fun _ => by rw [hy]; exact hpi⟩
      have c2n : (i < l.length) = True := eq_true hil
      have c2m : decide (i < l.length) = true := decide_eq_true hil
      clear er hll hy hil hpi
      cases t with
      | true =>
        go_wp2_with (refine (rect_Canon.clos1 k _ _ l0 g y true _ (Kd.C_below HR0.out HB.out) HC0.out HGI.out HPI.out).mono ?_; rintro e w1 ⟨rfl, hb⟩)
        go_ret
        exact ⟨Or.inl ⟨i, HL.out, rfl, HPT.out _, fun j hj => HJ.out j hj _⟩, below_step HB.out hb⟩
      | false =>
        go_wp2_with (refine (rect_Canon.clos1 k _ _ l0 g y false _ (Kd.C_below HR0.out HB.out) HC0.out HGI.out HPI.out).mono ?_; rintro e w1 ⟨rfl, hb⟩)
        go_roundg (gk - 1)
        case measure => have := HK.out; have := HL.out; omega
        case rel =>
          refine ⟨i + 1, by simp [hwi], ⟨by have := HK.out; have := HL.out; omega⟩, ⟨fun j hj hjl => ?_⟩, ⟨below_step HB.out hb⟩⟩
          rcases Nat.lt_or_ge j i with h | h
          · exact HJ.out j h hjl
          · obtain rfl : j = i := by omega
            exact HPT.out _
    · have c2b0 : decide ((i : Int) < (l.length : Int)) = false := decide_eq_false c2
      have hil : i = l.length := by have := HK.out; omega
      have HI := Aside0.mk hil
      have c2m : decide (i < l.length) = false := decide_eq_false (by omega)
      clear c2 hil
      go_wp2
      go_ret
      exact ⟨Or.inr ⟨rfl, fun j hj => HJ.out j (by rw [HI.out]; exact hj) hj⟩, HB.out⟩
theorem filter_take_succ (p : S31 → Bool) (l : List S31) (j : Nat) (h : j < l.length) : (l.take (j + 1)).filter p = (l.take j).filter p ++ (if p l[j] = true then [l[j]] else []) := by
  rw [List.take_add_one, List.getElem?_eq_getElem h, List.filter_append]
  congr 1
  show List.filter p [l[j]] = _
  rw [List.filter_cons, List.filter_nil]
theorem RowB.facts {w : World} {g : Nat} {l : List S31} {rest : List Value} (h : RowB w g l rest) (i : Nat) (hi : i < l.length) :
    (∃ a, w.cell? ⟨g, i * 3, none⟩ = some a) ∧ (∃ a, w.cell? ⟨g, i * 3 + 1, none⟩ = some a) ∧ (∃ a, w.cell? ⟨g, i * 3 + 2, none⟩ = some a) ∧ w.frozen? ⟨g, i * 3, none⟩ = false ∧ w.frozen? ⟨g, i * 3 + 1, none⟩ = false ∧ w.frozen? ⟨g, i * 3 + 2, none⟩ = false :=
  ⟨⟨_, (h.get i hi).1⟩, ⟨_, (h.get i hi).2.1⟩, ⟨_, (h.get i hi).2.2⟩, blk_frozen h _, blk_frozen h _, blk_frozen h _⟩
theorem KB.setRow {g : Nat} {a b : World} (h : KB g a b) (c : Array Value) : KB g a (b.setRow g c) :=
  h.trans ⟨rfl, rfl, rfl, by simp [World.setRow], fun k _ hn => by
    simp only [World.setRow, Array.getElem?_modify]
    rw [if_neg (fun e => hn e.symm)]⟩
theorem RowB.clear {w : World} {g : Nat} {L : List S31} {rest : List Value} (h : RowB w g L rest) (i : Nat) (hi : i < L.length) (d : Nat) :
    ∃ w' rest', (Builtin.clear_ #[22] 0 #[.slice (some ⟨g, i * 3, none⟩) (L.length - i) d]).run Try.prog w = .ok (.tuple #[]) w' ∧ RowB w' g (L.take i) rest' ∧ rest'.length + 3 * i = rest.length + 3 * L.length ∧ KB g w w' := by
  have hu1 := Try.underlying22
  have hz : ∀ w, (zeroValue 31).run Try.prog w = .ok (.agg #[.int .i64 0, .int .i64 0, .int .i64 0]) w := Try.zeroValue31
  obtain ⟨vs, hvs⟩ : ∃ vs, vs = (Builtin.zeroCells (Value.agg #[.int .i64 0, .int .i64 0, .int .i64 0]).cells (L.length - i)).toList := ⟨_, rfl⟩
  have hvl : vs.length = (L.length - i) * 3 := by rw [hvs, Array.length_toList, size_zeroCells]; rfl
  have hv1 : ∀ v ∈ vs, v.oneCell' = true := by
    intro v hv
    rw [hvs] at hv
    simp only [Builtin.zeroCells, Array.toList_map, List.mem_map] at hv
    obtain ⟨j, _, rfl⟩ := hv
    have : j % 3 < 3 := Nat.mod_lt _ (by decide)
    show ((#[Value.int .i64 0, Value.int .i64 0, Value.int .i64 0] : Array Value)[j % 3]!).oneCell' = true
    generalize j % 3 = q at this
    match q, this with
    | 0, _ => rfl
    | 1, _ => rfl
    | 2, _ => rfl
  have hcl := cellsR_len L
  have hst := run_storeCells_at (P := Try.prog) g (i * 3) 31 vs 0 (cellsR L ++ rest).toArray w h (by simp; omega) hv1
  obtain ⟨m, hm⟩ : ∃ m, L.length - i = m + 1 := ⟨L.length - i - 1, by omega⟩
  refine ⟨w.setRow g ((cellsR L).take (i * 3) ++ vs ++ rest).toArray, vs ++ rest, ?_, ?_, ?_, KB.setRow (KB.refl g w) _⟩
  · have e : ((cellsR L ++ rest).toArray.toList.take (i * 3 + 0) ++ vs ++ (cellsR L ++ rest).toArray.toList.drop (i * 3 + 0 + vs.length)).toArray = ((cellsR L).take (i * 3) ++ vs ++ rest).toArray := by
      rw [List.toList_toArray, List.take_append_of_le_length (by omega), List.drop_append, List.drop_of_length_le (by omega), show i * 3 + 0 + vs.length - (cellsR L).length = 0 by omega]
      rfl
    rw [e] at hst
    rw [hm] at hvs ⊢
    simp [Builtin.clear_, run_underlying hu1, hz, ← hvs, hst]
  · have := setRow_heap w g (cellsR L ++ rest).toArray ((cellsR L).take (i * 3) ++ vs ++ rest).toArray 31 (0, 0) h
    have e : (cellsR L).take (i * 3) = cellsR (L.take i) := by
      conv => lhs; rw [← List.take_append_drop i L, cellsR_app]
      rw [List.take_append_of_le_length (by rw [cellsR_len, List.length_take]; omega), List.take_of_length_le (by rw [cellsR_len, List.length_take]; omega)]
    rw [e, List.append_assoc] at this
    unfold RowB
    rw [e, List.append_assoc]
    exact this
  · rw [List.length_append, hvl]; omega
attribute [local go_sem high] rect_Canon.eqA
set_option maxHeartbeats 4000000 in
set_option maxRecDepth 100000 in
theorem rect_Canon.del1 (k : Nat) (ga c0 : Nat) (l0 : List S31) (rest0 : List Value) (g gd d0 : Nat) (l : List S31) (rest : List Value) (p : S31 → Bool) (w : World) (h0 : RowB w ga l0 rest0) (hc0 : l0.length ≤ c0) (hl0 : l0.length ≤ 9223372036854775807) (hg : w.cell? ⟨g, 0, none⟩ = some (.slice (some ⟨ga, 0, none⟩) l0.length c0))
    (h1 : RowB w gd l rest) (hd0 : l.length ≤ d0) (hl : l.length ≤ 4611686018427387904) (hn1 : ga ≠ gd) (hn2 : g ≠ gd) (hp : ∀ i (h : i < l.length), heldR.l0 k l0 l[i] 0 = some (p l[i])) (i0 : Nat) (hi0 : i0 < l.length) (hpi : p l[i0] = true) (hpj : ∀ j (hj : j < i0), p (l[j]'(by omega)) = false) :
    Calls Try.prog 30 #[.slice (some ⟨gd, 0, none⟩) l.length d0, .func (.func 32) #[] #[.pointer (some ⟨g, 0, none⟩)]] w fun e w' => e = .returned (.slice (some ⟨gd, 0, none⟩) (l.filter fun x => !p x).length d0) ∧ (∃ rest', RowB w' gd (l.filter fun x => !p x) rest' ∧ rest'.length + 3 * (l.filter fun x => !p x).length = rest.length + 3 * l.length) ∧ KB gd w w' := by
  have hu2 := Try.underlying31
  have hidx : Calls Try.prog 54 #[.slice (some ⟨gd, 0, none⟩) l.length d0, .func (.func 32) #[] #[.pointer (some ⟨g, 0, none⟩)]] w fun e w' => e = .returned (.int .i64 (i0 : Nat)) ∧ Below w.heap.size w w' := by
    refine (rect_Canon.idx1 k (some ⟨ga, 0, none⟩) c0 l0 g (some ⟨gd, 0, none⟩) d0 l p w (h0.toC hl0) hc0 hg (h1.toC (by omega)) hd0 hp).mono ?_
    rintro e w' ⟨hh, hb⟩
    refine ⟨?_, hb⟩
    rcases hh with ⟨i, hi, rfl, hq, hqj⟩ | ⟨rfl, hqj⟩
    · rcases Nat.lt_trichotomy i i0 with h | h | h
      · rw [hpj i h] at hq; cases hq
      · rw [h]
      · rw [hqj i0 h] at hpi; cases hpi
    · rw [hqj i0 hi0] at hpi; cases hpi
  have H0 := Aside0.mk h0
  have HC0 := Aside0.mk hc0
  have HL0 := Aside0.mk hl0
  have HG := Aside0.mk hg
  have H1 := Aside0.mk h1
  have HD0 := Aside0.mk hd0
  have HP := Aside0.mk hp
  have HN := Aside0.mk (And.intro hn1 hn2)
  have HL := Aside0.mk hl
  have HI := Aside0.mk hidx
  have HI0 := Aside0.mk hi0
  have hne : decide ((i0 : Int) = -1) = false := decide_eq_false (by omega)
  have hne2 : ((i0 : Int) == -1) = false := beq_eq_false_iff_ne.mpr (by omega)
  have hw0 : IntKind.i64.wrap ((i0 : Int) + 1) = ((i0 + 1 : Nat) : Int) := by rw [IntKind.wrap_i64]; omega
  have HF : Aside0 ((l.take (i0 + 1)).filter (fun x => !p x) = l.take i0) := ⟨by
    rw [filter_take_succ _ _ _ hi0, hpi]
    simp only [Bool.not_true, if_neg (show ¬ (false = true) by decide), List.append_nil]
    refine List.filter_eq_self.mpr fun x hx => ?_
    obtain ⟨j, hj, rfl⟩ := List.getElem_of_mem hx
    rw [List.length_take] at hj
    rw [List.getElem_take, hpj j (by omega)]
    rfl⟩
  clear h0 hc0 hl0 hg h1 hd0 hp hn1 hn2 hl hidx hi0 hpi hpj
  go_enter Try.func30, Try.ntmps30
  go_wp2_with ((with_reducible refine gate_callee (f := 54) rfl ?_); refine goesL_ (some 10) rfl rfl Try.func54 (by kernel_rfl) rfl #[.slice (some ⟨gd, 0, none⟩) l.length d0, .func (.func 32) #[] #[.pointer (some ⟨g, 0, none⟩)]] rfl (by (try simp only [List.map_toArray, List.map_cons, List.map_nil]); first | done | rfl) ?_; (with_reducible refine HI.out.mono ?_); rintro e w1 ⟨rfl, hb⟩; have HB := Aside0.mk hb; clear hb; refine ⟨_, rfl, ?_⟩)
  go_loopg [5, 6] (l.length + 1) (fun kq v5 v6 w' => ∃ (i j : Nat) (L : List S31), v5 = .int .i64 (i : Nat) ∧ v6 = .int .i64 (j : Nat) ∧ Aside0 (i < j ∧ j ≤ l.length ∧ l.length + 1 ≤ kq + j ∧ L.length = l.length) ∧ Aside0 (L.take i = (l.take j).filter (fun x => !p x)) ∧ Aside0 (L.drop j = l.drop j) ∧ Aside0 (RowB w' gd L rest) ∧ Aside0 (KB gd w w'))
  case atStart => exact ⟨i0, i0 + 1, l, rfl, by simp [hw0], ⟨⟨Nat.lt_succ_self _, HI0.out, by omega, rfl⟩⟩, ⟨HF.out.symm⟩, ⟨rfl⟩, ⟨Below.row HB.out H1.out⟩, ⟨KB.below HB.out⟩⟩
  case round =>
    obtain ⟨i, j, L, rfl, rfl, HK, HT, HD, HW, HKB⟩ := hrel
    by_cases c2 : (j : Int) < (l.length : Int)
    · have c2b0 : decide ((j : Int) < (l.length : Int)) = true := decide_eq_true c2
      have hjl : j < l.length := by omega
      have c2n : (j < l.length) = True := eq_true hjl
      have c2m : decide (j < l.length) = true := decide_eq_true hjl
      have hjL : j < L.length := by have := HK.out; omega
      have c3 : ((0 : Int) ≤ (j : Int)) = True := eq_true (by omega)
      obtain ⟨hx0, hx1, hx2⟩ := HW.out.get j hjL
      have hLl : L[j] = l[j] := by
        have h1 : (L.drop j)[0]? = (l.drop j)[0]? := by rw [HD.out]
        rw [List.getElem?_drop, List.getElem?_drop, Nat.add_zero, List.getElem?_eq_getElem hjL, List.getElem?_eq_getElem hjl] at h1
        exact Option.some.inj h1
      have hpp := HP.out j hjl
      obtain ⟨y, hy⟩ : ∃ y, l[j] = y := ⟨_, rfl⟩
      rw [hLl, hy] at hx0 hx1 hx2
      obtain ⟨t, hpi⟩ : ∃ t, p y = t := ⟨_, rfl⟩
      rw [hy, hpi] at hpp
      have HPP := Aside0.mk hpp
      have HY : Aside0 (∀ (h : j < l.length), l[j] = y ∧ p l[j] = t) := ⟨fun _ => ⟨hy, by rw [hy]; exact hpi⟩⟩
      have HJ := Aside0.mk hjl
      have hwi : IntKind.i64.wrap ((i : Int) + 1) = ((i + 1 : Nat) : Int) := by have := HK.out; have := HL.out; rw [IntKind.wrap_i64]; omega
      have hwj : IntKind.i64.wrap ((j : Int) + 1) = ((j + 1 : Nat) : Int) := by have := HK.out; have := HL.out; rw [IntKind.wrap_i64]; omega
      replace c2 := eq_true c2
      clear hLl hy hpi hjl hjL hpp
      have HRA : Aside0 (RowB wr ga l0 rest0) := ⟨HKB.out.row H0.out HN.out.1⟩
      have HGA : Aside0 (wr.cell? ⟨g, 0, none⟩ = some (.slice (some ⟨ga, 0, none⟩) l0.length c0)) := ⟨HKB.out.cell HG.out HN.out.2⟩
      have HBA : Aside0 (Below wr.heap.size wr (wr.alloc (.cells #[.int .i64 y.f0, .int .i64 y.f1, .int .i64 y.f2] 31))) := ⟨below_alloc (Below.refl _ _) _⟩
      have HBN : Aside0 ((wr.alloc (.cells #[.int .i64 y.f0, .int .i64 y.f1, .int .i64 y.f2] 31)).heap[wr.heap.size]? = some (.cells #[.int .i64 y.f0, .int .i64 y.f1, .int .i64 y.f2] 31 (0, 0))) := ⟨heap_alloc_new _ _⟩
      cases t with
      | true =>
        go_wp2_with (refine (rect_Canon.clos1 k _ _ l0 g y true _ ((Below.row HBA.out HRA.out).toC HL0.out) HC0.out ((HBA.out.cell (World.block_lt_of_cell? _ _ HGA.out)).trans HGA.out) HPP.out).mono ?_; rintro e w2 ⟨rfl, hb⟩)
        go_roundg (gk - 1)
        case measure => have := HK.out; have := HJ.out; omega
        case rel =>
          refine ⟨i, j + 1, L, rfl, by simp [hwj], ⟨by have := HK.out; have := HJ.out; omega⟩, ⟨?_⟩, ⟨?_⟩, ⟨Below.row hb (Below.row HBA.out HW.out)⟩, ⟨(HKB.out.step HBA.out).step hb⟩⟩
          · rw [filter_take_succ _ _ _ HJ.out, (HY.out HJ.out).2, HT.out]
            simp
          · rw [← List.drop_drop, ← List.drop_drop, HD.out]
      | false =>
        have hi : i < L.length := by have := HK.out; have := HJ.out; omega
        have HIL := Aside0.mk hi
        have cin : (i < l.length) = True := eq_true (by have := HK.out; have := HJ.out; omega)
        have cii : ((i : Int) < (l.length : Int)) = True := eq_true (by have := HK.out; have := HJ.out; omega)
        have ci0 : ((0 : Int) ≤ (i : Int)) = True := eq_true (by omega)
        clear hi
        go_wp2_with (refine (rect_Canon.clos1 k _ _ l0 g y false _ ((Below.row HBA.out HRA.out).toC HL0.out) HC0.out ((HBA.out.cell (World.block_lt_of_cell? _ _ HGA.out)).trans HGA.out) HPP.out).mono ?_; rintro e w2 ⟨rfl, hb⟩; have HB2 := Aside0.mk hb; have hr2 := Below.row hb (Below.row HBA.out HW.out); obtain ⟨⟨q0, e0⟩, ⟨q1, e1⟩, ⟨q2, e2⟩, f0, f1, f2⟩ := hr2.facts i HIL.out; have hbx := blk_below HBN.out hb; have b0 : w2.cell? ⟨wr.heap.size, 0, none⟩ = some (.int .i64 y.f0) := (blk_cell hbx 0).trans rfl; have b1 : w2.cell? ⟨wr.heap.size, 1, none⟩ = some (.int .i64 y.f1) := (blk_cell hbx 1).trans rfl; have b2 : w2.cell? ⟨wr.heap.size, 2, none⟩ = some (.int .i64 y.f2) := (blk_cell hbx 2).trans rfl; have HR2 := Aside0.mk hr2; clear hr2 hbx hb)
        go_roundg (gk - 1)
        case measure => have := HK.out; have := HJ.out; omega
        case rel =>
          have hk := HK.out
          have hj := HJ.out
          have hil := HIL.out
          refine ⟨i + 1, j + 1, L.set i y, by simp [hwi], by simp [hwj], ⟨by rw [List.length_set]; omega⟩, ⟨?_⟩, ⟨?_⟩, ⟨HR2.out.put i hil y⟩, ⟨((((HKB.out.step HBA.out).step HB2.out).set _ _).set _ _).set _ _⟩⟩
          · rw [filter_take_succ _ _ _ HJ.out, (HY.out HJ.out).2, (HY.out HJ.out).1, ← HT.out, List.take_add_one, List.getElem?_set_self hil]
            rw [List.take_set_of_le (by omega)]
            rfl
          · rw [List.drop_set_of_lt (by omega), ← List.drop_drop, ← List.drop_drop, HD.out]
    · have c2b0 : decide ((j : Int) < (l.length : Int)) = false := decide_eq_false c2
      have hjl : j = l.length := by have := HK.out; omega
      have c2n : (j < l.length) = False := eq_false (by omega)
      have c2m : decide (j < l.length) = false := decide_eq_false (by omega)
      have cin : (i ≤ l.length) = True := eq_true (by have := HK.out; omega)
      have cii : ((i : Int) ≤ (l.length : Int)) = True := eq_true (by have := HK.out; omega)
      have cid : ((i : Int) ≤ (d0 : Int)) = True := eq_true (by have := HK.out; have := HD0.out; omega)
      have cid' : (i ≤ d0) = True := eq_true (by have := HK.out; have := HD0.out; omega)
      have ci0 : ((0 : Int) ≤ (i : Int)) = True := eq_true (by omega)
      have cdn : (d0 = i) = False := eq_false (by have := HK.out; have := HD0.out; omega)
      obtain ⟨w', rest', hcl, hr', hrl, hkb⟩ := HW.out.clear i (by have := HK.out; omega) (d0 - i)
      rw [HK.out.2.2.2] at hcl hrl
      have hT : L.take i = l.filter (fun x => !p x) := by rw [HT.out, hjl, List.take_length]
      have hn : (l.filter fun x => !p x).length = i := by rw [← hT, List.length_take]; have := HK.out; omega
      have HR := Aside0.mk hr'
      have HRL := Aside0.mk hrl
      have HKB' := Aside0.mk (HKB.out.trans hkb)
      have HTT := Aside0.mk hT
      have HNN := Aside0.mk hn
      have HJ := Aside0.mk hjl
      clear c2 hjl hr' hrl hkb hT hn
      go_wp2
      go_ret
      rw [HTT.out] at HR
      exact ⟨by rw [HNN.out]; rfl, ⟨rest', HR.out, by rw [HNN.out]; exact HRL.out⟩, HKB'.out⟩
set_option maxHeartbeats 4000000 in
set_option maxRecDepth 100000 in
theorem rect_Canon.del0 (k : Nat) (A0 : Option Addr) (c0 : Nat) (l0 : List S31) (g : Nat) (B0 : Option Addr) (d0 : Nat) (l : List S31) (p : S31 → Bool) (w : World) (hr0 : Kd.C k31 w A0 l0.length l0) (hc0 : l0.length ≤ c0) (hg : w.cell? ⟨g, 0, none⟩ = some (.slice A0 l0.length c0))
    (hr1 : Kd.C k31 w B0 l.length l) (hd0 : l.length ≤ d0) (hp : ∀ i (h : i < l.length), heldR.l0 k l0 l[i] 0 = some (p l[i])) (hpj : ∀ j (hj : j < l.length), p l[j] = false) :
    Calls Try.prog 30 #[.slice B0 l.length d0, .func (.func 32) #[] #[.pointer (some ⟨g, 0, none⟩)]] w fun e w' => e = .returned (.slice B0 l.length d0) ∧ Below w.heap.size w w' := by
  have hidx : Calls Try.prog 54 #[.slice B0 l.length d0, .func (.func 32) #[] #[.pointer (some ⟨g, 0, none⟩)]] w fun e w' => e = .returned (.int .i64 (-1)) ∧ Below w.heap.size w w' := by
    refine (rect_Canon.idx1 k A0 c0 l0 g B0 d0 l p w hr0 hc0 hg hr1 hd0 hp).mono ?_
    rintro e w' ⟨hh, hb⟩
    refine ⟨?_, hb⟩
    rcases hh with ⟨i, hi, rfl, hq, hqj⟩ | ⟨rfl, hqj⟩
    · rw [hpj i hi] at hq; cases hq
    · rfl
  have HI := Aside0.mk hidx
  clear hr0 hc0 hg hr1 hd0 hp hpj hidx
  go_enter Try.func30, Try.ntmps30
  go_wp2_with ((with_reducible refine gate_callee (f := 54) rfl ?_); refine goesL_ (some 10) rfl rfl Try.func54 (by kernel_rfl) rfl #[.slice B0 l.length d0, .func (.func 32) #[] #[.pointer (some ⟨g, 0, none⟩)]] rfl (by (try simp only [List.map_toArray, List.map_cons, List.map_nil]); first | done | rfl) ?_; (with_reducible refine HI.out.mono ?_); rintro e w1 ⟨rfl, hb⟩; have HB := Aside0.mk hb; clear hb; refine ⟨_, rfl, ?_⟩)
  go_ret
  exact ⟨rfl, HB.out⟩
def eqR (o r : S31) : Bool := ((o.f0 == r.f0) && ((o.f1 == r.f1) && (o.f2 == r.f2)))
theorem eqR_iff (o r : S31) : eqR o r = true ↔ o = r := by
  cases o; cases r
  simp [eqR]
/-- Is place j other than the one ahead? -/
def keepR (l : List S31) : Nat → Bool
  | 0 => true
  | j + 1 => !eqR (l.getD (j + 1) z31) (l.getD j z31)
/-- Of the first j what is other than the one ahead. -/
def cuR (l : List S31) : Nat → List S31
  | 0 => []
  | j + 1 => cuR l j ++ (if keepR l j = true then [l.getD j z31] else [])
/-- Without what stands twice, side by side. -/
def cptR (l : List S31) : List S31 := cuR l l.length
theorem getD_of {l : List S31} {i : Nat} {x : S31} (h : l[i]? = some x) : l.getD i z31 = x := by rw [List.getD_eq_getElem?_getD, h, Option.getD_some]
theorem cuR_take (l : List S31) : ∀ i, i ≤ l.length → (∀ j, j + 1 < i → keepR l (j + 1) = true) → cuR l i = l.take i
  | 0, _, _ => rfl
  | i + 1, h, hk => by
    have ih := cuR_take l i (by omega) (fun j hj => hk j (by omega))
    have hki : keepR l i = true := by
      cases i with
      | zero => rfl
      | succ i => exact hk i (by omega)
    rw [cuR, ih, hki, if_pos rfl, List.take_add_one, List.getElem?_eq_getElem (by omega), getD_of (List.getElem?_eq_getElem (by omega))]
    rfl
theorem cuR_len (l : List S31) : ∀ i, (cuR l i).length ≤ i
  | 0 => Nat.le_refl _
  | i + 1 => by
    have := cuR_len l i
    rw [cuR, List.length_append]
    split <;> simp <;> omega
theorem KB.drewN {g : Nat} {a b : World} (h : KB g a b) (n : Nat) : KB g a (b.drewN n) := ⟨h.os, h.tape, h.output, h.size, h.block⟩
set_option maxHeartbeats 4000000 in
set_option maxRecDepth 100000 in
theorem rect_Canon.cpt (g d0 : Nat) (l : List S31) (rest : List Value) (w : World) (h1 : RowB w g l rest) (hd0 : l.length ≤ d0) (hl : l.length ≤ 4611686018427387904) (h2 : 2 ≤ l.length) :
    Calls Try.prog 29 #[.slice (some ⟨g, 0, none⟩) l.length d0] w fun e w' => e = .returned (.slice (some ⟨g, 0, none⟩) (cptR l).length d0) ∧ (∃ rest', RowB w' g (cptR l) rest' ∧ rest'.length + 3 * (cptR l).length = rest.length + 3 * l.length) ∧ KB g w w' := by
  have hu2 := Try.underlying31
  have H1 := Aside0.mk h1
  have HD0 := Aside0.mk hd0
  have HL := Aside0.mk hl
  have H2 := Aside0.mk h2
  have c1 : decide ((l.length : Int) < 2) = false := decide_eq_false (by omega)
  have c1n : decide (l.length < 2) = false := decide_eq_false (by omega)
  clear h1 hd0 hl h2
  go_enter Try.func29, Try.ntmps29
  go_wp2
  go_loopg [3] (l.length + 1) (fun kq v3 w' => ∃ (i : Nat), v3 = .int .i64 (i : Nat) ∧ Aside0 (1 ≤ i ∧ i ≤ l.length ∧ l.length + 1 ≤ kq + i) ∧ Aside0 (∀ j, j + 1 < i → keepR l (j + 1) = true) ∧ Aside0 (RowB w' g l rest) ∧ Aside0 (KB g w w'))
  case atStart => exact ⟨1, rfl, ⟨⟨Nat.le_refl _, by have := H2.out; omega, by omega⟩⟩, ⟨fun j h => absurd h (by omega)⟩, H1, ⟨KB.refl _ _⟩⟩
  case round =>
    obtain ⟨i, rfl, HK, HE, HW, HKB⟩ := hrel
    by_cases c2 : i < l.length
    · have c2b0 : decide ((i : Int) < (l.length : Int)) = true := decide_eq_true (by omega)
      have c2i : ((i : Int) < (l.length : Int)) = True := eq_true (by omega)
      have c2m : decide (i < l.length) = true := decide_eq_true c2
      have ci0 : ((0 : Int) ≤ (i : Int)) = True := eq_true (by omega)
      obtain ⟨m, hm⟩ : ∃ m, i = m + 1 := ⟨i - 1, by have := HK.out; omega⟩
      have hml : m < l.length := by omega
      have cm0 : ((0 : Int) ≤ (m : Int)) = True := eq_true (by omega)
      have cmi : ((m : Int) < (l.length : Int)) = True := eq_true (by omega)
      have cmn : (m < l.length) = True := eq_true hml
      have hwm : IntKind.i64.wrap ((i : Int) - 1) = (m : Int) := by have := HL.out; rw [IntKind.wrap_i64]; omega
      have hwi : IntKind.i64.wrap ((i : Int) + 1) = ((i + 1 : Nat) : Int) := by have := HL.out; rw [IntKind.wrap_i64]; omega
      obtain ⟨hx0, hx1, hx2⟩ := HW.out.get i c2
      obtain ⟨hy0, hy1, hy2⟩ := HW.out.get m hml
      obtain ⟨x, hx⟩ : ∃ x, l[i] = x := ⟨_, rfl⟩
      obtain ⟨y, hy⟩ : ∃ y, l[m] = y := ⟨_, rfl⟩
      rw [hx] at hx0 hx1 hx2
      rw [hy] at hy0 hy1 hy2
      have HX : Aside0 (l[i]? = some x) := ⟨by rw [List.getElem?_eq_getElem c2, hx]⟩
      have HY : Aside0 (l[m]? = some y) := ⟨by rw [List.getElem?_eq_getElem hml, hy]⟩
      have HM := Aside0.mk hm
      have HI := Aside0.mk c2
      replace c2 := eq_true c2
      clear hx hy hm hml
      by_cases heq : ((x.f0 == y.f0) && ((x.f1 == y.f1) && (x.f2 == y.f2))) = true
      · have cdn : (d0 = i) = False := eq_false (by have := HI.out; have := HD0.out; omega)
        have cid : ((i : Int) ≤ (d0 : Int)) = True := eq_true (by have := HI.out; have := HD0.out; omega)
        have cin : (i ≤ l.length) = True := eq_true (by have := HI.out; omega)
        have HU : Aside0 (cuR l (i + 1) = l.take i) := ⟨by
          have hm := HM.out
          rw [cuR, cuR_take l i (by have := HI.out; omega) HE.out]
          have : keepR l i = false := by
            rw [hm]
            show (!eqR (l.getD (m + 1) _) (l.getD m _)) = false
            rw [← hm, getD_of HX.out, getD_of HY.out, show eqR x y = true from heq]
            rfl
          rw [this]
          simp⟩
        go_wp2
        go_quiet (fail)
        clear hx0 hx1 hx2 hy0 hy1 hy2 heq
        go_wp2
        go_loopg [3, 5] (l.length + 1) (fun kq v3 v5 w' => ∃ (a b : Nat) (L : List S31), v3 = .int .i64 (a : Nat) ∧ v5 = .int .i64 (b : Nat) ∧ Aside0 (1 ≤ b ∧ i + b ≤ l.length ∧ a < i + b ∧ l.length + 1 ≤ kq + i + b ∧ L.length = l.length ∧ a = (cuR l (i + b)).length) ∧ Aside0 (L.take a = cuR l (i + b)) ∧ Aside0 (L.drop (i + b - 1) = l.drop (i + b - 1)) ∧ Aside0 (RowB w' g L rest) ∧ Aside0 (KB g w w'))
        case atStart => exact ⟨i, 1, l, rfl, rfl, ⟨⟨Nat.le_refl _, by have := HI.out; omega, by omega, by omega, rfl, by rw [HU.out, List.length_take]; have := HI.out; omega⟩⟩, ⟨HU.out.symm⟩, ⟨rfl⟩, ⟨HW.out⟩, ⟨HKB.out.drewN _⟩⟩
        case round =>
          clear c2b0 c2i c2m ci0 cm0 cmi cmn hwm hwi HU HE HX HY
          obtain ⟨a, b, L, rfl, rfl, HA, HT, HD, HW2, HKB2⟩ := hrel
          by_cases d2 : b < l.length - i
          · have hk := HA.out
            have d2b0 : decide ((b : Int) < ((l.length - i : Nat) : Int)) = true := decide_eq_true (by omega)
            have d2i : ((b : Int) < ((l.length - i : Nat) : Int)) = True := eq_true (by omega)
            have d2m : decide (b < l.length - i) = true := decide_eq_true d2
            have d2n : (b < l.length - i) = True := eq_true d2
            have db0 : ((0 : Int) ≤ (b : Int)) = True := eq_true (by omega)
            obtain ⟨m2, hm2⟩ : ∃ m2, b = m2 + 1 := ⟨b - 1, by omega⟩
            have dm0 : ((0 : Int) ≤ (m2 : Int)) = True := eq_true (by omega)
            have dmi : ((m2 : Int) < ((l.length - i : Nat) : Int)) = True := eq_true (by omega)
            have dmn : (m2 < l.length - i) = True := eq_true (by omega)
            have da0 : ((0 : Int) ≤ (a : Int)) = True := eq_true (by omega)
            have dai : ((a : Int) < (l.length : Int)) = True := eq_true (by omega)
            have dan : (a < l.length) = True := eq_true (by omega)
            have hwm : IntKind.i64.wrap ((b : Int) - 1) = (m2 : Int) := by have := HL.out; rw [IntKind.wrap_i64]; omega
            have hwb : IntKind.i64.wrap ((b : Int) + 1) = ((b + 1 : Nat) : Int) := by have := HL.out; rw [IntKind.wrap_i64]; omega
            have hwa : IntKind.i64.wrap ((a : Int) + 1) = ((a + 1 : Nat) : Int) := by have := HL.out; rw [IntKind.wrap_i64]; omega
            have hLb : i + b < L.length := by omega
            have hLm : i + m2 < L.length := by omega
            have hLa : a < L.length := by omega
            obtain ⟨hx0, hx1, hx2⟩ := HW2.out.get (i + b) hLb
            obtain ⟨hy0, hy1, hy2⟩ := HW2.out.get (i + m2) hLm
            obtain ⟨⟨q0, e0⟩, ⟨q1, e1⟩, ⟨q2, e2⟩, f0, f1, f2⟩ := HW2.out.facts a hLa
            rw [Nat.add_mul] at hx0 hx1 hx2 hy0 hy1 hy2
            obtain ⟨x, hx⟩ : ∃ x, L[i + b] = x := ⟨_, rfl⟩
            obtain ⟨y, hy⟩ : ∃ y, L[i + m2] = y := ⟨_, rfl⟩
            rw [hx] at hx0 hx1 hx2
            rw [hy] at hy0 hy1 hy2
            have hdr : ∀ j, i + b - 1 ≤ j → L[j]? = l[j]? := fun j hj => by
              have h1 : (L.drop (i + b - 1))[j - (i + b - 1)]? = (l.drop (i + b - 1))[j - (i + b - 1)]? := by rw [HD.out]
              rwa [List.getElem?_drop, List.getElem?_drop, show i + b - 1 + (j - (i + b - 1)) = j by omega] at h1
            have HX : Aside0 (l[i + b]? = some x) := ⟨by rw [← hdr _ (by omega), List.getElem?_eq_getElem hLb, hx]⟩
            have HY : Aside0 (l[i + m2]? = some y) := ⟨by rw [← hdr _ (by omega), List.getElem?_eq_getElem hLm, hy]⟩
            have HB := Aside0.mk d2
            have HM2 := Aside0.mk hm2
            have HLA := Aside0.mk hLa
            have HK2 : Aside0 (keepR l (i + b) = !eqR x y) := ⟨by
              rw [show i + b = (i + m2) + 1 by omega]
              show (!eqR (l.getD (i + m2 + 1) _) (l.getD (i + m2) _)) = _
              rw [show i + m2 + 1 = i + b by omega, getD_of HX.out, getD_of HY.out]⟩
            clear hx hy hdr hLb hLm hLa hk d2 hm2
            by_cases heq : ((x.f0 == y.f0) && ((x.f1 == y.f1) && (x.f2 == y.f2))) = true
            · go_wp2
              go_quiet (fail)
              go_wp2
              go_roundg (gk - 1)
              case measure => have := HA.out; have := HB.out; omega
              case rel =>
                have hk := HA.out
                have hb := HB.out
                have hu : cuR l (i + (b + 1)) = cuR l (i + b) := by
                  show cuR l (i + b + 1) = _
                  rw [cuR, HK2.out, show eqR x y = true from heq]
                  simp
                refine ⟨a, b + 1, L, rfl, by simp [hwb], ⟨by rw [hu]; omega⟩, ⟨by rw [hu]; exact HT.out⟩, ⟨?_⟩, ⟨HW2.out⟩, ⟨HKB2.out.drewN _⟩⟩
                rw [show i + (b + 1) - 1 = (i + b - 1) + 1 by omega, ← List.drop_drop, ← List.drop_drop, HD.out]
            · replace heq := Bool.eq_false_iff.mpr heq
              go_wp2
              go_quiet (fail)
              go_wp2
              go_roundg (gk - 1)
              case measure => have := HA.out; have := HB.out; omega
              case rel =>
                have hk := HA.out
                have hb := HB.out
                have hla := HLA.out
                have hu : cuR l (i + (b + 1)) = cuR l (i + b) ++ [x] := by
                  show cuR l (i + b + 1) = _
                  rw [cuR, HK2.out, show eqR x y = false from heq, getD_of HX.out]
                  rfl
                refine ⟨a + 1, b + 1, L.set a x, by simp [hwa], by simp [hwb], ⟨by rw [hu, List.length_set, List.length_append, List.length_singleton]; omega⟩, ⟨?_⟩, ⟨?_⟩, ⟨RowB.put (show RowB (wr.drewN nq) g L rest from HW2.out) a hla x⟩, ⟨(((HKB2.out.drewN _).set _ _).set _ _).set _ _⟩⟩
                · rw [hu, ← HT.out, List.take_add_one, List.getElem?_set_self hla, List.take_set_of_le (Nat.le_refl a)]
                  rfl
                · rw [List.drop_set_of_lt (by omega), show i + (b + 1) - 1 = (i + b - 1) + 1 by omega, ← List.drop_drop, ← List.drop_drop, HD.out]
          · have hk := HA.out
            have hb : b = l.length - i := by omega
            have d2b0 : decide ((b : Int) < ((l.length - i : Nat) : Int)) = false := decide_eq_false (by omega)
            have d2i : ((b : Int) < ((l.length - i : Nat) : Int)) = False := eq_false (by omega)
            have d2m : decide (b < l.length - i) = false := decide_eq_false d2
            have d2n : (b < l.length - i) = False := eq_false d2
            have da0 : ((0 : Int) ≤ (a : Int)) = True := eq_true (by omega)
            have dai : ((a : Int) ≤ (l.length : Int)) = True := eq_true (by omega)
            have dan : (a ≤ l.length) = True := eq_true (by omega)
            have dad : ((a : Int) ≤ (d0 : Int)) = True := eq_true (by have := HD0.out; omega)
            have dad' : (a ≤ d0) = True := eq_true (by have := HD0.out; omega)
            have dda : (d0 = a) = False := eq_false (by have := HD0.out; omega)
            obtain ⟨w', rest', hcl, hr', hrl, hkb⟩ := HW2.out.clear a (by omega) (d0 - a)
            rw [hk.2.2.2.2.1] at hcl hrl
            have hT : L.take a = cptR l := by rw [HT.out, show i + b = l.length by omega]; rfl
            have hn : (cptR l).length = a := by rw [← hT, List.length_take]; omega
            have HR := Aside0.mk hr'
            have HRL := Aside0.mk hrl
            have HKB' := Aside0.mk (HKB2.out.trans hkb)
            have HTT := Aside0.mk hT
            have HNN := Aside0.mk hn
            clear d2 hk hb hr' hrl hkb hT hn
            go_wp2
            go_ret
            rw [HTT.out] at HR
            exact ⟨by rw [HNN.out]; rfl, ⟨rest', HR.out, by rw [HNN.out]; exact HRL.out⟩, HKB'.out⟩
      · replace heq := Bool.eq_false_iff.mpr heq
        go_wp2
        go_quiet (fail)
        go_wp2
        go_roundg (gk - 1)
        case measure => have := HK.out; have := HI.out; omega
        case rel =>
          refine ⟨i + 1, by simp [hwi], ⟨by have := HK.out; have := HI.out; omega⟩, ⟨fun j h => ?_⟩, ?_, ?_⟩
          · rcases Nat.lt_or_ge (j + 1) i with h' | h'
            · exact HE.out j h'
            · have e1 : j + 1 = i := by omega
              have e2 : j = m := by have := HM.out; omega
              show (!eqR (l.getD (j + 1) _) (l.getD j _)) = true
              rw [e1, e2, getD_of HX.out, getD_of HY.out, show eqR x y = false from heq]
              rfl
          · exact ⟨HW.out⟩
          · exact ⟨HKB.out.drewN _⟩
    · have c2b0 : decide ((i : Int) < (l.length : Int)) = false := decide_eq_false (by omega)
      have c2m : decide (i < l.length) = false := decide_eq_false c2
      have hU : cptR l = l := by
        have := cuR_take l l.length (Nat.le_refl _) (fun j hj => HE.out j (by omega))
        rw [List.take_length] at this
        exact this
      have HU := Aside0.mk hU
      clear c2 hU
      go_wp2
      go_ret
      rw [HU.out]
      exact ⟨rfl, ⟨rest, HW.out, rfl⟩, HKB.out⟩
set_option maxHeartbeats 2000000 in
set_option maxRecDepth 100000 in
theorem rect_Canon.cpt0 (A0 : Option Addr) (n d0 : Nat) (h2 : n < 2) (w : World) :
    Calls Try.prog 29 #[.slice A0 n d0] w fun e w' => e = .returned (.slice A0 n d0) ∧ Below w.heap.size w w' := by
  have c1 : decide ((n : Int) < 2) = true := decide_eq_true (by omega)
  have c1n : decide (n < 2) = true := decide_eq_true h2
  have c1p : (n < 2) = True := eq_true h2
  clear h2
  go_enter Try.func29, Try.ntmps29
  go_wp2
  go_ret
  exact ⟨rfl, Below.refl _ _⟩
theorem cptR_short (l : List S31) (h : l.length < 2) : cptR l = l := by
  match l, h with
  | [], _ => rfl
  | [x], _ => rfl
theorem reps_cellsR {w : World} {base : Nat} {ok : Nat → Prop} : ∀ (l : List S31) (inner : List Value), Reps (k31.M w base ok) 3 l inner → inner = cellsR l
  | [], inner, h => by
    have : inner.length = 0 := by rw [h.1]; rfl
    exact List.eq_nil_of_length_eq_zero this
  | r :: l, inner, h => by
    have h0 := h.2 0 r rfl
    have hl := h.1
    rw [List.length_cons] at hl
    rw [Nat.zero_mul, List.drop_zero] at h0
    have e := k31_openM h0
    have ih := reps_cellsR l (inner.drop 3) ⟨by rw [List.length_drop]; omega, fun j p hj => by
      have := h.2 (j + 1) p (by simpa using hj)
      rwa [show (j + 1) * 3 = 3 + j * 3 by omega, ← List.drop_drop] at this⟩
    rw [cellsR, ← ih]
    conv => lhs; rw [← List.take_append_drop 3 inner]
    rw [e]
    rfl
theorem reps_of_cellsR (w : World) (base : Nat) (ok : Nat → Prop) (l : List S31) : Reps (k31.M w base ok) 3 l (cellsR l) := by
  refine ⟨cellsR_len l, fun j p hj => ?_⟩
  obtain ⟨hl, rfl⟩ := List.getElem?_eq_some_iff.1 hj
  have e : ((cellsR l).drop (j * 3)).take 3 = encR l[j] := by
    conv => lhs; rw [← List.take_append_drop j l, cellsR_app]
    rw [List.drop_append_of_le_length (by rw [cellsR_len, List.length_take]; omega), List.drop_of_length_le (by rw [cellsR_len, List.length_take]; omega), List.nil_append, List.drop_eq_getElem_cons hl]
    rfl
  rw [e]
  exact k31_mkM _ _ _ l[j]
/-- A row of the call's own: nil, or a block of its own. -/
theorem R_row {w : World} {base : Nat} {ok : Nat → Prop} {v : Value} {l : List S31} (h : Kd.R k31 31 w base ok v l) :
    (v = .slice none 0 0 ∧ l = []) ∨ ∃ g cap rest, v = .slice (some ⟨g, 0, none⟩) l.length cap ∧ base ≤ g ∧ ok g ∧ RowB w g l rest ∧ l.length ≤ cap ∧ cap ≤ maxLen ∧ (cellsR l).length + rest.length = cap * 3 := by
  have ek : k31.sz = 3 := rfl
  obtain ⟨hok, inner, ho, hr⟩ := h
  have e := reps_cellsR l inner hr
  subst e
  rcases ho.2 with ⟨rfl, h0⟩ | ⟨g, cap, cur, rfl, hg, hh, h1, h2, h3, h4⟩
  · exact Or.inl ⟨rfl, List.eq_nil_of_length_eq_zero h0⟩
  · rw [ek] at h3 h4
    refine Or.inr ⟨g, cap, cur.toList.drop (l.length * 3), rfl, hg, hok g rfl, ?_, h1, h2, ?_⟩
    · unfold RowB
      rw [hh]
      congr 2
      apply Array.ext'
      show _ = cellsR l ++ cur.toList.drop (l.length * 3)
      rw [← h4, List.take_append_drop]
    · rw [cellsR_len, List.length_drop, show cur.toList.length = cap * 3 from h3]
      have e : l.length * 3 ≤ cap * 3 := Nat.mul_le_mul_right _ h1
      have : l.length * 3 ≤ cap * 3 := Nat.mul_le_mul_right _ h1
      omega
theorem row_R {w : World} {base g cap : Nat} {l : List S31} {rest : List Value} {ok : Nat → Prop} (h : RowB w g l rest) (hb : base ≤ g) (hok : ok g) (h1 : l.length ≤ cap) (h2 : cap ≤ maxLen) (h3 : (cellsR l).length + rest.length = cap * 3) :
    Kd.R k31 31 w base ok (.slice (some ⟨g, 0, none⟩) l.length cap) l := by
  refine ⟨fun k hk => ?_, cellsR l, ⟨cellsR_len l, Or.inr ⟨g, cap, _, rfl, hb, h, h1, h2, ?_, ?_⟩⟩, reps_of_cellsR w base _ l⟩
  · obtain rfl : g = k := by simpa [Value.ownBlock] using hk
    exact hok
  · show ((cellsR l ++ rest).toArray).size = cap * 3
    rw [← h3]; simp
  · show (cellsR l ++ rest).take (l.length * 3) = cellsR l
    rw [← cellsR_len l, List.take_left']
    rfl
/-- Of such a one the bytes and the first code are floats without loss. -/
def goodR (r : S31) : Bool := (decide (0 ≤ r.f0) && decide (r.f0 < 4503599627370496)) && (decide (0 ≤ r.f1) && decide (r.f1 < 4503599627370496))
theorem goodR_iff {r : S31} (h : goodR r = true) : (0 ≤ r.f0 ∧ r.f0 < 4503599627370496) ∧ 0 ≤ r.f1 ∧ r.f1 < 4503599627370496 := by
  simpa [goodR] using h
def ordR (x y : S31) : Int := ordB (x.f0, x.f1, x.f2) (y.f0, y.f1, y.f2)
def ltR (x y : S31) : Bool := decide (ordR x y < 0)
theorem cmpB_lt (a b : Int) : cmpB a b < 0 ↔ a < b := by
  unfold cmpB; split
  · simp [*]
  · split
    · constructor <;> intro h <;> omega
    · constructor <;> intro h <;> omega
theorem cmpB_eq (a b : Int) : cmpB a b = 0 ↔ a = b := by
  unfold cmpB; split
  · constructor <;> intro h <;> omega
  · split <;> constructor <;> intro h <;> omega
theorem ltR_iff (x y : S31) : ltR x y = true ↔ x.f0 < y.f0 ∨ (x.f0 = y.f0 ∧ (x.f1 < y.f1 ∨ (x.f1 = y.f1 ∧ x.f2 < y.f2))) := by
  unfold ltR ordR ordB
  rw [decide_eq_true_iff]
  dsimp only
  by_cases h0 : x.f0 = y.f0
  · rw [if_neg (by simp [(cmpB_eq _ _).mpr h0])]
    by_cases h1 : x.f1 = y.f1
    · rw [if_neg (by simp [(cmpB_eq _ _).mpr h1]), cmpB_lt]
      constructor <;> intro h <;> omega
    · rw [if_pos (fun h => h1 ((cmpB_eq _ _).mp h)), cmpB_lt]
      constructor <;> intro h <;> omega
  · rw [if_pos (fun h => h0 ((cmpB_eq _ _).mp h)), cmpB_lt]
    constructor <;> intro h <;> omega
/-- In order. -/
def sortR (l : List S31) : List S31 := l.mergeSort fun x y => !ltR y x
abbrev GoodR := {r : S31 // goodR r = true}
instance : Inhabited GoodR := ⟨⟨⟨0, 0, 0⟩, by decide⟩⟩
def encG (x : GoodR) : List Value := encR x.1
theorem swoR : Go.Sort.SWO (Go.Proofs.ltOf fun x y : GoodR => ordR x.1 y.1) where
  irrefl x := by
    show ltR x.1 x.1 = false
    rw [Bool.eq_false_iff]; intro h; rw [ltR_iff] at h; omega
  trans x y z h1 h2 := by
    have h1 : ltR x.1 y.1 = true := h1
    have h2 : ltR y.1 z.1 = true := h2
    show ltR x.1 z.1 = true
    rw [ltR_iff] at *; omega
  ntrans x y z h1 h2 := by
    have h1 : ¬ (ltR x.1 y.1 = true) := by rw [show ltR x.1 y.1 = false from h1]; decide
    have h2 : ¬ (ltR y.1 z.1 = true) := by rw [show ltR y.1 z.1 = false from h2]; decide
    show ltR x.1 z.1 = false
    rw [Bool.eq_false_iff]; intro h; rw [ltR_iff] at *; omega
theorem totR (x y : GoodR) (h1 : Go.Proofs.ltOf (fun x y : GoodR => ordR x.1 y.1) x y = false) (h2 : Go.Proofs.ltOf (fun x y : GoodR => ordR x.1 y.1) y x = false) : x = y := by
  have h1 : ¬ (ltR x.1 y.1 = true) := by rw [show ltR x.1 y.1 = false from h1]; decide
  have h2 : ¬ (ltR y.1 x.1 = true) := by rw [show ltR y.1 x.1 = false from h2]; decide
  rw [ltR_iff] at h1 h2
  apply Subtype.ext
  rcases x with ⟨⟨a, b, c⟩, _⟩
  rcases y with ⟨⟨a', b', c'⟩, _⟩
  dsimp only at h1 h2 ⊢
  rw [show a = a' by omega, show b = b' by omega, show c = c' by omega]
theorem cmpInt_is (a b : Int) : cmp_Compare_int.f a b = some (cmpB a b) := by
  unfold cmp_Compare_int.f cmp_isNaN_int.f cmpB
  simp only [Option.bind_some, bne_self_eq_false, if_neg (show ¬ (false = true) by decide), gt_iff_lt]
  split
  · rfl
  · split <;> rfl
theorem cmpOr_is (x y c : Int) : cmp_Or_int.f 6 [x, y, c] = some (if x ≠ 0 then x else if y ≠ 0 then y else c) := by
  have w0 : wrap64 1 = 1 := by decide +kernel
  have w1 : wrap64 (1 + 1) = 2 := by decide +kernel
  have w2 : wrap64 (2 + 1) = 3 := by decide +kernel
  have w3 : wrap64 2 = 2 := by decide +kernel
  have w4 : wrap64 3 = 3 := by decide +kernel
  unfold cmp_Or_int.f
  by_cases hx : x = 0
  · by_cases hy : y = 0
    · by_cases hc : c = 0
      · simp [cmp_Or_int.l0, rd, w0, w1, w2, w3, w4, hx, hy, hc]
      · simp [cmp_Or_int.l0, rd, w0, w1, w2, w3, w4, hx, hy, hc]
    · simp [cmp_Or_int.l0, rd, w0, w1, w2, w3, w4, hx, hy]
  · simp [cmp_Or_int.l0, rd, w0, w1, w2, w3, w4, hx]
theorem cmpLaysR (g off n : Nat) (w : World) : Go.Proofs.CmpLays Try.prog 28 #[] encG 3 (fun x y : GoodR => ordR x.1 y.1) g off n w := by
  intro m os dk hs x y
  have hx := goodR_iff x.2
  have hy := goodR_iff y.2
  refine (rect_order.calls x.1.f0 x.1.f1 x.1.f2 y.1.f0 y.1.f1 y.1.f2 hx.1 hx.2 hy.1 hy.2 6 _ _ (cmpInt_is _ _) (cmpOr_is _ _ _) _).mono ?_
  rintro e w' ⟨he, hg⟩
  exact ⟨he, hg⟩
def dG (l : List S31) (h : ∀ r ∈ l, goodR r = true) : Array GoodR := (l.attach.map fun x => (⟨x.1, h x.1 x.2⟩ : GoodR)).toArray
theorem dG_val (l : List S31) (h : ∀ r ∈ l, goodR r = true) : (dG l h).toList.map (fun x => x.1) = l := by
  unfold dG
  rw [List.toList_toArray, List.map_map]
  exact List.attach_map_subtype_val l
theorem dG_size (l : List S31) (h : ∀ r ∈ l, goodR r = true) : (dG l h).size = l.length := by simp [dG]
theorem flat_cells (d : Array GoodR) : Go.Sort.flatK encG 3 d = (cellsR (d.toList.map fun x => x.1)).toArray := by
  have hs : (cellsR (d.toList.map fun x => x.1)).length = d.size * 3 := by rw [cellsR_len]; simp
  apply Array.ext
  · rw [Go.Sort.size_flatK]; exact hs.symm
  · intro j h1 h2
    rw [Go.Sort.size_flatK] at h1
    have hi : j / 3 < d.size := by omega
    have hg := cellsR_get (d.toList.map fun x => x.1) (j / 3) (by simpa using hi)
    have hj : j / 3 * 3 + j % 3 = j := by omega
    have hr : j % 3 < 3 := Nat.mod_lt _ (by decide)
    have e : (Go.Sort.flatK encG 3 d)[j]? = (cellsR (d.toList.map fun x => x.1))[j]? := by
      have e1 : (Go.Sort.flatK encG 3 d)[j]? = some ((encG d[j / 3]!)[j % 3]!) := by
        unfold Go.Sort.flatK
        rw [Array.getElem?_map, Array.getElem?_range]
        simp [h1]
      rw [e1, getElem!_pos d (j / 3) hi]
      simp only [List.getElem_map, Array.getElem_toList] at hg
      obtain ⟨g0, g1, g2⟩ := hg
      generalize j / 3 = q at *
      match hq : j % 3, hr with
      | 0, _ => rw [show j = q * 3 by omega, g0]; rfl
      | 1, _ => rw [show j = q * 3 + 1 by omega, g1]; rfl
      | 2, _ => rw [show j = q * 3 + 2 by omega, g2]; rfl
    have e' := e
    rw [Array.getElem?_eq_getElem (by rw [Go.Sort.size_flatK]; exact h1), List.getElem?_eq_getElem (by omega)] at e'
    exact Option.some.inj e'
set_option maxHeartbeats 1000000 in
theorem rect_Canon.sort (g d0 : Nat) (l : List S31) (rest : List Value) (w : World) (h1 : RowB w g l rest) (hgood : ∀ r ∈ l, goodR r = true) (hl : l.length < 4611686018427387904) :
    Calls Try.prog 27 #[.slice (some ⟨g, 0, none⟩) l.length d0, .func (.func 28) #[] #[]] w fun e w' => e = .returned (.tuple #[]) ∧ RowB w' g (sortR l) rest ∧ KB g w w' := by
  have eg : ∀ args w, (callFunc 28 args).run Try.prog w = .ok (.enter 28 args) w := enters_of Try.func28 (by kernel_rfl) rfl
  have hcl := cellsR_len l
  have hH : Go.Sort.HoldsK encG 3 w g 0 (dG l hgood) := by
    unfold Go.Sort.HoldsK
    rw [flat_cells, dG_val]
    intro j hj
    rw [Nat.zero_add]
    have hj' : j < (cellsR l).length := by simpa using hj
    refine ⟨?_, blk_frozen h1 _⟩
    rw [blk_cell h1, List.getElem?_toArray, List.getElem?_append_left hj', List.getElem?_eq_getElem hj', getElem!_pos _ j (by simpa using hj')]
    simp
  have hcon := Go.Proofs.AnyQ.slices_SortFunc_total Try.sortR 3 Try.isAgg31 Try.sizeOf31 encG (fun _ => rfl) (fun x v hv => by simp [encG, encR] at hv; rcases hv with rfl | rfl | rfl <;> rfl) (fun x y : GoodR => ordR x.1 y.1) swoR 28 #[] g 0 d0 (dG l hgood) w eg (cmpLaysR g 0 _ w) hH (blk_lt h1) (by rw [dG_size]; exact hl) totR
  rw [dG_size] at hcon
  refine Calls.mono (f := 27) hcon ?_
  rintro e w' ⟨he, n, os, hw⟩
  refine ⟨he, ?_, ?_⟩
  · have hs : ((dG l hgood).toList.mergeSort fun x y => !(Go.Proofs.ltOf fun x y : GoodR => ordR x.1 y.1) y x).map (fun x => x.1) = sortR l := by
      refine (List.map_mergeSort (s := fun x y => !ltR y x) (f := fun x : GoodR => x.1) (fun _ _ _ _ => rfl)).trans ?_
      rw [dG_val]
      rfl
    rw [hw]
    unfold Go.Proofs.sortWorldK Go.Sort.putRowK Go.Sort.putRow Go.Sort.mapBlock Go.Sort.grow
    rw [flat_cells, List.toList_toArray, hs]
    have hsl : (sortR l).length = l.length := List.length_mergeSort l
    have hcs := cellsR_len (sortR l)
    unfold RowB
    show (Array.modify w.heap g _ ++ os)[g]? = _
    have hlt := blk_lt h1
    rw [Array.getElem?_append_left (by simpa using hlt), Array.getElem?_modify, if_pos rfl, show w.heap[g]? = _ from h1]
    simp only [Option.map_some, Go.Sort.onCells]
    congr 2
    apply Array.ext
    · simp [Go.Sort.putCells]; omega
    · intro j a1 a2
      simp only [Go.Sort.putCells, Array.getElem_mapIdx, Nat.zero_le, true_and, Nat.zero_add, Nat.sub_zero, List.size_toArray, id]
      split
      · rename_i hj
        rw [getElem!_pos _ j (by simpa using hj)]
        simp only [List.getElem_toArray]
        rw [List.getElem_append_left hj]
      · rename_i hj
        simp only [List.getElem_toArray]
        rw [List.getElem_append_right (by omega), List.getElem_append_right (by omega)]
        congr 1
        omega
  · rw [hw]
    refine ⟨rfl, rfl, rfl, ?_, fun k hk hn => ?_⟩
    · unfold Go.Proofs.sortWorldK Go.Sort.putRowK Go.Sort.putRow Go.Sort.mapBlock Go.Sort.grow
      simp [Go.Sort.ahead]
    · unfold Go.Proofs.sortWorldK Go.Sort.putRowK Go.Sort.putRow Go.Sort.mapBlock Go.Sort.grow
      show (Array.modify w.heap g _ ++ os)[k]? = _
      rw [Array.getElem?_append_left (by simpa using hk), Array.getElem?_modify, if_neg (fun e => hn e.symm)]
theorem rect_Canon.cptA (g d0 : Nat) (l : List S31) (rest : List Value) (w : World) (h1 : RowB w g l rest) (hd0 : l.length ≤ d0) (hl : l.length ≤ 4611686018427387904) :
    Calls Try.prog 29 #[.slice (some ⟨g, 0, none⟩) l.length d0] w fun e w' => e = .returned (.slice (some ⟨g, 0, none⟩) (cptR l).length d0) ∧ (∃ rest', RowB w' g (cptR l) rest' ∧ rest'.length + 3 * (cptR l).length = rest.length + 3 * l.length) ∧ KB g w w' := by
  by_cases h2 : 2 ≤ l.length
  · exact rect_Canon.cpt g d0 l rest w h1 hd0 hl h2
  · refine (rect_Canon.cpt0 _ l.length d0 (by omega) w).mono ?_
    rintro e w' ⟨rfl, hb⟩
    rw [cptR_short l (by omega)]
    exact ⟨rfl, ⟨rest, Below.row hb h1, rfl⟩, KB.below hb⟩
theorem rect_Canon.delA (k : Nat) (ga c0 : Nat) (l0 : List S31) (rest0 : List Value) (g gd d0 : Nat) (l : List S31) (rest : List Value) (p : S31 → Bool) (w : World) (h0 : RowB w ga l0 rest0) (hc0 : l0.length ≤ c0) (hl0 : l0.length ≤ 9223372036854775807) (hg : w.cell? ⟨g, 0, none⟩ = some (.slice (some ⟨ga, 0, none⟩) l0.length c0))
    (h1 : RowB w gd l rest) (hd0 : l.length ≤ d0) (hl : l.length ≤ 4611686018427387904) (hn1 : ga ≠ gd) (hn2 : g ≠ gd) (hp : ∀ i (h : i < l.length), heldR.l0 k l0 l[i] 0 = some (p l[i])) :
    Calls Try.prog 30 #[.slice (some ⟨gd, 0, none⟩) l.length d0, .func (.func 32) #[] #[.pointer (some ⟨g, 0, none⟩)]] w fun e w' => e = .returned (.slice (some ⟨gd, 0, none⟩) (l.filter fun x => !p x).length d0) ∧ (∃ rest', RowB w' gd (l.filter fun x => !p x) rest' ∧ rest'.length + 3 * (l.filter fun x => !p x).length = rest.length + 3 * l.length) ∧ KB gd w w' := by
  by_cases hex : ∃ i, ∃ h : i < l.length, p l[i] = true
  · have hfi : l.findIdx p < l.length := by
      obtain ⟨i, hi, hpi⟩ := hex
      exact List.findIdx_lt_length_of_exists ⟨l[i], List.getElem_mem hi, hpi⟩
    exact rect_Canon.del1 k ga c0 l0 rest0 g gd d0 l rest p w h0 hc0 hl0 hg h1 hd0 hl hn1 hn2 hp (l.findIdx p) hfi (List.findIdx_getElem (w := hfi)) (fun j hj => by
      have := List.not_of_lt_findIdx hj
      simpa using this)
  · have hno : ∀ j (hj : j < l.length), p l[j] = false := fun j hj => Bool.eq_false_iff.mpr fun h => hex ⟨j, hj, h⟩
    refine (rect_Canon.del0 k _ c0 l0 g _ d0 l p w (h0.toC hl0) hc0 hg (h1.toC (by omega)) hd0 hp hno).mono ?_
    rintro e w' ⟨rfl, hb⟩
    have hf : (l.filter fun x => !p x) = l := List.filter_eq_self.mpr fun x hx => by
      obtain ⟨j, hj, rfl⟩ := List.getElem_of_mem hx
      rw [hno j hj]; rfl
    rw [hf]
    exact ⟨rfl, ⟨rest, Below.row hb h1, rfl⟩, KB.below hb⟩
theorem rect_Canon.cloneA (g c : Nat) (l : List S31) (rest : List Value) (w : World) (h1 : RowB w g l rest) (hl : l.length ≤ 1000000000) :
    Calls Try.prog 31 #[.slice (some ⟨g, 0, none⟩) l.length c] w fun e w' => ∃ gd cap rest', e = .returned (.slice (some ⟨gd, 0, none⟩) l.length cap) ∧ w.heap.size ≤ gd ∧ RowB w' gd l rest' ∧ l.length ≤ cap ∧ cap ≤ maxLen ∧ (cellsR l).length + rest'.length = cap * 3 ∧ Below w.heap.size w w' := by
  obtain ⟨i0, hi, hzz⟩ := Option.map_eq_some_iff.mp (info31)
  have hz0 : i0.zero = some (.agg #[(.int .i64 0), (.int .i64 0), (.int .i64 0)]) := congrArg (·.1) hzz
  have hz1 : i0.size = 3 := congrArg (·.2.1) hzz
  have hz2 : i0.bytes = 24 := congrArg (·.2.2) hzz
  have hcl := cellsR_len l
  have hcon := Go.Proofs.AnyE.slices_Clone Try.cloneR i0 _ 3 24 hi hz0 hz1 hz2 rfl (by decide) Try.sizeOf31 g 0 l.length c (cellsR l) w hcl (by unfold maxLen; omega) (by omega) (fun j u hu => by
    rw [Nat.zero_add, blk_cell h1, List.getElem?_toArray, List.getElem?_append_left (List.getElem?_eq_some_iff.1 hu).1]; exact hu) (fun u hu => by
    have : ∀ l : List S31, ∀ u ∈ cellsR l, u.oneCell' = true := by
      intro l
      induction l with
      | nil => intro u hu; cases hu
      | cons r l ih =>
        intro u hu
        rw [cellsR, List.mem_append] at hu
        rcases hu with hu | hu
        · simp [encR] at hu; rcases hu with rfl | rfl | rfl <;> rfl
        · exact ih u hu
    exact this l u hu)
  refine Calls.mono (f := 31) hcon ?_
  rintro e w' ⟨v', rfl, ho, hne, hb⟩
  have hR : Kd.R k31 31 w' w.heap.size (fun _ => True) v' l := ⟨fun _ _ => trivial, cellsR l, ho, reps_of_cellsR w' _ _ l⟩
  rcases R_row hR with ⟨rfl, _⟩ | ⟨gd, cap, rest', rfl, hbg, _, hrow, h2, h3, h4⟩
  · exact absurd rfl hne
  · exact ⟨gd, cap, rest', rfl, hbg, hrow, h2, h3, h4, hb⟩
def rect_Canon.l0 : Nat → List S31 → List S31 → Int → Option (List S31)
  | 0, _, _, _ => none
  | k + 1, x0, x4, x8 => if x8 < (x0.length : Int) then (if 0 ≤ x8 then ((rect_Sane.f k (rd_T31 x0 x8).f0 (rd_T31 x0 x8).f1 (rd_T31 x0 x8).f2).bind fun b => if b = true then (if x4.length < 1000000000 then rect_Canon.l0 k x0 (x4 ++ [rd_T31 x0 x8]) (wrap64 (x8 + 1)) else none) else rect_Canon.l0 k x0 x4 (wrap64 (x8 + 1))) else none) else (some x4)
theorem rect_Canon.mono_l : ∀ k, (∀ y0 y1 y2, LeO (rect_Canon.l0 k y0 y1 y2) (rect_Canon.l0 (k + 1) y0 y1 y2))
  | 0 => fun _ _ _ r h => by simp [rect_Canon.l0] at h
  | k + 1 => by
    have ih0 := rect_Canon.mono_l k
    intro y0 y1 y2
    unfold rect_Canon.l0
    exact LeO.ite (LeO.ite (LeO.bind (rect_Sane.mono _ _ _ _) (fun b => LeO.ite (LeO.ite (ih0 _ _ _) (LeO.none _)) (ih0 _ _ _))) (LeO.none _)) (LeO.refl _)
/-- Those that no other one holds. -/
def filtR (k : Nat) (all : List S31) : List S31 → Option (List S31)
  | [] => some []
  | r :: l => (heldR.l0 k all r 0).bind fun b => (filtR k all l).bind fun t => some (if b = true then t else r :: t)
theorem filtR.mono (k : Nat) (all : List S31) : ∀ l, LeO (filtR k all l) (filtR (k + 1) all l)
  | [] => LeO.refl _
  | r :: l => by
    unfold filtR
    exact LeO.bind (heldR.mono_l _ _ _ _) (fun b => LeO.bind (filtR.mono k all l) (fun t => LeO.refl _))
def rect_Canon.g (k : Nat) (all : List S31) : Option (List S31) := if all.all goodR = true ∧ all.length ≤ 1000000000 then filtR k (cptR (sortR all)) (cptR (sortR all)) else none
def rect_Canon.f (k : Nat) (l0 : List S31) : Option (List S31) := (rect_Canon.l0 k l0 [] 0).bind fun all => rect_Canon.g k all
theorem rect_Canon.mono : ∀ a0 k, LeO (rect_Canon.f k a0) (rect_Canon.f (k + 1) a0) := by
  intro a0 k
  unfold rect_Canon.f rect_Canon.g
  exact LeO.bind (rect_Canon.mono_l _ _ _ _) (fun t => LeO.ite (filtR.mono _ _ _) (LeO.refl _))
/-- What is held, as one rule; what stays is the rest. -/
theorem filtR_rule (k : Nat) (all : List S31) : ∀ (l r : List S31), filtR k all l = some r → (∀ i (h : i < l.length), heldR.l0 k all l[i] 0 = some ((heldR.l0 k all l[i] 0).getD false)) ∧ r = l.filter fun x => !((heldR.l0 k all x 0).getD false)
  | [], r, h => ⟨fun i hi => absurd hi (by simp), (Option.some.inj h).symm⟩
  | x :: l, r, h => by
    unfold filtR at h
    obtain ⟨b, hb, h⟩ := Option.bind_eq_some_iff.mp h
    obtain ⟨t, ht, h⟩ := Option.bind_eq_some_iff.mp h
    obtain ⟨h1, h2⟩ := filtR_rule k all l t ht
    refine ⟨fun i hi => ?_, ?_⟩
    · cases i with
      | zero => show heldR.l0 k all x 0 = some ((heldR.l0 k all x 0).getD false); rw [hb]; rfl
      | succ i => exact h1 i (by simpa using hi)
    · rw [← Option.some.inj h, h2, List.filter_cons, hb]
      cases b <;> rfl
theorem R_slice {w : World} {base : Nat} {ok : Nat → Prop} {v : Value} {l : List S31} (h : Kd.R k31 31 w base ok v l) : ∃ A c, v = .slice A l.length c := by
  rcases R_row h with ⟨rfl, rfl⟩ | ⟨g, cap, rest, rfl, _⟩
  · exact ⟨none, 0, rfl⟩
  · exact ⟨_, cap, rfl⟩
theorem RowB.far {w : World} {g k : Nat} {l : List S31} {rest : List Value} (h : RowB w g l rest) (hn : g ≠ k) (o : Value) : RowB (w.setCell ⟨k, 0, none⟩ o) g l rest := blk_far (p := ⟨k, 0, none⟩) h hn o
theorem below_KB {base g : Nat} {w a b : World} (h : Below base w a) (k : KB g a b) (hb : base ≤ g) (hs : base ≤ w.heap.size) : Below base w b :=
  ⟨k.os.trans h.os, k.tape.trans h.tape, k.output.trans h.output, Nat.le_trans h.size k.size, fun i hi => (k.block i (Nat.lt_of_lt_of_le hi (Nat.le_trans hs h.size)) (by omega)).trans (h.block i hi)⟩
set_option maxHeartbeats 8000000 in
set_option maxRecDepth 100000 in
theorem rect_Canon.calls (k : Nat) (A0 : Option Addr) (c0 : Nat) (l0 : List S31) (r : List S31) (w : World) (hr0 : Kd.C k31 w A0 l0.length l0) (hc0 : l0.length ≤ c0) (h : rect_Canon.f k l0 = some r) :
    Calls Try.prog 12 #[.slice A0 l0.length c0] w fun e w' => ∃ v0_ : Value, e = .returned (v0_) ∧ Kd.R k31 31 w' w.heap.size (fun _ => True) v0_ r ∧ Below w.heap.size w w' := by
  have hu1 := Try.underlying22
  have hu2 := Try.underlying31
  have hmf : ∀ (fn : Fn) (first cap : Array Value) (w : World), (Instr.makeFunc fn first cap).run Try.prog w = .ok (.func fn first cap) w := fun _ _ _ _ => rfl
  have HR0 := Aside0.mk hr0
  have HC0 := Aside0.mk hc0
  obtain ⟨all, hall, hg⟩ := Option.bind_eq_some_iff.mp h
  have HALL := Aside0.mk hall
  have HGG := Aside0.mk hg
  clear h hr0 hc0 hall hg
  go_enter Try.func12, Try.ntmps12
  go_wp2
  go_loopg [8] k (fun kq v8 w' => ∃ (x8 : Int) (v : Value) (acc : List S31), v8 = .int .i64 x8 ∧ Aside0 (rect_Canon.l0 kq l0 acc x8 = some all) ∧ Aside0 (kq ≤ k) ∧ Aside0 (w'.heap[w.heap.size]? = some (.cells #[v] 22 (0, 0))) ∧ Aside0 (Kd.R k31 31 w' w.heap.size (fun k_ => k_ ≠ w.heap.size) v acc) ∧ Aside0 (Below w.heap.size w w'))
  case atStart => exact ⟨0, .slice none 0 0, [], rfl, HALL, ⟨Nat.le_refl _⟩, ⟨heap_alloc_new _ _⟩, ⟨Kd.R_nil _ _ _ _ _⟩, ⟨below_alloc (Below.refl _ _) _⟩⟩
  case round =>
    clear HALL
    obtain ⟨x8, v, acc, rfl, HA, HK1, BK, HO, HB⟩ := hrel
    cases gk with
    | zero => exact absurd HA.out (by simp [rect_Canon.l0])
    | succ k1 =>
      have H := HA.out
      clear HA
      simp only [rect_Canon.l0] at H
      by_cases c2 : x8 < (l0.length : Int)
      · rw [if_pos c2] at H
        have c2b0 : decide (x8 < (l0.length : Int)) = true := decide_eq_true c2
        by_cases c3 : 0 ≤ x8
        · rw [if_pos c3] at H
          have c3b0 : decide (0 ≤ x8) = true := decide_eq_true c3
          obtain ⟨t, ht, H⟩ := Option.bind_eq_some_iff.mp H
          obtain ⟨ad, e, hx0, hx1, hx2⟩ := at_T31 HR0.out x8 c3 c2
          cases e
          replace hx0 := (HB.out.cell (World.block_lt_of_cell? w _ hx0)).trans hx0
          replace hx1 := (HB.out.cell (World.block_lt_of_cell? w _ hx1)).trans hx1
          replace hx2 := (HB.out.cell (World.block_lt_of_cell? w _ hx2)).trans hx2
          replace c2 := eq_true c2
          replace c3 := eq_true c3
          have HT := Aside0.mk ht
          clear ht
          generalize rd_T31 l0 x8 = y at *
          cases t with
          | true =>
            by_cases c4 : acc.length < 1000000000
            · have HX : Aside0 (rect_Canon.l0 k1 l0 (acc ++ [y]) (wrap64 (x8 + 1)) = some all) := ⟨by rw [if_pos rfl, if_pos c4] at H; exact H⟩
              have LM := Aside0.mk c4
              clear H c4
              have HBN : Aside0 ((wr.alloc (.cells #[.int .i64 y.f0, .int .i64 y.f1, .int .i64 y.f2] 31)).heap[wr.heap.size]? = some (.cells #[.int .i64 y.f0, .int .i64 y.f1, .int .i64 y.f2] 31 (0, 0))) := ⟨heap_alloc_new _ _⟩
              go_wp2_with (first | ((with_reducible refine gate_callee (f := 16) rfl ?_); refine goesL_ (some 13) rfl rfl Try.func16 (by kernel_rfl) rfl #[.agg #[.int .i64 y.f0, .int .i64 y.f1, .int .i64 y.f2]] rfl (by (try simp only [List.map_toArray, List.map_cons, List.map_nil]); first | done | rfl) ?_; (with_reducible refine (rect_Sane.calls k1 _ _ _ true _ HT.out).mono ?_); rintro e w1 ⟨rfl, hb⟩; have hbx := blk_below HBN.out hb; have b0 : w1.cell? ⟨wr.heap.size, 0, none⟩ = some (.int .i64 y.f0) := (blk_cell hbx 0).trans rfl; have b1 : w1.cell? ⟨wr.heap.size, 1, none⟩ = some (.int .i64 y.f1) := (blk_cell hbx 1).trans rfl; have b2 : w1.cell? ⟨wr.heap.size, 2, none⟩ = some (.int .i64 y.f2) := (blk_cell hbx 2).trans rfl; have hgl := blk_below (blk_alloc BK.out _) hb; have g0 : w1.cell? ⟨w.heap.size, 0, none⟩ = some v := (blk_cell hgl 0).trans rfl; have BK1 := Aside0.mk hgl; have HO1 := Aside0.mk (Kd.R_below (Kd.R_alloc HO.out _) hb); have HB1 := Aside0.mk (below_step (below_alloc HB.out _) hb); clear hb hbx hgl; refine ⟨_, rfl, ?_⟩) | ((with_reducible refine gate_builtin (b := .append) (xs := #[.tmp 14, .tmp 16]) rfl ?_); at_builtin; refine Kd.R_append k31 (w0 := w) w.heap.size rfl (.tmp 14) (.tmp 16) 22 31 (.agg #[(.int .i64 0), (.int .i64 0), (.int .i64 0)]) 24 rfl Try.underlying22 info31 rfl (by decide) (by omega) v acc y [.int .i64 y.f0, .int .i64 y.f1, .int .i64 y.f2] (fun k_ => k_ ≠ w.heap.size) (fun _ => False) rfl rfl ?aP (fun _ hk => hk.elim) ?aF ?aO ?aB ?aS ?aL ?_; (case aP => exact k31_mkM _ _ _ y); (case aB => exact HB1.out); (case aF => exact (fun k_ hk => Kd.freshB BK1.out k_ hk)); (case aO => exact HO1.out); (case aS => exact below_size HB1.out); (case aL => have := LM.out; omega); intro v1 w9 ho hb hg hat; obtain ⟨Av, cv, rfl⟩ := R_slice ho; have hgl := blk_grown BK1.out hg (Kd.R_away HO1.out (fun _ hk => hk)); have g0 : w9.cell? ⟨w.heap.size, 0, none⟩ = some v := (blk_cell hgl 0).trans rfl; have gf := blk_frozen hgl 0; have BK2 := Aside0.mk hgl; have HB2 := Aside0.mk hb; have HO2 := Aside0.mk ho; clear hgl hb ho hg hat))
              go_roundg k1
              case measure => have := HK1.out; omega
              case rel => exact ⟨_, _, acc ++ [y], rfl, HX, ⟨by have := HK1.out; omega⟩, ⟨blk_put BK2.out 0 _ rfl⟩, ⟨by have h := HO2.out; rw [show (acc ++ [y]).length = acc.length + 1 by simp] at h; exact Kd.R_far h (fun _ hk => hk) _⟩, ⟨below_set HB2.out (Nat.le_refl _)⟩⟩
            · rw [if_pos rfl, if_neg c4] at H
              exact absurd H (by simp)
          | false =>
            have HX : Aside0 (rect_Canon.l0 k1 l0 acc (wrap64 (x8 + 1)) = some all) := ⟨by rw [if_neg (by decide)] at H; exact H⟩
            clear H
            have HBN : Aside0 ((wr.alloc (.cells #[.int .i64 y.f0, .int .i64 y.f1, .int .i64 y.f2] 31)).heap[wr.heap.size]? = some (.cells #[.int .i64 y.f0, .int .i64 y.f1, .int .i64 y.f2] 31 (0, 0))) := ⟨heap_alloc_new _ _⟩
            go_wp2_with ((with_reducible refine gate_callee (f := 16) rfl ?_); refine goesL_ (some 13) rfl rfl Try.func16 (by kernel_rfl) rfl #[.agg #[.int .i64 y.f0, .int .i64 y.f1, .int .i64 y.f2]] rfl (by (try simp only [List.map_toArray, List.map_cons, List.map_nil]); first | done | rfl) ?_; (with_reducible refine (rect_Sane.calls k1 _ _ _ false _ HT.out).mono ?_); rintro e w1 ⟨rfl, hb⟩; have hbx := blk_below HBN.out hb; have b0 : w1.cell? ⟨wr.heap.size, 0, none⟩ = some (.int .i64 y.f0) := (blk_cell hbx 0).trans rfl; have b1 : w1.cell? ⟨wr.heap.size, 1, none⟩ = some (.int .i64 y.f1) := (blk_cell hbx 1).trans rfl; have b2 : w1.cell? ⟨wr.heap.size, 2, none⟩ = some (.int .i64 y.f2) := (blk_cell hbx 2).trans rfl; have hgl := blk_below (blk_alloc BK.out _) hb; have g0 : w1.cell? ⟨w.heap.size, 0, none⟩ = some v := (blk_cell hgl 0).trans rfl; have BK1 := Aside0.mk hgl; have HO1 := Aside0.mk (Kd.R_below (Kd.R_alloc HO.out _) hb); have HB1 := Aside0.mk (below_step (below_alloc HB.out _) hb); clear hb hbx hgl; refine ⟨_, rfl, ?_⟩)
            go_roundg k1
            case measure => have := HK1.out; omega
            case rel => exact ⟨_, v, acc, rfl, HX, ⟨by have := HK1.out; omega⟩, BK1, HO1, HB1⟩
        · rw [if_neg c3] at H
          exact absurd H (by simp)
      · rw [if_neg c2] at H
        have c2b0 : decide (x8 < (l0.length : Int)) = false := decide_eq_false c2
        obtain rfl := Option.some.inj H
        clear c2
        rcases R_row HO.out with ⟨rfl, hn⟩ | ⟨g, cap, rest, rfl, hbg, hgn, hrow, hcap, hmax, hlen⟩
        · subst hn
          have hg0 : wr.cell? ⟨w.heap.size, 0, none⟩ = some (.slice none 0 0) := (blk_cell BK.out 0).trans rfl
          have hgf := blk_frozen BK.out 0
          have hr : r = [] := by
            have := HGG.out
            unfold rect_Canon.g at this
            rw [if_pos (show ([] : List S31).all goodR = true ∧ ([] : List S31).length ≤ 1000000000 from ⟨rfl, by decide⟩)] at this
            have e : cptR (sortR []) = [] := by unfold sortR; rw [List.mergeSort_nil]; rfl
            rw [e] at this
            exact (Option.some.inj this).symm
          subst hr
          clear HGG
          have HB3 : Aside0 (Below w.heap.size w wr) := HB
          have hS : ∀ W, Calls Try.prog 27 #[.slice none 0 0, .func (.func 28) #[] #[]] W fun e w' => e = .returned (.tuple #[]) ∧ w' = W := fun W => Go.Proofs.AnyF.slices_SortFunc_none Try.sortR none 0 _ W
          have hP : ∀ W, Calls Try.prog 29 #[.slice none 0 0] W fun e w' => e = .returned (.slice none 0 0) ∧ Below W.heap.size W w' := fun W => rect_Canon.cpt0 none 0 0 (by decide) W
          have hQ : ∀ W, Calls Try.prog 31 #[.slice none 0 0] W fun e w' => e = .returned (.slice none 0 0) ∧ w' = W := fun W => Go.Proofs.AnyE.slices_Clone_nil Try.cloneR 0 0 W
          have hC : ∀ W, Kd.C k31 W none 0 [] := fun W => ⟨rfl, by decide, fun h => absurd h (by decide)⟩
          have HS := Aside0.mk hS
          have HP := Aside0.mk hP
          have HQ := Aside0.mk hQ
          have HCC := Aside0.mk hC
          clear hS hP hQ hC
          go_wp2_with (first | ((with_reducible refine gate_callee (f := 27) rfl ?_); refine goesL_ (some 20) rfl rfl Try.func27 (by kernel_rfl) rfl #[.slice none 0 0, .func (.func 28) #[] #[]] rfl (by (try simp only [List.map_toArray, List.map_cons, List.map_nil]); first | done | rfl) ?_; refine (HS.out _).mono ?_; rintro e w1 ⟨rfl, rfl⟩; refine ⟨_, rfl, ?_⟩) | ((with_reducible refine gate_callee (f := 29) rfl ?_); refine goesL_ (some 22) rfl rfl Try.func29 (by kernel_rfl) rfl #[.slice none 0 0] rfl (by (try simp only [List.map_toArray, List.map_cons, List.map_nil]); first | done | rfl) ?_; refine (HP.out _).mono ?_; rintro e w2 ⟨rfl, hb2⟩; have hbk := blk_below BK.out hb2; have hz0 : w2.cell? ⟨w.heap.size, 0, none⟩ = some (.slice none 0 0) := (blk_cell hbk 0).trans rfl; have hzf := blk_frozen hbk 0; have BK2 := Aside0.mk hbk; have HB2 := Aside0.mk (below_step HB3.out hb2); clear hbk hb2; refine ⟨_, rfl, ?_⟩) | ((with_reducible refine gate_callee (f := 31) rfl ?_); refine goesL_ (some 24) rfl rfl Try.func31 (by kernel_rfl) rfl #[.slice none 0 0] rfl (by (try simp only [List.map_toArray, List.map_cons, List.map_nil]); first | done | rfl) ?_; refine (HQ.out _).mono ?_; rintro e w3 ⟨rfl, rfl⟩; refine ⟨_, rfl, ?_⟩) | ((with_reducible refine gate_callee (f := 30) rfl ?_); refine goesL_ (some 26) rfl rfl Try.func30 (by kernel_rfl) rfl #[.slice none 0 0, .func (.func 32) #[] #[.pointer (some ⟨w.heap.size, 0, none⟩)]] rfl (by (try simp only [List.map_toArray, List.map_cons, List.map_nil]); first | done | rfl) ?_; refine (rect_Canon.del0 0 none 0 [] w.heap.size none 0 [] (fun _ => false) _ (HCC.out _) (Nat.le_refl 0) ((blk_cell (blk_put BK2.out 0 _ rfl) 0).trans rfl) (HCC.out _) (Nat.le_refl 0) (fun i hi => absurd hi (Nat.not_lt_zero i)) (fun i hi => absurd hi (Nat.not_lt_zero i))).mono ?_; rintro e w4 ⟨rfl, hb4⟩; have HB4 := Aside0.mk (below_step (below_set HB2.out (Nat.le_refl _)) hb4); clear hb4; refine ⟨_, rfl, ?_⟩))
          go_ret
          exact ⟨_, rfl, Kd.R_nil _ _ _ _ _, HB4.out⟩
        · have hgg := HGG.out
          unfold rect_Canon.g at hgg
          by_cases hgu : acc.all goodR = true ∧ acc.length ≤ 1000000000
          · rw [if_pos hgu] at hgg
            have hgood : ∀ r ∈ acc, goodR r = true := fun r hr => List.all_eq_true.mp hgu.1 r hr
            have hsl : (sortR acc).length = acc.length := List.length_mergeSort acc
            have hcl : (cptR (sortR acc)).length ≤ acc.length := Nat.le_trans (cuR_len (sortR acc) (sortR acc).length) (Nat.le_of_eq hsl)
            obtain ⟨s, hs⟩ : ∃ s, cptR (sortR acc) = s := ⟨_, rfl⟩
            rw [hs] at hgg hcl
            obtain ⟨hrule, hr⟩ := filtR_rule k s s r hgg
            subst hr
            have hS := rect_Canon.sort g cap acc rest wr hrow hgood (by omega)
            have hP := fun W (hW : RowB W g (sortR acc) rest) => rect_Canon.cptA g cap (sortR acc) rest W hW (by omega) (by omega)
            rw [hs, hsl] at hP
            have HS := Aside0.mk hS
            have HP := Aside0.mk hP
            have HNE := Aside0.mk hgn
            have HBG := Aside0.mk hbg
            have HRULE := Aside0.mk hrule
            have HLEN := Aside0.mk (show s.length ≤ cap ∧ s.length ≤ 1000000000 by omega)
            have hg0 : ∀ W, KB g wr W → W.cell? ⟨w.heap.size, 0, none⟩ = some (.slice (some ⟨g, 0, none⟩) acc.length cap) := fun W hW => (blk_cell (hW.blk BK.out (fun e => HNE.out e.symm)) 0).trans rfl
            have hg1 := hg0 wr (KB.refl g wr)
            have HG0 := Aside0.mk hg0
            have HB3 : Aside0 (Below w.heap.size w wr) := HB
            clear hS hP hrule hgood hsl hcl hs hgg hgu hrow hgn hbg hg0 hcap hmax hlen HGG
            go_wp2_with (first | ((with_reducible refine gate_callee (f := 27) rfl ?_); refine goesL_ (some 20) rfl rfl Try.func27 (by kernel_rfl) rfl #[.slice (some ⟨g, 0, none⟩) acc.length cap, .func (.func 28) #[] #[]] rfl (by (try simp only [List.map_toArray, List.map_cons, List.map_nil]); first | done | rfl) ?_; refine (HS.out).mono ?_; rintro e w1 ⟨rfl, hrow1, hkb1⟩; have hg1 := HG0.out _ hkb1; have HRW1 := Aside0.mk hrow1; have HKB1 := Aside0.mk hkb1; clear hrow1 hkb1; refine ⟨_, rfl, ?_⟩) | ((with_reducible refine gate_callee (f := 29) rfl ?_); refine goesL_ (some 22) rfl rfl Try.func29 (by kernel_rfl) rfl #[.slice (some ⟨g, 0, none⟩) acc.length cap] rfl (by (try simp only [List.map_toArray, List.map_cons, List.map_nil]); first | done | rfl) ?_; refine (HP.out _ HRW1.out).mono ?_; rintro e w2 ⟨rfl, ⟨rest2, hrow2, hlen2⟩, hkb2⟩; have hbk := (HKB1.out.trans hkb2).blk BK.out (fun e => HNE.out e.symm); have hz0 : w2.cell? ⟨w.heap.size, 0, none⟩ = some (.slice (some ⟨g, 0, none⟩) acc.length cap) := (blk_cell hbk 0).trans rfl; have hzf := blk_frozen hbk 0; have BK2 := Aside0.mk hbk; have HRW2 := Aside0.mk hrow2; have HB2 := Aside0.mk (below_KB HB3.out (HKB1.out.trans hkb2) HBG.out (Nat.le_refl _)); clear hbk hrow2 hlen2 hkb2; refine ⟨_, rfl, ?_⟩) | ((with_reducible refine gate_callee (f := 31) rfl ?_); refine goesL_ (some 24) rfl rfl Try.func31 (by kernel_rfl) rfl #[.slice (some ⟨g, 0, none⟩) s.length cap] rfl (by (try simp only [List.map_toArray, List.map_cons, List.map_nil]); first | done | rfl) ?_; refine (rect_Canon.cloneA g cap s rest2 _ (HRW2.out.far HNE.out _) HLEN.out.2).mono ?_; rintro e w4 ⟨gd, capd, rest4, rfl, hgd, hrow4, hl4, hm4, hn4, hb4⟩; have HRW4 := Aside0.mk hrow4; have HL4 := Aside0.mk (And.intro hl4 (And.intro hm4 hn4)); have HGD : Aside0 (w.heap.size ≤ gd ∧ g ≠ gd ∧ w.heap.size ≠ gd) := ⟨by have h1 := blk_lt (HRW2.out.far HNE.out (.slice (some ⟨g, 0, none⟩) s.length cap)); have h2 := blk_lt (blk_put BK2.out 0 (.slice (some ⟨g, 0, none⟩) s.length cap) rfl); omega⟩; have BK4 := Aside0.mk (blk_below (blk_put BK2.out 0 (.slice (some ⟨g, 0, none⟩) s.length cap) rfl) hb4); have HRA4 := Aside0.mk (Below.row hb4 (HRW2.out.far HNE.out (.slice (some ⟨g, 0, none⟩) s.length cap))); have HB4 := Aside0.mk (below_step (below_set HB2.out (Nat.le_refl _)) hb4); clear hgd hrow4 hl4 hm4 hn4 hb4; refine ⟨_, rfl, ?_⟩) | ((with_reducible refine gate_callee (f := 30) rfl ?_); refine goesL_ (some 26) rfl rfl Try.func30 (by kernel_rfl) rfl #[.slice (some ⟨gd, 0, none⟩) s.length capd, .func (.func 32) #[] #[.pointer (some ⟨w.heap.size, 0, none⟩)]] rfl (by (try simp only [List.map_toArray, List.map_cons, List.map_nil]); first | done | rfl) ?_; refine (rect_Canon.delA k g cap s rest2 w.heap.size gd capd s rest4 (fun x => (heldR.l0 k s x 0).getD false) w4 HRA4.out HLEN.out.1 (by have := HLEN.out; omega) ((blk_cell BK4.out 0).trans rfl) HRW4.out HL4.out.1 (by have := HLEN.out; omega) HGD.out.2.1 HGD.out.2.2 HRULE.out).mono ?_; rintro e w5 ⟨rfl, ⟨rest5, hrow5, hlen5⟩, hkb5⟩; have HRW5 := Aside0.mk hrow5; have HLEN5 := Aside0.mk hlen5; have HB5 := Aside0.mk (below_KB HB4.out hkb5 HGD.out.1 (Nat.le_refl _)); clear hrow5 hlen5 hkb5; refine ⟨_, rfl, ?_⟩))
            go_ret
            refine ⟨_, rfl, row_R HRW5.out HGD.out.1 trivial (Nat.le_trans (List.length_filter_le _ _) HL4.out.1) HL4.out.2.1 ?_, HB5.out⟩
            have e1 := HL4.out.2.2
            have e2 := HLEN5.out
            rw [cellsR_len] at e1 ⊢
            omega
          · rw [if_neg hgu] at hgg
            exact absurd hgg (by simp)

end Go.Proofs.Ytfhlddlhoockaaa.PIsx
