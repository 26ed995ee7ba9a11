/- rect.order, by hand. -/
import Derived.Test.YtpkgkdcfolmbhaaGreatARectH
import Derived.Shelf.SlSortCmp.QuietGrown
import Derived.Deep.RegionHeld3
import Derived.Sort.Grow
import Derived.Shelf.Abstract
import Derived.Shelf.RegionOpen
import Derived.WalkKit
import Derived.LoopN
import Derived.Deep.LoopGhost
set_option linter.all false
set_option maxRecDepth 100000
namespace Go.Abs.Rc
open Go.RowKit Go.Proofs Go.Abs.Tab Go.Abs.Coll Go.Abs.Hx Go.Abs.Mt
attribute [local go_sem] Oper.semAt_some
structure Aside0 (p : Prop) : Prop where mk :: (out : p)
structure Drawn0 (w w' : World) : Prop where mk :: (out : ∃ n, w' = w.drewN n)
theorem Drawn0.refl (w : World) : Drawn0 w w := ⟨⟨0, rfl⟩⟩
theorem Drawn0.step {w w' : World} (h : Drawn0 w w') (n : Nat) : Drawn0 w (w'.drewN n) := by
  obtain ⟨⟨k, rfl⟩⟩ := h
  exact ⟨⟨k + n, World.drewN_drewN _ _ _⟩⟩
theorem Drawn0.one {w w' : World} (h : Drawn0 w w') : Drawn0 w w'.drew := h.step 1
theorem blk_set {w : World} {g : Nat} {t : TypeId} {cs : Array Value} (h : w.heap[g]? = some (.cells cs t (0, 0))) (i : Nat) (u : Value) : (w.setCell ⟨g, i, none⟩ u).heap[g]? = some (.cells (cs.setIfInBounds i u) t (0, 0)) := by
  simp [World.setCell, Array.getElem?_modify, h]
theorem blk_far {w : World} {g : Nat} {t : TypeId} {cs : Array Value} (h : w.heap[g]? = some (.cells cs t (0, 0))) {p : Addr} (hp : g ≠ p.block) (u : Value) : (w.setCell p u).heap[g]? = some (.cells cs t (0, 0)) := (Below.heap_setCell w p u g hp).trans h
theorem blk_lt {w : World} {g : Nat} {o : Obj} (h : w.heap[g]? = some o) : g < w.heap.size := (Array.getElem?_eq_some_iff.1 h).1
theorem blk_cell {w : World} {g : Nat} {t : TypeId} {cs : Array Value} (h : w.heap[g]? = some (.cells cs t (0, 0))) (i : Nat) : w.cell? ⟨g, i, none⟩ = cs[i]? := by simp [World.cell?, h]
theorem blk_frozen {w : World} {g : Nat} {t : TypeId} {cs : Array Value} (h : w.heap[g]? = some (.cells cs t (0, 0))) (i : Nat) : w.frozen? ⟨g, i, none⟩ = false := by simp [World.frozen?, h]
theorem blk_alloc {w : World} {g : Nat} {o : Obj} (h : w.heap[g]? = some o) (o' : Obj) : (w.alloc o').heap[g]? = some o := (Below.heap_alloc w o' g (blk_lt h)).trans h
theorem blk_below {w w1 : World} {g : Nat} {o : Obj} (h : w.heap[g]? = some o) (hb : Below w.heap.size w w1) : w1.heap[g]? = some o := (hb.block g (blk_lt h)).trans h
theorem blk_put {w : World} {g : Nat} {t : TypeId} {cs cs' : Array Value} (h : w.heap[g]? = some (.cells cs t (0, 0))) (i : Nat) (u : Value) (e : cs.setIfInBounds i u = cs') : (w.setCell ⟨g, i, none⟩ u).heap[g]? = some (.cells cs' t (0, 0)) := e ▸ blk_set h i u
theorem below_alloc {B : Nat} {a w : World} (h : Below B a w) (o : Obj) (hB : B ≤ a.heap.size := by first | exact Nat.le_refl _ | omega) : Below B a (w.alloc o) := h.alloc (Nat.le_trans hB h.size) o
theorem Below.cellR {w w' : World} (h : Below w.heap.size w w') {p : Addr} (hp : p.block < w.heap.size) : w'.cell? p = w.cell? p := World.cell?_of_block (h.block _ hp)
theorem cut_zero (n : Nat) : Ieee.Toward.even.cut false n 0 = n := by
  unfold Ieee.Toward.cut
  simp [Nat.mod_one]
theorem bin_eq : Ieee.double.binade = 4503599627370496 := by decide
theorem lp_eq : Ieee.double.leastPlace = -1074 := by decide
theorem inf_eq : Ieee.double.infRung = 2047 * 4503599627370496 := by decide
theorem sw_eq : Ieee.double.signWeight = 2048 * 4503599627370496 := by decide
/-- A whole number below 2^53, as a float's word, read again. -/
theorem read_nearest (n : Nat) (h0 : n ≠ 0) (hn : n < 4503599627370496) : Ieee.double.read (Ieee.double.nearest false n 0) = .number false (n * 2 ^ (52 - n.log2)) ((n.log2 : Int) - 52) := by
  have hl : n.log2 < 52 := by
    rw [Nat.log2_lt h0]; exact hn
  have h1 : 2 ^ n.log2 ≤ n := Nat.log2_self_le h0
  have h2 : n < 2 ^ (n.log2 + 1) := Nat.lt_log2_self
  have e52 : 2 ^ n.log2 * 2 ^ (52 - n.log2) = 4503599627370496 := by
    rw [← Nat.pow_add, show n.log2 + (52 - n.log2) = 52 by omega]
  have e53 : 2 ^ (n.log2 + 1) * 2 ^ (52 - n.log2) = 2 * 4503599627370496 := by
    rw [← Nat.pow_add, show n.log2 + 1 + (52 - n.log2) = 53 by omega]
  have m1 : 4503599627370496 ≤ n * 2 ^ (52 - n.log2) := by rw [← e52]; exact Nat.mul_le_mul_right _ h1
  have m2 : n * 2 ^ (52 - n.log2) < 2 * 4503599627370496 := by rw [← e53]; exact Nat.mul_lt_mul_of_pos_right h2 (Nat.two_pow_pos _)
  unfold Ieee.Format.nearest
  rw [if_neg h0]
  have hlast : max ((0 : Int) + n.log2 - Ieee.double.fractionBits) Ieee.double.leastPlace = (n.log2 : Int) - 52 := by
    rw [lp_eq, show (Ieee.double.fractionBits : Int) = 52 from rfl]; omega
  simp only [hlast]
  rw [show (0 - ((n.log2 : Int) - 52)).toNat = 52 - n.log2 by omega, show ((n.log2 : Int) - 52 - 0).toNat = 0 by omega, cut_zero, Nat.shiftLeft_eq, lp_eq, bin_eq, inf_eq]
  rw [show ((n.log2 : Int) - 52 - -1074).toNat = n.log2 + 1022 by omega]
  generalize n * 2 ^ (52 - n.log2) = K at *
  generalize n.log2 = L at *
  rw [Nat.min_eq_left (by omega)]
  unfold Ieee.Format.word Ieee.Format.read
  simp only [Bool.false_eq_true, if_false, sw_eq, bin_eq, lp_eq, inf_eq]
  rw [Nat.mod_eq_of_lt (by omega), Nat.div_eq_of_lt (by omega), if_neg (by omega), if_pos (by omega)]
  rw [show (0 : Nat) % 2 = 0 from rfl, show ((0 : Nat) == 1) = false from rfl]
  rw [show 4503599627370496 + ((L + 1022) * 4503599627370496 + K) % 4503599627370496 = K by omega, show ((((L + 1022) * 4503599627370496 + K) / 4503599627370496 - 1 : Nat) : Int) = (L + 1022 : Nat) by omega]
  exact congrArg (Ieee.Datum.number false K) (by omega)
theorem read_zero : Ieee.double.read (Ieee.double.nearest false 0 0) = .number false 0 (-1074) := by decide
/-- Floats of whole numbers below 2^52 stand as these do. -/
theorem order_nearest (a b : Nat) (ha : a < 4503599627370496) (hb : b < 4503599627370496) : Ieee.double.order (Ieee.double.nearest false a 0) (Ieee.double.nearest false b 0) = some (compare a b) := by
  have key : ∀ n : Nat, n < 4503599627370496 → ∃ (m : Nat) (i : Int), Ieee.double.read (Ieee.double.nearest false n 0) = .number false m i ∧ i ≤ 0 ∧ -1074 ≤ i ∧ ∀ base : Int, base ≤ i → m <<< (i - base).toNat = n * 2 ^ (-base).toNat := by
    intro n hn
    by_cases h0 : n = 0
    · subst h0
      exact ⟨0, -1074, read_zero, by omega, by omega, fun base _ => by simp⟩
    · have hl : n.log2 < 52 := by
        rw [Nat.log2_lt h0]; exact hn
      refine ⟨_, _, read_nearest n h0 hn, by omega, by omega, fun base hb => ?_⟩
      rw [Nat.shiftLeft_eq, Nat.mul_assoc, ← Nat.pow_add]
      congr 2
      omega
  obtain ⟨m, i, e1, i1, i2, i3⟩ := key a ha
  obtain ⟨n, j, e2, j1, j2, j3⟩ := key b hb
  unfold Ieee.Format.order
  rw [e1, e2]
  unfold Ieee.Datum.order
  simp only [Ieee.signed, Bool.false_eq_true, if_false]
  rw [i3 _ (by omega), j3 _ (by omega)]
  have hp : 0 < 2 ^ (-(min i j)).toNat := Nat.two_pow_pos _
  generalize 2 ^ (-(min i j)).toNat = p at *
  congr 1
  rcases Nat.lt_trichotomy a b with h | h | h
  · have := Nat.mul_lt_mul_of_pos_right h hp
    rw [Nat.compare_eq_lt.mpr h]
    rw [Int.compare_eq_lt]; omega
  · subst h
    rw [Nat.compare_eq_eq.mpr rfl, Int.compare_eq_eq.mpr rfl]
  · have := Nat.mul_lt_mul_of_pos_right h hp
    rw [Nat.compare_eq_gt.mpr h, Int.compare_eq_gt]; omega
/-- A whole number as a float's word. -/
def flw (n : Nat) : Nat := Ieee.double.nearest false n 0
theorem flw_order (a b : Nat) (ha : a < 4503599627370496) (hb : b < 4503599627370496) : FloatKind.f64.format.order (flw a) (flw b) = some (compare a b) := order_nearest a b ha hb
theorem flw_of (n : Int) (h : 0 ≤ n) : FloatKind.f64.nearest n = flw n.toNat := by
  unfold FloatKind.nearest FloatKind.encode Ieee.Format.write flw
  rw [show decide (n < 0) = false from decide_eq_false (by omega), show n.natAbs = n.toNat by omega]
  rfl
def cmpB (a b : Int) : Int := if a < b then -1 else if b < a then 1 else 0
theorem rect_nan.calls (a : Nat) (ha : a < 4503599627370496) (w : World) :
    Calls Tryz.prog 149 #[.float .f64 (flw a)] w fun e w' => e = .returned (.bool false) ∧ Drawn0 w w' := by
  have hX := flw_order a a ha ha
  rw [Nat.compare_eq_eq.mpr rfl] at hX
  generalize flw a = X at *
  have hb : ∀ W, (binOp .neq 150 (.float .f64 X) (.float .f64 X)).run Tryz.prog W = .ok (.bool false) W := fun W => by simp [binOp, Op.floatCmp, hX, go_sem]
  go_enter Tryz.func149, Tryz.ntmps149
  go_wp2
  go_ret
  exact ⟨by first | rfl | (simp; done) | (simp [*]; done), by repeat (first | exact Drawn0.refl _ | apply Drawn0.step | apply Drawn0.one)⟩
theorem rect_fcmp.calls (a b : Nat) (ha : a < 4503599627370496) (hb : b < 4503599627370496) (w : World) :
    Calls Tryz.prog 116 #[.float .f64 (flw a), .float .f64 (flw b)] w fun e w' => e = .returned (.int .i64 (cmpB a b)) ∧ Drawn0 w w' := by
  have hX := flw_order a b ha hb
  have hN1 := fun w => rect_nan.calls a ha w
  have hN2 := fun w => rect_nan.calls b hb w
  have c1 : (compare a b == .lt) = decide ((a : Int) < b) := by
    rcases Nat.lt_trichotomy a b with h | h | h
    · rw [Nat.compare_eq_lt.mpr h, decide_eq_true (show (a : Int) < b by omega)]; rfl
    · subst h; rw [Nat.compare_eq_eq.mpr rfl, decide_eq_false (show ¬ (a : Int) < a by omega)]; rfl
    · rw [Nat.compare_eq_gt.mpr h, decide_eq_false (show ¬ (a : Int) < b by omega)]; rfl
  have c2 : (compare a b == .gt) = decide ((b : Int) < a) := by
    rcases Nat.lt_trichotomy a b with h | h | h
    · rw [Nat.compare_eq_lt.mpr h, decide_eq_false (show ¬ (b : Int) < a by omega)]; rfl
    · subst h; rw [Nat.compare_eq_eq.mpr rfl, decide_eq_false (show ¬ (a : Int) < a by omega)]; rfl
    · rw [Nat.compare_eq_gt.mpr h, decide_eq_true (show (b : Int) < a by omega)]; rfl
  have hr : cmpB a b = if decide ((a : Int) < b) = true then -1 else if decide ((b : Int) < a) = true then 1 else 0 := by
    unfold cmpB
    by_cases h1 : (a : Int) < b <;> by_cases h2 : (b : Int) < a <;> simp [h1, h2]
  rw [← c1, ← c2] at hr
  clear c1 c2
  generalize compare a b = o at hX hr
  generalize flw a = X at *
  generalize flw b = Y at *
  have b1 : ∀ W, (binOp .lss 150 (.float .f64 X) (.float .f64 Y)).run Tryz.prog W = .ok (.bool (o == .lt)) W := fun W => by simp [binOp, Op.floatCmp, hX, go_sem]
  have b2 : ∀ W, (binOp .gtr 150 (.float .f64 X) (.float .f64 Y)).run Tryz.prog W = .ok (.bool (o == .gt)) W := fun W => by simp [binOp, Op.floatCmp, hX, go_sem]
  clear hX
  generalize cmpB a b = r at *
  cases o with
  | lt =>
    have hr' : r = -1 := hr
    clear hr
    subst hr'
    rw [show (Ordering.lt == Ordering.lt) = true from rfl] at b1
    clear b2
    go_enter Tryz.func116, Tryz.ntmps116
    go_wp2_with (first | (go_at_call 149; refine (hN1 _).mono ?_; rintro e w' ⟨rfl, ⟨nd, rfl⟩⟩) | (go_at_call 149; refine (hN2 _).mono ?_; rintro e w' ⟨rfl, ⟨nd, rfl⟩⟩))
    go_ret
    exact ⟨by first | rfl | (simp; done) | (simp [*]; done), by repeat (first | exact Drawn0.refl _ | apply Drawn0.step | apply Drawn0.one)⟩
  | gt =>
    have hr' : r = 1 := hr
    clear hr
    subst hr'
    rw [show (Ordering.gt == Ordering.gt) = true from rfl] at b2
    rw [show (Ordering.gt == Ordering.lt) = false from rfl] at b1
    go_enter Tryz.func116, Tryz.ntmps116
    go_wp2_with (first | (go_at_call 149; refine (hN1 _).mono ?_; rintro e w' ⟨rfl, ⟨nd, rfl⟩⟩) | (go_at_call 149; refine (hN2 _).mono ?_; rintro e w' ⟨rfl, ⟨nd, rfl⟩⟩))
    go_ret
    exact ⟨by first | rfl | (simp; done) | (simp [*]; done), by repeat (first | exact Drawn0.refl _ | apply Drawn0.step | apply Drawn0.one)⟩
  | eq =>
    have hr' : r = 0 := hr
    clear hr
    subst hr'
    rw [show (Ordering.eq == Ordering.gt) = false from rfl] at b2
    rw [show (Ordering.eq == Ordering.lt) = false from rfl] at b1
    go_enter Tryz.func116, Tryz.ntmps116
    go_wp2_with (first | (go_at_call 149; refine (hN1 _).mono ?_; rintro e w' ⟨rfl, ⟨nd, rfl⟩⟩) | (go_at_call 149; refine (hN2 _).mono ?_; rintro e w' ⟨rfl, ⟨nd, rfl⟩⟩))
    go_ret
    exact ⟨by first | rfl | (simp; done) | (simp [*]; done), by repeat (first | exact Drawn0.refl _ | apply Drawn0.step | apply Drawn0.one)⟩
/-- So many draws on, these blocks behind. -/
def Grown0 (w w' : World) : Prop := ∃ q os, w' = Go.Sort.grow (w.drewN q) os
theorem rect_key.calls (a0 a1 a2 : Int) (h0 : 0 ≤ a0) (h1 : 0 ≤ a1) (w : World) :
    Calls Tryz.prog 115 #[.agg #[.int .i64 a0, .int .i64 a1, .int .i64 a2]] w fun e w' => e = .returned (.complex .f64 (flw a0.toNat) (flw a1.toNat)) ∧ w' = w.alloc (.cells #[.int .i64 a0, .int .i64 a1, .int .i64 a2] 64) := by
  have hu2 := Tryz.underlying64
  have e0 := flw_of a0 h0
  have e1 := flw_of a1 h1
  generalize flw a0.toNat = X at *
  generalize flw a1.toNat = Y at *
  have b1 : ∀ W, (Go.convert 3 150 (.int .i64 a0)).run Tryz.prog W = .ok (.float .f64 X) W := fun W => by rw [← e0]; kernel_rfl
  have b2 : ∀ W, (Go.convert 3 150 (.int .i64 a1)).run Tryz.prog W = .ok (.float .f64 Y) W := fun W => by rw [← e1]; kernel_rfl
  have b3 : ∀ (ts : Array TypeId) (t : TypeId) W, (Builtin.complex_ ts t #[.float .f64 X, .float .f64 Y]).run Tryz.prog W = .ok (.complex .f64 X Y) W := fun _ _ _ => rfl
  clear e0 e1
  go_enter Tryz.func115, Tryz.ntmps115
  go_wp2
  go_ret

  exact ⟨rfl, rfl⟩
theorem Grown0.refl (w : World) : Grown0 w w := ⟨0, #[], by rw [Go.Sort.grow_empty]; rfl⟩
theorem Grown0.trans {a b c : World} (h : Grown0 a b) (k : Grown0 b c) : Grown0 a c := by
  obtain ⟨q, os, rfl⟩ := h
  obtain ⟨q', os', rfl⟩ := k
  exact ⟨q + q', os ++ os', by show Go.Sort.grow (Go.Sort.grow ((a.drewN q).drewN q') os) os' = _; rw [Go.Sort.grow_grow, World.drewN_drewN]⟩
theorem Grown0.alloc {a b : World} (h : Grown0 a b) (o : Obj) : Grown0 a (b.alloc o) := h.trans ⟨0, #[o], by rw [Go.Sort.alloc_eq_grow]; rfl⟩
theorem Grown0.drewN {a b : World} (h : Grown0 a b) (n : Nat) : Grown0 a (b.drewN n) := h.trans ⟨n, #[], by rw [Go.Sort.grow_empty]⟩
theorem Grown0.drew {a b : World} (h : Grown0 a b) : Grown0 a b.drew := h.drewN 1
theorem Grown0.cell {w w' : World} (h : Grown0 w w') {a : Addr} {v : Value} (hv : w.cell? a = some v) : w'.cell? a = some v := by
  obtain ⟨q, os, rfl⟩ := h
  rw [Go.Sort.cell?_grow _ _ _ (by exact World.block_lt_of_cell? w _ hv)]
  exact hv
/-- Which of two goes ahead: by the bytes, then by the first code, then by the last. -/
def ordB (x y : Int × Int × Int) : Int := if cmpB x.1 y.1 ≠ 0 then cmpB x.1 y.1 else if cmpB x.2.1 y.2.1 ≠ 0 then cmpB x.2.1 y.2.1 else cmpB x.2.2 y.2.2
theorem Grown0.frozen {w w' : World} (h : Grown0 w w') {a : Addr} (hv : a.block < w.heap.size) : w'.frozen? a = w.frozen? a := by
  obtain ⟨q, os, rfl⟩ := h
  show (match (w.heap ++ os)[a.block]? with | some (.cells _ _ (lo, hi)) => decide (lo ≤ a.off) && decide (a.off < hi) | _ => false) = _
  rw [Array.getElem?_append_left hv]
  rfl
theorem lit3_ints (W : World) (t : TypeId) (x y c : Int) : (W.alloc (.cells #[.int .i64 x, .int .i64 y, .int .i64 c] t)).cell? ⟨W.heap.size, 0, none⟩ = some (.int .i64 x) ∧ (W.alloc (.cells #[.int .i64 x, .int .i64 y, .int .i64 c] t)).cell? ⟨W.heap.size, 1, none⟩ = some (.int .i64 y) ∧ (W.alloc (.cells #[.int .i64 x, .int .i64 y, .int .i64 c] t)).cell? ⟨W.heap.size, 2, none⟩ = some (.int .i64 c) := by
  have hb := heap_alloc_new W (.cells #[.int .i64 x, .int .i64 y, .int .i64 c] t)
  exact ⟨(blk_cell hb 0).trans rfl, (blk_cell hb 1).trans rfl, (blk_cell hb 2).trans rfl⟩
theorem ordB_or (a0 a1 a2 b0 b1 b2 : Int) : ordB (a0, a1, a2) (b0, b1, b2) = orI [cmpB a0 b0, cmpB a1 b1, cmpB a2 b2] := by
  unfold ordB orI
  dsimp only
  by_cases h0 : cmpB a0 b0 = 0
  · by_cases h1 : cmpB a1 b1 = 0
    · by_cases h2 : cmpB a2 b2 = 0 <;> simp [h0, h1, h2, orI]
    · simp [h0, h1, orI]
  · simp [h0]
theorem nanI_calls (a : Int) (w : World) : Calls Tryz.prog 133 #[.int .i64 a] w fun e w' => e = .returned (.bool false) ∧ Drawn0 w w' := by
  go_enter Tryz.func133, Tryz.ntmps133
  go_wp2
  go_ret
  exact ⟨by first | rfl | (simp; done) | (simp [*]; done), by repeat (first | exact Drawn0.refl _ | apply Drawn0.step | apply Drawn0.one)⟩
theorem cmpI_calls (a b : Int) (w : World) : Calls Tryz.prog 102 #[.int .i64 a, .int .i64 b] w fun e w' => e = .returned (.int .i64 (cmpB a b)) ∧ Drawn0 w w' := by
  have hN1 := fun w => nanI_calls a w
  have hN2 := fun w => nanI_calls b w
  have hr : cmpB a b = if decide (a < b) = true then -1 else if decide (b < a) = true then 1 else 0 := by
    unfold cmpB
    by_cases h1 : a < b <;> by_cases h2 : b < a <;> simp [h1, h2]
  by_cases h1 : a < b
  · rw [decide_eq_true h1, if_pos rfl] at hr
    have p1 : decide (a < b) = true := decide_eq_true h1
    rw [hr]
    go_enter Tryz.func102, Tryz.ntmps102
    go_wp2_with (first | (go_at_call 133; refine (hN1 _).mono ?_; rintro e w' ⟨rfl, ⟨nd, rfl⟩⟩) | (go_at_call 133; refine (hN2 _).mono ?_; rintro e w' ⟨rfl, ⟨nd, rfl⟩⟩))
    go_ret
    exact ⟨by first | rfl | (simp; done) | (simp [*]; done), by repeat (first | exact Drawn0.refl _ | apply Drawn0.step | apply Drawn0.one)⟩
  · have p1 : decide (a < b) = false := decide_eq_false h1
    by_cases h2 : b < a
    · rw [p1, if_neg (by decide), decide_eq_true h2, if_pos rfl] at hr
      have p2 : decide (b < a) = true := decide_eq_true h2
      have p3 : decide (a > b) = true := decide_eq_true h2
      rw [hr]
      go_enter Tryz.func102, Tryz.ntmps102
      go_wp2_with (first | (go_at_call 133; refine (hN1 _).mono ?_; rintro e w' ⟨rfl, ⟨nd, rfl⟩⟩) | (go_at_call 133; refine (hN2 _).mono ?_; rintro e w' ⟨rfl, ⟨nd, rfl⟩⟩))
      go_ret
      exact ⟨by first | rfl | (simp; done) | (simp [*]; done), by repeat (first | exact Drawn0.refl _ | apply Drawn0.step | apply Drawn0.one)⟩
    · have p2 : decide (b < a) = false := decide_eq_false h2
      have p3 : decide (a > b) = false := decide_eq_false h2
      rw [p1, if_neg (by decide), p2, if_neg (by decide)] at hr
      rw [hr]
      go_enter Tryz.func102, Tryz.ntmps102
      go_wp2_with (first | (go_at_call 133; refine (hN1 _).mono ?_; rintro e w' ⟨rfl, ⟨nd, rfl⟩⟩) | (go_at_call 133; refine (hN2 _).mono ?_; rintro e w' ⟨rfl, ⟨nd, rfl⟩⟩))
      go_ret
      exact ⟨by first | rfl | (simp; done) | (simp [*]; done), by repeat (first | exact Drawn0.refl _ | apply Drawn0.step | apply Drawn0.one)⟩
theorem orI_calls (b : Nat) (x y c : Int) (w : World) (h0 : w.cell? ⟨b, 0, none⟩ = some (.int .i64 x)) (h1 : w.cell? ⟨b, 1, none⟩ = some (.int .i64 y)) (h2 : w.cell? ⟨b, 2, none⟩ = some (.int .i64 c)) :
    Calls Tryz.prog 101 #[.slice (some ⟨b, 0, none⟩) 3 3] w fun e w' => e = .returned (.int .i64 (orI [x, y, c])) ∧ Drawn0 w w' := by
  have HA := Aside0.mk (show ∀ i, i < 3 → w.cell? ⟨b, i, none⟩ = some (.int .i64 ([x, y, c].getD i 0)) from fun i hi => by
    have hc : i = 0 ∨ i = 1 ∨ i = 2 := by omega
    rcases hc with rfl | rfl | rfl
    · exact h0
    · exact h1
    · exact h2)
  clear h0 h1 h2
  go_enter Tryz.func101, Tryz.ntmps101
  go_wp2
  go_loopg [8] 4 (fun kq v8 w' => ∃ (i : Nat), v8 = .int .i64 (i : Nat) ∧ Aside0 (i ≤ 3 ∧ 4 ≤ kq + i) ∧ Aside0 (∀ j, j < i → [x, y, c].getD j 0 = 0) ∧ Drawn0 w w')
  case atStart => exact ⟨0, rfl, ⟨by omega⟩, ⟨fun j hj => by omega⟩, by repeat (first | exact Drawn0.refl _ | apply Drawn0.step | apply Drawn0.one)⟩
  case round =>
    obtain ⟨i, rfl, HI, HZ, HD⟩ := hrel
    cases gk with
    | zero => have := HI.out; omega
    | succ k1 =>
      by_cases hi : i < 3
      · have hcell : wr.cell? ⟨b, i, none⟩ = some (.int .i64 ([x, y, c].getD i 0)) := by
          obtain ⟨⟨n, rfl⟩⟩ := HD
          exact HA.out i hi
        have p0 : (0 ≤ (i : Int)) = True := eq_true (by omega)
        have p1 : ((i : Int) < 3) = True := eq_true (by omega)
        have p2 : decide ((i : Int) < 3) = true := decide_eq_true (by omega)
        have p3 : (i < 3) = True := eq_true hi
        have HLi := Aside0.mk hi
        obtain ⟨z, hz⟩ : ∃ z, z = [x, y, c].getD i 0 := ⟨_, rfl⟩
        have HZ2 := Aside0.mk hz
        rw [← hz] at hcell
        clear hz hi
        by_cases h : z = 0
        · subst h
          go_wp2
          go_roundg k1
          case measure => have := HI.out; omega
          case rel =>
            refine ⟨i + 1, (by first | rfl | (have := HLi.out; congr 1; unfold wrap64; omega) | (have := HLi.out; simp [wrap64]; omega)), ⟨by have := HI.out; have := HLi.out; omega⟩, ⟨fun j hj => ?_⟩, by repeat (first | exact HD | apply Drawn0.step | apply Drawn0.one)⟩
            by_cases e : j = i
            · rw [e]; exact HZ2.out.symm
            · exact HZ.out j (by omega)
        · have hz2 : (z != 0) = true := by simpa using h
          have hz3 : decide (z = 0) = false := decide_eq_false h
          have hz4 : (z == 0) = false := beq_eq_false_iff_ne.2 h
          have hr : orI [x, y, c] = z := by
            have h1 := HZ.out
            have h2 := HZ2.out
            have hc : i = 0 ∨ i = 1 ∨ i = 2 := by have := HLi.out; omega
            unfold orI
            rcases hc with rfl | rfl | rfl
            · obtain rfl : z = x := h2
              simp [h]
            · obtain rfl : z = y := h2
              have e0 : x = 0 := h1 0 (by omega)
              simp [h, e0]
            · obtain rfl : z = c := h2
              have e0 : x = 0 := h1 0 (by omega)
              have e1 : y = 0 := h1 1 (by omega)
              simp [h, e0, e1]
          go_wp2
          go_ret
          exact ⟨by rw [hr]; rfl, by repeat (first | exact HD | apply Drawn0.step | apply Drawn0.one)⟩
      · obtain rfl : i = 3 := by have := HI.out; omega
        have hr : orI [x, y, c] = 0 := by
          have e0 : x = 0 := HZ.out 0 (by omega)
          have e1 : y = 0 := HZ.out 1 (by omega)
          have e2 : c = 0 := HZ.out 2 (by omega)
          unfold orI
          simp [e0, e1, e2]
        go_wp2
        go_ret
        exact ⟨by rw [hr]; rfl, by repeat (first | exact HD | apply Drawn0.step | apply Drawn0.one)⟩
set_option maxHeartbeats 4000000 in
set_option maxRecDepth 100000 in
theorem rect_order.calls (a0 a1 a2 b0 b1 b2 : Int) (ha0 : 0 ≤ a0 ∧ a0 < 4503599627370496) (ha1 : 0 ≤ a1 ∧ a1 < 4503599627370496) (hb0 : 0 ≤ b0 ∧ b0 < 4503599627370496) (hb1 : 0 ≤ b1 ∧ b1 < 4503599627370496) (w : World) :
    Calls Tryz.prog 76 #[.agg #[.int .i64 a0, .int .i64 a1, .int .i64 a2], .agg #[.int .i64 b0, .int .i64 b1, .int .i64 b2]] w fun e w' => e = .returned (.int .i64 (ordB (a0, a1, a2) (b0, b1, b2))) ∧ Grown0 w w' := by
  obtain ⟨c, hc⟩ : ∃ c, c = cmpB a2 b2 := ⟨_, rfl⟩
  obtain ⟨r, hr⟩ : ∃ r, r = orI [cmpB a0 b0, cmpB a1 b1, c] := ⟨_, rfl⟩
  have hro : ordB (a0, a1, a2) (b0, b1, b2) = r := by rw [hr, hc]; exact ordB_or _ _ _ _ _ _
  rw [hro]
  have hu2 := Tryz.underlying64
  have hk1 := fun w => rect_key.calls a0 a1 a2 ha0.1 ha1.1 w
  have hk2 := fun w => rect_key.calls b0 b1 b2 hb0.1 hb1.1 w
  have hf1 := fun w => rect_fcmp.calls a0.toNat b0.toNat (by omega) (by omega) w
  have hf2 := fun w => rect_fcmp.calls a1.toNat b1.toNat (by omega) (by omega) w
  rw [Int.toNat_of_nonneg ha0.1, Int.toNat_of_nonneg hb0.1] at hf1
  rw [Int.toNat_of_nonneg ha1.1, Int.toNat_of_nonneg hb1.1] at hf2
  have hC := fun w => cmpI_calls a2 b2 w
  rw [← hc] at hC
  clear ha0 ha1 hb0 hb1 hc hro
  generalize cmpB a0 b0 = x at *
  generalize cmpB a1 b1 = y at *
  generalize flw a0.toNat = X0 at *
  generalize flw a1.toNat = X1 at *
  generalize flw b0.toNat = Y0 at *
  generalize flw b1.toNat = Y1 at *
  have b3 : ∀ (ts : Array TypeId) (t : TypeId) (X Y : Nat) W, (Builtin.real_ ts t #[.complex .f64 X Y]).run Tryz.prog W = .ok (.float .f64 X) W := fun _ _ _ _ _ => rfl
  have b4 : ∀ (ts : Array TypeId) (t : TypeId) (X Y : Nat) W, (Builtin.imag_ ts t #[.complex .f64 X Y]).run Tryz.prog W = .ok (.float .f64 Y) W := fun _ _ _ _ _ => rfl
  have HK1 := Aside0.mk hk1
  have HK2 := Aside0.mk hk2
  have HF1 := Aside0.mk hf1
  have HF2 := Aside0.mk hf2
  have HC := Aside0.mk hC
  have HR := Aside0.mk hr
  clear hk1 hk2 hf1 hf2 hC hr
  go_enter Tryz.func76, Tryz.ntmps76
  go_wp2
  have hg : Grown0 w (((w.alloc (.cells #[.int .i64 a0, .int .i64 a1, .int .i64 a2] 64)).alloc (.cells #[.int .i64 b0, .int .i64 b1, .int .i64 b2] 64))) := ((Grown0.refl _).alloc _).alloc _
  have k1 := blk_alloc (heap_alloc_new w (.cells #[.int .i64 a0, .int .i64 a1, .int .i64 a2] 64)) (.cells #[.int .i64 b0, .int .i64 b1, .int .i64 b2] 64)
  have k2 : (((w.alloc (.cells #[.int .i64 a0, .int .i64 a1, .int .i64 a2] 64)).alloc (.cells #[.int .i64 b0, .int .i64 b1, .int .i64 b2] 64))).heap[w.heap.size + 1]? = some (.cells #[.int .i64 b0, .int .i64 b1, .int .i64 b2] 64 (0, 0)) := by
    have := heap_alloc_new (w.alloc (.cells #[.int .i64 a0, .int .i64 a1, .int .i64 a2] 64)) (.cells #[.int .i64 b0, .int .i64 b1, .int .i64 b2] 64)
    simpa using this
  generalize ((w.alloc (.cells #[.int .i64 a0, .int .i64 a1, .int .i64 a2] 64)).alloc (.cells #[.int .i64 b0, .int .i64 b1, .int .i64 b2] 64)) = w2 at *
  have d0 : w2.cell? ⟨w.heap.size, 0, none⟩ = some (.int .i64 a0) := (blk_cell k1 0).trans rfl
  have d1 : w2.cell? ⟨w.heap.size, 1, none⟩ = some (.int .i64 a1) := (blk_cell k1 1).trans rfl
  have d2 : w2.cell? ⟨w.heap.size, 2, none⟩ = some (.int .i64 a2) := (blk_cell k1 2).trans rfl
  have d3 : w2.cell? ⟨w.heap.size + 1, 0, none⟩ = some (.int .i64 b0) := (blk_cell k2 0).trans rfl
  have d4 : w2.cell? ⟨w.heap.size + 1, 1, none⟩ = some (.int .i64 b1) := (blk_cell k2 1).trans rfl
  have d5 : w2.cell? ⟨w.heap.size + 1, 2, none⟩ = some (.int .i64 b2) := (blk_cell k2 2).trans rfl
  clear k1 k2
  have l0 := fun n os => cell_grown (World.block_lt_of_cell? _ _ d0) d0 n os
  have l1 := fun n os => cell_grown (World.block_lt_of_cell? _ _ d1) d1 n os
  have l2 := fun n os => cell_grown (World.block_lt_of_cell? _ _ d2) d2 n os
  have l3 := fun n os => cell_grown (World.block_lt_of_cell? _ _ d3) d3 n os
  have l4 := fun n os => cell_grown (World.block_lt_of_cell? _ _ d4) d4 n os
  have l5 := fun n os => cell_grown (World.block_lt_of_cell? _ _ d5) d5 n os
  have D2 := Aside0.mk d2
  have D5 := Aside0.mk d5
  have HG := Aside0.mk hg
  clear d0 d1 d2 d3 d4 d5 hg
  have hmix : Tryz.prog.follows .mixedOrders = true := by kernel_rfl
  have hg1 : ∀ W, Calls Tryz.prog 115 #[.agg #[.int .i64 a0, .int .i64 a1, .int .i64 a2]] W fun e w' => e = .returned (.complex .f64 X0 X1) ∧ ∃ q os', w' = Go.Sort.grow (W.drewN q) os' :=
    fun W => (HK1.out W).mono fun _ _ h => ⟨h.1, 0, #[.cells #[.int .i64 a0, .int .i64 a1, .int .i64 a2] 64], by rw [h.2, Go.Sort.alloc_eq_grow]; rfl⟩
  have hg2 : ∀ W, Calls Tryz.prog 115 #[.agg #[.int .i64 b0, .int .i64 b1, .int .i64 b2]] W fun e w' => e = .returned (.complex .f64 Y0 Y1) ∧ ∃ q os', w' = Go.Sort.grow (W.drewN q) os' :=
    fun W => (HK2.out W).mono fun _ _ h => ⟨h.1, 0, #[.cells #[.int .i64 b0, .int .i64 b1, .int .i64 b2] 64], by rw [h.2, Go.Sort.alloc_eq_grow]; rfl⟩
  go_quiet_grown (first | (with_reducible exact Calls.grown_of (hg1 _)) | (with_reducible exact Calls.grown_of (hg2 _)))
  clear hg1 hg2
  have n2 := cell_grown (World.block_lt_of_cell? _ _ D2.out) D2.out nq osq
  have n5 := cell_grown (World.block_lt_of_cell? _ _ D5.out) D5.out nq osq
  have HG2 := Aside0.mk (HG.out.trans ⟨nq, osq, rfl⟩)
  clear l0 l1 l2 l3 l4 l5 D2 D5 HG HK1 HK2
  generalize Go.Sort.grow (w2.drewN nq) osq = w3 at *
  go_wp2
  have s0 := HG2.out.drew
  go_region_held3 (fun W => Grown0 w W ∧ W.cell? ⟨w.heap.size, 2, none⟩ = some (.int .i64 a2) ∧ W.cell? ⟨w.heap.size + 1, 2, none⟩ = some (.int .i64 b2))
    (first | (refine ⟨by first | exact HG2.out.drewN _ | exact s0 | exact (HG2.out.drewN _).alloc _ | exact ((HG2.out.drewN _).alloc _).drewN _, ?_, ?_⟩ <;> go_keep))
    ((first | (go_at_call 116; with_reducible refine (HF1.out _).mono ?_; rintro e w1 ⟨rfl, ⟨nd, rfl⟩⟩) | (go_at_call 116; with_reducible refine (HF2.out _).mono ?_; rintro e w1 ⟨rfl, ⟨nd, rfl⟩⟩) | (go_at_call 102; with_reducible refine (HC.out _).mono ?_; rintro e w1 ⟨rfl, ⟨nd, rfl⟩⟩) | (go_at_call 101; refine (orI_calls _ x y c _ (lit3_ints _ _ x y c).1 (lit3_ints _ _ x y c).2.1 (lit3_ints _ _ x y c).2.2).mono ?_; rw [← HR.out]; rintro e w1 ⟨rfl, ⟨nd, rfl⟩⟩)))
  all_goals (go_wp2; go_ret; exact ⟨rfl, by first | exact ((HG2.out.drewN _).alloc _).drewN _ | exact (HG2.out.drewN _).alloc _⟩)
end Go.Abs.Rc
