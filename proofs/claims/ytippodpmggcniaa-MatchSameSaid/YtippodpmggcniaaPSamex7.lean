-- made by xprint.py of this session
import Derived.Test.YtippodpmggcniaaPSamex0
import Derived.Test.YtippodpmggcniaaPSamex3
import Derived.Test.YtippodpmggcniaaPSamex6
namespace Go.Proofs.Ytippodpmggcniaa.PSame
open Go.RowKit Go.Proofs.YtippodpmggcniaaW.PrintWords Go.Proofs.YtippodpmggcniaaW.PrintLast Go.Proofs.YtippodpmggcniaaW.PrintMore
attribute [local go_sem] max2_int min2_int max_two min_two max_three min_three max_four min_four   -- for this text's walks alone
set_option linter.unusedVariables false
set_option linter.unusedSimpArgs false

/-! ### EXT match_full: function 26 -/
def match_full.l0 : Nat → List S35 → Int → Int → Int → Option Bool
  | 0, _, _, _, _ => none
  | k + 1, x0, x8, c0, c1 => if x8 < (x0.length : Int) then (if 0 ≤ x8 then ((rect_In.f k (rd_T35 x0 x8).f0 (rd_T35 x0 x8).f1 (rd_T35 x0 x8).f2 c0 c1).bind fun b => if b = true then (some true) else match_full.l0 k x0 (wrap64 (x8 + 1)) c0 c1) else none) else (some false)
def match_full.f (k : Nat) (l0 : List S35) (l1 : List Int) : Option (Bool) := (hex_Val.f k l1).bind fun t => if t.2.2 = true then match_full.l0 k l0 0 t.1 t.2.1 else some false
theorem match_full.mono_l : ∀ k, (∀ y0 y1 y2 y3, LeO (match_full.l0 k y0 y1 y2 y3) (match_full.l0 (k + 1) y0 y1 y2 y3))
  | 0 => fun _ _ _ _ r h => by simp [match_full.l0] at h
  | k + 1 => by
    have ih0 := match_full.mono_l k
    intro y0 y1 y2 y3
    unfold match_full.l0
    exact LeO.ite (LeO.ite (LeO.bind (rect_In.mono _ _ _ _ _ _) (fun b => LeO.ite (LeO.refl _) (ih0 _ _ _ _))) (LeO.none _)) (LeO.refl _)
theorem match_full.mono : ∀ a0 a1 k, LeO (match_full.f k a0 a1) (match_full.f (k + 1) a0 a1) := by
  intro a0 a1 k
  unfold match_full.f
  exact LeO.bind (hex_Val.mono _ _) (fun t => LeO.ite (match_full.mono_l _ _ _ _ _) (LeO.refl _))
set_option maxHeartbeats 2000000 in
set_option maxRecDepth 100000 in
theorem match_full.clos (k : Nat) (x0 x1 x2 : Int) (g : Nat) (a b : Int) (r : Bool) (w : World) (hg : g < w.heap.size) (h0 : w.cell? ⟨g, 0, none⟩ = some (.int .i64 a)) (h1 : w.cell? ⟨g, 1, none⟩ = some (.int .i64 b)) (h : rect_In.f k x0 x1 x2 a b = some r) :
    Calls Try.prog 42 #[.agg #[.int .i64 x0, .int .i64 x1, .int .i64 x2], .pointer (some ⟨g, 0, none⟩)] w fun e w' => e = .returned (.bool r) ∧ Below w.heap.size w w' := by
  have hu1 := Try.underlying28
  have hu2 := Try.underlying35
  have H := Aside0.mk h
  clear h
  go_enter Try.func42, Try.ntmps42
  go_wp2_with ((with_reducible refine gate_callee (f := 12) rfl ?_); refine goesL_ (some 6) rfl rfl Try.func12 (by kernel_rfl) rfl #[.agg #[.int .i64 x0, .int .i64 x1, .int .i64 x2], .agg #[.int .i64 a, .int .i64 b]] rfl (by (try simp only [List.map_toArray, List.map_cons, List.map_nil]); first | done | rfl) ?_; (with_reducible refine (rect_In.calls k x0 x1 x2 a b r _ H.out).mono ?_); rintro e w' ⟨rfl, hb⟩; refine ⟨_, rfl, ?_⟩)
  go_ret
  exact ⟨rfl, below_step (below_alloc (Below.refl _ _) _) hb⟩
set_option maxHeartbeats 2000000 in
set_option maxRecDepth 100000 in
theorem match_full.idx (k : Nat) (A0 : Option Addr) (c0 : Nat) (l0 : List S35) (g : Nat) (a b : Int) (r : Bool) (w : World) (hr0 : Kd.C k35 w A0 l0.length l0) (hc0 : l0.length ≤ c0) (hg : g < w.heap.size) (h0 : w.cell? ⟨g, 0, none⟩ = some (.int .i64 a)) (h1 : w.cell? ⟨g, 1, none⟩ = some (.int .i64 b)) (h : match_full.l0 k l0 0 a b = some r) :
    Calls Try.prog 54 #[.slice A0 l0.length c0, .func (.func 42) #[] #[.pointer (some ⟨g, 0, none⟩)]] w fun e w' => (∃ i : Int, e = .returned (.int .i64 i) ∧ decide (0 ≤ i) = r) ∧ Below w.heap.size w w' := by
  have hu1 := Try.underlying28
  have hu2 := Try.underlying35
  have HR0 := Aside0.mk hr0
  have HC0 := Aside0.mk hc0
  have HG := Aside0.mk hg
  have H0 := Aside0.mk h0
  have H1 := Aside0.mk h1
  have H' := Aside0.mk h
  clear h hr0 hc0 hg h0 h1
  go_enter Try.func54, Try.ntmps54
  go_wp2
  go_loopg [8] k (fun kq v8 w' => ∃ x8 : Int, v8 = .int .i64 x8 ∧ Aside0 (match_full.l0 kq l0 x8 a b = some r) ∧ Aside0 (kq ≤ k) ∧ Aside0 (Below w.heap.size w w'))
  case atStart => exact ⟨0, rfl, H', ⟨Nat.le_refl _⟩, ⟨Below.refl _ _⟩⟩
  case round =>
    clear H'
    obtain ⟨x8, rfl, HA, HK1, HB⟩ := hrel
    cases gk with
    | zero => exact absurd HA.out (by simp [match_full.l0])
    | succ k1 =>
      have HG' : Aside0 (g < wr.heap.size) := Aside0.mk (Nat.lt_of_lt_of_le HG.out HB.out.size)
      have H0' := Aside0.mk ((HB.out.cell (p := ⟨g, 0, none⟩) HG.out).trans H0.out)
      have H1' := Aside0.mk ((HB.out.cell (p := ⟨g, 1, none⟩) HG.out).trans H1.out)
      have H := HA.out
      clear HA
      simp only [match_full.l0] at H
      by_cases c2 : x8 < (l0.length : Int)
      · rw [if_pos c2] at H
        have c2b0 : decide (x8 < (l0.length : Int)) = true := decide_eq_true c2
        by_cases c3 : 0 ≤ x8
        · rw [if_pos c3] at H
          have c3b0 : decide (0 ≤ x8) = true := decide_eq_true c3
          obtain ⟨t, ht, H⟩ := Option.bind_eq_some_iff.mp H
          obtain ⟨ad, e, hx0, hx1, hx2⟩ := at_T35 HR0.out x8 c3 c2
          cases e
          replace hx0 := (HB.out.cell (World.block_lt_of_cell? w _ hx0)).trans hx0
          replace hx1 := (HB.out.cell (World.block_lt_of_cell? w _ hx1)).trans hx1
          replace hx2 := (HB.out.cell (World.block_lt_of_cell? w _ hx2)).trans hx2
          replace c2 := eq_true c2
          replace c3 := eq_true c3
          have HT := Aside0.mk ht
          clear ht
          cases t with
          | true =>
            have hx' : some true = some r := by rw [if_pos rfl] at H; exact H
            obtain rfl := Option.some.inj hx'
            clear H hx'
            go_wp2_with (refine (match_full.clos k1 _ _ _ g a b true _ HG'.out H0'.out H1'.out HT.out).mono ?_; rintro e w1 ⟨rfl, hb⟩)
            go_ret
            exact ⟨⟨_, rfl, by assumption⟩, below_step HB.out hb⟩
          | false =>
            have HX : Aside0 (match_full.l0 k1 l0 (wrap64 (x8 + 1)) a b = some r) := ⟨by rw [if_neg (by decide)] at H; exact H⟩
            clear H
            go_wp2_with (refine (match_full.clos k1 _ _ _ g a b false _ HG'.out H0'.out H1'.out HT.out).mono ?_; rintro e w1 ⟨rfl, hb⟩)
            go_roundg k1
            case measure => have := HK1.out; omega
            case rel => exact ⟨_, rfl, HX, ⟨by have := HK1.out; omega⟩, ⟨below_step HB.out hb⟩⟩
        · rw [if_neg c3] at H
          exact absurd H (by simp)
      · rw [if_neg c2] at H
        have c2b0 : decide (x8 < (l0.length : Int)) = false := decide_eq_false c2
        clear c2
        obtain rfl := Option.some.inj H
        go_wp2
        go_ret
        exact ⟨⟨_, rfl, by decide⟩, HB.out⟩
set_option maxHeartbeats 2000000 in
set_option maxRecDepth 100000 in
theorem match_full.cont (k : Nat) (A0 : Option Addr) (c0 : Nat) (l0 : List S35) (g : Nat) (a b : Int) (r : Bool) (w : World) (hr0 : Kd.C k35 w A0 l0.length l0) (hc0 : l0.length ≤ c0) (hg : g < w.heap.size) (h0 : w.cell? ⟨g, 0, none⟩ = some (.int .i64 a)) (h1 : w.cell? ⟨g, 1, none⟩ = some (.int .i64 b)) (h : match_full.l0 k l0 0 a b = some r) :
    Calls Try.prog 38 #[.slice A0 l0.length c0, .func (.func 42) #[] #[.pointer (some ⟨g, 0, none⟩)]] w fun e w' => e = .returned (.bool r) ∧ Below w.heap.size w w' := by
  have HR0 := Aside0.mk hr0
  have HC0 := Aside0.mk hc0
  have HG := Aside0.mk hg
  have H0 := Aside0.mk h0
  have H1 := Aside0.mk h1
  have H' := Aside0.mk h
  clear h hr0 hc0 hg h0 h1
  go_enter Try.func38, Try.ntmps38
  go_wp2_with (refine (match_full.idx k _ _ l0 g a b r _ HR0.out HC0.out HG.out H0.out H1.out H'.out).mono ?_; rintro e w1 ⟨⟨i, rfl, rfl⟩, hb⟩)
  go_ret
  exact ⟨by simp, hb⟩
set_option maxHeartbeats 2000000 in
set_option maxRecDepth 100000 in
theorem match_full.calls (k : Nat) (A0 : Option Addr) (c0 : Nat) (l0 : List S35) (A1 : Option Addr) (c1 : Nat) (l1 : List Int) (r : Bool) (w : World) (hr0 : Kd.C k35 w A0 l0.length l0) (hc0 : l0.length ≤ c0) (hr1 : Kd.C (Kd.int .u8) w A1 l1.length l1) (hc1 : l1.length ≤ c1) (h : match_full.f k l0 l1 = some r) :
    Calls Try.prog 26 #[.slice A0 l0.length c0, .slice A1 l1.length c1] w fun e w' => e = .returned (.bool r) ∧ Below w.heap.size w w' := by
  have hu1 := Try.underlying28
  have hu2 := Try.underlying35
  have hmf : ∀ (fn : Fn) (first cap : Array Value) (w : World), (Instr.makeFunc fn first cap).run Try.prog w = .ok (.func fn first cap) w := fun _ _ _ _ => rfl
  have HR0 := Aside0.mk hr0
  have HC0 := Aside0.mk hc0
  have HR1 := Aside0.mk hr1
  have HC1 := Aside0.mk hc1
  clear hr0 hc0 hr1 hc1
  have H : ((hex_Val.f k l1).bind fun t => if t.2.2 = true then match_full.l0 k l0 0 t.1 t.2.1 else some false) = some r := h
  clear h
  obtain ⟨⟨tN, tV, ok⟩, ht, H⟩ := Option.bind_eq_some_iff.mp H
  have HT := Aside0.mk ht
  clear ht
  cases ok with
  | true =>
    have H' : Aside0 (match_full.l0 k l0 0 tN tV = some r) := ⟨by rw [if_pos rfl] at H; exact H⟩
    clear H
    go_enter Try.func26, Try.ntmps26
    go_wp2_with ((with_reducible refine gate_callee (f := 11) rfl ?_); refine goesL_ (some 9) rfl rfl Try.func11 (by kernel_rfl) rfl #[.slice A1 l1.length c1] rfl (by (try simp only [List.map_toArray, List.map_cons, List.map_nil]); first | done | rfl) ?_; (with_reducible refine (hex_Val.calls k _ _ l1 tN tV true _ HR1.out HC1.out HT.out).mono ?_); rintro e w1 ⟨rfl, hb⟩; have HB := Aside0.mk hb; clear hb; refine ⟨_, rfl, ?_⟩)
    refine (match_full.cont k _ _ l0 w1.heap.size tN tV r _ (Kd.C_below HR0.out (below_alloc HB.out _)) HC0.out (by simp) (by simp [go_sem]) (by simp [go_sem]) H'.out).mono ?_
    rintro e w2 ⟨rfl, hb⟩
    have HB2 := Aside0.mk (below_step (below_alloc HB.out _) hb)
    clear hb
    go_wp2
    go_ret
    exact ⟨rfl, HB2.out⟩
  | false =>
    have H' : some false = some r := by rw [if_neg (show ¬ (false = true) by decide)] at H; exact H
    obtain rfl := Option.some.inj H'
    clear H H'
    go_enter Try.func26, Try.ntmps26
    go_wp2_with ((with_reducible refine gate_callee (f := 11) rfl ?_); refine goesL_ (some 9) rfl rfl Try.func11 (by kernel_rfl) rfl #[.slice A1 l1.length c1] rfl (by (try simp only [List.map_toArray, List.map_cons, List.map_nil]); first | done | rfl) ?_; (with_reducible refine (hex_Val.calls k _ _ l1 tN tV false _ HR1.out HC1.out HT.out).mono ?_); rintro e w1 ⟨rfl, hb⟩; have HB := Aside0.mk hb; clear hb; refine ⟨_, rfl, ?_⟩)
    go_ret
    exact ⟨rfl, below_alloc HB.out _⟩

end Go.Proofs.Ytippodpmggcniaa.PSame
