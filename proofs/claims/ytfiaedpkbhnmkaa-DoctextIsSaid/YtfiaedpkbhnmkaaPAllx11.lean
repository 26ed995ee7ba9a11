-- made by xprint.py of this session
import Derived.Test.YtfiaedpkbhnmkaaPAllx0
import Derived.Test.YtfiaedpkbhnmkaaPAllx2
import Derived.Test.YtfiaedpkbhnmkaaPAllx5
import Derived.Test.YtfiaedpkbhnmkaaPAllx8
import Derived.Test.YtfiaedpkbhnmkaaPAllx10
namespace Go.Proofs.Ytfiaedpkbhnmkaa.PAll
open Go.RowKit Go.Proofs.YtfiaedpkbhnmkaaW.PrintWords Go.Proofs.YtfiaedpkbhnmkaaW.PrintLast Go.Proofs.YtfiaedpkbhnmkaaW.PrintMore
attribute [local go_sem] max2_int min2_int max_two min_two max_three min_three max_four min_four   -- for this text's walks alone
set_option linter.unusedVariables false
set_option linter.unusedSimpArgs false

/-! ### EXT doctext_Decode: function 13 -/
/-! doctext.Decode: a text's values. -/
def decN (c : Int) : Int := if tabT c.toNat = 0 then 65533 else tabT c.toNat
def bytes_CutPrefix.f (l0 : List Int) (l1 : List Int) : Option (List Int × Bool) := (bytes_HasPrefix.f l0 l1).bind fun t => if t = true then (if (l1.length : Int) ≤ (l0.length : Int) then some (l0.drop l1.length, true) else none) else some (l0, false)
def doctext_Decode.u (k : Nat) (b : List Int) : Option (List Int) := (utf_Units.f k b).bind fun u => (utf_Dec16.f k u.1).bind fun o => if u.2 = true then (if o.length < 17592186044416 then some (o ++ [65533]) else none) else some o
def doctext_Decode.f (k : Nat) (l0 : List Int) : Option (List Int) := (bytes_CutPrefix.f l0 [254, 255]).bind fun p => if p.2 = true then doctext_Decode.u k p.1 else (if l0.length < 17592186044416 ∧ l0.all (fun x => decide (0 ≤ x ∧ x < 256)) = true then some (l0.map decN) else none)
theorem doctext_Decode.mono : ∀ a0 k, LeO (doctext_Decode.f k a0) (doctext_Decode.f (k + 1) a0) := by
  intro a0 k
  unfold doctext_Decode.f doctext_Decode.u
  refine LeO.bind (LeO.refl _) fun p => LeO.ite ?_ (LeO.refl _)
  exact LeO.bind (utf_Units.mono _ _) fun u => LeO.bind (utf_Dec16.mono _ _) fun o => LeO.refl _
set_option maxRecDepth 100000 in
set_option maxHeartbeats 4000000 in
theorem doctext_Decode.cut (A0 : Option Addr) (c0 : Nat) (l0 : List Int) (A1 : Option Addr) (c1 : Nat) (l1 : List Int) (r1 : List Int) (r2 : Bool) (w : World) (hr0 : Kd.C (Kd.int .u8) w A0 l0.length l0) (hc0 : l0.length ≤ c0) (hr1 : Kd.C (Kd.int .u8) w A1 l1.length l1) (hc1 : l1.length ≤ c1) (h : bytes_CutPrefix.f l0 l1 = some (r1, r2)) :
    Calls Try.prog 28 #[.slice A0 l0.length c0, .slice A1 l1.length c1] w fun e w' => ∃ A c, e = .returned (.tuple #[.slice A r1.length c, .bool r2]) ∧ r1.length ≤ c ∧ (∀ W, Kd.C (Kd.int .u8) W A0 l0.length l0 → Kd.C (Kd.int .u8) W A r1.length r1) ∧ Drawn0 w w' := by
  unfold bytes_CutPrefix.f at h
  obtain ⟨b, hb, h⟩ := Option.bind_eq_some_iff.mp h
  have HP := Aside0.mk hb
  have HR0 := Aside0.mk hr0
  have HC0 := Aside0.mk hc0
  have HR1 := Aside0.mk hr1
  have HC1 := Aside0.mk hc1
  clear hb hr0 hc0 hr1 hc1
  cases b with
  | false =>
    rw [if_neg (by simp)] at h
    obtain ⟨rfl, rfl⟩ := Prod.mk.inj (Option.some.inj h)
    clear h
    go_enter Try.func28, Try.ntmps28
    go_wp2_with ((with_reducible refine gate_callee (f := 45) rfl ?_); refine goesL_ (some 8) rfl rfl Try.func45 (by kernel_rfl) rfl #[.slice A0 l0.length c0, .slice A1 l1.length c1] rfl (by (try simp only [List.map_toArray, List.map_cons, List.map_nil]); first | done | rfl | (simp only [List.length_drop, List.length_take]; rfl)) ?_; (with_reducible refine (bytes_HasPrefix.calls _ _ l0 _ _ l1 false _ ?side1 ?side2 ?side3 ?side4 HP.out).mono ?_); (case side1 => repeat (first | exact HR0.out | (with_reducible refine Kd.C_alloc ?_ _) | (with_reducible refine Kd.C_drewN ?_ _) | (with_reducible refine Kd.C_drew ?_))); (case side2 => exact HC0.out); (case side3 => repeat (first | exact HR1.out | (with_reducible refine Kd.C_alloc ?_ _) | (with_reducible refine Kd.C_drewN ?_ _) | (with_reducible refine Kd.C_drew ?_))); (case side4 => exact HC1.out); rintro e w' ⟨rfl, ⟨nd, rfl⟩⟩; refine ⟨_, rfl, ?_⟩)
    go_ret2
    exact ⟨_, _, rfl, HC0.out, fun _ h => h, by first | exact ⟨_, rfl⟩ | exact ⟨_, (World.drewN_drew _ _).symm⟩⟩
  | true =>
    rw [if_pos rfl] at h
    by_cases q : (l1.length : Int) ≤ (l0.length : Int)
    case neg =>
      rw [if_neg q] at h
      cases h
    rw [if_pos q] at h
    obtain ⟨rfl, rfl⟩ := Prod.mk.inj (Option.some.inj h)
    clear h
    obtain ⟨i0, hi0, _, hsz, _⟩ := info_parts info5
    have hcut := cut_from (P := Try.prog) 25 5 .i64 Try.underlying25 hi0 1 hsz A0 l0.length c0 (l1.length : Int) (by omega) q
    have q' : l1.length ≤ l0.length := by omega
    have hle := Aside0.mk q'
    have p0 : (0 ≤ (l1.length : Int)) = True := eq_true (by omega)
    have p1 : ((l1.length : Int) ≤ (l0.length : Int)) = True := eq_true q
    have e1 : ((l1.length : Int)).toNat = l1.length := by omega
    rw [e1] at hcut
    have hd : l0.length - l1.length = (l0.drop l1.length).length := List.length_drop.symm
    rw [hd] at hcut
    have hr8 : ∀ W, Kd.C (Kd.int .u8) W A0 l0.length l0 → Kd.C (Kd.int .u8) W (if c0 = l1.length then A0 else A0.map (·.add (l1.length * 1))) (l0.drop l1.length).length (l0.drop l1.length) := fun W h => Kd.C_drop h hle.out HC0.out
    have hl8 : (l0.drop l1.length).length ≤ c0 - l1.length := by rw [List.length_drop]; have := HC0.out; omega
    obtain ⟨A8, hA8⟩ : ∃ Aq_, Aq_ = (if c0 = l1.length then A0 else A0.map (·.add (l1.length * 1))) := ⟨_, rfl⟩
    obtain ⟨c8, hc8⟩ : ∃ cq_, cq_ = c0 - l1.length := ⟨_, rfl⟩
    rw [← hA8] at hr8 hcut
    rw [← hc8] at hl8 hcut
    have HR8 := Aside0.mk hr8
    have HL8 := Aside0.mk hl8
    clear hi0 hsz q q' hd hA8 hc8 hr8 hl8
    generalize l0.drop l1.length = y8 at *
    go_enter Try.func28, Try.ntmps28
    go_wp2_with ((with_reducible refine gate_callee (f := 45) rfl ?_); refine goesL_ (some 8) rfl rfl Try.func45 (by kernel_rfl) rfl #[.slice A0 l0.length c0, .slice A1 l1.length c1] rfl (by (try simp only [List.map_toArray, List.map_cons, List.map_nil]); first | done | rfl | (simp only [List.length_drop, List.length_take]; rfl)) ?_; (with_reducible refine (bytes_HasPrefix.calls _ _ l0 _ _ l1 true _ ?side1 ?side2 ?side3 ?side4 HP.out).mono ?_); (case side1 => repeat (first | exact HR0.out | (with_reducible refine Kd.C_alloc ?_ _) | (with_reducible refine Kd.C_drewN ?_ _) | (with_reducible refine Kd.C_drew ?_))); (case side2 => exact HC0.out); (case side3 => repeat (first | exact HR1.out | (with_reducible refine Kd.C_alloc ?_ _) | (with_reducible refine Kd.C_drewN ?_ _) | (with_reducible refine Kd.C_drew ?_))); (case side4 => exact HC1.out); rintro e w' ⟨rfl, ⟨nd, rfl⟩⟩; refine ⟨_, rfl, ?_⟩)
    go_ret2
    exact ⟨_, _, rfl, HL8.out, HR8.out, by first | exact ⟨_, rfl⟩ | exact ⟨_, (World.drewN_drew _ _).symm⟩⟩
theorem doctext_Decode.cut2 (A0 : Option Addr) (c0 : Nat) (l0 : List Int) (A1 : Option Addr) (c1 : Nat) (r1 : List Int) (r2 : Bool) (w : World) (hr0 : Kd.C (Kd.int .u8) w A0 l0.length l0) (hc0 : l0.length ≤ c0) (hr1 : Kd.C (Kd.int .u8) w A1 2 [254, 255]) (hc1 : 2 ≤ c1) (h : bytes_CutPrefix.f l0 [254, 255] = some (r1, r2)) :
    Calls Try.prog 28 #[.slice A0 l0.length c0, .slice A1 2 c1] w fun e w' => ∃ A c, e = .returned (.tuple #[.slice A r1.length c, .bool r2]) ∧ r1.length ≤ c ∧ (∀ W, Kd.C (Kd.int .u8) W A0 l0.length l0 → Kd.C (Kd.int .u8) W A r1.length r1) ∧ Drawn0 w w' :=
  doctext_Decode.cut A0 c0 l0 A1 c1 [254, 255] r1 r2 w hr0 hc0 hr1 hc1 h
theorem store_arr (W : World) (g : Nat) (f f' : Nat → Int) (h : W.heap[g]? = some (.cells (cellsT f) 44 (0, 0))) : (storeCells ⟨g, 0, none⟩ (cellsT f').toList).run Try.prog W = .ok () (W.setRow g (cellsT f')) := by
  have h := run_storeCells_from (P := Try.prog) g 44 (cellsT f').toList 0 _ _ h (by simp [cellsT_size]) (fun v hv => by
    unfold cellsT at hv
    obtain ⟨x, _, rfl⟩ := List.mem_map.mp hv
    rfl)
  simpa [cellsT_size] using h
set_option maxRecDepth 100000 in
set_option maxHeartbeats 8000000 in
theorem doctext_Decode.calls (k : Nat) (A0 : Option Addr) (c0 : Nat) (l0 : List Int) (r : List Int) (w : World) (hr0 : Kd.C (Kd.int .u8) w A0 l0.length l0) (hc0 : l0.length ≤ c0) (h : doctext_Decode.f k l0 = some r) :
    Calls Try.prog 13 #[.slice A0 l0.length c0] w fun e w' => ∃ v0_ : Value, e = .returned (v0_) ∧ Kd.R (Kd.int .i64) 3 w' w.heap.size (fun _ => True) v0_ r ∧ Below w.heap.size w w' := by
  have HR0 := Aside0.mk hr0
  have HC0 := Aside0.mk hc0
  clear hr0 hc0
  have HB := Aside0.mk (Below.refl w.heap.size w)
  unfold doctext_Decode.f at h
  obtain ⟨⟨p, b⟩, hp, h⟩ := Option.bind_eq_some_iff.mp h
  have HP := Aside0.mk hp
  clear hp
  cases b with
  | true =>
    replace h : doctext_Decode.u k p = some r := h
    unfold doctext_Decode.u at h
    obtain ⟨⟨u, odd⟩, hu, h⟩ := Option.bind_eq_some_iff.mp h
    obtain ⟨o, ho, h⟩ := Option.bind_eq_some_iff.mp h
    have HU := Aside0.mk hu
    have HO := Aside0.mk ho
    clear hu ho
    cases odd with
    | true =>
      replace h : (if o.length < 17592186044416 then some (o ++ [65533]) else none) = some r := h
      by_cases hl : o.length < 17592186044416
      case neg =>
        rw [if_neg hl] at h
        cases h
      rw [if_pos hl] at h
      obtain rfl := Option.some.inj h
      have HL := Aside0.mk hl
      clear hl h
      go_enter Try.func13, Try.ntmps13
      go_wp2_with (first | (go_at_call 27; refine (doctext_mark.calls _ _ rfl).mono ?_; rintro e w1 ⟨v0, rfl, ho, hb⟩; obtain ⟨Am, cm, em⟩ := Kd.R_slice ho; subst em; have n0_ := Aside0.mk ho; have n1_ := Aside0.mk (below_step (by repeat (first | (with_reducible first | exact HB.out | apply below_alloc | apply pw_below_drewN | apply below_drew1) | exact HB.out)) hb); clear HB ho hb; have HM := n0_; have HB := n1_; clear n0_ n1_) | ((with_reducible refine gate_callee (f := 28) rfl ?_); refine goesL_ (some 16) rfl rfl Try.func28 (by kernel_rfl) rfl #[.slice A0 l0.length c0, .slice Am 2 cm] rfl (by (try simp only [List.map_toArray, List.map_cons, List.map_nil]); first | done | rfl | (simp only [List.length_drop, List.length_take]; rfl)) ?_; (with_reducible refine (doctext_Decode.cut2 _ _ l0 _ _ p true _ ?side1 ?side2 ?side3 ?side4 HP.out).mono ?_); (case side1 => repeat (first | exact (Kd.C_below HR0.out HB.out) | (with_reducible refine Kd.C_alloc ?_ _) | (with_reducible refine Kd.C_drewN ?_ _) | (with_reducible refine Kd.C_drew ?_))); (case side2 => exact HC0.out); (case side3 => repeat (first | exact (Kd.R_reads' HM.out).2.2 | (with_reducible refine Kd.C_alloc ?_ _) | (with_reducible refine Kd.C_drewN ?_ _) | (with_reducible refine Kd.C_drew ?_))); (case side4 => exact (Kd.R_reads' HM.out).2.1); rintro e w2 ⟨Ac, cc, rfl, hcl, hcr, ⟨nd, rfl⟩⟩; refine ⟨_, rfl, ?_⟩; have HCC := Aside0.mk hcl; have HCR := Aside0.mk hcr; clear hcl hcr) | ((with_reducible refine gate_callee (f := 29) rfl ?_); refine goesL_ (some 22) rfl rfl Try.func29 (by kernel_rfl) rfl #[.slice Ac p.length cc] rfl (by (try simp only [List.map_toArray, List.map_cons, List.map_nil]); first | done | rfl | (simp only [List.length_drop, List.length_take]; rfl)) ?_; (with_reducible refine (utf_Units.calls k (fun _ => True) _ _ p u true _ ?side1 HU.out).mono ?_); (case side1 => exact Kd.V_mk HCC.out (Kd.F_mono (Kd.C_F (Kd.heap_int _) (HCR.out _ (by repeat (first | exact (Kd.C_below HR0.out HB.out) | (with_reducible refine Kd.C_alloc ?_ _) | (with_reducible refine Kd.C_drewN ?_ _) | (with_reducible refine Kd.C_drew ?_))))) (fun _ _ => trivial))); rintro e w3 ⟨v1, rfl, ho, hb⟩; refine ⟨_, rfl, ?_⟩; obtain ⟨Au, cu, eu⟩ := Kd.R_slice ho; subst eu; have n0_ := Aside0.mk (Kd.R_mono (ok' := fun _ => True) ho (fun _ _ => trivial)); have n1_ := Aside0.mk (below_step (by repeat (first | (with_reducible first | exact HB.out | apply below_alloc | apply pw_below_drewN | apply below_drew1) | exact HB.out)) hb); clear HB ho hb; have HO1 := n0_; have HB := n1_; clear n0_ n1_) | ((with_reducible refine gate_callee (f := 17) rfl ?_); refine goesL_ (some 26) rfl rfl Try.func17 (by kernel_rfl) rfl #[.slice Au u.length cu] rfl (by (try simp only [List.map_toArray, List.map_cons, List.map_nil]); first | done | rfl | (simp only [List.length_drop, List.length_take]; rfl)) ?_; (with_reducible refine (utf_Dec16.calls k (fun _ => True) _ _ u o _ ?side1 HO.out).mono ?_); (case side1 => exact Kd.R_V (by ((with_reducible repeat (first | apply Kd.R_alloc | apply Kd.R_drewN | apply Kd.R_drew)); exact HO1.out))); rintro e w4 ⟨v2, rfl, ho, hb⟩; refine ⟨_, rfl, ?_⟩; have n0_ := Aside0.mk (Kd.R_mono (ok' := fun _ => True) (Kd.R_lower ho (below_size (by repeat (first | (with_reducible first | exact HB.out | apply below_alloc | apply pw_below_drewN | apply below_drew1) | exact HB.out)))) (fun _ _ => trivial)); have n1_ := Aside0.mk (below_step (by repeat (first | (with_reducible first | exact HB.out | apply below_alloc | apply pw_below_drewN | apply below_drew1) | exact HB.out)) hb); clear HB ho hb; have HO2 := n0_; have HB := n1_; clear n0_ n1_) | ((with_reducible refine gate_builtin (b := .append) (xs := #[.tmp 28, .tmp 29]) rfl ?_); at_builtin; refine Kd.R_append (Kd.int .i64) (w0 := w) w.heap.size rfl (.tmp 28) (.tmp 29) 22 3 (.int .i64 0) 8 rfl Try.underlying22 info3 rfl (by decide) (by omega) v2 o 65533 [.int .i64 65533] (fun _ => True) (fun _ => False) rfl rfl ?aP (fun _ hk => hk.elim) ?aF ?aO ?aB ?aS ?aL ?_; (case aP => exact rfl); (case aB => exact (by repeat (first | (with_reducible first | exact HB.out | apply below_alloc | apply pw_below_drewN | apply below_drew1) | exact HB.out))); (case aF => exact (fun _ _ => trivial)); (case aO => exact (by ((with_reducible repeat (first | apply Kd.R_alloc | apply Kd.R_drewN | apply Kd.R_drew)); exact HO2.out))); (case aS => exact (below_size (by repeat (first | (with_reducible first | exact HB.out | apply below_alloc | apply pw_below_drewN | apply below_drew1) | exact HB.out)))); (case aL => have := HL.out; omega); intro v5 w5 ho hb hg hat; have HO3 := Aside0.mk ho; clear HB; have HB := Aside0.mk hb; clear ho hb hg hat))
      go_ret
      exact ⟨_, rfl, HO3.out, by repeat (first | (with_reducible first | exact HB.out | apply below_alloc | apply pw_below_drewN | apply below_drew1) | exact HB.out)⟩
    | false =>
      replace h : some o = some r := h
      obtain rfl := Option.some.inj h
      clear h
      go_enter Try.func13, Try.ntmps13
      go_wp2_with (first | (go_at_call 27; refine (doctext_mark.calls _ _ rfl).mono ?_; rintro e w1 ⟨v0, rfl, ho, hb⟩; obtain ⟨Am, cm, em⟩ := Kd.R_slice ho; subst em; have n0_ := Aside0.mk ho; have n1_ := Aside0.mk (below_step (by repeat (first | (with_reducible first | exact HB.out | apply below_alloc | apply pw_below_drewN | apply below_drew1) | exact HB.out)) hb); clear HB ho hb; have HM := n0_; have HB := n1_; clear n0_ n1_) | ((with_reducible refine gate_callee (f := 28) rfl ?_); refine goesL_ (some 16) rfl rfl Try.func28 (by kernel_rfl) rfl #[.slice A0 l0.length c0, .slice Am 2 cm] rfl (by (try simp only [List.map_toArray, List.map_cons, List.map_nil]); first | done | rfl | (simp only [List.length_drop, List.length_take]; rfl)) ?_; (with_reducible refine (doctext_Decode.cut2 _ _ l0 _ _ p true _ ?side1 ?side2 ?side3 ?side4 HP.out).mono ?_); (case side1 => repeat (first | exact (Kd.C_below HR0.out HB.out) | (with_reducible refine Kd.C_alloc ?_ _) | (with_reducible refine Kd.C_drewN ?_ _) | (with_reducible refine Kd.C_drew ?_))); (case side2 => exact HC0.out); (case side3 => repeat (first | exact (Kd.R_reads' HM.out).2.2 | (with_reducible refine Kd.C_alloc ?_ _) | (with_reducible refine Kd.C_drewN ?_ _) | (with_reducible refine Kd.C_drew ?_))); (case side4 => exact (Kd.R_reads' HM.out).2.1); rintro e w2 ⟨Ac, cc, rfl, hcl, hcr, ⟨nd, rfl⟩⟩; refine ⟨_, rfl, ?_⟩; have HCC := Aside0.mk hcl; have HCR := Aside0.mk hcr; clear hcl hcr) | ((with_reducible refine gate_callee (f := 29) rfl ?_); refine goesL_ (some 22) rfl rfl Try.func29 (by kernel_rfl) rfl #[.slice Ac p.length cc] rfl (by (try simp only [List.map_toArray, List.map_cons, List.map_nil]); first | done | rfl | (simp only [List.length_drop, List.length_take]; rfl)) ?_; (with_reducible refine (utf_Units.calls k (fun _ => True) _ _ p u false _ ?side1 HU.out).mono ?_); (case side1 => exact Kd.V_mk HCC.out (Kd.F_mono (Kd.C_F (Kd.heap_int _) (HCR.out _ (by repeat (first | exact (Kd.C_below HR0.out HB.out) | (with_reducible refine Kd.C_alloc ?_ _) | (with_reducible refine Kd.C_drewN ?_ _) | (with_reducible refine Kd.C_drew ?_))))) (fun _ _ => trivial))); rintro e w3 ⟨v1, rfl, ho, hb⟩; refine ⟨_, rfl, ?_⟩; obtain ⟨Au, cu, eu⟩ := Kd.R_slice ho; subst eu; have n0_ := Aside0.mk (Kd.R_mono (ok' := fun _ => True) ho (fun _ _ => trivial)); have n1_ := Aside0.mk (below_step (by repeat (first | (with_reducible first | exact HB.out | apply below_alloc | apply pw_below_drewN | apply below_drew1) | exact HB.out)) hb); clear HB ho hb; have HO1 := n0_; have HB := n1_; clear n0_ n1_) | ((with_reducible refine gate_callee (f := 17) rfl ?_); refine goesL_ (some 26) rfl rfl Try.func17 (by kernel_rfl) rfl #[.slice Au u.length cu] rfl (by (try simp only [List.map_toArray, List.map_cons, List.map_nil]); first | done | rfl | (simp only [List.length_drop, List.length_take]; rfl)) ?_; (with_reducible refine (utf_Dec16.calls k (fun _ => True) _ _ u o _ ?side1 HO.out).mono ?_); (case side1 => exact Kd.R_V (by ((with_reducible repeat (first | apply Kd.R_alloc | apply Kd.R_drewN | apply Kd.R_drew)); exact HO1.out))); rintro e w4 ⟨v2, rfl, ho, hb⟩; refine ⟨_, rfl, ?_⟩; have n0_ := Aside0.mk (Kd.R_mono (ok' := fun _ => True) (Kd.R_lower ho (below_size (by repeat (first | (with_reducible first | exact HB.out | apply below_alloc | apply pw_below_drewN | apply below_drew1) | exact HB.out)))) (fun _ _ => trivial)); have n1_ := Aside0.mk (below_step (by repeat (first | (with_reducible first | exact HB.out | apply below_alloc | apply pw_below_drewN | apply below_drew1) | exact HB.out)) hb); clear HB ho hb; have HO2 := n0_; have HB := n1_; clear n0_ n1_))
      go_ret
      exact ⟨_, rfl, HO2.out, by repeat (first | (with_reducible first | exact HB.out | apply below_alloc | apply pw_below_drewN | apply below_drew1) | exact HB.out)⟩
  | false =>
    replace h : (if l0.length < 17592186044416 ∧ l0.all (fun x => decide (0 ≤ x ∧ x < 256)) = true then some (l0.map decN) else none) = some r := h
    by_cases hg : l0.length < 17592186044416 ∧ l0.all (fun x => decide (0 ≤ x ∧ x < 256)) = true
    case neg =>
      rw [if_neg hg] at h
      cases h
    rw [if_pos hg] at h
    obtain rfl := Option.some.inj h
    have HL := Aside0.mk hg.1
    have HW := Aside0.mk (List.all_eq_true.mp hg.2)
    clear h hg
    go_enter Try.func13, Try.ntmps13
    go_wp2_with (first | (go_at_call 27; refine (doctext_mark.calls _ _ rfl).mono ?_; rintro e w1 ⟨v0, rfl, ho, hb⟩; obtain ⟨Am, cm, em⟩ := Kd.R_slice ho; subst em; have n0_ := Aside0.mk ho; have n1_ := Aside0.mk (below_step (by repeat (first | (with_reducible first | exact HB.out | apply below_alloc | apply pw_below_drewN | apply below_drew1) | exact HB.out)) hb); clear HB ho hb; have HM := n0_; have HB := n1_; clear n0_ n1_) | ((with_reducible refine gate_callee (f := 28) rfl ?_); refine goesL_ (some 16) rfl rfl Try.func28 (by kernel_rfl) rfl #[.slice A0 l0.length c0, .slice Am 2 cm] rfl (by (try simp only [List.map_toArray, List.map_cons, List.map_nil]); first | done | rfl | (simp only [List.length_drop, List.length_take]; rfl)) ?_; (with_reducible refine (doctext_Decode.cut2 _ _ l0 _ _ p false _ ?side1 ?side2 ?side3 ?side4 HP.out).mono ?_); (case side1 => repeat (first | exact (Kd.C_below HR0.out HB.out) | (with_reducible refine Kd.C_alloc ?_ _) | (with_reducible refine Kd.C_drewN ?_ _) | (with_reducible refine Kd.C_drew ?_))); (case side2 => exact HC0.out); (case side3 => repeat (first | exact (Kd.R_reads' HM.out).2.2 | (with_reducible refine Kd.C_alloc ?_ _) | (with_reducible refine Kd.C_drewN ?_ _) | (with_reducible refine Kd.C_drew ?_))); (case side4 => exact (Kd.R_reads' HM.out).2.1); rintro e w2 ⟨Ac, cc, rfl, hcl, hcr, ⟨nd, rfl⟩⟩; refine ⟨_, rfl, ?_⟩; have HCC := Aside0.mk hcl; have HCR := Aside0.mk hcr; clear hcl hcr) | (go_at_call 30; refine (doctext_table.calls _).mono ?_; rintro e w3 ⟨rfl, hb⟩; have n1_ := Aside0.mk (below_step (by repeat (first | (with_reducible first | exact HB.out | apply below_alloc | apply pw_below_drewN | apply below_drew1) | exact HB.out)) hb); clear HB hb; have HB := n1_; clear n1_) | ((with_reducible refine gate_dst (N := 9) rfl ?_); refine box_event ?hg (N := 9) ?hd (cs := cellsT (tab0 0)) (t := 44) ?hr ?_; (case hd => rfl); (case hg => rfl); (case hr => kernel_rfl); intro gt hg w4 hbox hb; have hst := store_arr w4 gt (tab0 0) tabT hbox; have n1_ := Aside0.mk (setRow_heap w4 gt _ (cellsT tabT) _ _ hbox); have n0_ := Aside0.mk (below_setRow (below_step (by repeat (first | (with_reducible first | exact HB.out | apply below_alloc | apply pw_below_drewN | apply below_drew1) | exact HB.out)) hb) (show w.heap.size ≤ gt by rw [hg]; exact below_size (by repeat (first | (with_reducible first | exact HB.out | apply below_alloc | apply pw_below_drewN | apply below_drew1) | exact HB.out))) (cellsT tabT)); clear HB; have HB := n0_; have BKt := n1_; clear n0_ n1_; clear hb hbox hg))
    go_loopg [8, 35] (l0.length + 1) (fun kq v8 v35 w' => ∃ (i : Nat), v35 = .int .i64 (i : Nat) ∧ Aside0 (i ≤ l0.length ∧ l0.length + 1 ≤ kq + i) ∧ Aside0 (w'.heap[gt]? = some (.cells (cellsT tabT) 44 (0, 0))) ∧ Aside0 (Kd.R (Kd.int .i64) 3 w' w.heap.size (fun _ => True) v8 ((l0.take i).map decN)) ∧ Aside0 (Below w.heap.size w w'))
    case atStart => exact ⟨0, rfl, ⟨by omega⟩, BKt, ⟨Kd.R_nil _ _ _ _ _⟩, HB⟩
    case round =>
      clear BKt HB
      obtain ⟨i, rfl, HI, BKt, HO, HB⟩ := hrel
      cases gk with
      | zero => have := HI.out; omega
      | succ k1 =>
        by_cases hi : i < l0.length
        · obtain ⟨ad, ead, hcell⟩ := Kd.at_int (Kd.C_below HR0.out HB.out) (i : Int) (by omega) (by omega)
          subst ead
          have hrd : rd l0 (i : Int) = l0[i] := by unfold rd; simp [List.getD, hi]
          rw [hrd, Int.toNat_natCast] at hcell
          have hb := of_decide_eq_true (HW.out l0[i] (List.getElem_mem hi))
          obtain ⟨c, hc⟩ := Int.eq_ofNat_of_zero_le hb.1
          have hc2 : c < 256 := by have := hb.2; omega
          rw [hc] at hcell
          have hte : decN l0[i] = if tabT c = 0 then 65533 else tabT c := by unfold decN; rw [hc]; rfl
          have htk : (l0.take (i + 1)).map decN = (l0.take i).map decN ++ [decN l0[i]] := by rw [List.take_succ_eq_append_getElem hi, List.map_append]; rfl
          have ht0 : wr.cell? ⟨gt, c, none⟩ = some (.int .i64 (tabT c)) := (blk_cell BKt.out c).trans (cellsT_get _ hc2)
          have ht1 := blk_frozen BKt.out c
          have p0 : (0 ≤ (i : Int)) = True := eq_true (by omega)
          have p1 : ((i : Int) < (l0.length : Int)) = True := eq_true (by omega)
          have p2 : (0 ≤ (c : Int)) = True := eq_true (by omega)
          have p3 : ((c : Int) < 256) = True := eq_true (by omega)
          have HTK := Aside0.mk htk
          have HTE := Aside0.mk hte
          have HLi := Aside0.mk hi
          clear htk hte hb hc hc2 hrd
          by_cases hz : tabT c = 0
          · have hz1 : (tabT c == 0) = true := by rw [hz]; rfl
            have HZ := Aside0.mk hz
            clear hz
            go_wp2_with ((with_reducible refine gate_builtin (b := .append) (xs := #[.tmp 44, .tmp 46]) rfl ?_); at_builtin; refine Kd.R_append (Kd.int .i64) (w0 := w) w.heap.size rfl (.tmp 44) (.tmp 46) 22 3 (.int .i64 0) 8 rfl Try.underlying22 info3 rfl (by decide) (by omega) u8 ((l0.take i).map decN) 65533 [.int .i64 65533] (fun _ => True) (fun _ => False) rfl rfl ?aP (fun _ hk => hk.elim) ?aF ?aO ?aB ?aS ?aL ?_; (case aP => exact rfl); (case aB => exact (by repeat (first | (with_reducible first | exact HB.out | apply below_alloc | apply pw_below_drewN | apply below_drew1) | exact HB.out))); (case aF => exact (fun _ _ => trivial)); (case aO => exact (by ((with_reducible repeat (first | apply Kd.R_alloc | apply Kd.R_drewN | apply Kd.R_drew)); exact HO.out))); (case aS => exact (below_size (by repeat (first | (with_reducible first | exact HB.out | apply below_alloc | apply pw_below_drewN | apply below_drew1) | exact HB.out)))); (case aL => have := (show ((l0.take i).map decN).length < 17592186044416 by rw [List.length_map, List.length_take]; have := HL.out; omega); omega); intro v5 w5 ho hb hg hat; have n2_ := Aside0.mk (blk_grown BKt.out hg (Kd.R_ne HO.out BKt.out (by decide))); have HO2 := Aside0.mk ho; clear HB; have HB := Aside0.mk hb; have BKt2 := n2_; clear n2_ ho hb hg hat)
            go_roundg k1
            case measure => have := HI.out; omega
            case rel => exact ⟨i + 1, (by first | rfl | (have := HL.out; have := HLi.out; congr 1; unfold wrap64; omega) | (have := HL.out; have := HLi.out; simp [wrap64]; omega)), ⟨by have := HI.out; omega⟩, BKt2, ⟨by rw [HTK.out, HTE.out, if_pos HZ.out]; exact HO2.out⟩, HB⟩
          · have hz1 : (tabT c == 0) = false := beq_eq_false_iff_ne.mpr hz
            have HZ := Aside0.mk hz
            clear hz
            go_wp2_with ((with_reducible refine gate_builtin (b := .append) (xs := #[.tmp 44, .tmp 46]) rfl ?_); at_builtin; refine Kd.R_append (Kd.int .i64) (w0 := w) w.heap.size rfl (.tmp 44) (.tmp 46) 22 3 (.int .i64 0) 8 rfl Try.underlying22 info3 rfl (by decide) (by omega) u8 ((l0.take i).map decN) (tabT c) [.int .i64 (tabT c)] (fun _ => True) (fun _ => False) rfl rfl ?aP (fun _ hk => hk.elim) ?aF ?aO ?aB ?aS ?aL ?_; (case aP => exact rfl); (case aB => exact (by repeat (first | (with_reducible first | exact HB.out | apply below_alloc | apply pw_below_drewN | apply below_drew1) | exact HB.out))); (case aF => exact (fun _ _ => trivial)); (case aO => exact (by ((with_reducible repeat (first | apply Kd.R_alloc | apply Kd.R_drewN | apply Kd.R_drew)); exact HO.out))); (case aS => exact (below_size (by repeat (first | (with_reducible first | exact HB.out | apply below_alloc | apply pw_below_drewN | apply below_drew1) | exact HB.out)))); (case aL => have := (show ((l0.take i).map decN).length < 17592186044416 by rw [List.length_map, List.length_take]; have := HL.out; omega); omega); intro v5 w5 ho hb hg hat; have n2_ := Aside0.mk (blk_grown BKt.out hg (Kd.R_ne HO.out BKt.out (by decide))); have HO2 := Aside0.mk ho; clear HB; have HB := Aside0.mk hb; have BKt2 := n2_; clear n2_ ho hb hg hat)
            go_roundg k1
            case measure => have := HI.out; omega
            case rel => exact ⟨i + 1, (by first | rfl | (have := HL.out; have := HLi.out; congr 1; unfold wrap64; omega) | (have := HL.out; have := HLi.out; simp [wrap64]; omega)), ⟨by have := HI.out; omega⟩, BKt2, ⟨by rw [HTK.out, HTE.out, if_neg HZ.out]; exact HO2.out⟩, HB⟩
        · obtain rfl : i = l0.length := by have := HI.out; omega
          have ho := HO.out
          rw [List.take_length] at ho
          clear HO
          have HO := Aside0.mk ho
          clear ho
          go_wp2
          go_ret
          exact ⟨_, rfl, HO.out, by repeat (first | (with_reducible first | exact HB.out | apply below_alloc | apply pw_below_drewN | apply below_drew1) | exact HB.out)⟩

end Go.Proofs.Ytfiaedpkbhnmkaa.PAll
