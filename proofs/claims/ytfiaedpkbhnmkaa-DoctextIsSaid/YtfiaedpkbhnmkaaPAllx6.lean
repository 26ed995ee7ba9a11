-- made by xprint.py of this session
import Derived.Test.YtfiaedpkbhnmkaaPAllx0
import Derived.Test.YtfiaedpkbhnmkaaPAllx3
import Derived.Test.YtfiaedpkbhnmkaaPAllx4
import Derived.Test.YtfiaedpkbhnmkaaPAllx5
import Derived.Maps.OwnSet
import Derived.Recover
import Derived.Defers
import Derived.WalkLawsBesides
import Derived.RegionTactic
import Derived.Laws.AppendOwn
import Derived.Deep.RegionHeld3
namespace Go.Proofs.Ytfiaedpkbhnmkaa.PAll
open Go.RowKit Go.Proofs.YtfiaedpkbhnmkaaW.PrintWords Go.Proofs.YtfiaedpkbhnmkaaW.PrintLast Go.Proofs.YtfiaedpkbhnmkaaW.PrintMore
attribute [local go_sem] max2_int min2_int max_two min_two max_three min_three max_four min_four   -- for this text's walks alone
set_option linter.unusedVariables false
set_option linter.unusedSimpArgs false

/-! ### EXT doctext_plain: function 26 -/
-- IMPORTS Derived.Maps.OwnSet;Derived.Recover;Derived.Defers;Derived.WalkLawsBesides;Derived.RegionTactic;Derived.Laws.AppendOwn;Derived.Deep.RegionHeld3
/-! doctext.plain: the byte of each; a panic is caught. -/
set_option maxRecDepth 100000 in
set_option maxHeartbeats 2000000 in
open Go.Maps in
theorem doctext_must.ok (b : Nat) (r : Int) (w : World) (hown : w.ownsMap Try.prog 3 (plainElem (H := Unit) Try.prog 3) b 256 (backM 256)) (hwf : (Lit.int .i64 r).wf = true) (hh : byteH r = true) :
    Calls Try.prog 44 #[.map (some b), .int .i64 r] w fun e w' => e = .returned (.int .u8 (byteI r % 256)) ∧ w' = w := by
  have HO := Aside0.mk hown
  have HW := Aside0.mk hwf
  clear hown hwf
  unfold byteH at hh
  go_enter Try.func44, Try.ntmps44
  go_wp2_with (at_lookup; refine wpList_lookup_own_ok_int _ rfl _ _ 49 rfl 3 3 .i64 (int_keyed Try.underlying3) Try.underlying49 Try.underlying3 (Try.zeroValue3 _) b 256 _ rfl HO.out _ _ rfl (keyOf_int_mk Try.underlying3 HW.out) ?_; intro c hat hwc; have hc := byteI_of hat; clear hat hwc; subst hc)
  go_ret
  exact ⟨by first | rfl | (simp; done), rfl⟩
set_option maxRecDepth 100000 in
set_option maxHeartbeats 2000000 in
open Go.Maps in
theorem doctext_must.no (b : Nat) (r : Int) (w : World) (hown : w.ownsMap Try.prog 3 (plainElem (H := Unit) Try.prog 3) b 256 (backM 256)) (hwf : (Lit.int .i64 r).wf = true) (hh : byteH r = false) :
    Calls Try.prog 44 #[.map (some b), .int .i64 r] w fun e w' => e = .panicked [{ v := .iface 52 (.int .i64 r), recovered := false }] ∧ w' = w := by
  have HO := Aside0.mk hown
  have HW := Aside0.mk hwf
  clear hown hwf
  unfold byteH at hh
  go_enter Try.func44, Try.ntmps44
  go_wp2_with (at_lookup; refine wpList_lookup_own_ok_int _ rfl _ _ 49 rfl 3 3 .i64 (int_keyed Try.underlying3) Try.underlying49 Try.underlying3 (Try.zeroValue3 _) b 256 _ rfl HO.out _ _ rfl (keyOf_int_mk Try.underlying3 HW.out) ?_; intro c hat hwc; have hc := byteI_of hat; clear hat hwc; subst hc)
  exact ⟨rfl, rfl, rfl⟩
theorem doctext_plain.panicking (g h : Nat) (v0 v1 : Value) (u : TypeId) (pv : Value) (older : List PanicEntry) (w : World) (hc : w.cell? ⟨g, 0, none⟩ = some v0) (hz : w.frozen? ⟨g, 0, none⟩ = false) (hc1 : w.cell? ⟨h, 0, none⟩ = some v1) (hz1 : w.frozen? ⟨h, 0, none⟩ = false) (hpq : g ≠ h) (hqp : h ≠ g) :
    CallsD Try.prog 43 #[.pointer (some ⟨g, 0, none⟩), .pointer (some ⟨h, 0, none⟩)] (.panicking ({ v := .iface u pv, recovered := false } :: older)) w fun e u' w' =>
      e = .returned (.tuple #[]) ∧ u' = .panicking ({ v := .iface u pv, recovered := true } :: older) ∧ w' = (w.setCell ⟨g, 0, none⟩ (.slice none 0 0)).setCell ⟨h, 0, none⟩ (.bool false) := by
  refine callsD_of_wpS Try.func43 rfl fun c₀ cs hu => ?_
  apply wpS_seq
  apply wpS_region
  simp [wpOpsS, go_sem, recoverD, hu, Try.ntmps43, Exit.thenS]
  apply wpS_seq
  apply wpS_region
  simp [wpOpsS, go_sem, Exit.thenS]
  refine wpS_cond (t := true) (by simp [Act.eval, Array.replicate]) ?_
  simp only [if_true]
  apply wpS_region
  simp [wpOpsS, go_sem, hc, hz, hc1, hz1, hpq, hqp, bodyPostS, results, Try.results43]
theorem doctext_plain.idle (p q : Addr) (w : World) :
    CallsD Try.prog 43 #[.pointer (some p), .pointer (some q)] .returning w fun e u' w' => e = .returned (.tuple #[]) ∧ u' = .returning ∧ w' = w := by
  refine callsD_of_wpS Try.func43 rfl fun c₀ cs hu => ?_
  apply wpS_seq
  apply wpS_region
  simp [wpOpsS, go_sem, recoverD, hu, Try.ntmps43, Exit.thenS]
  apply wpS_seq
  apply wpS_region
  simp [wpOpsS, go_sem, Exit.thenS]
  refine wpS_cond (t := false) (by simp [Act.eval, Array.replicate]) ?_
  simp only [Bool.false_eq_true, if_false]
  refine wpS_of_wp (wp_skip ?_)
  cases c₀
  simp_all [bodyPostS, results, Try.results43]
def byteT (x : Int) : Int := byteI x % 256
theorem doctext_plain.rbase {W : World} {base : Nat} {ok : Nat → Prop} {v : Value} {xs : List Int} (h : Kd.R (Kd.int .u8) 5 W base ok v xs) : ∀ j, v.ownBlock = some j → base ≤ j := by
  obtain ⟨_, inner, ho, hr⟩ := h
  exact own_base ho
theorem doctext_plain.appendRun {P : Program} {ops : Array Oper} {o : Oper} {a : Act} {w w' : World} {K : Act → World → Prop} {Q : Exit → Act → World → Prop} {E : Prop} {v vs vx : Value} (s x : Operand) (t : TypeId) (hw : Region.wanted o (yielded ops a.tmps) = true)
    (ho : o.op = .call { callee := .builtin .append, args := #[s, x], argTypes := #[t, t] }) (hs : a.eval s = vs) (hx : a.eval x = vx) (hrun : (Builtin.append_ #[t, t] o.type #[vs, vx]).run P w = .ok v w') (h : K (a.put o.dst v) w') :
    if Region.wanted o (yielded ops a.tmps) = true then Oper.wp P o a w K Q else E := by
  rw [if_pos hw]
  unfold Oper.wp execOp
  simp only [ho, resolve, invoke, builtin, Sem.run_bind, Sem.run_pure, Result.andThen_ok, List.map_toArray, List.map_cons, List.map_nil, hs, hx, hrun]
  exact h
theorem doctext_plain.push (W : World) (base : Nat) (vo : Value) (xs : List Int) (x : Int) (hR : Kd.R (Kd.int .u8) 5 W base (fun _ => True) vo xs) (hb : base ≤ W.heap.size) (hl : xs.length + 1 ≤ 1000000000) :
    ∃ v' w', (Builtin.append_ #[25, 25] 25 #[vo, .slice (some ⟨W.heap.size, 0, none⟩) 1 1]).run Try.prog (W.alloc (.cells #[.int .u8 x] 5)) = .ok v' w' ∧ Kd.R (Kd.int .u8) 5 w' base (fun _ => True) v' (xs ++ [x]) ∧ (W.alloc (.cells #[.int .u8 x] 5)).grownBy w' vo.ownBlock := by
  obtain ⟨i0, hi, hzz⟩ := Option.map_eq_some_iff.mp info5
  have hz0 : i0.zero = some (.int .u8 0) := congrArg (·.1) hzz
  have hz1 : i0.size = 1 := congrArg (·.2.1) hzz
  have hz2 : i0.bytes = 1 := congrArg (·.2.2) hzz
  have ho := Kd.own_of_R (Kd.R_alloc hR (.cells #[.int .u8 x] 5))
  have hb' : base ≤ (W.alloc (.cells #[.int .u8 x] 5)).heap.size := by simp; omega
  obtain ⟨v', w', h1, h2, h3, _⟩ := run_append_own (P := Try.prog) (W.alloc (.cells #[.int .u8 x] 5)) base 25 25 5 i0 _ 1 1 Try.underlying25 hi hz0 hz1 hz2 rfl (by decide) vo xs.length _ ho ⟨W.heap.size, 0, none⟩ 1 1 [.int .u8 x] rfl (fun j u hu => by
    cases j with
    | zero =>
      cases hu
      exact (blk_cell (heap_alloc_new W _) 0).trans rfl
    | succ j => cases hu) (fun u hu => by
    obtain rfl : u = .int .u8 x := by simpa using hu
    rfl) (by unfold maxLen; omega) (by omega) hb'
  refine ⟨v', w', h1, ?_, h3⟩
  have e : (xs ++ [x]).length = xs.length + 1 := by simp
  refine Kd.R_of_own (xs := xs ++ [x]) ?_ (fun _ _ => trivial)
  rw [e]
  simpa [encs] using h2
theorem map_not_row {H : Type} {P : Program} {k : TypeId} {R : Value → Option (DataW H × List MemPlace)} {b n : Nat} {D : DataW H} {W : World} (h : W.ownsMap P k R b n D) {g t : Nat} {cs : Array Value} {fr : Nat × Nat} (hg : W.heap[g]? = some (.cells cs t fr)) : b ≠ g := by
  obtain ⟨es, clock, hh, r⟩ := h
  rintro rfl
  rw [hg] at hh
  cases hh
theorem map_not_own {H : Type} {P : Program} {k : TypeId} {R : Value → Option (DataW H × List MemPlace)} {b n : Nat} {D : DataW H} {W : World} (h : W.ownsMap P k R b n D) {base : Nat} {v : Value} {xs : List Int} (hR : Kd.R (Kd.int .u8) 5 W base (fun _ => True) v xs) : some b ≠ v.ownBlock := by
  intro e
  obtain ⟨cells, hc⟩ := own_typed hR.2.choose_spec.1 b e.symm
  exact map_not_row h hc rfl
theorem ownsMap_set {H : Type} {P : Program} {k : TypeId} {R : Value → Option (DataW H × List MemPlace)} {b n : Nat} {D : DataW H} {W : World} (h : W.ownsMap P k R b n D) (g : Nat) (v : Value) (hne : b ≠ g) : (W.setCell ⟨g, 0, none⟩ v).ownsMap P k R b n D := by
  obtain ⟨es, clock, hh, r⟩ := h
  exact ⟨es, clock, (Below.heap_setCell W ⟨g, 0, none⟩ v b hne).trans hh, r⟩
theorem doctext_plain.pre (Ao : Option Addr) (co : Nat) (xs : List Int) (n : Nat) (hn : n = xs.length) (Am : Option Addr) (cm : Nat) (b0 : Bool) (w : World) (h1 : Kd.C (Kd.int .u8) w Ao xs.length xs) (h2 : xs.length ≤ co) (h3 : Kd.C (Kd.int .u8) w Am 2 [254, 255]) (h4 : 2 ≤ cm) (h : bytes_HasPrefix.f xs [254, 255] = some b0) :
    Calls Try.prog 45 #[.slice Ao n co, .slice Am 2 cm] w fun e w' => e = .returned (.bool b0) ∧ Drawn0 w w' := by
  subst hn
  exact bytes_HasPrefix.calls Ao co xs Am cm [254, 255] b0 w h1 h2 h3 h4 h
theorem doctext_plain.res (tmps : Array Value) (W : World) (g h : Nat) (v u : Value) (h2 : tmps.getD 2 undef = .pointer (some ⟨g, 0, none⟩)) (h3 : tmps.getD 3 undef = .pointer (some ⟨h, 0, none⟩)) (hc : W.cell? ⟨g, 0, none⟩ = some v) (hc1 : W.cell? ⟨h, 0, none⟩ = some u) :
    (results Try.f26 tmps).run Try.prog W = .ok (.tuple #[v, u]) W := by
  have h2' : tmps[2]?.getD undef = .pointer (some ⟨g, 0, none⟩) := by simpa using h2
  have h3' : tmps[3]?.getD undef = .pointer (some ⟨h, 0, none⟩) := by simpa using h3
  simp [results, Try.results26, go_sem, h2', h3', hc, hc1]
def doctext_plain.f (l0 : List Int) : Option (List Int × Bool) := if l0.all (fun x => (Lit.int .i64 x).wf) = true ∧ l0.length ≤ 999999999 then (if l0.all byteH = true then (bytes_HasPrefix.f (l0.map byteT) [254, 255]).bind fun b => some (l0.map byteT, !b) else some ([], false)) else none
set_option maxRecDepth 100000 in
set_option maxHeartbeats 8000000 in
open Go.Maps in
theorem doctext_plain.calls (A0 : Option Addr) (c0 : Nat) (l0 : List Int) (r1 : List Int) (r2 : Bool) (w : World) (hr0 : Kd.C (Kd.int .i64) w A0 l0.length l0) (hc0 : l0.length ≤ c0) (h : doctext_plain.f l0 = some (r1, r2)) :
    Calls Try.prog 26 #[.slice A0 l0.length c0] w fun e w' => ∃ v0_ : Value, e = .returned (.tuple #[v0_, .bool r2]) ∧ Kd.R (Kd.int .u8) 5 w' w.heap.size (fun _ => True) v0_ r1 ∧ Below w.heap.size w w' := by
  unfold doctext_plain.f at h
  by_cases hw : l0.all (fun x => (Lit.int .i64 x).wf) = true ∧ l0.length ≤ 999999999
  case neg =>
    rw [if_neg hw] at h
    cases h
  rw [if_pos hw] at h
  have H := Aside0.mk h
  have HW := Aside0.mk (List.all_eq_true.mp hw.1)
  have HL := Aside0.mk hw.2
  have HR0 := Aside0.mk hr0
  have HC0 := Aside0.mk hc0
  clear h hw hr0 hc0
  have hmf : ∀ (fn : Fn) (first cap : Array Value) (w : World), (Instr.makeFunc fn first cap).run Try.prog w = .ok (.func fn first cap) w := fun _ _ _ _ => rfl
  have HB := Aside0.mk (Below.refl w.heap.size w)
  go_enter_defers Try.func26, Try.ntmps26
  go_wp2_with (first | ((with_reducible refine gate_dst (N := 2) rfl ?_); refine box_event ?hg (N := 2) ?hd (cs := #[.slice none 0 0]) (t := 25) ?hr ?_; (case hd => rfl); (case hg => rfl); (case hr => first | (go_simp; done) | (go_simp; rfl)); intro gp hg w1 hbox hb; have n0_ := Aside0.mk (below_step HB.out hb); have n1_ := Aside0.mk hbox; have n2_ := Aside0.mk ((by rw [hg]; exact Nat.le_refl _) : w.heap.size ≤ gp); clear HB; have HB := n0_; have BKo := n1_; have GEo := n2_; clear n0_ n1_ n2_; clear hb hbox hg) | ((with_reducible refine gate_dst (N := 3) rfl ?_); refine box_event ?hg (N := 3) ?hd (cs := #[.bool false]) (t := 4) ?hr ?_; (case hd => rfl); (case hg => rfl); (case hr => first | (go_simp; done) | (go_simp; rfl)); intro gq hg w2 hbox hb; have n0_ := Aside0.mk (below_step HB.out hb); have n1_ := Aside0.mk hbox; have n2_ := Aside0.mk ((by rw [hg]; exact below_size HB.out) : w.heap.size ≤ gq); have n3_ := Aside0.mk (blk_below BKo.out hb); have n4_ := Aside0.mk ((by rw [hg]; exact Nat.ne_of_lt (blk_lt BKo.out)) : gp ≠ gq); clear HB BKo; have HB := n0_; have BKk := n1_; have GEk := n2_; have BKo := n3_; have NB := n4_; clear n0_ n1_ n2_ n3_ n4_; clear hb hbox hg) | (go_at_call 37; refine (doctext_back.calls _).mono ?_; rintro e w3 ⟨b, rfl, hown, hb⟩; have n0_ := Aside0.mk (blk_below BKo.out hb); have n1_ := Aside0.mk (blk_below BKk.out hb); have n2_ := Aside0.mk hown; have n3_ := Aside0.mk (below_step HB.out hb); clear HB BKo BKk; have BKo := n0_; have BKk := n1_; have HM := n2_; have HB := n3_; clear n0_ n1_ n2_ n3_ hown hb))
  go_loopg [11] (l0.length + 1) (fun kq v11 w' => ∃ (i : Nat) (vo : Value), v11 = .int .i64 (i : Nat) ∧ Aside0 (i ≤ l0.length ∧ l0.length + 1 ≤ kq + i) ∧ Aside0 (w'.heap[gp]? = some (.cells #[vo] 25 (0, 0))) ∧ Aside0 (w'.heap[gq]? = some (.cells #[.bool false] 4 (0, 0))) ∧ Aside0 (Kd.R (Kd.int .u8) 5 w' w.heap.size (fun _ => True) vo ((l0.take i).map byteT)) ∧ Aside0 (w'.ownsMap Try.prog 3 (plainElem (H := Unit) Try.prog 3) b 256 (backM 256)) ∧ Aside0 (∀ x ∈ l0.take i, byteH x = true) ∧ Aside0 (Below w.heap.size w w'))
  case atStart => exact ⟨0, .slice none 0 0, rfl, ⟨by omega⟩, BKo, BKk, ⟨Kd.R_nil _ _ _ _ _⟩, HM, ⟨fun x hx => by simp at hx⟩, HB⟩
  case round =>
    clear BKo BKk HM HB
    obtain ⟨i, vo, rfl, HI, BKo, BKk, HO, HM, HA, HB⟩ := hrel
    cases gk with
    | zero => have := HI.out; omega
    | succ k1 =>
      by_cases hi : i < l0.length
      · have hgl : 0 < 1 := Nat.one_pos
        obtain ⟨ad, ead, hcell⟩ := Kd.at_int (Kd.C_below HR0.out HB.out) (i : Int) (by omega) (by omega)
        subst ead
        have hrd : rd l0 (i : Int) = l0[i] := by unfold rd; simp [List.getD, hi]
        rw [hrd, Int.toNat_natCast] at hcell
        have hwf := HW.out l0[i] (List.getElem_mem hi)
        have p0 : (0 ≤ (i : Int)) = True := eq_true (by omega)
        have p1 : ((i : Int) < (l0.length : Int)) = True := eq_true (by omega)
        have hco : wr.cell? ⟨gp, 0, none⟩ = some vo := (blk_cell BKo.out 0).trans rfl
        have hfo := blk_frozen BKo.out 0
        by_cases hyes : byteH l0[i] = true
        · obtain ⟨v', w5, hap, hR5, hgr⟩ := doctext_plain.push wr.drew w.heap.size vo ((l0.take i).map byteT) (byteT l0[i]) (Kd.R_drew HO.out) (by have := below_size HB.out; simpa using this) (by rw [List.length_map, List.length_take]; have := HL.out; omega)
          obtain ⟨Av, cv, ev⟩ := Kd.R_slice hR5
          subst ev
          have hlen : ((l0.take i).map byteT ++ [byteT l0[i]]).length = i + 1 := by rw [List.length_append, List.length_map, List.length_take, List.length_singleton]; omega
          rw [hlen] at hR5 hap
          have hap' : (Builtin.append_ #[25, 25] 25 #[vo, .slice (some ⟨wr.heap.size, 0, none⟩) 1 1]).run Try.prog (wr.drew.alloc (.cells #[.int .u8 (byteI l0[i] % 256)] 5)) = .ok (.slice Av (i + 1) cv) w5 := hap
          have hcq : (wr.alloc (.cells #[.int .u8 (byteI l0[i] % 256)] 5)).cell? ⟨gp, 0, none⟩ = some vo := (blk_cell (blk_alloc BKo.out _) 0).trans rfl
          have q1 := Aside0.mk (blk_grown (blk_alloc (blk_drew BKo.out) _) hgr (Kd.R_ne HO.out BKo.out (by decide)))
          have q2 := Aside0.mk (blk_grown (blk_alloc (blk_drew BKk.out) _) hgr (Kd.R_ne HO.out BKk.out (by decide)))
          have q3 := Aside0.mk ((HM.out.drew.alloc _).kept hgr (map_not_own HM.out HO.out))
          have q4 := Aside0.mk hR5
          have q5 := Aside0.mk (Below.grown (below_alloc (below_drew HB.out) _) hgr (by have := below_size HB.out; simp; omega) (doctext_plain.rbase HO.out))
          have hc5 : w5.cell? ⟨gp, 0, none⟩ = some vo := (blk_cell q1.out 0).trans rfl
          have hf5 := blk_frozen q1.out 0
          clear hap hR5 hgr
          have htk : (l0.take (i + 1)).map byteT = (l0.take i).map byteT ++ [byteT l0[i]] := by rw [List.take_succ_eq_append_getElem hi, List.map_append]; rfl
          have hall : ∀ x ∈ l0.take (i + 1), byteH x = true := by
            intro x hx
            rw [List.take_succ_eq_append_getElem hi] at hx
            rcases List.mem_append.mp hx with h | h
            · exact HA.out x h
            · obtain rfl : x = l0[i] := by simpa using h
              exact hyes
          have HTK := Aside0.mk htk
          have HALL := Aside0.mk hall
          clear htk hall
          go_wp2
          refine wp_region_noPanic ?_
          refine wp_region_any (by kernel_rfl) ?_
          change wpAny _ _ _ _ _ _ _ (World.drew _)
          clear hlen
          refine wpAny_take (i := 1) (v := ?_) rfl (by kernel_rfl) (by kernel_rfl) (by kernel_rfl) (fun _ _ _ h => h) (Or.inl ⟨by rfl, ?_⟩) ?_
          rotate_left
          · intro w'
            go_simp
            (try with_reducible rfl)
          refine wpAny_take (i := 2) (v := ?_) rfl (by kernel_rfl) (by kernel_rfl) (by kernel_rfl) (fun _ _ _ h => h) (Or.inl ⟨by rfl, ?_⟩) ?_
          rotate_left
          · intro w'
            go_simp
            (try with_reducible rfl)
          refine wpAny_ready (rs := [0, 3]) (by kernel_rfl) (by simp) ?_
          refine AllReady.cons rfl (fun K hK => ?_) ?_
          · go_simp
            refine hK _ _ ?_
            clear hK K
            refine wpAny_ready (rs := [3]) (by kernel_rfl) (by simp) ?_
            refine AllReady.cons rfl (fun K hK => ?_) ?_
            · go_simp
              refine (doctext_must.ok b l0[i] _ HM.out.drew hwf hyes).mono ?_
              rintro e w4 ⟨rfl, rfl⟩
              refine hK _ _ ?_
              clear hK K
              refine wpAny_ready (rs := [4]) (by kernel_rfl) (by simp) ?_
              refine AllReady.cons rfl (fun K hK => ?_) ?_
              · go_simp
                refine hK _ _ ?_
                clear hK K
                refine wpAny_ready (rs := [5]) (by kernel_rfl) (by simp) ?_
                refine AllReady.cons rfl (fun K hK => ?_) ?_
                · refine doctext_plain.appendRun _ _ 25 rfl rfl rfl rfl hap' ?_
                  refine hK _ _ ?_
                  clear hK K
                  refine wpAny_ready (rs := [6]) (by kernel_rfl) (by simp) ?_
                  refine AllReady.cons rfl (fun K hK => ?_) ?_
                  · go_simp
                    refine hK _ _ ?_
                    clear hK K
                    refine wpAny_done (by kernel_rfl) ?_ _
                    refine NoPanic.normal ?_
                    go_wp2
                    go_roundg k1
                    case measure => have := HI.out; omega
                    case rel => exact ⟨i + 1, .slice Av (i + 1) cv, (by first | rfl | (have := HL.out; congr 1; unfold wrap64; omega) | (have := HL.out; simp [wrap64]; omega)), ⟨by have := HI.out; omega⟩, ⟨blk_put q1.out 0 _ rfl⟩, ⟨blk_far q2.out (fun e => NB.out e.symm) _⟩, ⟨by rw [HTK.out]; exact Kd.R_mono (Kd.R_far (p := ⟨gp, 0, none⟩) (Kd.R_types q4.out q1.out (by decide)) (fun _ h => h.2) _) (fun _ _ => trivial)⟩, ⟨ownsMap_set q3.out gp _ (map_not_row q3.out q1.out)⟩, HALL, ⟨below_set q5.out GEo.out⟩⟩
                  exact AllReady.nil
                exact AllReady.nil
              exact AllReady.nil
            exact AllReady.nil
          refine AllReady.cons rfl (fun K hK => ?_) ?_
          · go_simp
            refine (doctext_must.ok b l0[i] _ HM.out.drew hwf hyes).mono ?_
            rintro e w4 ⟨rfl, rfl⟩
            refine hK _ _ ?_
            clear hK K
            refine wpAny_ready (rs := [0, 4]) (by kernel_rfl) (by simp) ?_
            refine AllReady.cons rfl (fun K hK => ?_) ?_
            · go_simp
              refine hK _ _ ?_
              clear hK K
              refine wpAny_ready (rs := [4]) (by kernel_rfl) (by simp) ?_
              refine AllReady.cons rfl (fun K hK => ?_) ?_
              · go_simp
                refine hK _ _ ?_
                clear hK K
                refine wpAny_ready (rs := [5]) (by kernel_rfl) (by simp) ?_
                refine AllReady.cons rfl (fun K hK => ?_) ?_
                · refine doctext_plain.appendRun _ _ 25 rfl rfl rfl rfl hap' ?_
                  refine hK _ _ ?_
                  clear hK K
                  refine wpAny_ready (rs := [6]) (by kernel_rfl) (by simp) ?_
                  refine AllReady.cons rfl (fun K hK => ?_) ?_
                  · go_simp
                    refine hK _ _ ?_
                    clear hK K
                    refine wpAny_done (by kernel_rfl) ?_ _
                    refine NoPanic.normal ?_
                    go_wp2
                    go_roundg k1
                    case measure => have := HI.out; omega
                    case rel => exact ⟨i + 1, .slice Av (i + 1) cv, (by first | rfl | (have := HL.out; congr 1; unfold wrap64; omega) | (have := HL.out; simp [wrap64]; omega)), ⟨by have := HI.out; omega⟩, ⟨blk_put q1.out 0 _ rfl⟩, ⟨blk_far q2.out (fun e => NB.out e.symm) _⟩, ⟨by rw [HTK.out]; exact Kd.R_mono (Kd.R_far (p := ⟨gp, 0, none⟩) (Kd.R_types q4.out q1.out (by decide)) (fun _ h => h.2) _) (fun _ _ => trivial)⟩, ⟨ownsMap_set q3.out gp _ (map_not_row q3.out q1.out)⟩, HALL, ⟨below_set q5.out GEo.out⟩⟩
                  exact AllReady.nil
                exact AllReady.nil
              exact AllReady.nil
            refine AllReady.cons rfl (fun K hK => ?_) ?_
            · go_simp
              refine hK _ _ ?_
              clear hK K
              refine wpAny_ready (rs := [0]) (by kernel_rfl) (by simp) ?_
              refine AllReady.cons rfl (fun K hK => ?_) ?_
              · go_simp
                refine hK _ _ ?_
                clear hK K
                refine wpAny_ready (rs := [5]) (by kernel_rfl) (by simp) ?_
                refine AllReady.cons rfl (fun K hK => ?_) ?_
                · refine doctext_plain.appendRun _ _ 25 rfl rfl rfl rfl hap' ?_
                  refine hK _ _ ?_
                  clear hK K
                  refine wpAny_ready (rs := [6]) (by kernel_rfl) (by simp) ?_
                  refine AllReady.cons rfl (fun K hK => ?_) ?_
                  · go_simp
                    refine hK _ _ ?_
                    clear hK K
                    refine wpAny_done (by kernel_rfl) ?_ _
                    refine NoPanic.normal ?_
                    go_wp2
                    go_roundg k1
                    case measure => have := HI.out; omega
                    case rel => exact ⟨i + 1, .slice Av (i + 1) cv, (by first | rfl | (have := HL.out; congr 1; unfold wrap64; omega) | (have := HL.out; simp [wrap64]; omega)), ⟨by have := HI.out; omega⟩, ⟨blk_put q1.out 0 _ rfl⟩, ⟨blk_far q2.out (fun e => NB.out e.symm) _⟩, ⟨by rw [HTK.out]; exact Kd.R_mono (Kd.R_far (p := ⟨gp, 0, none⟩) (Kd.R_types q4.out q1.out (by decide)) (fun _ h => h.2) _) (fun _ _ => trivial)⟩, ⟨ownsMap_set q3.out gp _ (map_not_row q3.out q1.out)⟩, HALL, ⟨below_set q5.out GEo.out⟩⟩
                  exact AllReady.nil
                exact AllReady.nil
              exact AllReady.nil
            exact AllReady.nil
          exact AllReady.nil
        · have hno : byteH l0[i] = false := Bool.eq_false_iff.mpr hyes
          have hR : r1 = [] ∧ r2 = false := by
            have h := H.out
            rw [if_neg (fun ha => hyes (List.all_eq_true.mp ha _ (List.getElem_mem hi)))] at h
            have h := Option.some.inj h
            exact ⟨(congrArg (·.1) h).symm, (congrArg (·.2) h).symm⟩
          obtain ⟨rfl, rfl⟩ := hR
          have hd0 : wr.drew.cell? ⟨gp, 0, none⟩ = some vo := hco
          have hd1 : wr.drew.frozen? ⟨gp, 0, none⟩ = false := hfo
          have hd2 : wr.drew.cell? ⟨gq, 0, none⟩ = some (.bool false) := (blk_cell BKk.out 0).trans rfl
          have hd3 : wr.drew.frozen? ⟨gq, 0, none⟩ = false := blk_frozen BKk.out 0
          have b0 : ((wr.drew.setCell ⟨gp, 0, none⟩ (.slice none 0 0)).setCell ⟨gq, 0, none⟩ (.bool false)).cell? ⟨gp, 0, none⟩ = some (.slice none 0 0) := (blk_cell (blk_far (blk_put (cs := #[vo]) (blk_drew BKo.out) 0 (.slice none 0 0) rfl) NB.out _) 0).trans rfl
          have b1 : ((wr.drew.setCell ⟨gp, 0, none⟩ (.slice none 0 0)).setCell ⟨gq, 0, none⟩ (.bool false)).cell? ⟨gq, 0, none⟩ = some (.bool false) := (blk_cell (blk_put (cs := #[.bool false]) (blk_far (blk_drew BKk.out) (fun e => NB.out e.symm) _) 0 (.bool false) rfl) 0).trans rfl
          have b2 : Below w.heap.size w ((wr.drew.setCell ⟨gp, 0, none⟩ (.slice none 0 0)).setCell ⟨gq, 0, none⟩ (.bool false)) := below_set (below_set (below_drew HB.out) GEo.out) GEk.out
          have B0 := Aside0.mk b0
          have B1 := Aside0.mk b1
          have B2 := Aside0.mk b2
          clear b0 b1 b2
          go_wp2
          refine wp_region_any (by kernel_rfl) ?_
          change wpAny _ _ _ _ _ _ _ (World.drew _)
          refine wpAny_ready (rs := [0, 1, 2]) (by kernel_rfl) (by simp) ?_
          refine AllReady.cons rfl (fun K hK => ?_) ?_
          · go_simp
            refine hK _ _ ?_
            clear hK K
            refine wpAny_ready (rs := [1, 2]) (by kernel_rfl) (by simp) ?_
            refine AllReady.cons rfl (fun K hK => ?_) ?_
            · go_simp
              refine hK _ _ ?_
              clear hK K
              refine wpAny_ready (rs := [2]) (by kernel_rfl) (by simp) ?_
              refine AllReady.cons rfl (fun K hK => ?_) ?_
              · go_simp
                refine hK _ _ ?_
                clear hK K
                refine wpAny_ready (rs := [3]) (by kernel_rfl) (by simp) ?_
                refine AllReady.cons rfl (fun K hK => ?_) ?_
                · go_simp
                  refine (doctext_must.no b l0[i] _ HM.out.drew hwf hno).mono ?_
                  rintro e w4 ⟨rfl, rfl⟩
                  refine leaves_cons (f := 43) (args := #[.pointer (some ⟨gp, 0, none⟩), .pointer (some ⟨gq, 0, none⟩)]) (by simp) (by simp [go_sem]) ?_
                  refine (doctext_plain.panicking gp gq vo (.bool false) _ _ [] _ hd0 hd1 hd2 hd3 NB.out (fun e => NB.out e.symm)).mono ?_
                  rintro e u' w'' ⟨rfl, rfl, rfl⟩
                  exact ⟨_, doctext_plain.res _ _ gp gq _ _ rfl rfl B0.out B1.out, _, rfl, Kd.R_nil _ _ _ _ _, B2.out⟩
                exact AllReady.nil
              exact AllReady.nil
            refine AllReady.cons rfl (fun K hK => ?_) ?_
            · go_simp
              refine hK _ _ ?_
              clear hK K
              refine wpAny_ready (rs := [1]) (by kernel_rfl) (by simp) ?_
              refine AllReady.cons rfl (fun K hK => ?_) ?_
              · go_simp
                refine hK _ _ ?_
                clear hK K
                refine wpAny_ready (rs := [3]) (by kernel_rfl) (by simp) ?_
                refine AllReady.cons rfl (fun K hK => ?_) ?_
                · go_simp
                  refine (doctext_must.no b l0[i] _ HM.out.drew hwf hno).mono ?_
                  rintro e w4 ⟨rfl, rfl⟩
                  refine leaves_cons (f := 43) (args := #[.pointer (some ⟨gp, 0, none⟩), .pointer (some ⟨gq, 0, none⟩)]) (by simp) (by simp [go_sem]) ?_
                  refine (doctext_plain.panicking gp gq vo (.bool false) _ _ [] _ hd0 hd1 hd2 hd3 NB.out (fun e => NB.out e.symm)).mono ?_
                  rintro e u' w'' ⟨rfl, rfl, rfl⟩
                  exact ⟨_, doctext_plain.res _ _ gp gq _ _ rfl rfl B0.out B1.out, _, rfl, Kd.R_nil _ _ _ _ _, B2.out⟩
                exact AllReady.nil
              exact AllReady.nil
            exact AllReady.nil
          refine AllReady.cons rfl (fun K hK => ?_) ?_
          · go_simp
            refine hK _ _ ?_
            clear hK K
            refine wpAny_ready (rs := [0, 2]) (by kernel_rfl) (by simp) ?_
            refine AllReady.cons rfl (fun K hK => ?_) ?_
            · go_simp
              refine hK _ _ ?_
              clear hK K
              refine wpAny_ready (rs := [2]) (by kernel_rfl) (by simp) ?_
              refine AllReady.cons rfl (fun K hK => ?_) ?_
              · go_simp
                refine hK _ _ ?_
                clear hK K
                refine wpAny_ready (rs := [3]) (by kernel_rfl) (by simp) ?_
                refine AllReady.cons rfl (fun K hK => ?_) ?_
                · go_simp
                  refine (doctext_must.no b l0[i] _ HM.out.drew hwf hno).mono ?_
                  rintro e w4 ⟨rfl, rfl⟩
                  refine leaves_cons (f := 43) (args := #[.pointer (some ⟨gp, 0, none⟩), .pointer (some ⟨gq, 0, none⟩)]) (by simp) (by simp [go_sem]) ?_
                  refine (doctext_plain.panicking gp gq vo (.bool false) _ _ [] _ hd0 hd1 hd2 hd3 NB.out (fun e => NB.out e.symm)).mono ?_
                  rintro e u' w'' ⟨rfl, rfl, rfl⟩
                  exact ⟨_, doctext_plain.res _ _ gp gq _ _ rfl rfl B0.out B1.out, _, rfl, Kd.R_nil _ _ _ _ _, B2.out⟩
                exact AllReady.nil
              exact AllReady.nil
            refine AllReady.cons rfl (fun K hK => ?_) ?_
            · go_simp
              refine hK _ _ ?_
              clear hK K
              refine wpAny_ready (rs := [0, 3]) (by kernel_rfl) (by simp) ?_
              refine AllReady.cons rfl (fun K hK => ?_) ?_
              · go_simp
                refine hK _ _ ?_
                clear hK K
                refine wpAny_ready (rs := [3]) (by kernel_rfl) (by simp) ?_
                refine AllReady.cons rfl (fun K hK => ?_) ?_
                · go_simp
                  refine (doctext_must.no b l0[i] _ HM.out.drew hwf hno).mono ?_
                  rintro e w4 ⟨rfl, rfl⟩
                  refine leaves_cons (f := 43) (args := #[.pointer (some ⟨gp, 0, none⟩), .pointer (some ⟨gq, 0, none⟩)]) (by simp) (by simp [go_sem]) ?_
                  refine (doctext_plain.panicking gp gq vo (.bool false) _ _ [] _ hd0 hd1 hd2 hd3 NB.out (fun e => NB.out e.symm)).mono ?_
                  rintro e u' w'' ⟨rfl, rfl, rfl⟩
                  exact ⟨_, doctext_plain.res _ _ gp gq _ _ rfl rfl B0.out B1.out, _, rfl, Kd.R_nil _ _ _ _ _, B2.out⟩
                exact AllReady.nil
              refine AllReady.cons rfl (fun K hK => ?_) ?_
              · go_simp
                refine (doctext_must.no b l0[i] _ HM.out.drew hwf hno).mono ?_
                rintro e w4 ⟨rfl, rfl⟩
                refine leaves_cons (f := 43) (args := #[.pointer (some ⟨gp, 0, none⟩), .pointer (some ⟨gq, 0, none⟩)]) (by simp) (by simp [go_sem]) ?_
                refine (doctext_plain.panicking gp gq vo (.bool false) _ _ [] _ hd0 hd1 hd2 hd3 NB.out (fun e => NB.out e.symm)).mono ?_
                rintro e u' w'' ⟨rfl, rfl, rfl⟩
                exact ⟨_, doctext_plain.res _ _ gp gq _ _ rfl rfl B0.out B1.out, _, rfl, Kd.R_nil _ _ _ _ _, B2.out⟩
              exact AllReady.nil
            exact AllReady.nil
          refine AllReady.cons rfl (fun K hK => ?_) ?_
          · go_simp
            refine hK _ _ ?_
            clear hK K
            refine wpAny_ready (rs := [0, 1]) (by kernel_rfl) (by simp) ?_
            refine AllReady.cons rfl (fun K hK => ?_) ?_
            · go_simp
              refine hK _ _ ?_
              clear hK K
              refine wpAny_ready (rs := [1]) (by kernel_rfl) (by simp) ?_
              refine AllReady.cons rfl (fun K hK => ?_) ?_
              · go_simp
                refine hK _ _ ?_
                clear hK K
                refine wpAny_ready (rs := [3]) (by kernel_rfl) (by simp) ?_
                refine AllReady.cons rfl (fun K hK => ?_) ?_
                · go_simp
                  refine (doctext_must.no b l0[i] _ HM.out.drew hwf hno).mono ?_
                  rintro e w4 ⟨rfl, rfl⟩
                  refine leaves_cons (f := 43) (args := #[.pointer (some ⟨gp, 0, none⟩), .pointer (some ⟨gq, 0, none⟩)]) (by simp) (by simp [go_sem]) ?_
                  refine (doctext_plain.panicking gp gq vo (.bool false) _ _ [] _ hd0 hd1 hd2 hd3 NB.out (fun e => NB.out e.symm)).mono ?_
                  rintro e u' w'' ⟨rfl, rfl, rfl⟩
                  exact ⟨_, doctext_plain.res _ _ gp gq _ _ rfl rfl B0.out B1.out, _, rfl, Kd.R_nil _ _ _ _ _, B2.out⟩
                exact AllReady.nil
              exact AllReady.nil
            refine AllReady.cons rfl (fun K hK => ?_) ?_
            · go_simp
              refine hK _ _ ?_
              clear hK K
              refine wpAny_ready (rs := [0, 3]) (by kernel_rfl) (by simp) ?_
              refine AllReady.cons rfl (fun K hK => ?_) ?_
              · go_simp
                refine hK _ _ ?_
                clear hK K
                refine wpAny_ready (rs := [3]) (by kernel_rfl) (by simp) ?_
                refine AllReady.cons rfl (fun K hK => ?_) ?_
                · go_simp
                  refine (doctext_must.no b l0[i] _ HM.out.drew hwf hno).mono ?_
                  rintro e w4 ⟨rfl, rfl⟩
                  refine leaves_cons (f := 43) (args := #[.pointer (some ⟨gp, 0, none⟩), .pointer (some ⟨gq, 0, none⟩)]) (by simp) (by simp [go_sem]) ?_
                  refine (doctext_plain.panicking gp gq vo (.bool false) _ _ [] _ hd0 hd1 hd2 hd3 NB.out (fun e => NB.out e.symm)).mono ?_
                  rintro e u' w'' ⟨rfl, rfl, rfl⟩
                  exact ⟨_, doctext_plain.res _ _ gp gq _ _ rfl rfl B0.out B1.out, _, rfl, Kd.R_nil _ _ _ _ _, B2.out⟩
                exact AllReady.nil
              refine AllReady.cons rfl (fun K hK => ?_) ?_
              · go_simp
                refine (doctext_must.no b l0[i] _ HM.out.drew hwf hno).mono ?_
                rintro e w4 ⟨rfl, rfl⟩
                refine leaves_cons (f := 43) (args := #[.pointer (some ⟨gp, 0, none⟩), .pointer (some ⟨gq, 0, none⟩)]) (by simp) (by simp [go_sem]) ?_
                refine (doctext_plain.panicking gp gq vo (.bool false) _ _ [] _ hd0 hd1 hd2 hd3 NB.out (fun e => NB.out e.symm)).mono ?_
                rintro e u' w'' ⟨rfl, rfl, rfl⟩
                exact ⟨_, doctext_plain.res _ _ gp gq _ _ rfl rfl B0.out B1.out, _, rfl, Kd.R_nil _ _ _ _ _, B2.out⟩
              exact AllReady.nil
            exact AllReady.nil
          exact AllReady.nil
      · obtain rfl : i = l0.length := by have := HI.out; omega
        have hall : l0.all byteH = true := List.all_eq_true.mpr fun x hx => HA.out x (by rw [List.take_length]; exact hx)
        have h := H.out
        rw [if_pos hall] at h
        obtain ⟨b0, hp, h⟩ := Option.bind_eq_some_iff.mp h
        have h := Option.some.inj h
        obtain rfl : r1 = l0.map byteT := (congrArg (·.1) h).symm
        obtain rfl : r2 = !b0 := (congrArg (·.2) h).symm
        have HP := Aside0.mk hp
        have ho := HO.out
        rw [List.take_length] at ho
        obtain ⟨Ao, co, eo⟩ := Kd.R_slice ho
        rw [List.length_map] at eo
        subst eo
        clear HO hp h H hall
        have HO := Aside0.mk ho
        clear ho
        have hco : wr.cell? ⟨gp, 0, none⟩ = some (.slice Ao l0.length co) := (blk_cell BKo.out 0).trans rfl
        have hck : wr.cell? ⟨gq, 0, none⟩ = some (.bool false) := (blk_cell BKk.out 0).trans rfl
        have hne := NB.out
        have hne' : gq ≠ gp := fun e => NB.out e.symm
        go_wp2
        refine wp_region_noPanic ?_
        refine wp_region_any (by kernel_rfl) ?_
        change wpAny _ _ _ _ _ _ _ (World.drew _)
        refine wpAny_ready (rs := [0, 1, 2]) (by kernel_rfl) (by simp) ?_
        refine AllReady.cons rfl (fun K hK => ?_) ?_
        · go_simp
          refine hK _ _ ?_
          clear hK K
          refine wpAny_ready (rs := [1, 2]) (by kernel_rfl) (by simp) ?_
          refine AllReady.cons rfl (fun K hK => ?_) ?_
          · go_simp
            refine hK _ _ ?_
            clear hK K
            refine wpAny_ready (rs := [2]) (by kernel_rfl) (by simp) ?_
            refine AllReady.cons rfl (fun K hK => ?_) ?_
            · go_simp
              refine (doctext_mark.calls _ _ rfl).mono ?_
              rintro e w6 ⟨vm, rfl, hom, hb⟩
              obtain ⟨Am, cm, em⟩ := Kd.R_slice hom
              subst em
              have z1 := Aside0.mk (blk_below (blk_drew BKo.out) hb)
              have z2 := Aside0.mk (blk_below (blk_drew BKk.out) hb)
              have z3 := Aside0.mk (Kd.R_below (Kd.R_drew HO.out) hb)
              have z4 := Aside0.mk hom
              have z5 := Aside0.mk (below_step (below_drew HB.out) hb)
              have hz0 : w6.cell? ⟨gp, 0, none⟩ = some (.slice Ao l0.length co) := (blk_cell z1.out 0).trans rfl
              have hz1 : w6.cell? ⟨gq, 0, none⟩ = some (.bool false) := (blk_cell z2.out 0).trans rfl
              have hz2 := blk_frozen z1.out 0
              have hz3 := blk_frozen z2.out 0
              clear hom hb
              refine hK _ _ ?_
              clear hK K
              refine wpAny_ready (rs := [3]) (by kernel_rfl) (by simp) ?_
              refine AllReady.cons rfl (fun K hK => ?_) ?_
              · go_simp
                refine (doctext_plain.pre Ao co (l0.map byteT) l0.length (List.length_map _).symm Am cm b0 _ (Kd.R_reads' (n := l0.length) z3.out).2.2 (by have := (Kd.R_reads' (n := l0.length) z3.out); omega) (Kd.R_reads' z4.out).2.2 (Kd.R_reads' z4.out).2.1 HP.out).mono ?_
                rintro e w7 ⟨rfl, ⟨nd, rfl⟩⟩
                refine hK _ _ ?_
                clear hK K
                refine wpAny_take (i := 4) (v := ?_) rfl (by kernel_rfl) (by kernel_rfl) (by kernel_rfl) (fun _ _ _ h => h) (Or.inl ⟨by rfl, ?_⟩) ?_
                rotate_left
                · intro w'
                  go_simp
                  (try with_reducible rfl)
                refine wpAny_ready (rs := [5]) (by kernel_rfl) (by simp) ?_
                refine AllReady.cons rfl (fun K hK => ?_) ?_
                · go_simp
                  refine hK _ _ ?_
                  clear hK K
                  refine wpAny_ready (rs := [6]) (by kernel_rfl) (by simp) ?_
                  refine AllReady.cons rfl (fun K hK => ?_) ?_
                  · go_simp
                    refine hK _ _ ?_
                    clear hK K
                    refine wpAny_done (by kernel_rfl) ?_ _
                    refine NoPanic.normal ?_
                    go_wp2
                    have y1 := Aside0.mk (blk_put (cs := #[.slice Ao l0.length co]) (blk_drewN z1.out nd) 0 (.slice Ao l0.length co) (cs' := #[.slice Ao l0.length co]) rfl)
                    have y2 := Aside0.mk (blk_far (p := ⟨gp, 0, none⟩) (blk_drewN z2.out nd) hne' (.slice Ao l0.length co))
                    have y3 := Aside0.mk (blk_put (cs := #[.bool false]) y2.out 0 (.bool !b0) (cs' := #[.bool !b0]) rfl)
                    have y4 := Aside0.mk (blk_far (p := ⟨gq, 0, none⟩) y1.out hne (.bool !b0))
                    have y5 := Aside0.mk (Kd.R_mono (ok' := fun _ => True) (Kd.R_far (p := ⟨gp, 0, none⟩) (Kd.R_types (Kd.R_drewN z3.out nd) (blk_drewN z1.out nd) (by decide)) (fun _ h => h.2) (.slice Ao l0.length co)) (fun _ _ => trivial))
                    have y6 := Aside0.mk (Kd.R_mono (ok' := fun _ => True) (Kd.R_far (p := ⟨gq, 0, none⟩) (Kd.R_types y5.out y2.out (by decide)) (fun _ h => h.2) (.bool !b0)) (fun _ _ => trivial))
                    have y7 := Aside0.mk (below_set (j := 0) (v := .bool !b0) (below_set (j := 0) (v := .slice Ao l0.length co) (pw_below_drewN z5.out nd) GEo.out) GEk.out)
                    refine leaves_cons (f := 43) (args := #[.pointer (some ⟨gp, 0, none⟩), .pointer (some ⟨gq, 0, none⟩)]) (by simp) (by simp [go_sem]) ?_
                    refine (doctext_plain.idle _ _ _).mono ?_
                    rintro e u' w'' ⟨rfl, rfl, rfl⟩
                    exact ⟨_, doctext_plain.res _ _ gp gq _ _ rfl rfl ((blk_cell y4.out 0).trans rfl) ((blk_cell y3.out 0).trans rfl), _, rfl, y6.out, y7.out⟩
                  exact AllReady.nil
                exact AllReady.nil
              exact AllReady.nil
            exact AllReady.nil
          refine AllReady.cons rfl (fun K hK => ?_) ?_
          · go_simp
            refine (doctext_mark.calls _ _ rfl).mono ?_
            rintro e w6 ⟨vm, rfl, hom, hb⟩
            obtain ⟨Am, cm, em⟩ := Kd.R_slice hom
            subst em
            have z1 := Aside0.mk (blk_below (blk_drew BKo.out) hb)
            have z2 := Aside0.mk (blk_below (blk_drew BKk.out) hb)
            have z3 := Aside0.mk (Kd.R_below (Kd.R_drew HO.out) hb)
            have z4 := Aside0.mk hom
            have z5 := Aside0.mk (below_step (below_drew HB.out) hb)
            have hz0 : w6.cell? ⟨gp, 0, none⟩ = some (.slice Ao l0.length co) := (blk_cell z1.out 0).trans rfl
            have hz1 : w6.cell? ⟨gq, 0, none⟩ = some (.bool false) := (blk_cell z2.out 0).trans rfl
            have hz2 := blk_frozen z1.out 0
            have hz3 := blk_frozen z2.out 0
            clear hom hb
            refine hK _ _ ?_
            clear hK K
            refine wpAny_ready (rs := [1]) (by kernel_rfl) (by simp) ?_
            refine AllReady.cons rfl (fun K hK => ?_) ?_
            · go_simp
              refine hK _ _ ?_
              clear hK K
              refine wpAny_ready (rs := [3]) (by kernel_rfl) (by simp) ?_
              refine AllReady.cons rfl (fun K hK => ?_) ?_
              · go_simp
                refine (doctext_plain.pre Ao co (l0.map byteT) l0.length (List.length_map _).symm Am cm b0 _ (Kd.R_reads' (n := l0.length) z3.out).2.2 (by have := (Kd.R_reads' (n := l0.length) z3.out); omega) (Kd.R_reads' z4.out).2.2 (Kd.R_reads' z4.out).2.1 HP.out).mono ?_
                rintro e w7 ⟨rfl, ⟨nd, rfl⟩⟩
                refine hK _ _ ?_
                clear hK K
                refine wpAny_take (i := 4) (v := ?_) rfl (by kernel_rfl) (by kernel_rfl) (by kernel_rfl) (fun _ _ _ h => h) (Or.inl ⟨by rfl, ?_⟩) ?_
                rotate_left
                · intro w'
                  go_simp
                  (try with_reducible rfl)
                refine wpAny_ready (rs := [5]) (by kernel_rfl) (by simp) ?_
                refine AllReady.cons rfl (fun K hK => ?_) ?_
                · go_simp
                  refine hK _ _ ?_
                  clear hK K
                  refine wpAny_ready (rs := [6]) (by kernel_rfl) (by simp) ?_
                  refine AllReady.cons rfl (fun K hK => ?_) ?_
                  · go_simp
                    refine hK _ _ ?_
                    clear hK K
                    refine wpAny_done (by kernel_rfl) ?_ _
                    refine NoPanic.normal ?_
                    go_wp2
                    have y1 := Aside0.mk (blk_put (cs := #[.slice Ao l0.length co]) (blk_drewN z1.out nd) 0 (.slice Ao l0.length co) (cs' := #[.slice Ao l0.length co]) rfl)
                    have y2 := Aside0.mk (blk_far (p := ⟨gp, 0, none⟩) (blk_drewN z2.out nd) hne' (.slice Ao l0.length co))
                    have y3 := Aside0.mk (blk_put (cs := #[.bool false]) y2.out 0 (.bool !b0) (cs' := #[.bool !b0]) rfl)
                    have y4 := Aside0.mk (blk_far (p := ⟨gq, 0, none⟩) y1.out hne (.bool !b0))
                    have y5 := Aside0.mk (Kd.R_mono (ok' := fun _ => True) (Kd.R_far (p := ⟨gp, 0, none⟩) (Kd.R_types (Kd.R_drewN z3.out nd) (blk_drewN z1.out nd) (by decide)) (fun _ h => h.2) (.slice Ao l0.length co)) (fun _ _ => trivial))
                    have y6 := Aside0.mk (Kd.R_mono (ok' := fun _ => True) (Kd.R_far (p := ⟨gq, 0, none⟩) (Kd.R_types y5.out y2.out (by decide)) (fun _ h => h.2) (.bool !b0)) (fun _ _ => trivial))
                    have y7 := Aside0.mk (below_set (j := 0) (v := .bool !b0) (below_set (j := 0) (v := .slice Ao l0.length co) (pw_below_drewN z5.out nd) GEo.out) GEk.out)
                    refine leaves_cons (f := 43) (args := #[.pointer (some ⟨gp, 0, none⟩), .pointer (some ⟨gq, 0, none⟩)]) (by simp) (by simp [go_sem]) ?_
                    refine (doctext_plain.idle _ _ _).mono ?_
                    rintro e u' w'' ⟨rfl, rfl, rfl⟩
                    exact ⟨_, doctext_plain.res _ _ gp gq _ _ rfl rfl ((blk_cell y4.out 0).trans rfl) ((blk_cell y3.out 0).trans rfl), _, rfl, y6.out, y7.out⟩
                  exact AllReady.nil
                exact AllReady.nil
              exact AllReady.nil
            exact AllReady.nil
          exact AllReady.nil
        refine AllReady.cons rfl (fun K hK => ?_) ?_
        · go_simp
          refine hK _ _ ?_
          clear hK K
          refine wpAny_ready (rs := [0, 2]) (by kernel_rfl) (by simp) ?_
          refine AllReady.cons rfl (fun K hK => ?_) ?_
          · go_simp
            refine hK _ _ ?_
            clear hK K
            refine wpAny_ready (rs := [2]) (by kernel_rfl) (by simp) ?_
            refine AllReady.cons rfl (fun K hK => ?_) ?_
            · go_simp
              refine (doctext_mark.calls _ _ rfl).mono ?_
              rintro e w6 ⟨vm, rfl, hom, hb⟩
              obtain ⟨Am, cm, em⟩ := Kd.R_slice hom
              subst em
              have z1 := Aside0.mk (blk_below (blk_drew BKo.out) hb)
              have z2 := Aside0.mk (blk_below (blk_drew BKk.out) hb)
              have z3 := Aside0.mk (Kd.R_below (Kd.R_drew HO.out) hb)
              have z4 := Aside0.mk hom
              have z5 := Aside0.mk (below_step (below_drew HB.out) hb)
              have hz0 : w6.cell? ⟨gp, 0, none⟩ = some (.slice Ao l0.length co) := (blk_cell z1.out 0).trans rfl
              have hz1 : w6.cell? ⟨gq, 0, none⟩ = some (.bool false) := (blk_cell z2.out 0).trans rfl
              have hz2 := blk_frozen z1.out 0
              have hz3 := blk_frozen z2.out 0
              clear hom hb
              refine hK _ _ ?_
              clear hK K
              refine wpAny_ready (rs := [3]) (by kernel_rfl) (by simp) ?_
              refine AllReady.cons rfl (fun K hK => ?_) ?_
              · go_simp
                refine (doctext_plain.pre Ao co (l0.map byteT) l0.length (List.length_map _).symm Am cm b0 _ (Kd.R_reads' (n := l0.length) z3.out).2.2 (by have := (Kd.R_reads' (n := l0.length) z3.out); omega) (Kd.R_reads' z4.out).2.2 (Kd.R_reads' z4.out).2.1 HP.out).mono ?_
                rintro e w7 ⟨rfl, ⟨nd, rfl⟩⟩
                refine hK _ _ ?_
                clear hK K
                refine wpAny_take (i := 4) (v := ?_) rfl (by kernel_rfl) (by kernel_rfl) (by kernel_rfl) (fun _ _ _ h => h) (Or.inl ⟨by rfl, ?_⟩) ?_
                rotate_left
                · intro w'
                  go_simp
                  (try with_reducible rfl)
                refine wpAny_ready (rs := [5]) (by kernel_rfl) (by simp) ?_
                refine AllReady.cons rfl (fun K hK => ?_) ?_
                · go_simp
                  refine hK _ _ ?_
                  clear hK K
                  refine wpAny_ready (rs := [6]) (by kernel_rfl) (by simp) ?_
                  refine AllReady.cons rfl (fun K hK => ?_) ?_
                  · go_simp
                    refine hK _ _ ?_
                    clear hK K
                    refine wpAny_done (by kernel_rfl) ?_ _
                    refine NoPanic.normal ?_
                    go_wp2
                    have y1 := Aside0.mk (blk_put (cs := #[.slice Ao l0.length co]) (blk_drewN z1.out nd) 0 (.slice Ao l0.length co) (cs' := #[.slice Ao l0.length co]) rfl)
                    have y2 := Aside0.mk (blk_far (p := ⟨gp, 0, none⟩) (blk_drewN z2.out nd) hne' (.slice Ao l0.length co))
                    have y3 := Aside0.mk (blk_put (cs := #[.bool false]) y2.out 0 (.bool !b0) (cs' := #[.bool !b0]) rfl)
                    have y4 := Aside0.mk (blk_far (p := ⟨gq, 0, none⟩) y1.out hne (.bool !b0))
                    have y5 := Aside0.mk (Kd.R_mono (ok' := fun _ => True) (Kd.R_far (p := ⟨gp, 0, none⟩) (Kd.R_types (Kd.R_drewN z3.out nd) (blk_drewN z1.out nd) (by decide)) (fun _ h => h.2) (.slice Ao l0.length co)) (fun _ _ => trivial))
                    have y6 := Aside0.mk (Kd.R_mono (ok' := fun _ => True) (Kd.R_far (p := ⟨gq, 0, none⟩) (Kd.R_types y5.out y2.out (by decide)) (fun _ h => h.2) (.bool !b0)) (fun _ _ => trivial))
                    have y7 := Aside0.mk (below_set (j := 0) (v := .bool !b0) (below_set (j := 0) (v := .slice Ao l0.length co) (pw_below_drewN z5.out nd) GEo.out) GEk.out)
                    refine leaves_cons (f := 43) (args := #[.pointer (some ⟨gp, 0, none⟩), .pointer (some ⟨gq, 0, none⟩)]) (by simp) (by simp [go_sem]) ?_
                    refine (doctext_plain.idle _ _ _).mono ?_
                    rintro e u' w'' ⟨rfl, rfl, rfl⟩
                    exact ⟨_, doctext_plain.res _ _ gp gq _ _ rfl rfl ((blk_cell y4.out 0).trans rfl) ((blk_cell y3.out 0).trans rfl), _, rfl, y6.out, y7.out⟩
                  exact AllReady.nil
                exact AllReady.nil
              exact AllReady.nil
            exact AllReady.nil
          refine AllReady.cons rfl (fun K hK => ?_) ?_
          · go_simp
            refine (doctext_mark.calls _ _ rfl).mono ?_
            rintro e w6 ⟨vm, rfl, hom, hb⟩
            obtain ⟨Am, cm, em⟩ := Kd.R_slice hom
            subst em
            have z1 := Aside0.mk (blk_below (blk_drew BKo.out) hb)
            have z2 := Aside0.mk (blk_below (blk_drew BKk.out) hb)
            have z3 := Aside0.mk (Kd.R_below (Kd.R_drew HO.out) hb)
            have z4 := Aside0.mk hom
            have z5 := Aside0.mk (below_step (below_drew HB.out) hb)
            have hz0 : w6.cell? ⟨gp, 0, none⟩ = some (.slice Ao l0.length co) := (blk_cell z1.out 0).trans rfl
            have hz1 : w6.cell? ⟨gq, 0, none⟩ = some (.bool false) := (blk_cell z2.out 0).trans rfl
            have hz2 := blk_frozen z1.out 0
            have hz3 := blk_frozen z2.out 0
            clear hom hb
            refine hK _ _ ?_
            clear hK K
            refine wpAny_ready (rs := [0, 3]) (by kernel_rfl) (by simp) ?_
            refine AllReady.cons rfl (fun K hK => ?_) ?_
            · go_simp
              refine hK _ _ ?_
              clear hK K
              refine wpAny_ready (rs := [3]) (by kernel_rfl) (by simp) ?_
              refine AllReady.cons rfl (fun K hK => ?_) ?_
              · go_simp
                refine (doctext_plain.pre Ao co (l0.map byteT) l0.length (List.length_map _).symm Am cm b0 _ (Kd.R_reads' (n := l0.length) z3.out).2.2 (by have := (Kd.R_reads' (n := l0.length) z3.out); omega) (Kd.R_reads' z4.out).2.2 (Kd.R_reads' z4.out).2.1 HP.out).mono ?_
                rintro e w7 ⟨rfl, ⟨nd, rfl⟩⟩
                refine hK _ _ ?_
                clear hK K
                refine wpAny_take (i := 4) (v := ?_) rfl (by kernel_rfl) (by kernel_rfl) (by kernel_rfl) (fun _ _ _ h => h) (Or.inl ⟨by rfl, ?_⟩) ?_
                rotate_left
                · intro w'
                  go_simp
                  (try with_reducible rfl)
                refine wpAny_ready (rs := [5]) (by kernel_rfl) (by simp) ?_
                refine AllReady.cons rfl (fun K hK => ?_) ?_
                · go_simp
                  refine hK _ _ ?_
                  clear hK K
                  refine wpAny_ready (rs := [6]) (by kernel_rfl) (by simp) ?_
                  refine AllReady.cons rfl (fun K hK => ?_) ?_
                  · go_simp
                    refine hK _ _ ?_
                    clear hK K
                    refine wpAny_done (by kernel_rfl) ?_ _
                    refine NoPanic.normal ?_
                    go_wp2
                    have y1 := Aside0.mk (blk_put (cs := #[.slice Ao l0.length co]) (blk_drewN z1.out nd) 0 (.slice Ao l0.length co) (cs' := #[.slice Ao l0.length co]) rfl)
                    have y2 := Aside0.mk (blk_far (p := ⟨gp, 0, none⟩) (blk_drewN z2.out nd) hne' (.slice Ao l0.length co))
                    have y3 := Aside0.mk (blk_put (cs := #[.bool false]) y2.out 0 (.bool !b0) (cs' := #[.bool !b0]) rfl)
                    have y4 := Aside0.mk (blk_far (p := ⟨gq, 0, none⟩) y1.out hne (.bool !b0))
                    have y5 := Aside0.mk (Kd.R_mono (ok' := fun _ => True) (Kd.R_far (p := ⟨gp, 0, none⟩) (Kd.R_types (Kd.R_drewN z3.out nd) (blk_drewN z1.out nd) (by decide)) (fun _ h => h.2) (.slice Ao l0.length co)) (fun _ _ => trivial))
                    have y6 := Aside0.mk (Kd.R_mono (ok' := fun _ => True) (Kd.R_far (p := ⟨gq, 0, none⟩) (Kd.R_types y5.out y2.out (by decide)) (fun _ h => h.2) (.bool !b0)) (fun _ _ => trivial))
                    have y7 := Aside0.mk (below_set (j := 0) (v := .bool !b0) (below_set (j := 0) (v := .slice Ao l0.length co) (pw_below_drewN z5.out nd) GEo.out) GEk.out)
                    refine leaves_cons (f := 43) (args := #[.pointer (some ⟨gp, 0, none⟩), .pointer (some ⟨gq, 0, none⟩)]) (by simp) (by simp [go_sem]) ?_
                    refine (doctext_plain.idle _ _ _).mono ?_
                    rintro e u' w'' ⟨rfl, rfl, rfl⟩
                    exact ⟨_, doctext_plain.res _ _ gp gq _ _ rfl rfl ((blk_cell y4.out 0).trans rfl) ((blk_cell y3.out 0).trans rfl), _, rfl, y6.out, y7.out⟩
                  exact AllReady.nil
                exact AllReady.nil
              exact AllReady.nil
            refine AllReady.cons rfl (fun K hK => ?_) ?_
            · go_simp
              refine (doctext_plain.pre Ao co (l0.map byteT) l0.length (List.length_map _).symm Am cm b0 _ (Kd.R_reads' (n := l0.length) z3.out).2.2 (by have := (Kd.R_reads' (n := l0.length) z3.out); omega) (Kd.R_reads' z4.out).2.2 (Kd.R_reads' z4.out).2.1 HP.out).mono ?_
              rintro e w7 ⟨rfl, ⟨nd, rfl⟩⟩
              refine hK _ _ ?_
              clear hK K
              refine wpAny_take (i := 4) (v := ?_) rfl (by kernel_rfl) (by kernel_rfl) (by kernel_rfl) (fun _ _ _ h => h) (Or.inl ⟨by rfl, ?_⟩) ?_
              rotate_left
              · intro w'
                go_simp
                (try with_reducible rfl)
              refine wpAny_ready (rs := [0]) (by kernel_rfl) (by simp) ?_
              refine AllReady.cons rfl (fun K hK => ?_) ?_
              · go_simp
                refine hK _ _ ?_
                clear hK K
                refine wpAny_ready (rs := [5]) (by kernel_rfl) (by simp) ?_
                refine AllReady.cons rfl (fun K hK => ?_) ?_
                · go_simp
                  refine hK _ _ ?_
                  clear hK K
                  refine wpAny_ready (rs := [6]) (by kernel_rfl) (by simp) ?_
                  refine AllReady.cons rfl (fun K hK => ?_) ?_
                  · go_simp
                    refine hK _ _ ?_
                    clear hK K
                    refine wpAny_done (by kernel_rfl) ?_ _
                    refine NoPanic.normal ?_
                    go_wp2
                    have y1 := Aside0.mk (blk_put (cs := #[.slice Ao l0.length co]) (blk_drewN z1.out nd) 0 (.slice Ao l0.length co) (cs' := #[.slice Ao l0.length co]) rfl)
                    have y2 := Aside0.mk (blk_far (p := ⟨gp, 0, none⟩) (blk_drewN z2.out nd) hne' (.slice Ao l0.length co))
                    have y3 := Aside0.mk (blk_put (cs := #[.bool false]) y2.out 0 (.bool !b0) (cs' := #[.bool !b0]) rfl)
                    have y4 := Aside0.mk (blk_far (p := ⟨gq, 0, none⟩) y1.out hne (.bool !b0))
                    have y5 := Aside0.mk (Kd.R_mono (ok' := fun _ => True) (Kd.R_far (p := ⟨gp, 0, none⟩) (Kd.R_types (Kd.R_drewN z3.out nd) (blk_drewN z1.out nd) (by decide)) (fun _ h => h.2) (.slice Ao l0.length co)) (fun _ _ => trivial))
                    have y6 := Aside0.mk (Kd.R_mono (ok' := fun _ => True) (Kd.R_far (p := ⟨gq, 0, none⟩) (Kd.R_types y5.out y2.out (by decide)) (fun _ h => h.2) (.bool !b0)) (fun _ _ => trivial))
                    have y7 := Aside0.mk (below_set (j := 0) (v := .bool !b0) (below_set (j := 0) (v := .slice Ao l0.length co) (pw_below_drewN z5.out nd) GEo.out) GEk.out)
                    refine leaves_cons (f := 43) (args := #[.pointer (some ⟨gp, 0, none⟩), .pointer (some ⟨gq, 0, none⟩)]) (by simp) (by simp [go_sem]) ?_
                    refine (doctext_plain.idle _ _ _).mono ?_
                    rintro e u' w'' ⟨rfl, rfl, rfl⟩
                    exact ⟨_, doctext_plain.res _ _ gp gq _ _ rfl rfl ((blk_cell y4.out 0).trans rfl) ((blk_cell y3.out 0).trans rfl), _, rfl, y6.out, y7.out⟩
                  exact AllReady.nil
                exact AllReady.nil
              exact AllReady.nil
            exact AllReady.nil
          exact AllReady.nil
        refine AllReady.cons rfl (fun K hK => ?_) ?_
        · go_simp
          refine (doctext_mark.calls _ _ rfl).mono ?_
          rintro e w6 ⟨vm, rfl, hom, hb⟩
          obtain ⟨Am, cm, em⟩ := Kd.R_slice hom
          subst em
          have z1 := Aside0.mk (blk_below (blk_drew BKo.out) hb)
          have z2 := Aside0.mk (blk_below (blk_drew BKk.out) hb)
          have z3 := Aside0.mk (Kd.R_below (Kd.R_drew HO.out) hb)
          have z4 := Aside0.mk hom
          have z5 := Aside0.mk (below_step (below_drew HB.out) hb)
          have hz0 : w6.cell? ⟨gp, 0, none⟩ = some (.slice Ao l0.length co) := (blk_cell z1.out 0).trans rfl
          have hz1 : w6.cell? ⟨gq, 0, none⟩ = some (.bool false) := (blk_cell z2.out 0).trans rfl
          have hz2 := blk_frozen z1.out 0
          have hz3 := blk_frozen z2.out 0
          clear hom hb
          refine hK _ _ ?_
          clear hK K
          refine wpAny_ready (rs := [0, 1]) (by kernel_rfl) (by simp) ?_
          refine AllReady.cons rfl (fun K hK => ?_) ?_
          · go_simp
            refine hK _ _ ?_
            clear hK K
            refine wpAny_ready (rs := [1]) (by kernel_rfl) (by simp) ?_
            refine AllReady.cons rfl (fun K hK => ?_) ?_
            · go_simp
              refine hK _ _ ?_
              clear hK K
              refine wpAny_ready (rs := [3]) (by kernel_rfl) (by simp) ?_
              refine AllReady.cons rfl (fun K hK => ?_) ?_
              · go_simp
                refine (doctext_plain.pre Ao co (l0.map byteT) l0.length (List.length_map _).symm Am cm b0 _ (Kd.R_reads' (n := l0.length) z3.out).2.2 (by have := (Kd.R_reads' (n := l0.length) z3.out); omega) (Kd.R_reads' z4.out).2.2 (Kd.R_reads' z4.out).2.1 HP.out).mono ?_
                rintro e w7 ⟨rfl, ⟨nd, rfl⟩⟩
                refine hK _ _ ?_
                clear hK K
                refine wpAny_take (i := 4) (v := ?_) rfl (by kernel_rfl) (by kernel_rfl) (by kernel_rfl) (fun _ _ _ h => h) (Or.inl ⟨by rfl, ?_⟩) ?_
                rotate_left
                · intro w'
                  go_simp
                  (try with_reducible rfl)
                refine wpAny_ready (rs := [5]) (by kernel_rfl) (by simp) ?_
                refine AllReady.cons rfl (fun K hK => ?_) ?_
                · go_simp
                  refine hK _ _ ?_
                  clear hK K
                  refine wpAny_ready (rs := [6]) (by kernel_rfl) (by simp) ?_
                  refine AllReady.cons rfl (fun K hK => ?_) ?_
                  · go_simp
                    refine hK _ _ ?_
                    clear hK K
                    refine wpAny_done (by kernel_rfl) ?_ _
                    refine NoPanic.normal ?_
                    go_wp2
                    have y1 := Aside0.mk (blk_put (cs := #[.slice Ao l0.length co]) (blk_drewN z1.out nd) 0 (.slice Ao l0.length co) (cs' := #[.slice Ao l0.length co]) rfl)
                    have y2 := Aside0.mk (blk_far (p := ⟨gp, 0, none⟩) (blk_drewN z2.out nd) hne' (.slice Ao l0.length co))
                    have y3 := Aside0.mk (blk_put (cs := #[.bool false]) y2.out 0 (.bool !b0) (cs' := #[.bool !b0]) rfl)
                    have y4 := Aside0.mk (blk_far (p := ⟨gq, 0, none⟩) y1.out hne (.bool !b0))
                    have y5 := Aside0.mk (Kd.R_mono (ok' := fun _ => True) (Kd.R_far (p := ⟨gp, 0, none⟩) (Kd.R_types (Kd.R_drewN z3.out nd) (blk_drewN z1.out nd) (by decide)) (fun _ h => h.2) (.slice Ao l0.length co)) (fun _ _ => trivial))
                    have y6 := Aside0.mk (Kd.R_mono (ok' := fun _ => True) (Kd.R_far (p := ⟨gq, 0, none⟩) (Kd.R_types y5.out y2.out (by decide)) (fun _ h => h.2) (.bool !b0)) (fun _ _ => trivial))
                    have y7 := Aside0.mk (below_set (j := 0) (v := .bool !b0) (below_set (j := 0) (v := .slice Ao l0.length co) (pw_below_drewN z5.out nd) GEo.out) GEk.out)
                    refine leaves_cons (f := 43) (args := #[.pointer (some ⟨gp, 0, none⟩), .pointer (some ⟨gq, 0, none⟩)]) (by simp) (by simp [go_sem]) ?_
                    refine (doctext_plain.idle _ _ _).mono ?_
                    rintro e u' w'' ⟨rfl, rfl, rfl⟩
                    exact ⟨_, doctext_plain.res _ _ gp gq _ _ rfl rfl ((blk_cell y4.out 0).trans rfl) ((blk_cell y3.out 0).trans rfl), _, rfl, y6.out, y7.out⟩
                  exact AllReady.nil
                exact AllReady.nil
              exact AllReady.nil
            exact AllReady.nil
          refine AllReady.cons rfl (fun K hK => ?_) ?_
          · go_simp
            refine hK _ _ ?_
            clear hK K
            refine wpAny_ready (rs := [0, 3]) (by kernel_rfl) (by simp) ?_
            refine AllReady.cons rfl (fun K hK => ?_) ?_
            · go_simp
              refine hK _ _ ?_
              clear hK K
              refine wpAny_ready (rs := [3]) (by kernel_rfl) (by simp) ?_
              refine AllReady.cons rfl (fun K hK => ?_) ?_
              · go_simp
                refine (doctext_plain.pre Ao co (l0.map byteT) l0.length (List.length_map _).symm Am cm b0 _ (Kd.R_reads' (n := l0.length) z3.out).2.2 (by have := (Kd.R_reads' (n := l0.length) z3.out); omega) (Kd.R_reads' z4.out).2.2 (Kd.R_reads' z4.out).2.1 HP.out).mono ?_
                rintro e w7 ⟨rfl, ⟨nd, rfl⟩⟩
                refine hK _ _ ?_
                clear hK K
                refine wpAny_take (i := 4) (v := ?_) rfl (by kernel_rfl) (by kernel_rfl) (by kernel_rfl) (fun _ _ _ h => h) (Or.inl ⟨by rfl, ?_⟩) ?_
                rotate_left
                · intro w'
                  go_simp
                  (try with_reducible rfl)
                refine wpAny_ready (rs := [5]) (by kernel_rfl) (by simp) ?_
                refine AllReady.cons rfl (fun K hK => ?_) ?_
                · go_simp
                  refine hK _ _ ?_
                  clear hK K
                  refine wpAny_ready (rs := [6]) (by kernel_rfl) (by simp) ?_
                  refine AllReady.cons rfl (fun K hK => ?_) ?_
                  · go_simp
                    refine hK _ _ ?_
                    clear hK K
                    refine wpAny_done (by kernel_rfl) ?_ _
                    refine NoPanic.normal ?_
                    go_wp2
                    have y1 := Aside0.mk (blk_put (cs := #[.slice Ao l0.length co]) (blk_drewN z1.out nd) 0 (.slice Ao l0.length co) (cs' := #[.slice Ao l0.length co]) rfl)
                    have y2 := Aside0.mk (blk_far (p := ⟨gp, 0, none⟩) (blk_drewN z2.out nd) hne' (.slice Ao l0.length co))
                    have y3 := Aside0.mk (blk_put (cs := #[.bool false]) y2.out 0 (.bool !b0) (cs' := #[.bool !b0]) rfl)
                    have y4 := Aside0.mk (blk_far (p := ⟨gq, 0, none⟩) y1.out hne (.bool !b0))
                    have y5 := Aside0.mk (Kd.R_mono (ok' := fun _ => True) (Kd.R_far (p := ⟨gp, 0, none⟩) (Kd.R_types (Kd.R_drewN z3.out nd) (blk_drewN z1.out nd) (by decide)) (fun _ h => h.2) (.slice Ao l0.length co)) (fun _ _ => trivial))
                    have y6 := Aside0.mk (Kd.R_mono (ok' := fun _ => True) (Kd.R_far (p := ⟨gq, 0, none⟩) (Kd.R_types y5.out y2.out (by decide)) (fun _ h => h.2) (.bool !b0)) (fun _ _ => trivial))
                    have y7 := Aside0.mk (below_set (j := 0) (v := .bool !b0) (below_set (j := 0) (v := .slice Ao l0.length co) (pw_below_drewN z5.out nd) GEo.out) GEk.out)
                    refine leaves_cons (f := 43) (args := #[.pointer (some ⟨gp, 0, none⟩), .pointer (some ⟨gq, 0, none⟩)]) (by simp) (by simp [go_sem]) ?_
                    refine (doctext_plain.idle _ _ _).mono ?_
                    rintro e u' w'' ⟨rfl, rfl, rfl⟩
                    exact ⟨_, doctext_plain.res _ _ gp gq _ _ rfl rfl ((blk_cell y4.out 0).trans rfl) ((blk_cell y3.out 0).trans rfl), _, rfl, y6.out, y7.out⟩
                  exact AllReady.nil
                exact AllReady.nil
              exact AllReady.nil
            refine AllReady.cons rfl (fun K hK => ?_) ?_
            · go_simp
              refine (doctext_plain.pre Ao co (l0.map byteT) l0.length (List.length_map _).symm Am cm b0 _ (Kd.R_reads' (n := l0.length) z3.out).2.2 (by have := (Kd.R_reads' (n := l0.length) z3.out); omega) (Kd.R_reads' z4.out).2.2 (Kd.R_reads' z4.out).2.1 HP.out).mono ?_
              rintro e w7 ⟨rfl, ⟨nd, rfl⟩⟩
              refine hK _ _ ?_
              clear hK K
              refine wpAny_take (i := 4) (v := ?_) rfl (by kernel_rfl) (by kernel_rfl) (by kernel_rfl) (fun _ _ _ h => h) (Or.inl ⟨by rfl, ?_⟩) ?_
              rotate_left
              · intro w'
                go_simp
                (try with_reducible rfl)
              refine wpAny_ready (rs := [0]) (by kernel_rfl) (by simp) ?_
              refine AllReady.cons rfl (fun K hK => ?_) ?_
              · go_simp
                refine hK _ _ ?_
                clear hK K
                refine wpAny_ready (rs := [5]) (by kernel_rfl) (by simp) ?_
                refine AllReady.cons rfl (fun K hK => ?_) ?_
                · go_simp
                  refine hK _ _ ?_
                  clear hK K
                  refine wpAny_ready (rs := [6]) (by kernel_rfl) (by simp) ?_
                  refine AllReady.cons rfl (fun K hK => ?_) ?_
                  · go_simp
                    refine hK _ _ ?_
                    clear hK K
                    refine wpAny_done (by kernel_rfl) ?_ _
                    refine NoPanic.normal ?_
                    go_wp2
                    have y1 := Aside0.mk (blk_put (cs := #[.slice Ao l0.length co]) (blk_drewN z1.out nd) 0 (.slice Ao l0.length co) (cs' := #[.slice Ao l0.length co]) rfl)
                    have y2 := Aside0.mk (blk_far (p := ⟨gp, 0, none⟩) (blk_drewN z2.out nd) hne' (.slice Ao l0.length co))
                    have y3 := Aside0.mk (blk_put (cs := #[.bool false]) y2.out 0 (.bool !b0) (cs' := #[.bool !b0]) rfl)
                    have y4 := Aside0.mk (blk_far (p := ⟨gq, 0, none⟩) y1.out hne (.bool !b0))
                    have y5 := Aside0.mk (Kd.R_mono (ok' := fun _ => True) (Kd.R_far (p := ⟨gp, 0, none⟩) (Kd.R_types (Kd.R_drewN z3.out nd) (blk_drewN z1.out nd) (by decide)) (fun _ h => h.2) (.slice Ao l0.length co)) (fun _ _ => trivial))
                    have y6 := Aside0.mk (Kd.R_mono (ok' := fun _ => True) (Kd.R_far (p := ⟨gq, 0, none⟩) (Kd.R_types y5.out y2.out (by decide)) (fun _ h => h.2) (.bool !b0)) (fun _ _ => trivial))
                    have y7 := Aside0.mk (below_set (j := 0) (v := .bool !b0) (below_set (j := 0) (v := .slice Ao l0.length co) (pw_below_drewN z5.out nd) GEo.out) GEk.out)
                    refine leaves_cons (f := 43) (args := #[.pointer (some ⟨gp, 0, none⟩), .pointer (some ⟨gq, 0, none⟩)]) (by simp) (by simp [go_sem]) ?_
                    refine (doctext_plain.idle _ _ _).mono ?_
                    rintro e u' w'' ⟨rfl, rfl, rfl⟩
                    exact ⟨_, doctext_plain.res _ _ gp gq _ _ rfl rfl ((blk_cell y4.out 0).trans rfl) ((blk_cell y3.out 0).trans rfl), _, rfl, y6.out, y7.out⟩
                  exact AllReady.nil
                exact AllReady.nil
              exact AllReady.nil
            exact AllReady.nil
          exact AllReady.nil
        exact AllReady.nil

end Go.Proofs.Ytfiaedpkbhnmkaa.PAll
