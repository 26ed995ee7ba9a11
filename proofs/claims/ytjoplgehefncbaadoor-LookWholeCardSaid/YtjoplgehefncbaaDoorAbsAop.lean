/- The engine: every operation; regions without a draw. -/
import Derived.Test.YtjoplgehefncbaaDoorAbsStep
import Derived.Laws.CopyRow
import Derived.Lib.SliceRun
import Derived.Maps.Own
set_option linter.all false
namespace Go.Abs
open Go.RowKit
variable {P : Program} {C : Cfg} {T : World → Prop} {G : Gx T} {w w' : World} {S S' : Nat → Prop} {ρ : List Value} {st : ASt} {a : Act} {h : List AB} {base : Nat}
/-- Where an operation comes to. -/
def Goes (P : Program) (G : Gx T) (o : Oper) (a : Act) (w : World) (K : ASt → Prop) : Prop := ∀ (Q : Exit → Act → World → Prop) (nx : Act → World → Prop), LetsOut Q ∨ True → (∀ st' a' w', K st' → SR G st' a' w' → nx a' w') → o.wp P a w nx Q
theorem Goes.val {o : Oper} {v : AV} {K : ASt → Prop} (hs : SRi G S ρ st a w) (hr : Runs P w S ρ a o v) (hK : K (st.put o.dst v)) : Goes P G o a w K := by
  intro Q nx _ hn
  obtain ⟨u, hrun, hu⟩ := hr
  unfold Oper.wp
  rw [hrun]
  exact hn _ _ _ hK ⟨S, ρ, put_ok hs o.dst hu⟩
theorem setLit_ok (hs : SRi G S ρ st a w) {o : Operand} {b : Bool} (hb : a.eval o = .bool b) : SRi G S ρ (setLit st o b) a w := by
  cases o with
  | tmp t =>
    refine ⟨hs.lt, hs.s0, hs.sp, hs.hr, hs.nt, fun t' => ?_, hs.bel, hs.dfr⟩
    show RV w S ρ (cond (Nat.beq t t') (.lit b) (look st.env t')) (a.tmps.getD t' undef)
    cases ht : Nat.beq t t' with
    | false => exact hs.env t'
    | true =>
      obtain rfl := Nat.eq_of_beq_eq_true ht
      rw [cond_true]
      have : a.tmps.getD t undef = .bool b := hb
      rw [this]
      exact .st _ _ (.lit b)
  | _ => exact hs
theorem br_ok (hs : SRi G S ρ st a w) {o : Operand} {K : Bool → ASt → Prop} (h : br st o K) : ∃ b st', a.eval o = .bool b ∧ K b st' ∧ SRi G S ρ st' a w ∧ st'.heap = st.heap := by
  unfold br at h
  have he := ev_ok hs o
  split at h
  · rename_i e
    rw [e] at he
    exact ⟨true, st, rv_lit he, h, hs, rfl⟩
  · rename_i e
    rw [e] at he
    exact ⟨false, st, rv_lit he, h, hs, rfl⟩
  · rename_i b e
    rw [e] at he
    have hb := rv_sb he
    have hh : ∀ c, (setLit st o c).heap = st.heap := fun c => by cases o <;> rfl
    cases b with
    | true => exact ⟨true, _, hb, h.1 rfl, setLit_ok hs hb, hh _⟩
    | false => exact ⟨false, _, hb, h.2 rfl, setLit_ok hs hb, hh _⟩
  · exact h.elim
theorem alloc_ok (hs : SRi G S ρ st a w) {t : TypeId} {cs : List AV} {vs : List Value} (ho : ones cs = true) (hv : RVs w S ρ cs vs) (d : Option Tmp) :
    SR G ((st.newB (.box t cs)).put d (.ptr st.heap.length 0)) (a.put d (.pointer (some ⟨w.heap.size, 0, none⟩))) (w.alloc (.cells vs.toArray t)) := by
  have hb : Below w.heap.size w (w.alloc (.cells vs.toArray t)) := (Below.refl _ _).alloc (Nat.le_refl _) _
  have h1 := hs.grow hb
  have h2 := h1.newB (b := .box t cs) (v := .pointer (some ⟨w.heap.size, 0, none⟩)) ⟨w.heap.size, vs, rfl, hs.bel.size, heap_alloc_new w _, ho, hv.mono (fun _ q => q) (fun b hb2 => hb.block b (hs.lt b hb2)) (fun _ _ q => q), fun hS => Nat.lt_irrefl _ (hs.lt _ hS)⟩ (fun k hk id u hu hx => by
    simp only [blk, Option.some.injEq] at hk
    subst hk
    exact Nat.lt_irrefl _ (hs.hr.blk_lt hu hx).2.1)
  refine ⟨S, _, put_ok h2 d (.ptr _ 0 w.heap.size ?_)⟩
  rw [← hs.hr.len]
  simp
theorem aop_box (hs : SRi G S ρ st a w) {o : Oper} {t : TypeId} {x : Operand} (ho : o.op = .box t x) {K : ASt → Prop} (h : aop C o st K) : Goes P G o a w K := by
  simp only [aop, ho] at h
  intro Q nx _ hn
  cases h1 : ones (cells (ev st x)) with
  | false => rw [h1] at h; exact h.elim
  | true =>
    rw [h1] at h
    have hc := cells_ok (ev_ok hs x) h1
    have := alloc_ok hs (t := t) h1 hc o.dst
    have hrun : (execOp a.eval o).run P w = .ok (.value (.pointer (some ⟨w.heap.size, 0, none⟩))) (w.alloc (.cells (a.eval x).cells.toList.toArray t)) := by
      simp [execOp, ho, Instr.box, newVar, newRow]
    unfold Oper.wp
    rw [hrun]
    exact hn _ _ _ h this
theorem zero_ok {t : TypeId} {i : TI} (hT : tyOk P t i) (w : World) (S : Nat → Prop) (ρ : List Value) : ∃ z, (zeroValue t).run P w = .ok z w ∧ RVs w S ρ i.zero z.cells.toList := by
  obtain ⟨d, info, z, hd, hi, _, _, hz, hzc, _, _, _⟩ := hT
  refine ⟨z, ?_, hzc ▸ RVs.of0 (ofVals_ok w S _)⟩
  simp [zeroValue, run_info hi, hz]
theorem aop_alloc (hC : COKT P T C) (hs : SRi G S ρ st a w) {o : Oper} {t : TypeId} (ho : o.op = .alloc t) {K : ASt → Prop} (h : aop C o st K) : Goes P G o a w K := by
  simp only [aop, ho] at h
  intro Q nx _ hn
  split at h
  · rename_i i hi
    have hT := hC.ty t i hi
    obtain ⟨z, hz, hv⟩ := zero_ok hT w S ρ
    have h1 : ones i.zero = true := by obtain ⟨_, _, _, _, _, _, _, _, _, _, q, _⟩ := hT; exact q
    have := alloc_ok hs (t := t) h1 hv o.dst
    have hrun : (execOp a.eval o).run P w = .ok (.value (.pointer (some ⟨w.heap.size, 0, none⟩))) (w.alloc (.cells z.cells.toList.toArray t)) := by
      simp [execOp, ho, Instr.alloc, hz, newVar, newRow]
    unfold Oper.wp
    rw [hrun]
    exact hn _ _ _ h this
  · exact h.elim
theorem frz_len : ∀ (l : List Nat) (h : List AB), (frz h l).length = h.length
  | [], _ => rfl
  | id :: l, h => by simp only [frz]; rw [frz_len l, frz1_len]
theorem one_fz {x : AV} (ho : one (fz h x) = true) : one x = true := by
  cases x <;> first | rfl | (simp [fz, one] at ho)
theorem ones_fzs : ∀ (l : List AV), ones (fz.fzs h l) = true → ones l = true
  | [], _ => rfl
  | x :: l, ho => by
    simp only [fz.fzs, ones, Bool.and_eq_true] at ho ⊢
    exact ⟨one_fz ho.1, ones_fzs l ho.2⟩
theorem idss_cells : ∀ (x : AV) (k : Nat), k ∈ ids.idss (cells x) → k ∈ ids x := by
  intro x k hk
  cases x <;> first | exact hk | (simpa [cells, ids.idss, ids] using hk)
theorem allEls_get {sz : Nat} : ∀ (l : List (List AV)) (i : Nat), allEls sz l = true → i < l.length → (elt l i).length = sz ∧ ones (elt l i) = true
  | [], i, _, hi => by simp at hi
  | c :: l, 0, ha, _ => by
    simp only [allEls, Bool.and_eq_true] at ha
    exact ⟨Nat.eq_of_beq_eq_true ha.1.1.1, ha.1.1.2⟩
  | c :: l, i + 1, ha, hi => by
    simp only [allEls, Bool.and_eq_true] at ha
    exact allEls_get l i ha.2 (by simpa using hi)
theorem litEls_get : ∀ (ps : List (Nat × Operand)) (i : Nat) (l : List (List AV)), litEls h st i ps = some l → l.length = ps.length ∧ (∀ k p, ps[k]? = some p → p.1 = i + k ∧ elt l k = fz.fzs h (cells (ev st p.2)))
  | [], i, l, hl => by
    obtain rfl := Option.some.inj hl
    exact ⟨rfl, fun k p hp => by simp at hp⟩
  | p :: ps, i, l, hl => by
    simp only [litEls] at hl
    obtain ⟨hb, hl⟩ := cond_some hl
    split at hl
    · rename_i l' hl'
      obtain rfl := Option.some.inj hl
      obtain ⟨h1, h2⟩ := litEls_get ps (i + 1) l' hl'
      refine ⟨by simp [h1], fun k q hq => ?_⟩
      cases k with
      | zero =>
        simp at hq
        subst hq
        exact ⟨Nat.eq_of_beq_eq_true hb, rfl⟩
      | succ k =>
        obtain ⟨q1, q2⟩ := h2 k q (by simpa using hq)
        exact ⟨by omega, q2⟩
    · cases hl
theorem partIds_mem : ∀ (ps : List (Nat × Operand)) (k : Nat) (p : Nat × Operand), ps[k]? = some p → ∀ i ∈ ids (ev st p.2), i ∈ partIds st ps
  | [], k, p, hp => by simp at hp
  | q :: ps, 0, p, hp => fun i hi => by
    simp at hp
    subst hp
    simp only [partIds, List.mem_append]
    exact .inl hi
  | q :: ps, k + 1, p, hp => fun i hi => by
    simp only [partIds, List.mem_append]
    exact .inr (partIds_mem ps k p (by simpa using hp) i hi)
theorem flatMap_get {s : Nat} (hs : 0 < s) : ∀ (vs : List Value) (hv : ∀ v ∈ vs, v.cells.size = s) (i j : Nat), j < s → (vs.flatMap fun v => v.cells.toList)[i * s + j]? = (vs[i]?).bind fun v => v.cells[j]?
  | [], _, i, j, _ => by simp
  | v :: vs, hv, 0, j, hj => by
    have : v.cells.size = s := hv v List.mem_cons_self
    rw [List.flatMap_cons, Nat.zero_mul, Nat.zero_add, List.getElem?_append_left (by simp; omega)]
    simp
  | v :: vs, hv, i + 1, j, hj => by
    have : v.cells.size = s := hv v List.mem_cons_self
    rw [List.flatMap_cons, List.getElem?_append_right (by simp [Nat.add_mul]; omega)]
    rw [show (i + 1) * s + j - v.cells.toList.length = i * s + j by simp [Nat.add_mul, this]; omega]
    rw [flatMap_get hs vs (fun u hu => hv u (List.mem_cons_of_mem _ hu)) i j hj]
    simp
theorem lit_ok (hC : COKT P T C) (hs : SRi G S ρ st a w) {o : Oper} {t : TypeId} {len : Nat} {ps : Array (Nat × Operand)} (ho : o.op = .buildSlice t len ps) {e : TypeId} (he : C.tyD t = .slice e) {ie : TI} (hie : C.ty e = some ie) {els : List (List AV)} (hels : litEls st.heap st 0 ps.toList = some els)
    (b1 : allEls ie.size els = true) (b2 : Nat.beq els.length len = true) (b3 : Nat.blt 0 ie.size = true) (b4 : Nat.ble (len * ie.size) 16777216 = true) :
    ∃ S' v w', (execOp a.eval o).run P w = .ok (.value v) w' ∧ SRi G S' ρ (st.setH (frz st.heap (partIds st ps.toList))) a w' ∧ Ent w' S' G.w0.heap.size ρ v (.row e ie.size len (elt els)) ∧ (∀ b, S' b ↔ Sx S ρ st.heap (partIds st ps.toList) b) ∧
      (∀ k, v.ownBlock = some k → k < w'.heap.size ∧ G.w0.heap.size ≤ k ∧ ∀ id u, ρ[id]? = some u → blk (hAt (frz st.heap (partIds st ps.toList)) id) u ≠ some k) ∧ v.oneCell' = true := by
  have b2 := Nat.eq_of_beq_eq_true b2
  have b3 : 0 < ie.size := Nat.le_of_ble_eq_true b3
  have b4 := Nat.le_of_ble_eq_true b4
  have hu := slice_ty hC he
  obtain ⟨d, info, z, hd, hi, hsz, _, hz, hzc, _, _, hzl⟩ := hC.ty e ie hie
  obtain ⟨l1, l2⟩ := litEls_get ps.toList 0 els hels
  obtain ⟨S', hs', hS'⟩ := hs.frz (partIds st ps.toList)
  let us := ps.toList.map fun p => a.eval p.2
  have hul : us.length = len := by simp only [us, List.length_map]; omega
  have hu_get : ∀ (k : Nat) (u : Value), us[k]? = some u → ∃ p : Nat × Operand, ps.toList[k]? = some p ∧ u = a.eval p.2 := fun k u hk => by
    simp only [us, List.getElem?_map] at hk
    obtain ⟨p, h1, h2⟩ := Option.map_eq_some_iff.1 hk
    exact ⟨p, h1, h2.symm⟩
  have hcell : ∀ (k : Nat) (p : Nat × Operand), ps.toList[k]? = some p → RVs0 w S' (elt els k) (a.eval p.2).cells.toList ∧ (a.eval p.2).cells.size = ie.size := fun k p hp => by
    have hk : k < els.length := by rw [l1]; exact (List.getElem?_eq_some_iff.1 hp).1
    obtain ⟨q1, q2⟩ := allEls_get els k b1 hk
    rw [(l2 k p hp).2] at q1 q2 ⊢
    have hc := cells_ok (ev_ok hs p.2) (ones_fzs _ q2)
    refine ⟨(fzs_ok hs.hr hc).mono (fun b hb => (hS' b).2 (hb.sub (fun i hi => partIds_mem _ k p hp i (idss_cells _ i hi)))) (fun _ _ => rfl), ?_⟩
    rw [← Array.length_toList, hc.1, ← q1, fzs_len]
  have husz : ∀ v ∈ us, v.cells.size = ie.size := fun v hv => by
    obtain ⟨k, hk⟩ := List.mem_iff_getElem?.1 hv
    obtain ⟨p, hp, rfl⟩ := hu_get k v hk
    exact (hcell k p hp).2
  let all := (us.flatMap fun v => v.cells.toList).toArray
  have hparts : (ps.map fun (i, x) => (i, a.eval x)).toList = (us.zipIdx 0).map fun x => (x.2, x.1) := by
    apply List.ext_getElem?
    intro k
    simp only [Array.toList_map, List.getElem?_map, List.getElem?_zipIdx, us]
    cases hp : ps.toList[k]? with
    | none => simp
    | some p => simp [(l2 k p hp).1]
  have hfill : ∀ cs0 : Array Value, cs0.size = len * ie.size → Instr.fill (fun i => some (i * info.size, info.size)) cs0 (ps.map fun (i, x) => (i, a.eval x)).toList = some all := fun cs0 hc0 => by
    rw [hparts, hsz]
    exact Great.fill_whole b3 us cs0 husz (by rw [hul, hc0])
  have hrun : (execOp a.eval o).run P w = .ok (.value (.slice (some ⟨w.heap.size, 0, none⟩) len len)) (w.alloc (.cells all e)) := by
    have hsm : ¬ len * info.size > 2 ^ 24 := by rw [hsz]; omega
    by_cases h0 : len * info.size = 0
    · simp only [execOp, ho, Instr.buildSlice, Sem.run_bind, run_underlying hu, Result.andThen_ok, run_sizeOf hi, if_neg hsm, Sem.run_pure, if_pos h0]
      rw [hfill _ (by simp; rw [hsz])]
      simp [newRow]
    · simp only [execOp, ho, Instr.buildSlice, Sem.run_bind, run_underlying hu, Result.andThen_ok, run_sizeOf hi, if_neg hsm, Sem.run_pure, if_neg h0]
      simp only [zeroValue, Sem.run_bind, run_info hi, Result.andThen_ok, hz, Sem.run_pure]
      rw [hfill _ (by simp; rw [hsz])]
      simp [newRow]
  have hal : all.size = len * ie.size := by
    have : ∀ (vs : List Value), (∀ v ∈ vs, v.cells.size = ie.size) → (vs.flatMap fun v => v.cells.toList).length = vs.length * ie.size := by
      intro vs
      induction vs with
      | nil => intro _; simp
      | cons v vs ih =>
        intro hv
        rw [List.flatMap_cons, List.length_append, ih (fun u hu => hv u (List.mem_cons_of_mem _ hu)), Array.length_toList, hv v List.mem_cons_self, List.length_cons, Nat.add_mul]
        omega
    simp only [all, List.size_toArray]
    rw [this us husz, hul]
  have hb2 : Below w.heap.size w (w.alloc (.cells all e)) := (Below.refl _ _).alloc (Nat.le_refl _) _
  have hSm : ∀ b, S' b → (w.alloc (.cells all e)).heap[b]? = w.heap[b]? := fun b hb => hb2.block b (hs'.lt b hb)
  refine ⟨S', .slice (some ⟨w.heap.size, 0, none⟩) len len, _, hrun, hs'.grow hb2, ⟨⟨all.toList, World.ownsRow_lit w all len hs.bel.size (by
      have : len ≤ len * ie.size := Nat.le_mul_of_pos_right _ b3
      unfold maxLen; omega) hal, fun k hk => ?_⟩, fun b hb hS => by
    simp only [Value.ownBlock, Option.some.injEq] at hb
    subst hb
    exact Nat.lt_irrefl _ (hs'.lt _ hS)⟩, hS', fun k hk => ?_, rfl⟩
  · have hkp : k < ps.toList.length := by omega
    obtain ⟨p, hp⟩ : ∃ p, ps.toList[k]? = some p := ⟨_, List.getElem?_eq_getElem hkp⟩
    obtain ⟨q1, q2⟩ := allEls_get els k b1 (by omega)
    obtain ⟨hc1, hc2⟩ := hcell k p hp
    refine ⟨q1, q2, fun j x hx => ?_⟩
    have hj : j < ie.size := by rw [← q1]; exact (List.getElem?_eq_some_iff.1 hx).1
    have hup : us[k]? = some (a.eval p.2) := by simp only [us, List.getElem?_map, hp, Option.map_some]
    have hg : all.toList[k * ie.size + j]? = (a.eval p.2).cells[j]? := by
      simp only [all]
      rw [flatMap_get b3 us husz k j hj, hup]
      rfl
    have hlt : j < (a.eval p.2).cells.size := by omega
    refine ⟨(a.eval p.2).cells[j], by rw [hg, Array.getElem?_eq_getElem hlt], ?_⟩
    exact (hc1.2 j x _ hx (by rw [Array.getElem?_toList, Array.getElem?_eq_getElem hlt])).mono (fun _ q => q) hSm
  · simp only [Value.ownBlock, Option.some.injEq] at hk
    subst hk
    refine ⟨by simp, hs.bel.size, fun id u hu hx => ?_⟩
    exact Nat.lt_irrefl _ (hs'.hr.blk_lt hu hx).2.1
theorem aop_buildSlice (hC : COKT P T C) (hs : SRi G S ρ st a w) {o : Oper} {t : TypeId} {len : Nat} {ps : Array (Nat × Operand)} (ho : o.op = .buildSlice t len ps) {K : ASt → Prop} (h : aop C o st K) : Goes P G o a w K := by
  simp only [aop, ho] at h
  intro Q nx _ hn
  split at h
  · rename_i e he
    split at h
    · rename_i ie hie
      split at h
      · rename_i els hels
        cases hb : (allEls ie.size els && Nat.beq els.length len && Nat.blt 0 ie.size && Nat.ble (len * ie.size) 16777216) with
        | false => rw [hb] at h; exact h.elim
        | true =>
          rw [hb] at h
          simp only [Bool.and_eq_true] at hb
          obtain ⟨⟨⟨b1, b2⟩, b3⟩, b4⟩ := hb
          obtain ⟨S', v, w', hrun, hs', hE, _, hk, hone⟩ := lit_ok hC hs ho he hie hels b1 b2 b3 b4
          have h2 := hs'.newB hE (fun k hk2 => (hk k hk2).2.2)
          unfold Oper.wp
          rw [hrun]
          refine hn _ _ _ h ⟨S', _, put_ok h2 o.dst (.own _ _ ?_ hone)⟩
          rw [← hs.hr.len]
          simp
      · exact h.elim
    · exact h.elim
  · exact h.elim
theorem made_get {z : Array Value} {n : Nat} (hz : 0 < z.size) {i j : Nat} (hi : i < n) (hj : j < z.size) : (madeCells z (n * z.size)).toList[i * z.size + j]? = z.toList[j]? := by
  have h1 : i * z.size + j < n * z.size := by
    have : (i + 1) * z.size ≤ n * z.size := Nat.mul_le_mul_right _ hi
    rw [Nat.add_mul] at this
    omega
  have h2 : (i * z.size + j) % z.size = j := by rw [Nat.add_comm, Nat.add_mul_mod_self_right, Nat.mod_eq_of_lt hj]
  unfold madeCells
  rw [Array.getElem?_toList, Array.getElem?_map, Array.getElem?_range, if_pos h1, Option.map_some, h2, Array.getElem?_toList, Array.getElem?_eq_getElem hj]
  simp [hj]
theorem aop_makeSlice (hC : COKT P T C) (hs : SRi G S ρ st a w) {o : Oper} {t : TypeId} {x y : Operand} (ho : o.op = .makeSlice t x y) {K : ASt → Prop} (h : aop C o st K) : Goes P G o a w K := by
  simp only [aop, ho] at h
  have hx := ev_ok hs x
  have hy := ev_ok hs y
  intro Q nx _ hn
  split at h
  · rename_i e he
    split at h
    · rename_i ie hie
      split at h
      · rename_i k n hex
        split at h
        · rename_i k' m hey
          obtain ⟨⟨hnm, h0, h1, h2⟩, h⟩ := h
          cases hb : Nat.blt 0 ie.size with
          | false => rw [hb] at h; exact h.elim
          | true =>
            rw [hb] at h
            have b3 : 0 < ie.size := Nat.le_of_ble_eq_true hb
            rw [hex] at hx
            rw [hey] at hy
            have ex := rv_int hx
            have ey := rv_int hy
            subst hnm
            obtain ⟨N, rfl⟩ : ∃ N : Nat, n = N := ⟨n.toNat, by omega⟩
            rw [Int.toNat_natCast] at h
            obtain ⟨d, info, z, hd, hi, hsz, hby, hz, hzc, _, hz1, hzl⟩ := hC.ty e ie hie
            have hzs : z.cells.size = ie.size := by
              have := (ofVals_ok w S z.cells.toList).1
              rw [hzc] at this
              rw [← hzl, ← this, Array.length_toList]
            have h2' : info.bytes * N ≤ 281474976710656 := by
              rw [hby]
              have h5 : ((ie.bytes * N : Nat) : Int) ≤ 281474976710656 := by rw [Int.natCast_mul]; exact h2
              omega
            obtain ⟨w', hr, r1, r2⟩ := run_make_full (P := P) w G.w0.heap.size t e info z ie.size (slice_ty hC he) hi hz hsz k k' N h2' (by unfold maxLen; omega) hs.bel.size
            have hb2 : Below w.heap.size w w' := (Below.refl _ w).grown r2 (Nat.le_refl _) (fun _ h => by cases h)
            have hs' := hs.grow hb2
            have hrun : (execOp a.eval o).run P w = .ok (.value (.slice (some ⟨w.heap.size, 0, none⟩) N N)) w' := by
              simp [execOp, ho, ex, ey, hr]
            have hE : Ent w' S G.w0.heap.size ρ (.slice (some ⟨w.heap.size, 0, none⟩) N N) (.row e ie.size N (fun _ => ie.zero)) := by
              refine ⟨⟨_, r1, fun i hi => ⟨hzl, hz1, fun j av hj => ?_⟩⟩, fun b hb hS => ?_⟩
              · have hjs : j < z.cells.size := by rw [hzs, ← hzl]; exact (List.getElem?_eq_some_iff.1 hj).1
                rw [← hzs, made_get (by omega) hi hjs, List.getElem?_eq_getElem (by simpa using hjs)]
                refine ⟨_, rfl, ?_⟩
                rw [← hzc] at hj
                exact (ofVals_ok w' S z.cells.toList).2 j av _ hj (List.getElem?_eq_getElem (by simpa using hjs))
              · simp only [Value.ownBlock, Option.some.injEq] at hb
                subst hb
                exact Nat.lt_irrefl _ (hs.lt _ hS)
            have h3 := hs'.newB hE (fun k hk id u hu hx => by
              simp only [blk, Value.ownBlock, Option.some.injEq] at hk
              subst hk
              exact Nat.lt_irrefl _ (hs.hr.blk_lt hu hx).2.1)
            unfold Oper.wp
            rw [hrun]
            refine hn _ _ _ h ⟨S, _, put_ok h3 o.dst (.own _ _ ?_ rfl)⟩
            rw [← hs.hr.len]
            simp
        · exact h.elim
      · exact h.elim
    · exact h.elim
  · exact h.elim
theorem splice_get {α : Type} (l c : List α) (p : Nat) (hp : p + c.length ≤ l.length) (q : Nat) : (l.take p ++ c ++ l.drop (p + c.length))[q]? = if q < p then l[q]? else if q < p + c.length then c[q - p]? else l[q]? := by
  simp only [List.getElem?_append, List.length_append, List.length_take, List.getElem?_take, List.getElem?_drop]
  rw [show min p l.length = p by omega]
  by_cases h1 : q < p
  · rw [if_pos (by omega), if_pos h1, if_pos h1, if_pos h1]
  · by_cases h2 : q < p + c.length
    · rw [if_pos (by omega), if_neg h1, if_neg h1, if_pos h2]
    · rw [if_neg (by omega), if_neg h1, if_neg h2]
      congr 1
      omega
theorem splice_len {α : Type} (l c : List α) (p : Nat) (hp : p + c.length ≤ l.length) : (l.take p ++ c ++ l.drop (p + c.length)).length = l.length := by
  simp only [List.length_append, List.length_take, List.length_drop]
  omega
theorem ones_of : ∀ (l : List AV), (∀ (j : Nat) (x : AV), l[j]? = some x → one x = true) → ones l = true
  | [], _ => rfl
  | x :: l, h => by
    simp only [ones, Bool.and_eq_true]
    exact ⟨h 0 x rfl, ones_of l (fun j y hy => h (j + 1) y (by simpa using hy))⟩
theorem store_run {t : TypeId} {i : TI} (hT : tyOk P t i) {g off : Nat} {cur : Array Value} {e : TypeId} (hg : w.heap[g]? = some (.cells cur e (0, 0))) {u : Value} {c : List AV} (hc : RVs w S ρ c u.cells.toList) (ho : ones c = true) (hl : c.length = i.size) (hle : off + i.size ≤ cur.size) :
    (Instr.storeAt t (.pointer (some ⟨g, off, none⟩)) u).run P w = .ok () (w.setRow g (cur.toList.take off ++ u.cells.toList ++ cur.toList.drop (off + u.cells.toList.length)).toArray) := by
  obtain ⟨d, info, z, hd, hi, hsz, _, _, _, _, _, _⟩ := hT
  have hul : u.cells.size = info.size := by rw [← Array.length_toList, hc.1, hl, hsz]
  have hone : ∀ v ∈ u.cells.toList, v.oneCell' = true := fun v hv => by
    obtain ⟨k, hk⟩ := List.mem_iff_getElem?.1 hv
    have hlt : k < c.length := by rw [← hc.1]; exact (List.getElem?_eq_some_iff.1 hk).1
    exact (hc.2 k _ v (List.getElem?_eq_getElem hlt) hk).oneCell (ones_get ho (List.getElem?_eq_getElem hlt))
  have := run_storeCells_at (P := P) g off e u.cells.toList 0 cur w hg (by rw [Array.length_toList, hul, hsz]; omega) hone
  rw [Nat.add_zero] at this
  unfold Instr.storeAt storeVar
  simp only [Instr.sureAddr, Sem.run_bind, Sem.run_pure, Result.andThen_ok, run_sizeOf hi, hul, ne_eq, not_true_eq_false, if_false, this]
theorem aop_store (hC : COKT P T C) (hs : SRi G S ρ st a w) {o : Oper} {t : TypeId} {x v : Operand} (ho : o.op = .store t x v) {K : ASt → Prop} (h : aop C o st K) : Goes P G o a w K := by
  simp only [aop, ho] at h
  have hx := ev_ok hs x
  have hv := ev_ok hs v
  intro Q nx _ hn
  have fin : ∀ {st1 : ASt} {w1 : World}, (Instr.storeAt t (a.eval x) (a.eval v)).run P w = .ok () w1 → K (st1.put o.dst .any) → SRi G S ρ st1 a w1 → o.wp P a w nx Q := by
    intro st1 w1 hr hK h1
    have hrun : (execOp a.eval o).run P w = .ok .skip w1 := by
      simp only [execOp, ho, Sem.run_bind, hr, Result.andThen_ok, Sem.run_pure]
    unfold Oper.wp
    rw [hrun]
    exact hn _ _ _ hK ⟨S, ρ, put_ok h1 o.dst (.st _ _ (.any undef))⟩
  split at h
  · rename_i i hi
    have hT := hC.ty t i hi
    split at h
    · rename_i id off he
      rw [he] at hx
      obtain ⟨b, hb, e⟩ := rv_ptr hx
      have hE := hs.hr.ent id _ hb
      split at h
      · rename_i t' cs hbx
        rw [hbx] at hE
        cases hq : (Nat.beq (cells (ev st v)).length i.size && Nat.ble (off + i.size) cs.length && ones (cells (ev st v))) with
        | false => rw [hq] at h; exact h.elim
        | true =>
          rw [hq] at h
          simp only [Bool.and_eq_true] at hq
          obtain ⟨⟨q1, q2⟩, q3⟩ := hq
          have q1 := Nat.eq_of_beq_eq_true q1
          have q2 := Nat.le_of_ble_eq_true q2
          obtain ⟨b', vs, e2, h1, h2, h3, h4, h5⟩ := hE
          cases e2
          have hc := cells_ok hv q3
          have hul := hc.1
          have hrun := store_run hT h2 hc q3 q1 (off := off) (by rw [List.size_toArray, h4.1]; exact q2)
          rw [← e] at hrun
          refine fin hrun h ?_
          have hlt : b < w.heap.size := (Array.getElem?_eq_some_iff.1 h2).1
          have hoth : ∀ k, k ≠ b → (w.setRow b (vs.toArray.toList.take off ++ (a.eval v).cells.toList ++ vs.toArray.toList.drop (off + (a.eval v).cells.toList.length)).toArray).heap[k]? = w.heap[k]? := fun k hk => setRow_other w b k _ hk
          have hSw : ∀ k, S k → (w.setRow b (vs.toArray.toList.take off ++ (a.eval v).cells.toList ++ vs.toArray.toList.drop (off + (a.eval v).cells.toList.length)).toArray).heap[k]? = w.heap[k]? := fun k hk => hoth k (fun e => h5 (e ▸ hk))
          refine hs.upd id _ (fun y hy => ?_) hSw (fun j y k hj hy hk => hoth k (fun e => ?_)) (by simp [World.setRow]) ?_
          · rw [hb] at hy
            obtain rfl := Option.some.inj hy
            refine ⟨⟨b, vs.take off ++ (a.eval v).cells.toList ++ vs.drop (off + (a.eval v).cells.toList.length), rfl, h1, setRow_heap w b _ _ t' (0, 0) h2, ?_, ?_, h5⟩, fun k hk => by rw [hbx]; exact hk⟩
            · refine ones_of _ fun j z hz => ?_
              rw [← q1, splice_get _ _ _ (by omega)] at hz
              split at hz
              · exact ones_get h3 hz
              · split at hz
                · exact ones_get q3 hz
                · exact ones_get h3 hz
            · refine ⟨?_, fun j z u hz hu => ?_⟩
              · have l1 := splice_len vs (a.eval v).cells.toList off (by rw [hul, h4.1]; omega)
                have l2 := splice_len cs (cells (ev st v)) off (by omega)
                rw [← q1, l1, l2, h4.1]
              · rw [← q1, splice_get _ _ _ (by omega)] at hz
                rw [splice_get _ _ _ (by rw [hul, h4.1]; omega), hul] at hu
                split at hz
                · rename_i hj
                  rw [if_pos hj] at hu
                  exact (h4.2 j z u hz hu).mono (fun _ q => q) hSw (fun _ _ q => q)
                · rename_i hj
                  rw [if_neg hj] at hu
                  split at hz
                  · rename_i hj2
                    rw [if_pos hj2] at hu
                    exact (hc.2 _ z u hz hu).mono (fun _ q => q) hSw (fun _ _ q => q)
                  · rename_i hj2
                    rw [if_neg hj2] at hu
                    exact (h4.2 j z u hz hu).mono (fun _ q => q) hSw (fun _ _ q => q)
          · subst e
            exact hs.hr.apart j id y _ _ hj hy hb hk (by rw [hbx]; rfl)
          · refine hs.bel.trans ⟨rfl, rfl, rfl, by simp [World.setRow], fun k hk => hoth k (by omega)⟩
      · exact h.elim
    · rename_i id sz k off he
      rw [he] at hx
      obtain ⟨b, n0, cap0, hb, hk0, e⟩ := rv_optr hx
      have hE := hs.hr.ent id _ hb
      split at h
      · rename_i et sz' n el hbx
        rw [hbx] at hE
        cases hq : (Nat.beq (cells (ev st v)).length i.size && Nat.beq sz sz' && Nat.ble (off + i.size) sz' && ones (cells (ev st v)) && stb.stbs (cells (ev st v))) with
        | false => rw [hq] at h; exact h.elim
        | true =>
          rw [hq] at h
          simp only [Bool.and_eq_true] at hq
          obtain ⟨⟨⟨⟨q1, q0⟩, q2⟩, q3⟩, q4⟩ := hq
          have q1 := Nat.eq_of_beq_eq_true q1
          obtain rfl := Nat.eq_of_beq_eq_true q0
          have q2 := Nat.le_of_ble_eq_true q2
          obtain ⟨⟨inner, hown, hel⟩, hnS⟩ := hE
          rcases hown.2 with ⟨e2, _⟩ | ⟨g, cap, cur, e2, hbg, hg, hnc, hcm, hcs, htk⟩
          · cases e2
          · cases e2
            have hc := cells_ok hv q3
            have hul := hc.1
            have hc0 := hc.toSt q4
            have hil := hown.1
            have hpos : k * sz + sz ≤ inner.length := by
              rw [hil]
              calc k * sz + sz = (k + 1) * sz := by rw [Nat.add_mul]; omega
                _ ≤ n0 * sz := Nat.mul_le_mul_right _ hk0
            have hnc2 : n0 * sz ≤ cur.size := by rw [hcs]; exact Nat.mul_le_mul_right _ hnc
            have hcl : cur.toList.length = cur.size := Array.length_toList
            have hcu : (a.eval v).cells.size = (a.eval v).cells.toList.length := Array.length_toList.symm
            have hrun := store_run hT hg hc q3 q1 (off := k * sz + off) (by rw [← hil] at hnc2; omega)
            rw [← e] at hrun
            refine fin hrun h ?_
            have hoth : ∀ j, j ≠ b → (w.setRow b (cur.toList.take (k * sz + off) ++ (a.eval v).cells.toList ++ cur.toList.drop (k * sz + off + (a.eval v).cells.toList.length)).toArray).heap[j]? = w.heap[j]? := fun j hj => setRow_other w b j _ hj
            have hnSb : ¬ S b := hnS b rfl
            have hSw : ∀ j, S j → (w.setRow b (cur.toList.take (k * sz + off) ++ (a.eval v).cells.toList ++ cur.toList.drop (k * sz + off + (a.eval v).cells.toList.length)).toArray).heap[j]? = w.heap[j]? := fun j hj => hoth j (fun e => hnSb (e ▸ hj))
            refine hs.upd id _ (fun y hy => ?_) hSw (fun j y z hj hy hz => hoth z (fun e => ?_)) (by simp [World.setRow]) ?_
            · rw [hb] at hy
              obtain rfl := Option.some.inj hy
              refine ⟨⟨⟨inner.take (k * sz + off) ++ (a.eval v).cells.toList ++ inner.drop (k * sz + off + (a.eval v).cells.toList.length), ⟨?_, .inr ⟨b, cap0, _, rfl, hbg, setRow_heap w b _ _ et (0, 0) hg, hnc, hcm, ?_, ?_⟩⟩, fun i' hi' => ?_⟩, hnS⟩, fun z hz => by rw [hbx]; exact hz⟩
              · rw [splice_len _ _ _ (by omega), hil]
              · rw [List.size_toArray, splice_len _ _ _ (by omega), Array.length_toList, hcs]
              · apply List.ext_getElem?
                intro q
                rw [List.getElem?_take, splice_get _ _ _ (by omega), splice_get _ _ _ (by omega)]
                have hti : ∀ q, q < n0 * sz → cur.toList[q]? = inner[q]? := fun q hq => by
                  rw [← htk, List.getElem?_take, if_pos hq]
                by_cases hqn : q < n0 * sz
                · rw [if_pos hqn]
                  split
                  · exact hti q hqn
                  · split
                    · rfl
                    · exact hti q hqn
                · rw [if_neg hqn, if_neg (by omega), if_neg (by omega), List.getElem?_eq_none (by omega)]
              · have hget : ∀ j, (inner.take (k * sz + off) ++ (a.eval v).cells.toList ++ inner.drop (k * sz + off + (a.eval v).cells.toList.length))[i' * sz + j]? = if i' * sz + j < k * sz + off then inner[i' * sz + j]? else if i' * sz + j < k * sz + off + (a.eval v).cells.toList.length then (a.eval v).cells.toList[i' * sz + j - (k * sz + off)]? else inner[i' * sz + j]? := fun j => splice_get _ _ _ (by omega) _
                unfold putEl
                cases hik : Nat.beq i' k with
                | true =>
                  obtain rfl := Nat.eq_of_beq_eq_true hik
                  rw [cond_true]
                  obtain ⟨p1, p2, p3⟩ := hel i' hi'
                  refine ⟨?_, ?_, fun j z hz => ?_⟩
                  · rw [← q1, splice_len _ _ _ (by omega), p1]
                  · refine ones_of _ fun j z hz => ?_
                    rw [← q1, splice_get _ _ _ (by omega)] at hz
                    split at hz
                    · exact ones_get p2 hz
                    · split at hz
                      · exact ones_get q3 hz
                      · exact ones_get p2 hz
                  · rw [← q1, splice_get _ _ _ (by omega)] at hz
                    rw [hget j]
                    split at hz
                    · rename_i hj
                      rw [if_pos (by omega)]
                      obtain ⟨u, r1, r2⟩ := p3 j z hz
                      exact ⟨u, r1, r2.mono (fun _ q => q) hSw⟩
                    · rename_i hj
                      rw [if_neg (by omega)]
                      split at hz
                      · rename_i hj2
                        rw [if_pos (by omega)]
                        have hlt : j - off < (a.eval v).cells.toList.length := by omega
                        refine ⟨(a.eval v).cells.toList[j - off], ?_, (hc0.2 _ z _ hz (List.getElem?_eq_getElem hlt)).mono (fun _ q => q) hSw⟩
                        rw [show i' * sz + j - (i' * sz + off) = j - off by omega]
                        exact List.getElem?_eq_getElem hlt
                      · rename_i hj2
                        rw [if_neg (by omega)]
                        obtain ⟨u, r1, r2⟩ := p3 j z hz
                        exact ⟨u, r1, r2.mono (fun _ q => q) hSw⟩
                | false =>
                  rw [cond_false]
                  have hne : i' ≠ k := fun e => by rw [e, Nat.beq_refl] at hik; cases hik
                  obtain ⟨p1, p2, p3⟩ := hel i' hi'
                  refine ⟨p1, p2, fun j z hz => ?_⟩
                  have hj : j < sz := by rw [← p1]; exact (List.getElem?_eq_some_iff.1 hz).1
                  obtain ⟨u, r1, r2⟩ := p3 j z hz
                  refine ⟨u, ?_, r2.mono (fun _ q => q) hSw⟩
                  rw [hget j]
                  rcases Nat.lt_or_gt_of_ne hne with hlt | hgt
                  · have : (i' + 1) * sz ≤ k * sz := Nat.mul_le_mul_right _ hlt
                    rw [Nat.add_mul] at this
                    rw [if_pos (by omega)]
                    exact r1
                  · have : (k + 1) * sz ≤ i' * sz := Nat.mul_le_mul_right _ hgt
                    rw [Nat.add_mul] at this
                    rw [if_neg (by omega), if_neg (by omega)]
                    exact r1
            · subst e
              exact hs.hr.apart j id y _ z hj hy hb hz (by rw [hbx]; rfl)
            · refine hs.bel.trans ⟨rfl, rfl, rfl, by simp [World.setRow], fun j hj => hoth j (by omega)⟩
      · exact h.elim
    · exact h.elim
  · exact h.elim
theorem aop_append (hC : COKT P T C) (hs : SRi G S ρ st a w) {o : Oper} {args : Array Operand} {ats : Array TypeId} (ho : o.op = .call { callee := .builtin .append, args := args, argTypes := ats }) {K : ASt → Prop} (h : aop C o st K) : Goes P G o a w K := by
  simp only [aop, ho] at h
  have hv := evs_ok hs args.toList
  intro Q nx _ hn
  split at h
  · rename_i t u hats
    have hat0 : ats = #[t, u] := by
      apply Array.ext'
      rw [hats]
    split at h
    · rename_i s x hsx
      rw [hsx] at hv
      obtain ⟨hl, hv⟩ := hv
      match hm : args.toList.map a.eval, hl with
      | [us, ux], hl2 =>
      have hargs : args.map a.eval = #[us, ux] := by
        apply Array.ext'
        rw [Array.toList_map]
        exact hm
      have hrs := hv 0 s us rfl (by rw [hm]; rfl)
      have hrx := hv 1 x ux rfl (by rw [hm]; rfl)
      split at h
      · rename_i e he
        split at h
        · rename_i ie hie
          have hu := slice_ty hC he
          have hT := hC.ty e ie hie
          split at h
          · rename_i m elx hsrc
            -- what is appended
            have hx : ∃ (A : Option Addr) (cap : Nat) (g : Nat → Nat → Value), ux = .slice A m cap ∧ (∀ i, i < m → (elx i).length = ie.size ∧ ones (elx i) = true) ∧
                (∀ i j, i < m → j < ie.size → ∃ ad, A = some ad ∧ w.cell? (ad.add (i * ie.size + j)) = some (g i j)) ∧ ∀ (i j : Nat) (x : AV), i < m → (elx i)[j]? = some x → RV0 w S x (g i j) := by
              unfold appSrc at hsrc
              split at hsrc
              · simp only [Option.some.injEq, Prod.mk.injEq] at hsrc
                obtain ⟨rfl, rfl⟩ := hsrc
                obtain rfl := rv_nil hrx
                exact ⟨none, 0, fun _ _ => undef, rfl, fun i hi => by omega, fun i j hi => by omega, fun i j x hi => by omega⟩
              · rename_i hnn
                split at hsrc
                · rename_i sz' n' el' hsl
                  obtain ⟨hz, hsrc⟩ := cond_some hsrc
                  simp only [Option.some.injEq, Prod.mk.injEq] at hsrc
                  obtain ⟨rfl, rfl⟩ := hsrc
                  obtain rfl := Nat.eq_of_beq_eq_true hz
                  exact asSl_els hs.hr hrx hsl (fun e => hnn e)
                · cases hsrc
            obtain ⟨A, cap, g, rfl, hx1, hx2, hx3⟩ := hx
            have htu : Nat.beq t u = true → ats = #[t, t] := fun hb => by
              rw [hat0, Nat.eq_of_beq_eq_true hb]
            have hrunx : ∀ {v1 : Value} {w1 : World}, Nat.beq t u = true → (Builtin.append_ #[t, t] o.type #[us, .slice A m cap]).run P w = .ok v1 w1 → (execOp a.eval o).run P w = .ok (.value v1) w1 := by
              intro v1 w1 hb hr
              have : Builtin.append_ ats o.type #[us, .slice A m cap] = Builtin.append_ #[t, t] o.type #[us, .slice A m cap] := by
                rw [htu hb]
              simp only [execOp, ho, resolve, Sem.run_bind, Sem.run_pure, Result.andThen_ok, invoke, builtin, hargs, this, hr]
            split at h
            · rename_i id
              have hus := rv_own hrs
              have hE := hs.hr.ent id us hus
              split at h
              · rename_i e' sz n el hrow
                rw [hrow] at hE
                cases hq : (Nat.beq t u && Nat.blt 0 ie.size && Nat.blt 0 ie.bytes && Nat.beq e e' && Nat.beq sz ie.size) with
                | false => rw [hq] at h; exact h.elim
                | true =>
                  rw [hq] at h
                  simp only [Bool.and_eq_true] at hq
                  obtain ⟨⟨⟨⟨q1, q2⟩, q3⟩, q4⟩, q5⟩ := hq
                  obtain rfl := Nat.eq_of_beq_eq_true q4
                  obtain rfl := Nat.eq_of_beq_eq_true q5
                  obtain ⟨⟨hbytes⟩, hK⟩ := h
                  obtain ⟨⟨inner, hown, hel⟩, hnS⟩ := hE
                  obtain ⟨v1, w1, hr, hg, hat, hE1⟩ := append_ok (P := P) (w := w) (S := S) (ρ := ρ) (base := G.w0.heap.size) (ty := o.type) hu hT (Nat.le_of_ble_eq_true q2) (Nat.le_of_ble_eq_true q3) hown hel hs.bel.size hnS hs.lt hx1 hx2 hx3 hbytes
                  have hSw : ∀ b, S b → w1.heap[b]? = w.heap[b]? := fun b hb => hg.block b (hs.lt b hb) (fun e => hnS b e.symm hb)
                  have hlt := hown.lt
                  have h1 := hs.upd (w' := w1) id .dead (fun y hy => ⟨trivial, fun k hk => by cases y <;> cases hk⟩) hSw (fun j y k hj hy hk => hg.block k (hs.hr.blk_lt hy hk).2.1 (fun e => by
                    exact hs.hr.apart j id y us k hj hy hus hk (by rw [hrow]; exact e.symm))) hg.size (hs.bel.grown hg hs.bel.size (fun k hk => (hlt k hk).1))
                  have h2 := h1.newB (b := .row e ie.size (n + m) (catEl n el elx)) hE1 (fun k hk j y hy hx => by
                    have hx2 : blk (hAt (hSet st.heap id .dead) j) y = some k := hx
                    rw [hAt_set] at hx2
                    by_cases hj : j = id ∧ id < st.heap.length
                    · rw [if_pos hj] at hx2
                      cases y <;> cases hx2
                    · rw [if_neg hj] at hx2
                      have hjl : j < st.heap.length := by rw [← hs.hr.len]; exact (List.getElem?_eq_some_iff.1 hy).1
                      have hne : j ≠ id := fun e => hj ⟨e, by omega⟩
                      have hk2 : v1.ownBlock = some k := hk
                      rcases hat with q | q
                      · rw [q] at hk2
                        exact hs.hr.apart j id y us k hne hy hus hx2 (by rw [hrow]; exact hk2)
                      · rw [q] at hk2
                        have := (hs.hr.blk_lt hy hx2).2.1
                        have := Option.some.inj hk2
                        omega)
                  have hone : v1.oneCell' = true := by
                    obtain ⟨⟨_, q, _⟩, _⟩ := hE1
                    rcases q.2 with ⟨rfl, _⟩ | ⟨_, _, _, rfl, _⟩ <;> rfl
                  unfold Oper.wp
                  rw [hrunx q1 hr]
                  refine hn _ _ _ hK ⟨S, _, put_ok h2 o.dst (.own _ _ ?_ hone)⟩
                  rw [← hs.hr.len]
                  simp
              · exact h.elim
            · obtain rfl := rv_nil hrs
              cases hq : (Nat.beq t u && Nat.blt 0 ie.size && Nat.blt 0 ie.bytes) with
              | false => rw [hq] at h; exact h.elim
              | true =>
                rw [hq] at h
                simp only [Bool.and_eq_true] at hq
                obtain ⟨⟨q1, q2⟩, q3⟩ := hq
                obtain ⟨⟨hbytes⟩, hK⟩ := h
                obtain ⟨v1, w1, hr, hg, hat, hE1⟩ := append_ok (P := P) (w := w) (S := S) (ρ := ρ) (base := G.w0.heap.size) (ty := o.type) (v := .slice none 0 0) (n := 0) (inner := []) (el := fun _ => []) hu hT (Nat.le_of_ble_eq_true q2) (Nat.le_of_ble_eq_true q3) (World.ownsRow_nil w _ e _) (fun k hk => by omega) hs.bel.size (fun b hb => by cases hb) hs.lt hx1 hx2 hx3 hbytes
                have hb1 : Below w.heap.size w w1 := (Below.refl _ _).grown hg (Nat.le_refl _) (fun k hk => by cases hk)
                have hE2 : Ent w1 S G.w0.heap.size ρ v1 (.row e ie.size m elx) := by
                  obtain ⟨⟨inner, r1, r2⟩, r3⟩ := hE1
                  rw [Nat.zero_add] at r1 r2
                  refine ⟨⟨inner, r1, fun k hk => ?_⟩, r3⟩
                  have := r2 k hk
                  unfold catEl at this
                  rw [show Nat.blt k 0 = false from rfl, cond_false, Nat.sub_zero] at this
                  exact this
                have h2 := (hs.grow hb1).newB hE2 (fun k hk j y hy hx => by
                  have hk2 : v1.ownBlock = some k := hk
                  rcases hat with q | q
                  · rw [q] at hk2; cases hk2
                  · rw [q] at hk2
                    have := (hs.hr.blk_lt hy hx).2.1
                    have := Option.some.inj hk2
                    omega)
                have hone : v1.oneCell' = true := by
                  obtain ⟨⟨_, q, _⟩, _⟩ := hE1
                  rcases q.2 with ⟨rfl, _⟩ | ⟨_, _, _, rfl, _⟩ <;> rfl
                unfold Oper.wp
                rw [hrunx q1 hr]
                refine hn _ _ _ hK ⟨S, _, put_ok h2 o.dst (.own _ _ ?_ hone)⟩
                rw [← hs.hr.len]
                simp
            · exact h.elim
          · exact h.elim
        · exact h.elim
      · exact h.elim
    · exact h.elim
  · exact h.elim
theorem Calls.mono' {f : FuncId} {args : Array Value} {R R' : Ending → World → Prop} (h : Calls P f args w R) (hr : ∀ e w', R e w' → R' e w') : Calls P f args w R' := Calls.mono h hr
theorem view_ok (hs : SRi G S ρ st a w) {vs : List AV} {us : List Value} (hv : RVs w S ρ vs us) : RVs0 w (Sx S ρ st.heap (ids.idss vs)) (fz.fzs st.heap vs) us ∧ ∀ b, Sx S ρ st.heap (ids.idss vs) b → b < w.heap.size := by
  refine ⟨fzs_ok hs.hr hv, fun b hb => ?_⟩
  rcases hb with q | ⟨id, v, _, q1, q2⟩
  · exact hs.lt b q
  · exact (hs.hr.blk_lt q1 (blkF_blk q2)).2.1
theorem flats_get : ∀ (l : List AV) (i : Nat) (x : AV), flat.flats l = true → l[i]? = some x → flat x = true := by
  intro l
  induction l with
  | nil => intro i x _ h; simp at h
  | cons y l ih2 =>
    intro i x hq hx
    simp only [flat.flats, Bool.and_eq_true] at hq
    cases i with
    | zero => simp at hx; exact hx ▸ hq.1
    | succ i => exact ih2 i x hq.2 (by simpa using hx)
theorem flat0 {S2 : Nat → Prop} {r : AV} {v : Value} (hr : RV0 w S2 r v) : flat r = true → RV0 w S r v := by
  induction hr with
  | any => intro q; cases q
  | gone => intro q; cases q
  | int k n => exact fun _ => .int k n
  | lit b => exact fun _ => .lit b
  | sb b => exact fun _ => .sb b
  | str s => exact fun _ => .str s
  | agg cs vs hl _ ih => exact fun q => .agg cs vs hl fun i x v h1 h2 => ih i x v h1 h2 (flats_get cs i x q h1)
  | tup cs vs hl _ ih => exact fun q => .tup cs vs hl fun i x v h1 h2 => ih i x v h1 h2 (flats_get cs i x q h1)
  | nil => exact fun _ => .nil
  | sl => intro q; cases q
  | rptr => intro q; cases q
  | fn => intro q; cases q
  | iface => intro q; cases q
  | nilI => exact fun _ => .nilI
  | nilF => exact fun _ => .nilF
  | nilM => exact fun _ => .nilM
  | nilP => exact fun _ => .nilP
/-- A call that gives a value. -/
theorem call_st (hs : SRi G S ρ st a w) {dst : Option Tmp} {g : FuncId} {vs : List AV} {us : List Value} (hv : RVs w S ρ vs us) {r : AV} (hF : FnT T P g (fz.fzs st.heap vs) (.st r)) :
    Calls P g us.toArray w fun e w' => ∃ v, e = .returned v ∧ SR G (cond (flat r) (st.put dst r) ((st.setH (frz st.heap (ids.idss vs))).put dst r)) (a.put dst v) w' := by
  obtain ⟨h0, hlt⟩ := view_ok hs hv
  refine (hF.2 w _ us (fun w2 hb2 => G.tw w2 (hs.bel.trans (hb2.mono hs.bel.size))) hlt h0).mono ?_
  rintro e w' ⟨v, S2, rfl, hres, hS1, hS2, hb⟩
  refine ⟨v, rfl, ?_⟩
  cases hfl : flat r with
  | true => exact ⟨S, ρ, put_ok (hs.grow hb) dst (.st _ _ (flat0 hres hfl))⟩
  | false =>
    obtain ⟨S1, hs1, hS⟩ := hs.frz (ids.idss vs)
    have hs2 := (hs1.grow hb).more (S' := S2) (fun b hb => hS1 b ((hS b).1 hb)) (fun b hb2 => by
      obtain ⟨q1, q2⟩ := hS2 b hb2
      refine ⟨q1, ?_⟩
      rcases q2 with q2 | q2
      · exact .inl ((hS b).2 q2)
      · refine .inr ⟨Nat.le_trans hs.bel.size q2, fun id y hy hk => ?_⟩
        have := (hs1.hr.blk_lt hy hk).2.1
        omega)
    exact ⟨S2, ρ, put_ok hs2 dst (.st _ _ hres)⟩
/-- A call that gives a row of its own. -/
theorem call_row (hs : SRi G S ρ st a w) {dst : Option Tmp} {g : FuncId} {vs : List AV} {us : List Value} (hv : RVs w S ρ vs us) {e : TypeId} {sz n : Nat} {el : Nat → List AV} (hF : FnT T P g (fz.fzs st.heap vs) (.row e sz n el)) :
    Calls P g us.toArray w fun e' w' => ∃ v, e' = .returned v ∧ SR G (((st.setH (frz st.heap (ids.idss vs))).newB (.row e sz n el)).put dst (.own st.heap.length)) (a.put dst v) w' := by
  obtain ⟨h0, hlt⟩ := view_ok hs hv
  refine (hF.2 w _ us (fun w2 hb2 => G.tw w2 (hs.bel.trans (hb2.mono hs.bel.size))) hlt h0).mono ?_
  rintro e' w' ⟨v, S2, rfl, hres, hS1, hS2, hb⟩
  refine ⟨v, rfl, ?_⟩
  obtain ⟨S1, hs1, hS⟩ := hs.frz (ids.idss vs)
  have hs2 := (hs1.grow hb).more (S' := S2) (fun b hb => hS1 b ((hS b).1 hb)) (fun b hb2 => by
    obtain ⟨q1, q2⟩ := hS2 b hb2
    refine ⟨q1, ?_⟩
    rcases q2 with q2 | q2
    · exact .inl ((hS b).2 q2)
    · refine .inr ⟨Nat.le_trans hs.bel.size q2, fun id y hy hk => ?_⟩
      have := (hs1.hr.blk_lt hy hk).2.1
      omega)
  obtain ⟨⟨inner, hown, hel⟩, hnS⟩ := hres
  have hown2 : w'.ownsRow G.w0.heap.size e sz v n inner := by
    refine ⟨hown.1, ?_⟩
    rcases hown.2 with q | ⟨g, cap, cur, rfl, q1, q2⟩
    · exact .inl q
    · exact .inr ⟨g, cap, cur, rfl, Nat.le_trans hs.bel.size q1, q2⟩
  have hone : v.oneCell' = true := by
    rcases hown.2 with ⟨rfl, _⟩ | ⟨_, _, _, rfl, _⟩ <;> rfl
  have h3 := hs2.newB (b := .row e sz n el) (v := v) ⟨⟨inner, hown2, hel⟩, hnS⟩ (fun k hk j y hy hx => by
    have := (hs1.hr.blk_lt hy hx).2.1
    have := (hown.lt k hk).1
    omega)
  refine ⟨S2, _, put_ok h3 dst (.own _ _ ?_ hone)⟩
  rw [← hs.hr.len]
  simp
/-- A row of a call's own may be taken as a value. -/
theorem FnT.toSt {f : FuncId} {args : List AV} {e : TypeId} {sz n : Nat} {el : Nat → List AV} (hF : FnT T P f args (.row e sz n el)) : FnT T P f args (.st (.sl sz n el)) := by
  refine ⟨hF.1, fun w S vs ht hlt hv => (hF.2 w S vs ht hlt hv).mono ?_⟩
  rintro e' w' ⟨v, S2, rfl, hres, hS1, hS2, hb⟩
  have hown := hres.1.choose_spec.1
  refine ⟨v, fun b => S2 b ∨ v.ownBlock = some b, rfl, row_sl (ρ := []) hres (fun b hb => .inl hb) (fun b hb => .inr hb), fun b hb => .inl (hS1 b hb), fun b hb2 => ?_, hb⟩
  rcases hb2 with q | q
  · exact hS2 b q
  · exact ⟨(hown.lt b q).2, .inr (hown.lt b q).1⟩
/-- A call, by the table. -/
theorem callA_ok (hC : COKT P T C) (hs : SRi G S ρ st a w) {dst : Option Tmp} {g : FuncId} {vs : List AV} {us : List Value} (hv : RVs w S ρ vs us) {K : ASt → Prop} (h : callA C dst st g vs K) :
    (∃ fn, P.funcs[g]? = some fn ∧ (fn.name == "runtime.NumGoroutine") = false ∧ fn.body.isNone = false) ∧
    Calls P g us.toArray w fun e w' => ∃ v, e = .returned v ∧ ∃ st', K st' ∧ SR G st' (a.put dst v) w' := by
  obtain ⟨res, hF, hK⟩ := hC.tbl _ _ _ h
  cases res with
  | st r => exact ⟨hF.1, (call_st hs hv hF).mono fun e w' ⟨v, h1, h2⟩ => ⟨v, h1, _, hK, h2⟩⟩
  | row e sz n el => exact ⟨hF.1, (call_row hs hv hF).mono fun e w' ⟨v, h1, h2⟩ => ⟨v, h1, _, hK, h2⟩⟩
/-- A slice against nil. -/
theorem aop_nil (hC : COKT P T C) (hs : SRi G S ρ st a w) {o : Oper} {t ty : TypeId} {x y : Operand} {n : Nat} (ho : o.op = .binOp .eql t x y ty) {K : ASt → Prop} (hn : nilTest st.heap (ev st x) (ev st y) = some n) (h : cond (isSlice (C.tyD t)) (∀ b : Bool, (b = true → n = 0) → K (st.put o.dst (.sb b))) False) : Goes P G o a w K := by
  cases hsl : isSlice (C.tyD t) with
  | false => rw [hsl] at h; exact h.elim
  | true =>
    rw [hsl] at h
    obtain ⟨e, hd⟩ : ∃ e, C.tyD t = .slice e := by
      revert hsl
      cases C.tyD t <;> intro h <;> first | exact ⟨_, rfl⟩ | cases h
    have hu := slice_ty hC hd
    have hx := ev_ok hs x
    have hy := ev_ok hs y
    have sl0 : ∀ {sz m : Nat} {el : Nat → List AV} {v : Value}, Nat.blt 0 sz = true → RV0 w S (.sl sz m el) v → ∃ A cap, v = .slice A m cap ∧ (A = none → m = 0) := by
      intro sz m el v hsz h
      cases h with
      | sl _ _ _ A cap g hcap hmax hl hm hr =>
        refine ⟨A, cap, rfl, fun e => ?_⟩
        rcases Nat.eq_zero_or_pos m with q | q
        · exact q
        · obtain ⟨ad, h1, _⟩ := hm 0 0 q (Nat.le_of_ble_eq_true hsz)
          rw [e] at h1
          cases h1
    have key : (∃ A cap, a.eval x = .slice A n cap ∧ (A = none → n = 0)) → ev st y = .nil → Goes P G o a w K := by
      rintro ⟨A, cap, ex, hA⟩ e2
      rw [e2] at hy
      have ey := rv_nil hy
      refine Goes.val hs ⟨.bool A.isNone, ?_, .st _ _ (.sb _)⟩ (h A.isNone (fun q => hA (by simpa using q)))
      have := Go.Lib.run_eql_slice_nil (P := P) w t e A n cap 0 0 hu
      simp [execOp, ho, ex, ey, this, eqGuard_at_slice]
    unfold nilTest at hn
    split at hn
    · rename_i v' e2
      split at hn
      · rename_i sz m el e1
        obtain ⟨hsz, hn⟩ := cond_some hn
        obtain rfl := Option.some.inj hn
        rw [e1] at hx
        refine key ?_ e2
        cases hx with
        | st _ _ h => exact sl0 hsz h
      · rename_i id e1
        rw [e1] at hx
        have hu2 := rv_own hx
        have hE := hs.hr.ent id _ hu2
        split at hn
        · rename_i e' sz m el he
          obtain ⟨hsz, hn⟩ := cond_some hn
          obtain rfl := Option.some.inj hn
          rw [he] at hE
          refine key ?_ e2
          obtain ⟨⟨inner, q1, q2⟩, q3⟩ := hE
          rcases q1.2 with ⟨q4, rfl⟩ | ⟨g, cap, cur, q4, _⟩
          · exact ⟨none, 0, q4, fun _ => rfl⟩
          · exact ⟨_, _, q4, fun e => by cases e⟩
        · rename_i sz m el he
          obtain ⟨hsz, hn⟩ := cond_some hn
          obtain rfl := Option.some.inj hn
          rw [he] at hE
          exact key (sl0 hsz hE) e2
        · cases hn
      · cases hn
    · cases hn
theorem cells_one {sz n : Nat} {el : Nat → List AV} {inner : List Value} (hp : 0 < sz) (hl : inner.length = n * sz) (hel : ∀ k, k < n → (el k).length = sz ∧ ones (el k) = true ∧ ∀ (j : Nat) (x : AV), (el k)[j]? = some x → ∃ u, inner[k * sz + j]? = some u ∧ RV0 w S x u) : ∀ u ∈ inner, u.oneCell' = true := by
  intro u hu
  obtain ⟨q, hq⟩ := List.mem_iff_getElem?.1 hu
  have hlt : q < n * sz := by rw [← hl]; exact (List.getElem?_eq_some_iff.1 hq).1
  have h1 : q / sz < n := Nat.div_lt_of_lt_mul (by rw [Nat.mul_comm]; exact hlt)
  have h2 : q % sz < sz := Nat.mod_lt _ hp
  have h3 : q / sz * sz + q % sz = q := by rw [Nat.mul_comm]; exact Nat.div_add_mod q sz
  obtain ⟨e1, e2, e3⟩ := hel _ h1
  have hx : (el (q / sz))[q % sz]? = some ((el (q / sz))[q % sz]'(by rw [e1]; exact h2)) := List.getElem?_eq_getElem _
  obtain ⟨u', h4, h5⟩ := e3 _ _ hx
  rw [h3, hq] at h4
  obtain rfl := Option.some.inj h4
  exact h5.oneCell (ones_get e2 hx)
theorem callI_ok (hs : SRi G S ρ st a w) {dst : Option Tmp} {g : FuncId} {e : TypeId} {sz : Nat} (hI : InsOK P g e sz) {vs : List AV} {us : List Value} (hv : RVs w S ρ vs us) {K : ASt → Prop} (h : callI dst st e sz vs K) :
    Calls P g us.toArray w fun e' w' => ∃ v, e' = .returned v ∧ ∃ st', K st' ∧ SR G st' (a.put dst v) w' := by
  unfold callI at h
  split at h
  · rename_i x y z
    split at h
    · rename_i id
      split at h
      · rename_i k i
        split at h
        · rename_i id2
          split at h
          · rename_i e1 s1 n el hrow
            split at h
            · rename_i e2 s2 m el2 hrow2
              cases hq : (Nat.beq e1 e && Nat.beq e2 e && Nat.beq s1 sz && Nat.beq s2 sz && !Nat.beq id2 id && (k == .i64)) with
              | false => rw [hq] at h; exact h.elim
              | true =>
                rw [hq] at h
                simp only [Bool.and_eq_true, beq_iff_eq, Bool.not_eq_true'] at hq
                obtain ⟨⟨⟨⟨⟨q1, q2⟩, q3⟩, q4⟩, q5⟩, rfl⟩ := hq
                obtain rfl := Nat.eq_of_beq_eq_true q1
                obtain rfl := Nat.eq_of_beq_eq_true q2
                obtain rfl := Nat.eq_of_beq_eq_true q3
                obtain rfl := Nat.eq_of_beq_eq_true q4
                have hid : id2 ≠ id := fun e => by rw [e, Nat.beq_refl] at q5; cases q5
                obtain ⟨⟨hi0, hin, rfl, hn32⟩, hK⟩ := (show Need _ ∧ _ from h).imp Need.out (fun x => x)
                obtain ⟨hl, hv⟩ := hv
                obtain ⟨v, vi, vx, rfl⟩ : ∃ v vi vx, us = [v, vi, vx] := by
                  match us, hl with
                  | [v, vi, vx], _ => exact ⟨v, vi, vx, rfl⟩
                have hu := rv_own (hv 0 _ v rfl rfl)
                obtain rfl := rv_int (hv 1 _ vi rfl rfl)
                have hx := rv_own (hv 2 _ vx rfl rfl)
                have hE := hs.hr.ent id v hu
                rw [hrow] at hE
                have hE2 := hs.hr.ent id2 vx hx
                rw [hrow2] at hE2
                obtain ⟨⟨inner, hown, hel⟩, hnS⟩ := hE
                obtain ⟨⟨inner2, hown2, hel2⟩, hnS2⟩ := hE2
                obtain ⟨hil2, hb2⟩ := hown2
                rcases hb2 with ⟨_, hz⟩ | ⟨g2, c2, cv, rfl, hbg, hg2, hnc, hcm, hcs, htk⟩
                · cases hz
                have hne : some g2 ≠ v.ownBlock := fun e => hs.hr.apart id2 id _ v g2 hid hx hu (by rw [hrow2]; rfl) (by rw [hrow]; exact e.symm)
                have hp := hI.2.1
                rw [Nat.one_mul] at htk hil2
                have hin1 := cells_one hp hown.1 hel
                have hin2 := cells_one hp (by rw [hil2, Nat.one_mul]) hel2
                obtain ⟨i, rfl⟩ := Int.eq_ofNat_of_zero_le hi0
                have hin : i ≤ n := by omega
                refine (hI.2.2 w G.w0.heap.size v n i g2 c2 inner inner2 cv hin hown hin1 hg2 htk hne hil2 hin2 hs.bel.size hn32).mono ?_
                rintro e' w1 ⟨v1, rfl, hown1, hg, hat⟩
                refine ⟨v1, rfl, _, hK, ?_⟩
                have hSw : ∀ b, S b → w1.heap[b]? = w.heap[b]? := fun b hb => hg.block b (hs.lt b hb) (fun e => hnS b e.symm hb)
                have hlt := hown.lt
                have h1 := hs.upd (w' := w1) id .dead (fun y hy => ⟨trivial, fun k hk => by cases y <;> cases hk⟩) hSw (fun j y k hj hy hk => hg.block k (hs.hr.blk_lt hy hk).2.1 (fun e => by
                  exact hs.hr.apart j id y v k hj hy hu hk (by rw [hrow]; exact e.symm))) hg.size (hs.bel.grown hg hs.bel.size (fun k hk => (hlt k hk).1))
                have hE1 : Ent w1 S G.w0.heap.size ρ v1 (.row e2 s2 (n + 1) (insEl i el (el2 0))) := by
                  have hil := hown.1
                  refine ⟨⟨_, hown1, fun k hk => ?_⟩, fun b hb hSb => ?_⟩
                  · have hmul : ∀ {x y : Nat}, x < y → ∀ {j : Nat}, j < s2 → x * s2 + j < y * s2 := fun {x y} hxy {j} hj => by
                      calc x * s2 + j < x * s2 + s2 := by omega
                        _ = (x + 1) * s2 := by rw [Nat.add_mul]; omega
                        _ ≤ y * s2 := Nat.mul_le_mul_right _ hxy
                    have htl : (inner.take (i * s2)).length = i * s2 := by
                      rw [List.length_take, hil]
                      exact Nat.min_eq_left (Nat.mul_le_mul_right _ hin)
                    unfold insEl
                    rcases Nat.lt_trichotomy k i with q | q | q
                    · rw [show Nat.blt k i = true from Nat.ble_eq_true_of_le q, cond_true]
                      obtain ⟨r1, r2, r3⟩ := hel k (by omega)
                      refine ⟨r1, r2, fun j x hx => ?_⟩
                      obtain ⟨u, h4, h5⟩ := r3 j x hx
                      have hj : j < s2 := by rw [← r1]; exact (List.getElem?_eq_some_iff.1 hx).1
                      refine ⟨u, ?_, h5.mono (fun _ q => q) hSw⟩
                      rw [List.getElem?_append_left (by rw [htl]; exact hmul q hj), List.getElem?_take_of_lt (hmul q hj)]
                      exact h4
                    · subst q
                      rw [show Nat.blt k k = false from by
                        cases hb : Nat.blt k k with
                        | false => rfl
                        | true => have := Nat.le_of_ble_eq_true hb; omega, cond_false, Nat.beq_refl, cond_true]
                      obtain ⟨r1, r2, r3⟩ := hel2 0 (by omega)
                      refine ⟨r1, r2, fun j x hx => ?_⟩
                      obtain ⟨u, h4, h5⟩ := r3 j x hx
                      have hj : j < s2 := by rw [← r1]; exact (List.getElem?_eq_some_iff.1 hx).1
                      refine ⟨u, ?_, h5.mono (fun _ q => q) hSw⟩
                      rw [List.getElem?_append_right (by rw [htl]; omega), htl, Nat.add_sub_cancel_left, List.getElem?_append_left (by rw [hil2]; exact hj)]
                      rw [Nat.zero_mul, Nat.zero_add] at h4
                      exact h4
                    · rw [show Nat.blt k i = false from by
                        cases hb : Nat.blt k i with
                        | false => rfl
                        | true => have := Nat.le_of_ble_eq_true hb; omega, cond_false, show Nat.beq k i = false from by
                        cases hb : Nat.beq k i with
                        | false => rfl
                        | true => have := Nat.eq_of_beq_eq_true hb; omega, cond_false]
                      obtain ⟨k, rfl⟩ : ∃ k', k = k' + 1 := ⟨k - 1, by omega⟩
                      rw [Nat.add_sub_cancel]
                      obtain ⟨r1, r2, r3⟩ := hel k (by omega)
                      refine ⟨r1, r2, fun j x hx => ?_⟩
                      obtain ⟨u, h4, h5⟩ := r3 j x hx
                      have hik : i * s2 ≤ k * s2 := Nat.mul_le_mul_right _ (by omega)
                      refine ⟨u, ?_, h5.mono (fun _ q => q) hSw⟩
                      rw [List.getElem?_append_right (by rw [htl, Nat.add_mul]; omega), htl, List.getElem?_append_right (by rw [hil2, Nat.add_mul]; omega), hil2, List.getElem?_drop]
                      rw [show i * s2 + ((k + 1) * s2 + j - i * s2 - s2) = k * s2 + j by rw [Nat.add_mul]; omega]
                      exact h4
                  · rcases hat with q | q
                    · exact hnS b (q ▸ hb) hSb
                    · rw [q] at hb
                      have := hs.lt b hSb
                      have := Option.some.inj hb
                      omega
                have h2 := h1.newB (b := .row e2 s2 (n + 1) (insEl i el (el2 0))) hE1 (fun k hk j y hy hx => by
                  have hx2 : blk (hAt (hSet st.heap id .dead) j) y = some k := hx
                  rw [hAt_set] at hx2
                  by_cases hj : j = id ∧ id < st.heap.length
                  · rw [if_pos hj] at hx2
                    cases y <;> cases hx2
                  · rw [if_neg hj] at hx2
                    have hjl : j < st.heap.length := by rw [← hs.hr.len]; exact (List.getElem?_eq_some_iff.1 hy).1
                    have hne : j ≠ id := fun e => hj ⟨e, by omega⟩
                    have hk2 : v1.ownBlock = some k := hk
                    rcases hat with q | q
                    · rw [q] at hk2
                      exact hs.hr.apart j id y v k hne hy hu hx2 (by rw [hrow]; exact hk2)
                    · rw [q] at hk2
                      have := (hs.hr.blk_lt hy hx2).2.1
                      have := Option.some.inj hk2
                      omega)
                have hone : v1.oneCell' = true := by
                  rcases hown1.2 with ⟨rfl, _⟩ | ⟨_, _, _, rfl, _⟩ <;> rfl
                refine ⟨S, _, put_ok h2 dst (.own _ _ ?_ hone)⟩
                rw [← hs.hr.len]
                simp
            · exact h.elim
          · exact h.elim
        · exact h.elim
      · exact h.elim
    · exact h.elim
  · exact h.elim
/-! ### Maps of the call's own, keyed by numbers -/
theorem isMapI_ok (hC : COKT P T C) {t e : TypeId} (h : isMapI C t = some e) : ∃ k, P.underlying t = some (.map k e) ∧ P.underlying k = some (.int .i64) := by
  unfold isMapI at h
  split at h
  · rename_i k e' hk
    split at h
    · rename_i q hq
      obtain ⟨hb, h⟩ := cond_some h
      obtain rfl := Option.some.inj h
      obtain rfl : q = .i64 := by simpa using hb
      obtain ⟨i, hi, hd⟩ := tyD_ok hC hk (by simp)
      obtain ⟨d, info, z, h1, _, _, _, _, _, hT, _⟩ := hC.ty t i hi
      rw [hd] at hT
      simp only [TDok] at hT
      subst hT
      exact ⟨k, h1, isInt_ok hC hq⟩
    · cases h
  · cases h
theorem aop_makeMap (hC : COKT P T C) (hs : SRi G S ρ st a w) {o : Oper} {t : TypeId} (ho : o.op = .makeMap t none) {K : ASt → Prop} (h : aop C o st K) : Goes P G o a w K := by
  simp only [aop, ho] at h
  intro Q nx _ hn
  split at h
  · have hb : Below w.heap.size w (w.alloc (.map #[] 0)) := (Below.refl _ _).alloc (Nat.le_refl _) _
    have h1 := hs.grow hb
    have h2 := h1.newB (b := .mp []) (v := .map (some w.heap.size)) ⟨w.heap.size, #[], 0, rfl, hs.bel.size, heap_alloc_new w _, ⟨rfl, fun i p e h => by simp at h⟩, fun hS => Nat.lt_irrefl _ (hs.lt _ hS)⟩ (fun k hk id u hu hx => by
      simp only [blk, Option.some.injEq] at hk
      subst hk
      exact Nat.lt_irrefl _ (hs.hr.blk_lt hu hx).2.1)
    have hrun : (execOp a.eval o).run P w = .ok (.value (.map (some w.heap.size))) (w.alloc (.map #[] 0)) := by
      simp [execOp, ho, Instr.makeMap]
    unfold Oper.wp
    rw [hrun]
    refine hn _ _ _ h ⟨S, _, put_ok h2 o.dst (.own _ _ ?_ rfl)⟩
    rw [← hs.hr.len]
    simp
  · exact h.elim
theorem findNow_fresh : ∀ (l : List (Int × AV)) (es : List MapEntry) (n : Int) (i : Nat), MpR w S ρ l es → mpFresh l n = true → Instr.findNow (.int .i64) (.int .i64 n) es i = some none
  | [], es, n, i, h, _ => by
    obtain rfl : es = [] := List.eq_nil_of_length_eq_zero h.1
    rfl
  | p :: l, [], n, i, h, _ => by have := h.1; simp at this
  | p :: l, e :: es, n, i, h, hf => by
    simp only [mpFresh, Bool.and_eq_true, bne_iff_ne, ne_eq] at hf
    have hk := (h.2 0 p e rfl rfl).1
    have hne : (n == p.1) = false := by
      cases hq : (n == p.1) with
      | false => rfl
      | true => exact absurd (by simpa using hq : n = p.1).symm hf.1
    simp only [Instr.findNow, Instr.sameNow, hk, if_true, hne]
    exact findNow_fresh l es n (i + 1) ⟨by simpa using h.1, fun j q e h1 h2 => h.2 (j + 1) q e h1 h2⟩ hf.2
theorem run_checkKey_int {k : TypeId} {q : IntKind} (hk : P.underlying k = some (.int q)) (b : Bool) (v : Value) (n : Nat) (hn : 0 < n) (w : World) : (Instr.checkKey b n k v).run P w = .ok () w := by
  obtain ⟨m, rfl⟩ : ∃ m, n = m + 1 := ⟨n - 1, by omega⟩
  simp [Instr.checkKey, run_underlying hk]
theorem aop_mapUpdate (hC : COKT P T C) (hs : SRi G S ρ st a w) {o : Oper} {t : TypeId} {m k v : Operand} (ho : o.op = .mapUpdate t m k v ∨ o.op = .insert t m k v) {K : ASt → Prop} (h : mapUpA C o t m k v st K) : Goes P G o a w K := by
  unfold mapUpA at h
  have hm := ev_ok hs m
  have hk := ev_ok hs k
  have hv := ev_ok hs v
  intro Q nx _ hn
  split at h
  · rename_i e ht
    obtain ⟨kt, hu, hku⟩ := isMapI_ok hC ht
    split at h
    · rename_i id he
      rw [he] at hm
      have hid := rv_own hm
      have hE := hs.hr.ent id _ hid
      split at h
      · rename_i l hbx
        rw [hbx] at hE
        split at h
        · rename_i q n hkk
          rw [hkk] at hk
          have hke := rv_int hk
          cases hq : (mpFresh l n && (q == .i64)) with
          | false => rw [hq] at h; exact h.elim
          | true =>
            rw [hq] at h
            simp only [Bool.and_eq_true, beq_iff_eq] at hq
            obtain ⟨hf, rfl⟩ := hq
            obtain ⟨b, es, clock, hme, h1, h2, h3, h5⟩ := hE
            have hfind := findNow_fresh l es.toList n 0 h3 hf
            have hrun : (execOp a.eval o).run P w = .ok .skip (ChangeMaps.setBlock w b (.map (es.push { key := .int .i64 n, val := a.eval v, born := clock }) (clock + 1))) := by
              rcases ho with ho | ho <;> simp [execOp, ho, hme, hke, Instr.mapUpdate, run_underlying hu, MapKept.run_getObj_map h2, run_checkKey_int hku, Instr.findKey, run_underlying hku, hfind, MapKept.run_setObj_map _ h2, Result.andThen, ChangeMaps.setBlock]
            unfold Oper.wp
            rw [hrun]
            have hoth : ∀ k, k ≠ b → (ChangeMaps.setBlock w b (.map (es.push { key := .int .i64 n, val := a.eval v, born := clock }) (clock + 1))).heap[k]? = w.heap[k]? := fun k hk => ChangeMaps.heap_setBlock_other h2 _ hk
            have hSw : ∀ k, S k → (ChangeMaps.setBlock w b (.map (es.push { key := .int .i64 n, val := a.eval v, born := clock }) (clock + 1))).heap[k]? = w.heap[k]? := fun k hk => hoth k (fun e => h5 (e ▸ hk))
            refine hn _ _ _ h ⟨S, ρ, put_ok (hs.upd id _ (fun y hy => ?_) hSw (fun j y k hj hy hk => hoth k (fun e => ?_)) (by simp [ChangeMaps.setBlock]) ?_) o.dst (.st _ _ (.any undef))⟩
            · rw [hid] at hy
              obtain rfl := Option.some.inj hy
              rw [hme]
              refine ⟨⟨b, _, _, rfl, h1, ChangeMaps.heap_setBlock_same h2 _, ⟨by simp [h3.1], fun i p x hp hx => ?_⟩, h5⟩, fun k hk => by rw [hbx]; exact hk⟩
              rw [Array.toList_push] at hx
              rw [List.getElem?_append] at hp hx
              rw [h3.1] at hx
              by_cases hi : i < l.length
              · rw [if_pos hi] at hp hx
                obtain ⟨q1, q2⟩ := h3.2 i p x hp hx
                exact ⟨q1, q2.mono (fun _ q => q) hSw (fun _ _ q => q)⟩
              · rw [if_neg hi] at hp hx
                have hi0 : i - l.length = 0 := by
                  have := (List.getElem?_eq_some_iff.1 hp).1
                  simp at this
                  omega
                rw [hi0] at hp hx
                simp at hp hx
                subst hp; subst hx
                exact ⟨rfl, hv.mono (fun _ q => q) hSw (fun _ _ q => q)⟩
            · subst e
              exact hs.hr.apart j id y _ _ hj hy hid hk (by rw [hbx, hme]; rfl)
            · refine hs.bel.trans ⟨rfl, rfl, rfl, by simp [ChangeMaps.setBlock], fun k hk => hoth k (by omega)⟩
        · exact h.elim
      · exact h.elim
    · exact h.elim
  · exact h.elim
theorem mpLook_ok {l : List (Int × AV)} {n : Int} {K : Option AV → Prop} : ∀ {es : List MapEntry} {i : Nat}, MpR w S ρ l es → mpLook l n K → (Instr.findNow (.int .i64) (.int .i64 n) es i = some none ∧ K none) ∨ ∃ j u x, Instr.findNow (.int .i64) (.int .i64 n) es i = some (some (j, u)) ∧ RV w S ρ x u ∧ K (some x) := by
  induction l with
  | nil =>
    intro es i h hK
    obtain rfl : es = [] := List.eq_nil_of_length_eq_zero h.1
    exact .inl ⟨rfl, hK⟩
  | cons p l ih =>
    intro es i h hK
    obtain ⟨pk, pv⟩ := p
    cases es with
    | nil => have := h.1; simp at this
    | cons e es =>
      obtain ⟨hk, hr⟩ := h.2 0 _ e rfl rfl
      dsimp only at hk hr
      by_cases hn : n = pk
      · refine .inr ⟨i, e.val, pv, ?_, hr, hK.1 hn⟩
        simp [Instr.findNow, Instr.sameNow, hk, hn]
      · have hne : (n == pk) = false := by simpa using hn
        have := ih (es := es) (i := i + 1) ⟨by simpa using h.1, fun j q e h1 h2 => h.2 (j + 1) q e h1 h2⟩ (hK.2 hn)
        simpa only [Instr.findNow, Instr.sameNow, hk, if_true, hne] using this
theorem aop_lookup (hC : COKT P T C) (hs : SRi G S ρ st a w) {o : Oper} {t : TypeId} {m k : Operand} {ok : Bool} (ho : o.op = .lookup t m k ok) {K : ASt → Prop} (h : aop C o st K) : Goes P G o a w K := by
  simp only [aop, ho] at h
  have hm := ev_ok hs m
  have hk := ev_ok hs k
  split at h
  · rename_i i ht
    obtain ⟨e, ht, hi⟩ : ∃ e, isMapI C t = some e ∧ C.ty e = some i := by
      split at ht
      · rename_i e he
        exact ⟨e, he, ht⟩
      · cases ht
    obtain ⟨kt, hu, hku⟩ := isMapI_ok hC ht
    split at h
    · rename_i id he
      rw [he] at hm
      have hid := rv_own hm
      have hE := hs.hr.ent id _ hid
      split at h
      · rename_i l hbx
        rw [hbx] at hE
        split at h
        · rename_i q n hkk
          rw [hkk] at hk
          have hke := rv_int hk
          cases hq : (q == .i64) with
          | false => rw [hq] at h; exact h.elim
          | true =>
            rw [hq] at h
            obtain rfl := eq_of_beq hq
            obtain ⟨b, es, clock, hme, h1, h2, h3, h5⟩ := hE
            have hT := hC.ty e i hi
            obtain ⟨d, info, z, hd, hinf, _, _, hz, _⟩ := hT
            have hzr : (zeroValue e).run P w = .ok z w := by simp [zeroValue, run_info hinf, hz]
            have htup : ∀ {x : AV} {u : Value} {c : Bool}, RV w S ρ x u → RV w S ρ (.tup [x, .lit c]) (.tuple #[u, .bool c]) := fun {x u c} hx => by
              refine .tup [x, .lit c] [u, .bool c] rfl fun i y v h1 h2 => ?_
              match i with
              | 0 => simp at h1 h2; subst h1; subst h2; exact hx
              | 1 => simp at h1 h2; subst h1; subst h2; exact .st _ _ (.lit c)
              | i + 2 => simp at h1
            rcases mpLook_ok (i := 0) h3 h with ⟨hf, hK⟩ | ⟨j, u, x, hf, hx, hK⟩
            · cases ok with
              | true =>
                refine Goes.val hs ⟨.tuple #[z, .bool false], ?_, htup (.st _ _ (.any _))⟩ hK
                simp [execOp, ho, hme, hke, Instr.lookup, run_underlying hu, MapKept.run_getObj_map h2, run_checkKey_int hku, Instr.findKey, run_underlying hku, hf, hzr, Result.andThen]
              | false =>
                refine Goes.val hs ⟨z, ?_, .st _ _ (.any _)⟩ hK
                simp [execOp, ho, hme, hke, Instr.lookup, run_underlying hu, MapKept.run_getObj_map h2, run_checkKey_int hku, Instr.findKey, run_underlying hku, hf, hzr, Result.andThen]
            · cases ok with
              | true =>
                refine Goes.val hs ⟨.tuple #[u, .bool true], ?_, htup hx⟩ hK
                simp [execOp, ho, hme, hke, Instr.lookup, run_underlying hu, MapKept.run_getObj_map h2, run_checkKey_int hku, Instr.findKey, run_underlying hku, hf, Result.andThen]
              | false =>
                refine Goes.val hs ⟨u, ?_, hx⟩ hK
                simp [execOp, ho, hme, hke, Instr.lookup, run_underlying hu, MapKept.run_getObj_map h2, run_checkKey_int hku, Instr.findKey, run_underlying hku, hf, Result.andThen]
        · exact h.elim
      · exact h.elim
    · exact h.elim
  · exact h.elim
def resF (tmps : Array Value) : ResultVar → Sem Value
  | .tmp t => pure (tmps.getD t undef)
  | .cell b t => do loadVar t (← asAddr (tmps.getD b undef))
theorem results_eq (fn : Func) (tmps : Array Value) : results fn tmps = (do
    let vs ← fn.results.mapM (resF tmps)
    pure (if h : vs.size = 1 then vs[0] else .tuple vs)) := by
  unfold results
  congr 1
theorem res_run (hC : COKT P T C) (hs : SRi G S ρ st a w) : ∀ (l : List ResultVar) (vs : List AV), resA C st l = some vs → ∃ us, (l.mapM (resF a.tmps)).run P w = .ok us w ∧ RVs w S ρ vs us
  | [], vs, h => by
    obtain rfl := Option.some.inj h
    exact ⟨[], by simp, rfl, fun i a v h => by simp at h⟩
  | r :: l, vs, h => by
    simp only [resA] at h
    split at h
    · cases h
    · rename_i vs' hvs
      obtain ⟨us, hr, hl, hv⟩ := res_run hC hs l vs' hvs
      have cons : ∀ {x : AV} {u : Value}, RV w S ρ x u → RVs w S ρ (x :: vs') (u :: us) := fun {x u} hx => by
        refine ⟨by simp [hl], fun i y v h1 h2 => ?_⟩
        cases i with
        | zero => simp at h1 h2; subst h1; subst h2; exact hx
        | succ i => exact hv i y v (by simpa using h1) (by simpa using h2)
      split at h
      · rename_i t
        obtain rfl := Option.some.inj h
        refine ⟨a.tmps.getD t undef :: us, ?_, cons (hs.env t)⟩
        rw [List.mapM_cons]
        simp only [Sem.run_bind, hr, Result.andThen_ok, resF, Sem.run_pure]
      · rename_i t ty
        split at h
        · rename_i i hi
          split at h
          · rename_i cs hm
            obtain ⟨hb, h⟩ := cond_some h
            simp only [Bool.and_eq_true] at hb
            obtain rfl := Option.some.inj h
            obtain ⟨ad, vs2, e, hv2, hcell⟩ := memAt_ok hs.hr (hs.env t) hm
            obtain ⟨u, hrun, hu⟩ := load_ok (hC.ty ty i hi) hv2 hcell (Nat.le_of_ble_eq_true hb.1) (Nat.le_of_ble_eq_true hb.2)
            have hrun2 : (loadVar ty ad).run P w = .ok u w := by simpa [Instr.loadAt, Instr.sureAddr] using hrun
            refine ⟨u :: us, ?_, cons hu⟩
            rw [List.mapM_cons]
            simp only [Sem.run_bind, hr, Result.andThen_ok, resF, Sem.run_pure, e, asAddr, hrun2]
          · cases h
        · cases h
theorem argEnv_look : ∀ (l : List AV) (i t : Nat), look (argEnv i l) t = if i ≤ t then (match l[t - i]? with | some v => v | none => .any) else .any
  | [], i, t => by simp [argEnv, look]
  | v :: l, i, t => by
    simp only [argEnv, look]
    cases hb : Nat.beq i t with
    | true =>
      obtain rfl := Nat.eq_of_beq_eq_true hb
      simp
    | false =>
      have hne : i ≠ t := fun e => by rw [e, Nat.beq_refl] at hb; cases hb
      rw [cond_false, argEnv_look l (i + 1) t]
      by_cases h : i ≤ t
      · rw [if_pos h, if_pos (by omega), show t - i = (t - (i + 1)) + 1 by omega]
        simp
      · rw [if_neg h, if_neg (by omega)]
/-- A call whose code is gone through where it is called. -/
theorem inlA_ok (hC : COKT P T C) (hs : SRi G S ρ st a w) {dst : Option Tmp} {g : FuncId} {x : Inl} (hx : C.inl g = some x) {vs : List AV} {us : List Value} (hv : RVs w S ρ vs us) {K : ASt → Prop} (h : inlA C dst st x vs K) :
    (∃ fn, P.funcs[g]? = some fn ∧ (fn.name == "runtime.NumGoroutine") = false ∧ fn.body.isNone = false) ∧
    Calls P g us.toArray w fun e w' => ∃ v, e = .returned v ∧ ∃ st', K st' ∧ SR G st' (a.put dst v) w' := by
  obtain ⟨fn, hf, hnm, hb, hnt, hrl, hW⟩ := hC.inl g x hx
  refine ⟨⟨fn, hf, hnm, by rw [hb]; rfl⟩, ?_⟩
  unfold inlA at h
  cases hle : Nat.ble vs.length x.nt with
  | false => rw [hle] at h; exact h.elim
  | true =>
  rw [hle, cond_true] at h
  have hle := Nat.le_of_ble_eq_true hle
  have hl := hs.newB (b := .gh st.env a.tmps) (v := undef) hs.env (fun k hk => by cases hk)
  have hρ : ∀ (i : Nat) (u : Value), ρ[i]? = some u → (ρ ++ [undef])[i]? = some u := fun i u hi => by
    rw [List.getElem?_append_left (List.getElem?_eq_some_iff.1 hi).1]; exact hi
  refine calls_of_wp hf hb ?_
  have hs0 : SR (T := T) ⟨G.w0, G.S0, [], G.tw⟩ ⟨x.nt, argEnv 0 vs, st.heap ++ [.gh st.env a.tmps]⟩ { tmps := us.toArray ++ Array.replicate (fn.ntmps - us.toArray.size) undef, defers := [] } w := by
    refine ⟨S, _, hl.lt, hl.s0, hl.sp, hl.hr, ?_, fun t => ?_, hl.bel, rfl⟩
    · have := hv.1
      simp
      omega
    · rw [argEnv_look, if_pos (Nat.zero_le _), Nat.sub_zero]
      cases ha : vs[t]? with
      | none => exact .st _ _ (.any _)
      | some y =>
        have hlt2 : t < us.length := by rw [hv.1]; exact (List.getElem?_eq_some_iff.1 ha).1
        have := hv.2 t y us[t] ha (List.getElem?_eq_getElem hlt2)
        have e : (us.toArray ++ Array.replicate (fn.ntmps - us.toArray.size) undef).getD t undef = us[t] := by
          rw [Array.getD_eq_getD_getElem?, Array.getElem?_append_left (by simpa using hlt2)]
          simp [hlt2]
        show RV w S (ρ ++ [undef]) y ((us.toArray ++ Array.replicate (fn.ntmps - us.toArray.size) undef).getD t undef)
        rw [e]
        exact this.mono (fun _ q => q) (fun _ _ => rfl) hρ
  refine wp_mono (hW _ _ (h a.tmps) _ _ _ hs0) fun e a' w' ⟨st2, h1, S2, ρ2, hs2⟩ => ?_
  have fin : inlR C dst st x.rl K a.tmps st2 → a'.defers = [] ∧ ∃ v, (results fn a'.tmps).run P w' = .ok v w' ∧ ∃ v', Ending.returned v = .returned v' ∧ ∃ st', K st' ∧ SR G st' (a.put dst v') w' := by
    intro g1
    refine ⟨hs2.dfr, ?_⟩
    unfold inlR at g1
    split at g1
    · rename_i env tm2 hgh
      split at g1
      · rename_i rvs hres
        obtain ⟨rfl, hK⟩ := g1
        obtain ⟨us2, hr, hl2, hus⟩ := res_run hC hs2 _ _ hres
        have hrun : (results fn a'.tmps).run P w' = .ok (if h : us2.length = 1 then us2[0] else .tuple us2.toArray) w' := by
          rw [results_eq, Array.mapM_eq_mapM_toList, hrl]
          have hr2 := hr
          simp only [Sem.run_bind, Sem.run_map, hr2, Result.andThen_ok, Sem.run_pure]
          simp
        have hV : RV w' S2 ρ2 (resV rvs) (if h : us2.length = 1 then us2[0] else .tuple us2.toArray) := by
          unfold resV
          split
          · rename_i v
            have : us2.length = 1 := hl2
            rw [dif_pos this]
            exact hus 0 v _ rfl (List.getElem?_eq_getElem (by omega))
          · rename_i hne
            have : ¬ us2.length = 1 := fun e => by
              rw [hl2] at e
              match rvs, e with
              | [v], _ => exact hne v rfl
            rw [dif_neg this]
            exact .tup rvs us2 hl2 hus
        revert hrun hV
        generalize (if h : us2.length = 1 then us2[0] else Value.tuple us2.toArray) = u
        intro hrun hV
        refine ⟨u, hrun, u, rfl, _, hK, S2, ρ2, ?_⟩
        have hlt : st.heap.length < ρ2.length := by
          rw [hs2.hr.len]
          rcases Nat.lt_or_ge st.heap.length st2.heap.length with q | q
          · exact q
          · rw [hAt_big _ _ q] at hgh
            cases hgh
        have hE := hs2.hr.ent st.heap.length _ (List.getElem?_eq_getElem hlt)
        rw [hgh] at hE
        have h3 := hs2.upd (w' := w') st.heap.length .dead (fun y hy => ⟨trivial, fun k hk => by cases y <;> cases hk⟩) (fun _ _ => rfl) (fun _ _ _ _ _ _ => rfl) (Nat.le_refl _) hs2.bel
        have h4 : SRi G S2 ρ2 ⟨st.nt, env, hSet st2.heap st.heap.length .dead⟩ a w' := ⟨h3.lt, h3.s0, h3.sp, h3.hr, hs.nt, hE, h3.bel, hs.dfr⟩
        exact put_ok h4 dst hV
      · exact g1.elim
    · exact g1.elim
  cases e with
  | normal => exact fin h1
  | ret => exact fin h1
  | _ => exact h1.elim
theorem aop_callf (hC : COKT P T C) (hs : SRi G S ρ st a w) {o : Oper} {f : Operand} {args : Array Operand} {ats : Array TypeId} (ho : o.op = .call { callee := .value f, args := args, argTypes := ats }) {K : ASt → Prop} (h : aop C o st K) : Goes P G o a w K := by
  simp only [aop, ho] at h
  have hf := ev_ok hs f
  have hv := evs_ok hs args.toList
  intro Q nx _ hn
  split at h
  · rename_i g caps he
    rw [he] at hf
    obtain ⟨cs, e, hc⟩ := rv_fn hf
    have hall : RVs w S ρ (evs st args.toList ++ caps) (args.toList.map a.eval ++ cs) := by
      refine ⟨by simp [hv.1, hc.1], fun i x v h1 h2 => ?_⟩
      rw [List.getElem?_append] at h1 h2
      rw [hv.1] at h2
      by_cases hi : i < (evs st args.toList).length
      · rw [if_pos hi] at h1 h2
        exact hv.2 i x v h1 h2
      · rw [if_neg hi] at h1 h2
        exact hc.2 _ x v h1 h2
    obtain ⟨⟨fn, hfn, hnm, hbd⟩, hcalls⟩ : (∃ fn, P.funcs[g]? = some fn ∧ (fn.name == "runtime.NumGoroutine") = false ∧ fn.body.isNone = false) ∧ Calls P g (args.toList.map a.eval ++ cs).toArray w fun e w' => ∃ v, e = .returned v ∧ ∃ st', K st' ∧ SR G st' (a.put o.dst v) w' := by
      split at h
      · rename_i p hp
        exact ⟨(hC.ins g p hp).1, callI_ok hs (hC.ins g p hp) hall h⟩
      · split at h
        · rename_i x hx
          exact inlA_ok hC hs hx hall h
        · exact callA_ok hC hs hall h
    have hrun : (execOp a.eval o).run P w = .ok (.enter g (args.toList.map a.eval ++ cs).toArray) w := by
      have e2 : args.map a.eval ++ cs.toArray = (args.toList.map a.eval ++ cs).toArray := by
        apply Array.ext'
        simp
      simp only [execOp, ho, resolve, e, Deferred.ofValue, Sem.run_bind, Sem.run_pure, Result.andThen_ok, invoke, callFunc, Array.empty_append, run_program, hfn, hnm, hbd, Bool.false_eq_true, if_false, e2]
    unfold Oper.wp
    rw [hrun, Oper.upon_enter]
    refine hcalls.mono ?_
    rintro e3 w' ⟨v, rfl, st', hK, hs'⟩
    exact hn _ _ _ hK hs'
  · exact h.elim
theorem cut1 (t : TypeId) (u : Value) (xs : Array Value) : #[u] ++ (#[Value.iface t u] ++ xs).extract 1 (#[Value.iface t u] ++ xs).size = (u :: xs.toList).toArray := by
  apply Array.ext'
  simp [Array.extract_append, List.extract_eq_take_drop]
theorem aop_callm (hC : COKT P T C) (hs : SRi G S ρ st a w) {o : Oper} {r : Operand} {m : String} {args : Array Operand} {ats : Array TypeId} (ho : o.op = .call { callee := .invoke r m, args := args, argTypes := ats }) {K : ASt → Prop} (h : aop C o st K) : Goes P G o a w K := by
  simp only [aop, ho] at h
  have hf := ev_ok hs r
  have hv := evs_ok hs args.toList
  intro Q nx _ hn
  split at h
  · rename_i t x he
    rw [he] at hf
    obtain ⟨u, e, hu⟩ := rv_iface hf
    split at h
    · rename_i g hg
      have hall : RVs w S ρ (x :: evs st args.toList) (u :: args.toList.map a.eval) := by
        refine ⟨by simp [hv.1], fun i y v h1 h2 => ?_⟩
        cases i with
        | zero =>
          simp at h1 h2
          subst h1; subst h2
          exact hu
        | succ i => exact hv.2 i y v (by simpa using h1) (by simpa using h2)
      obtain ⟨⟨fn, hfn, hnm, hbd⟩, hcalls⟩ : (∃ fn, P.funcs[g]? = some fn ∧ (fn.name == "runtime.NumGoroutine") = false ∧ fn.body.isNone = false) ∧ Calls P g (u :: args.toList.map a.eval).toArray w fun e w' => ∃ v, e = .returned v ∧ ∃ st', K st' ∧ SR G st' (a.put o.dst v) w' := callA_ok hC hs hall h
      have hm := hC.meth t m g hg u w
      have hrun : (execOp a.eval o).run P w = .ok (.enter g (u :: args.toList.map a.eval).toArray) w := by
        have e0 : (#[Value.iface t u] ++ args.map a.eval)[0]? = some (Value.iface t u) := by
          rw [Array.getElem?_append_left (by simp)]
          rfl
        have e2 := cut1 t u (args.map a.eval)
        rw [Array.toList_map] at e2
        simp only [execOp, ho, resolve, e, Sem.run_bind, Sem.run_pure, Result.andThen_ok, invoke, e0, callMethod, run_program, hm, callFunc, hfn, hnm, hbd, Bool.false_eq_true, if_false, e2]
      unfold Oper.wp
      rw [hrun, Oper.upon_enter]
      refine hcalls.mono ?_
      rintro e3 w' ⟨v, rfl, st', hK, hs'⟩
      exact hn _ _ _ hK hs'
    · exact h.elim
  · exact h.elim
theorem aop_ok (hC : COKT P T C) (hs : SRi G S ρ st a w) {o : Oper} {K : ASt → Prop} (h : aop C o st K) : Goes P G o a w K := by
  have gen : ∀ {S : Nat → Prop} {st : ASt}, SRi G S ρ st a w → (match aval C o st with | some (c, v) => NeedO c (K (st.put o.dst v)) | none => False) → Goes P G o a w K := by
    intro S st hs h
    split at h
    · rename_i c v hv
      cases c with
      | none => exact Goes.val hs (aval_ok hC hs hv (fun p hp => by cases hp)) h
      | some p => exact Goes.val hs (aval_ok hC hs hv (fun q hq => by cases hq; exact h.1.out)) h.2
    · exact h.elim
  cases ho : o.op
  case pick c x y =>
    simp only [aop, ho] at h
    obtain ⟨b, st', hb, hK, hs', _⟩ := br_ok hs h
    refine Goes.val hs' ⟨if b then a.eval x else a.eval y, ?_, ?_⟩ hK
    · simp [execOp, ho, hb, asBool]
    · cases b with
      | true => exact ev_ok hs' x
      | false => exact ev_ok hs' y
  case binOp op t x y ty =>
    simp only [aop, ho] at h
    unfold binA at h
    split at h
    · rename_i n hn
      obtain ⟨he, hn⟩ := cond_some hn
      obtain rfl : op = .eql := by cases op <;> first | rfl | cases he
      exact aop_nil hC hs ho hn h
    · exact gen hs h
  case slice t x lo hi mx =>
    simp only [aop, ho] at h
    unfold sliceA at h
    split at h
    · rename_i id _
      obtain ⟨S', hs', _⟩ := hs.frz [id]
      exact gen hs' h
    · exact gen hs h
  case alloc => exact aop_alloc hC hs ho h
  case box => exact aop_box hs ho h
  case buildSlice => exact aop_buildSlice hC hs ho h
  case makeSlice => exact aop_makeSlice hC hs ho h
  case store => exact aop_store hC hs ho h
  case makeMap t r =>
    cases r with
    | none => exact aop_makeMap hC hs ho h
    | some r => simp only [aop, ho] at h; exact gen hs h
  case mapUpdate => exact aop_mapUpdate hC hs (.inl ho) (by simpa only [aop, ho] using h)
  case insert => exact aop_mapUpdate hC hs (.inr ho) (by simpa only [aop, ho] using h)
  case lookup => exact aop_lookup hC hs ho h
  case call cl =>
    obtain ⟨cal, args, ats⟩ := cl
    cases cal with
    | value f => exact aop_callf hC hs ho h
    | invoke r m => exact aop_callm hC hs ho h
    | builtin b =>
      cases b
      case append => exact aop_append hC hs ho h
      all_goals (simp only [aop, ho] at h; exact gen hs h)
  all_goals (simp only [aop, ho] at h; exact gen hs h)
end Go.Abs
