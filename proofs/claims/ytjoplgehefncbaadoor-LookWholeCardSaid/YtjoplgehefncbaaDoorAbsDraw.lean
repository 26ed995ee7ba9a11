/- The engine: regions that draw their order. -/
import Derived.Test.YtjoplgehefncbaaDoorAbsAop
import Derived.Orders
set_option linter.all false
namespace Go.Abs
open Go.RowKit
variable {P : Program} {C : Cfg} {T : World → Prop} {G : Gx T} {w w' : World} {S S' : Nat → Prop} {ρ : List Value} {st : ASt} {a : Act} {h : List AB} {base : Nat}
theorem dstOf_get : ∀ (l : List Oper) (i : Nat), dstOf l i = (l[i]?).bind (·.dst)
  | [], i => by cases i <;> rfl
  | o :: l, 0 => by simp [dstOf]
  | o :: l, i + 1 => by simpa [dstOf] using dstOf_get l i
theorem yield_ok (hs : SRi G S ρ st a w) {ops : Array Oper} {g d : Nat} (hd : dstOf ops.toList g = some d) {b : Bool} (hb : a.eval (.tmp d) = .bool b) : yielded ops a.tmps g = some b := by
  rw [dstOf_get] at hd
  rw [Array.getElem?_toList] at hd
  unfold yielded
  rw [hd]
  have hb2 : a.tmps.getD d undef = .bool b := hb
  rw [Array.getD_eq_getD_getElem?] at hb2
  cases hx : a.tmps[d]? with
  | none => rw [hx] at hb2; simp [undef] at hb2
  | some v =>
    rw [hx] at hb2
    simp only [Option.getD_some] at hb2
    subst hb2
    simp [hx]
/-! ### What an operation yields hangs on its operands alone -/
theorem evs_congr {s1 s2 : ASt} : ∀ (l : List Operand), (∀ x ∈ l, ev s1 x = ev s2 x) → evs s1 l = evs s2 l
  | [], _ => rfl
  | x :: l, h => by simp only [evs, h x List.mem_cons_self, evs_congr l (fun y hy => h y (List.mem_cons_of_mem _ hy))]
theorem evParts_congr {s1 s2 : ASt} : ∀ (l : List (Nat × Operand)), (∀ p ∈ l, ev s1 p.2 = ev s2 p.2) → evParts s1 l = evParts s2 l
  | [], _ => rfl
  | x :: l, h => by simp only [evParts, h x List.mem_cons_self, evParts_congr l (fun y hy => h y (List.mem_cons_of_mem _ hy))]
theorem partIds_congr {s1 s2 : ASt} : ∀ (l : List (Nat × Operand)), (∀ p ∈ l, ev s1 p.2 = ev s2 p.2) → partIds s1 l = partIds s2 l
  | [], _ => rfl
  | x :: l, h => by simp only [partIds, h x List.mem_cons_self, partIds_congr l (fun y hy => h y (List.mem_cons_of_mem _ hy))]
/-! What is looked at is what the blocks are that are named. -/
def Agree (h h' : List AB) (l : List Nat) : Prop := ∀ id ∈ l, hAt h id = hAt h' id
theorem Agree.left {h h' : List AB} {l m : List Nat} (H : Agree h h' (l ++ m)) : Agree h h' l := fun id hi => H id (List.mem_append.2 (.inl hi))
theorem Agree.right {h h' : List AB} {l m : List Nat} (H : Agree h h' (l ++ m)) : Agree h h' m := fun id hi => H id (List.mem_append.2 (.inr hi))
theorem memAt_congr {h h' : List AB} (v : AV) (H : Agree h h' (ids v)) : memAt h v = memAt h' v := by
  cases v <;> first | rfl | (rename_i id _; simp only [memAt, H id (by simp [ids])]; done) | (rename_i id _ _ _; simp only [memAt, H id (by simp [ids])]; done)
theorem asSl_congr {h h' : List AB} (v : AV) (H : Agree h h' (ids v)) : asSl h v = asSl h' v := by
  cases v <;> first | rfl | (rename_i id; simp only [asSl, H id (by simp [ids])])
mutual
theorem fz_congr {h h' : List AB} : ∀ (v : AV), Agree h h' (ids v) → fz h v = fz h' v
  | .any, _ => rfl
  | .gone, _ => rfl
  | .int _ _, _ => rfl
  | .lit _, _ => rfl
  | .sb _, _ => rfl
  | .str _, _ => rfl
  | .agg cs, H => by simp only [fz]; rw [fzs_congr cs H]
  | .tup cs, H => by simp only [fz]; rw [fzs_congr cs H]
  | .nil, _ => rfl
  | .sl _ _ _, _ => rfl
  | .rptr _, _ => rfl
  | .fn _ cs, H => by simp only [fz]; rw [fzs_congr cs H]
  | .iface _ v, H => by simp only [fz]; rw [fz_congr v H]
  | .nilI, _ => rfl
  | .nilF, _ => rfl
  | .nilP, _ => rfl
  | .own id, H => by simp only [fz, H id (by simp [ids])]
  | .ptr id _, H => by simp only [fz, H id (by simp [ids])]
  | .optr id _ _ _, _ => rfl
theorem fzs_congr {h h' : List AB} : ∀ (l : List AV), Agree h h' (ids.idss l) → fz.fzs h l = fz.fzs h' l
  | [], _ => rfl
  | a :: l, H => by
    simp only [ids.idss] at H
    simp only [fz.fzs]
    rw [fz_congr a H.left, fzs_congr l H.right]
end
theorem froIds_congr {h h' : List AB} : ∀ (l : List Nat), Agree h h' l → froIds h l = froIds h' l
  | [], _ => rfl
  | id :: l, H => by
    simp only [froIds]
    rw [H id List.mem_cons_self, froIds_congr l (fun k hk => H k (List.mem_cons_of_mem _ hk))]
theorem idss_cells_eq (v : AV) : ids.idss (cells v) = ids v := by
  cases v <;> first | rfl | (simp [cells, ids, ids.idss]; done)
theorem litEls_congr {s1 s2 : ASt} {h h' : List AB} : ∀ (l : List (Nat × Operand)) (i : Nat), (∀ p ∈ l, ev s1 p.2 = ev s2 p.2) → Agree h h' (partIds s2 l) → litEls h s1 i l = litEls h' s2 i l
  | [], _, _, _ => rfl
  | x :: l, i, hx, H => by
    simp only [partIds] at H
    simp only [litEls, hx x List.mem_cons_self, litEls_congr l (i + 1) (fun y hy => hx y (List.mem_cons_of_mem _ hy)) H.right, fzs_congr (h := h) (h' := h') (cells (ev s2 x.2)) (by rw [idss_cells_eq]; exact H.left)]
theorem aval_congr {s1 s2 : ASt} (o : Oper) (hh : Agree s1.heap s2.heap (looksAt o s2)) (hx : ∀ x ∈ o.op.operands.toList, ev s1 x = ev s2 x) : aval C o s1 = aval C o s2 := by
  unfold aval
  unfold looksAt at hh
  cases ho : o.op <;> rw [ho] at hx hh <;> simp only [Op.operands] at hx <;> simp only at hh
  case move x => simp only [hx x (by simp)]
  case assign x => simp only [hx x (by simp)]
  case fieldAddr t x f => simp only [hx x (by simp)]
  case field t x f => simp only [hx x (by simp)]
  case load t x => simp only [hx x (by simp), memAt_congr _ hh]
  case binOp op t x y ty => simp only [hx x (by simp), hx y (by simp)]
  case unOp op t x => simp only [hx x (by simp)]
  case nilCheck x => simp only [hx x (by simp)]
  case indexAddr t x i =>
    simp only [hx x (by simp), hx i (by simp)]
    revert hh
    generalize ev s2 x = v
    intro hh
    cases v <;> first | rfl | (rename_i id; simp only [hh id (by simp [ids])])
  case index t x i => simp only [hx x (by simp), hx i (by simp)]
  case extract x i => simp only [hx x (by simp)]
  case build t ps => simp only [evParts_congr (s1 := s1) (s2 := s2) ps.toList (fun p hp => hx p.2 (by simp only [List.mem_map]; exact ⟨p, hp, rfl⟩))]
  case convert s d x =>
    have h4 : asSl s1.heap (ev s2 x) = asSl s2.heap (ev s2 x) := asSl_congr _ hh
    simp only [hx x (by simp), h4]
  case makeInterface t x => simp only [hx x (by simp)]
  case makeFunc f first caps => simp only [evs_congr (s1 := s1) (s2 := s2) caps.toList (fun x h => hx x (by simp only [Array.toList_append, List.mem_append]; exact .inr h))]
  case slice t x lo hi mx =>
    have h1 : evO s1 lo (.int .i64 0) = evO s2 lo (.int .i64 0) := by
      cases lo with
      | none => rfl
      | some l => exact hx l (by simp)
    have h2 : ∀ d, evO s1 hi d = evO s2 hi d := fun d => by
      cases hi with
      | none => rfl
      | some l => exact hx l (by simp)
    simp only [hx x (by simp), h1, h2]
    revert hh
    generalize ev s2 x = v
    intro hh
    cases v <;> first | rfl | (rename_i id; simp only [hh id (by simp [ids])])
  case call c =>
    have h1 : evs s1 c.args.toList = evs s2 c.args.toList := evs_congr _ (fun x h => hx x (by simp only [Call.operands, Array.toList_append, List.mem_append]; exact .inr h))
    have h2 := hh.right
    simp only [h1]
    revert h2
    generalize evs s2 c.args.toList = vs
    intro h2
    have h3 : ∀ v, vs = [v] → asSl s1.heap v = asSl s2.heap v := fun v e => asSl_congr v (by rw [e] at h2; simpa [ids.idss] using h2)
    split
    · split
      · split
        · rename_i v
          have h4 := h3 v rfl
          cases v <;> first | rfl | (simp only [h4]; done)
        · rfl
      · rfl
    · rfl
    · rfl
    · rfl
/-- A literal bool that was a bool before. -/
def Ref (x y : AV) : Prop := x = y ∨ ∃ b, x = .lit b ∧ y = .sb b
theorem Ref.rv {x y : AV} (hr : Ref x y) {u : Value} : RV w S ρ x u ↔ RV w S ρ y u := by
  rcases hr with rfl | ⟨b, rfl, rfl⟩
  · exact Iff.rfl
  · exact ⟨fun h => by rw [rv_lit h]; exact .st _ _ (.sb b), fun h => by rw [rv_sb h]; exact .st _ _ (.lit b)⟩
theorem Ref.trans {x y z : AV} (h1 : Ref x y) (h2 : Ref y z) : Ref x z := by
  rcases h1 with rfl | ⟨b, rfl, rfl⟩
  · exact h2
  · rcases h2 with rfl | ⟨c, h, _⟩
    · exact .inr ⟨b, rfl, rfl⟩
    · cases h
/-- States that tell the same. -/
structure Fine (s1 s2 : ASt) : Prop where
  nt : s1.nt = s2.nt
  heap : s1.heap = s2.heap
  env : ∀ t, Ref (look s1.env t) (look s2.env t)
theorem Fine.refl (s : ASt) : Fine s s := ⟨rfl, rfl, fun _ => .inl rfl⟩
theorem Fine.trans {a b c : ASt} (h1 : Fine a b) (h2 : Fine b c) : Fine a c := ⟨h1.nt.trans h2.nt, h1.heap.trans h2.heap, fun t => (h1.env t).trans (h2.env t)⟩
theorem Fine.ev {s1 s2 : ASt} (h : Fine s1 s2) (x : Operand) : Ref (ev s1 x) (ev s2 x) := by
  cases x with
  | tmp t => exact h.env t
  | _ => exact .inl rfl
/-- One way of a bool. -/
theorem br_way {o : Operand} {K : Bool → ASt → Prop} (h : br st o K) : ∃ b st', K b st' ∧ Fine st' st ∧ (∀ t, o = .tmp t → look st'.env t = .lit b) ∧ bval (ev st o) = some b := by
  unfold br at h
  have key : ∀ b, ev st o = .sb b → Fine (setLit st o b) st ∧ ∀ t, o = .tmp t → look (setLit st o b).env t = .lit b := by
    intro b e
    cases o with
    | tmp t =>
      have hl : ∀ t', look (setLit st (.tmp t) b).env t' = if t = t' then .lit b else look st.env t' := fun t' => by
        show cond (Nat.beq t t') (.lit b) (look st.env t') = _
        by_cases h : t = t'
        · subst h
          rw [Nat.beq_refl, if_pos rfl, cond_true]
        · rw [if_neg h, show Nat.beq t t' = false from by
            cases hb : Nat.beq t t' with
            | false => rfl
            | true => exact absurd (Nat.eq_of_beq_eq_true hb) h, cond_false]
      refine ⟨⟨rfl, rfl, fun t' => ?_⟩, fun t' ht' => ?_⟩
      · rw [hl t']
        by_cases h : t = t'
        · subst h
          rw [if_pos rfl]
          exact .inr ⟨b, rfl, e⟩
        · rw [if_neg h]
          exact .inl rfl
      · cases ht'
        exact (hl t).trans (if_pos rfl)
    | _ => exact ⟨Fine.refl _, fun t ht => by cases ht⟩
  split at h
  · rename_i e
    exact ⟨true, st, h, Fine.refl _, fun t ht => by subst ht; exact e, by rw [e]; rfl⟩
  · rename_i e
    exact ⟨false, st, h, Fine.refl _, fun t ht => by subst ht; exact e, by rw [e]; rfl⟩
  · rename_i b e
    cases b with
    | true => exact ⟨true, _, h.1 rfl, (key true e).1, (key true e).2, by rw [e]; rfl⟩
    | false => exact ⟨false, _, h.2 rfl, (key false e).1, (key false e).2, by rw [e]; rfl⟩
  · exact h.elim
theorem yield_gone {ops : Array Oper} {g d : Nat} (hd : dstOf ops.toList g = some d) (hb : a.eval (.tmp d) = undef) : yielded ops a.tmps g = none := by
  rw [dstOf_get] at hd
  rw [Array.getElem?_toList] at hd
  unfold yielded
  rw [hd]
  have hb2 : a.tmps.getD d undef = undef := hb
  rw [Array.getD_eq_getD_getElem?] at hb2
  cases hx : a.tmps[d]? with
  | none => simp [hx]
  | some v =>
    rw [hx] at hb2
    obtain rfl : v = undef := hb2
    simp [hx, undef]
theorem gone_of {v : AV} (h : isGone v = true) : v = .gone := by cases v <;> first | rfl | cases h
/-- What is known of an operation of such a region: wherever its operands are what they are to be, it yields that. -/
def HeapR (al : Option Al) (hp h : List AB) : Prop := h = hp ∨ ∃ y x, al = some y ∧ h.length = y.n ∧ hp = h ++ [x]
def OpT (P : Program) (G : Gx T) (al : Option Al) (hp : List AB) (o : Oper) (ins : Operand → AV) (v : AV) : Prop :=
  ∀ (τ : ASt) (a : Act) (w : World), HeapR al hp τ.heap → (∀ x ∈ o.op.operands.toList, ev τ x = ins x) → SR G τ a w → Goes P G o a w fun st' => st' = τ.put o.dst v
/-- Or it is the one that lays the box. -/
def OpX (P : Program) (G : Gx T) (al : Option Al) (hp : List AB) (o : Oper) (ins : Operand → AV) (v : AV) : Prop :=
  (∃ t y, o.op = .alloc t ∧ al = some y ∧ o.dst = some y.d ∧ v = .ptr y.n 0) ∨ ((∀ t, o.op ≠ .alloc t) ∧ OpT P G al hp o ins v)
theorem belowN_get {n : Nat} : ∀ {l : List Nat}, belowN n l = true → ∀ id ∈ l, id < n
  | [], _, id, h => by cases h
  | x :: l, hb, id, h => by
    simp only [belowN, Bool.and_eq_true] at hb
    rcases List.mem_cons.1 h with rfl | h
    · exact Nat.le_of_ble_eq_true hb.1
    · exact belowN_get hb.2 id h
theorem HeapR.agree {al : Option Al} {hp h : List AB} (H : HeapR al hp h) {l : List Nat} (hl : alOk al l = true) : Agree h hp l := by
  rcases H with rfl | ⟨y, x, rfl, hn, rfl⟩
  · exact fun _ _ => rfl
  · intro id hi
    have := belowN_get (n := y.n) hl id hi
    rw [hAt_app, if_pos (by omega)]
theorem Goes.mono {o : Oper} {K K' : ASt → Prop} (h : Goes P G o a w K) (hk : ∀ s, K s → K' s) : Goes P G o a w K' := fun Q nx hl hn => h Q nx hl fun st' a' w' q => hn st' a' w' (hk _ q)
theorem fro_frz {h : List AB} : ∀ {l : List Nat}, froIds h l = true → frz h l = h
  | [], _ => rfl
  | id :: l, hl => by
    simp only [froIds, Bool.and_eq_true] at hl
    unfold frz
    have : frz1 h id = h := by
      unfold frz1
      revert hl
      cases hAt h id <;> intro hl <;> first | rfl | (cases hl.1)
    rw [this]
    exact fro_frz hl.2
theorem noIds_nil {l : List Nat} (h : noIds l = true) : l = [] := by cases l <;> first | rfl | cases h
theorem idss_append : ∀ (l m : List AV), ids.idss (l ++ m) = ids.idss l ++ ids.idss m
  | [], m => rfl
  | a :: l, m => by simp only [List.cons_append, ids.idss, idss_append l m, List.append_assoc]
theorem dop_way0 (hC : COKT P T C) (G : Gx T) {al : Option Al} {o : Oper} {K : ASt → AV → Prop} (hlk : alOk al (looksAt o st) = true) (h : dop0 C o st K) : ∃ st' v, K st' v ∧ Fine st' st ∧ OpT P G al st.heap o (ev st) v := by
  have gen : (match aval C o st with | some (c, v) => NeedO c (K st v) | none => False) → ∃ st' v, K st' v ∧ Fine st' st ∧ OpT P G al st.heap o (ev st) v := by
    intro h
    split at h
    · rename_i c v hv
      have key : (∀ p, c = some p → p) → OpT P G al st.heap o (ev st) v := fun hc τ a w hh hx ⟨S, ρ, hs⟩ => by
        have := aval_congr (C := C) (s1 := τ) (s2 := st) o (hh.agree hlk) hx
        exact Goes.val hs (aval_ok hC hs (this.trans hv) hc) rfl
      cases c with
      | none => exact ⟨st, v, h, Fine.refl _, key (fun p hp => by cases hp)⟩
      | some p => exact ⟨st, v, h.2, Fine.refl _, key (fun q hq => by cases hq; exact h.1.out)⟩
    · exact h.elim
  cases ho : o.op
  case pick c x y =>
    simp only [dop0, ho] at h
    obtain ⟨b, st', hK, hf, _, hb⟩ := br_way h
    refine ⟨st', _, hK, hf, fun τ a w hh hx ⟨S, ρ, hs⟩ => ?_⟩
    have hx1 := hx c (by simp [ho, Op.operands])
    have hx2 := hx x (by simp [ho, Op.operands])
    have hx3 := hx y (by simp [ho, Op.operands])
    have hcb := bval_rv hb (hx1 ▸ ev_ok hs c)
    refine Goes.val hs ⟨if b then a.eval x else a.eval y, ?_, ?_⟩ rfl
    · simp [execOp, ho, hcb, asBool]
    · cases b with
      | true => exact (hf.ev x).rv.2 (hx2 ▸ ev_ok hs x)
      | false => exact (hf.ev y).rv.2 (hx3 ▸ ev_ok hs y)
  case buildSlice t len ps =>
    simp only [dop0, ho] at h
    split at h
    · rename_i e he
      split at h
      · rename_i ie hie
        split at h
        · rename_i els hels
          cases hb : (allEls ie.size els && Nat.beq els.length len && Nat.blt 0 ie.size && Nat.ble (len * ie.size) 16777216 && noIds (partIds st ps.toList)) with
          | false => rw [hb] at h; exact h.elim
          | true =>
            rw [hb] at h
            simp only [Bool.and_eq_true] at hb
            obtain ⟨⟨⟨⟨b1, b2⟩, b3⟩, b4⟩, b5⟩ := hb
            refine ⟨st, _, h, Fine.refl _, fun τ a w hh hx ⟨S, ρ, hs⟩ => ?_⟩
            have hp : ∀ p ∈ ps.toList, ev τ p.2 = ev st p.2 := fun p hp => hx p.2 (by rw [ho]; simp only [Op.operands, List.mem_map]; exact ⟨p, hp, rfl⟩)
            have hels2 : litEls τ.heap τ 0 ps.toList = some els := by rw [litEls_congr (s1 := τ) (s2 := st) (h := τ.heap) (h' := st.heap) _ _ hp (by rw [noIds_nil b5]; exact fun id hi => by cases hi)]; exact hels
            have hid : partIds τ ps.toList = [] := by rw [partIds_congr _ hp]; exact noIds_nil b5
            obtain ⟨S', v, w', hrun, hs', hE, hS', hk, hone⟩ := lit_ok hC hs ho he hie hels2 b1 b2 b3 b4
            rw [hid] at hs' hk
            have hs2 := hs'.more (S' := fun b => S' b ∨ v.ownBlock = some b) (fun b hb => .inl hb) (fun b hb => by
              rcases hb with q | q
              · exact ⟨hs'.lt b q, .inl q⟩
              · obtain ⟨q1, q2, q3⟩ := hk b q
                exact ⟨q1, .inr ⟨q2, q3⟩⟩)
            intro Q nx _ hn
            unfold Oper.wp
            rw [hrun]
            exact hn _ _ _ rfl ⟨_, ρ, put_ok hs2 o.dst (.st _ _ (row_sl hE (fun b hb => .inl hb) (fun b hb => .inr hb)))⟩
        · exact h.elim
      · exact h.elim
    · exact h.elim
  case call cl =>
    obtain ⟨cal, args, ats⟩ := cl
    cases cal with
    | value f =>
      simp only [dop0, ho] at h
      split at h
      · rename_i g caps he
        have main : ∀ {r : AV}, FnT T P g (fz.fzs st.heap (evs st args.toList ++ caps)) (.st r) → (flat r || froIds st.heap (ids.idss (evs st args.toList ++ caps))) = true → OpT P G al st.heap o (ev st) r := by
          intro r hF hfl τ a w hh hx ⟨S, ρ, hs⟩
          have hxf : ev τ f = .fn g caps := (hx f (by rw [ho]; simp [Op.operands, Call.operands])).trans he
          have hxa : evs τ args.toList = evs st args.toList := evs_congr _ (fun x hm => hx x (by rw [ho]; simp only [Op.operands, Call.operands, Array.toList_append, List.mem_append]; exact .inr hm))
          have hf := ev_ok hs f
          rw [hxf] at hf
          obtain ⟨cs, e, hc⟩ := rv_fn hf
          have hv := evs_ok hs args.toList
          rw [hxa] at hv
          have hall : RVs w S ρ (evs st args.toList ++ caps) (args.toList.map a.eval ++ cs) := by
            refine ⟨by simp [hv.1, hc.1], fun i x v h1 h2 => ?_⟩
            rw [List.getElem?_append] at h1 h2
            rw [hv.1] at h2
            by_cases hi : i < (evs st args.toList).length
            · rw [if_pos hi] at h1 h2
              exact hv.2 i x v h1 h2
            · rw [if_neg hi] at h1 h2
              exact hc.2 _ x v h1 h2
          have hagr : Agree τ.heap st.heap (ids.idss (evs st args.toList ++ caps)) := by
            have h0 := hh.agree hlk
            unfold looksAt at h0
            rw [ho] at h0
            intro id hid
            refine h0 id ?_
            rw [idss_append] at hid
            rcases List.mem_append.1 hid with q | q
            · exact List.mem_append.2 (.inr q)
            · refine List.mem_append.2 (.inl ?_)
              show id ∈ ids (ev st f)
              rw [he]
              exact q
          rw [← fzs_congr _ hagr] at hF
          have hcalls := call_st hs (dst := o.dst) hall hF
          obtain ⟨fn, hfn, hnm, hbd⟩ := hF.1
          have hrun : (execOp a.eval o).run P w = .ok (.enter g (args.toList.map a.eval ++ cs).toArray) w := by
            have e2 : args.map a.eval ++ cs.toArray = (args.toList.map a.eval ++ cs).toArray := by
              apply Array.ext'
              simp
            simp only [execOp, ho, resolve, e, Deferred.ofValue, Sem.run_bind, Sem.run_pure, Result.andThen_ok, invoke, callFunc, Array.empty_append, run_program, hfn, hnm, hbd, Bool.false_eq_true, if_false, e2]
          intro Q nx _ hn
          unfold Oper.wp
          rw [hrun, Oper.upon_enter]
          refine hcalls.mono ?_
          rintro e3 w' ⟨v, rfl, hs'⟩
          refine hn _ _ _ rfl ?_
          cases hq : flat r with
          | true => rw [hq] at hs'; exact hs'
          | false =>
            rw [hq] at hs' hfl
            rw [fro_frz (l := ids.idss (evs st args.toList ++ caps)) (by rw [froIds_congr _ hagr]; simpa using hfl)] at hs'
            exact hs'
        obtain ⟨res, hF, hK⟩ := hC.tbl _ _ _ h
        cases res with
        | st r =>
          simp only [dcallK] at hK
          cases hfl : (flat r || froIds st.heap (ids.idss (evs st args.toList ++ caps))) with
          | false => rw [hfl] at hK; exact hK.elim
          | true =>
            rw [hfl] at hK
            exact ⟨st, r, hK, Fine.refl _, main hF hfl⟩
        | row e sz n el =>
          simp only [dcallK] at hK
          cases hfl : froIds st.heap (ids.idss (evs st args.toList ++ caps)) with
          | false => rw [hfl] at hK; exact hK.elim
          | true =>
            rw [hfl] at hK
            exact ⟨st, _, hK, Fine.refl _, main hF.toSt (by rw [hfl]; simp)⟩
      · exact h.elim
    | invoke r m => simp only [dop0, ho] at h; exact gen h
    | builtin b =>
      cases b
      case append => simp only [dop0, ho] at h
      all_goals (simp only [dop0, ho] at h; exact gen h)
  all_goals (simp only [dop0, ho] at h; exact gen h)
theorem dop_way (hC : COKT P T C) (G : Gx T) {al : Option Al} {o : Oper} {K : ASt → AV → Prop} (h : dop C al o st K) : ∃ st' v, K st' v ∧ Fine st' st ∧ OpX P G al st.heap o (ev st) v := by
  have key : (∀ t, o.op ≠ .alloc t) → cond (alOk al (looksAt o st)) (dop0 C o st K) False → ∃ st' v, K st' v ∧ Fine st' st ∧ OpX P G al st.heap o (ev st) v := by
    intro hna h
    cases hlk : alOk al (looksAt o st) with
    | false => rw [hlk] at h; exact h.elim
    | true =>
      rw [hlk] at h
      obtain ⟨st', v, h1, h2, h3⟩ := dop_way0 hC G hlk h
      exact ⟨st', v, h1, h2, .inr ⟨hna, h3⟩⟩
  cases ho : o.op
  case alloc t =>
    simp only [dop, ho] at h
    split at h
    · rename_i y
      split at h
      · rename_i d hd
        cases hb : Nat.beq d y.d with
        | false => rw [hb] at h; exact h.elim
        | true =>
          rw [hb] at h
          obtain rfl := Nat.eq_of_beq_eq_true hb
          exact ⟨st, _, h, Fine.refl _, .inl ⟨t, y, ho, rfl, hd, rfl⟩⟩
      · exact h.elim
    · exact h.elim
  all_goals
    simp only [dop, ho] at h
    exact key (fun t e => by rw [ho] at e; cases e) h
/-- What is known of each operation of a region that draws. -/
structure Rec where
  ins : Operand → AV
  run : Bool
  v : AV
/-- The operations in the text's order, from one state to another. -/
inductive Trail (P : Program) (G : Gx T) (al : Option Al) (all : List Oper) : List Oper → ASt → List Rec → ASt → Prop
  | nil (st : ASt) : Trail P G al all [] st [] st
  | cons {o : Oper} {l : List Oper} {st st' st'' stn : ASt} {r : Rec} {rs : List Rec} (hf : Fine st' st) (hf2 : Fine st'' st') (hins : r.ins = ev st') (hg : match o.guard with | none => r.run = true | some (g, b) => ∃ d, dstOf all g = some d ∧ ((look st'.env d = .gone ∧ r.run = false) ∨ ∃ t, look st'.env d = .lit t ∧ r.run = (t == b)))
      (hop : r.run = true → OpX P G al st.heap o r.ins r.v) (hv : r.run = false → r.v = .gone) (ht : Trail P G al all l (st''.put o.dst r.v) rs stn) : Trail P G al all (o :: l) st (r :: rs) stn
theorem dops_trail (hC : COKT P T C) (G : Gx T) {al : Option Al} {all : List Oper} {K : ASt → Prop} : ∀ (l : List Oper) (st : ASt), dops C al all l st K → ∃ rs stn, Trail P G al all l st rs stn ∧ K stn
  | [], st, h => ⟨[], st, .nil st, h⟩
  | o :: l, st, h => by
    simp only [dops] at h
    split at h
    · rename_i hg
      obtain ⟨st', v, hK, hf, hop⟩ := dop_way hC G h
      obtain ⟨rs, stn, h1, h2⟩ := dops_trail hC G l _ hK
      exact ⟨⟨ev st, true, v⟩ :: rs, stn, .cons (Fine.refl st) hf rfl (by rw [hg]) (fun _ => hop) (fun e => by cases e) h1, h2⟩
    · rename_i g b hg
      split at h
      · rename_i d hd
        cases hgo : isGone (look st.env d) with
        | true =>
          rw [hgo, cond_true] at h
          obtain ⟨rs, stn, h1, h2⟩ := dops_trail hC G l _ h
          exact ⟨⟨ev st, false, .gone⟩ :: rs, stn, .cons (Fine.refl st) (Fine.refl _) rfl (by rw [hg]; exact ⟨d, hd, .inl ⟨gone_of hgo, rfl⟩⟩) (fun e => by cases e) (fun _ => rfl) h1, h2⟩
        | false =>
        rw [hgo, cond_false] at h
        obtain ⟨t, st1, hK, hf1, hl, _⟩ := br_way h
        cases htb : (t == b) with
        | true =>
          rw [htb, cond_true] at hK
          obtain ⟨st', v, hK, hf, hop⟩ := dop_way hC G hK
          obtain ⟨rs, stn, h1, h2⟩ := dops_trail hC G l _ hK
          exact ⟨⟨ev st1, true, v⟩ :: rs, stn, .cons hf1 hf rfl (by rw [hg]; exact ⟨d, hd, .inr ⟨t, hl d rfl, htb.symm⟩⟩) (fun _ => hf1.heap ▸ hop) (fun e => by cases e) h1, h2⟩
        | false =>
          rw [htb, cond_false] at hK
          obtain ⟨rs, stn, h1, h2⟩ := dops_trail hC G l _ hK
          exact ⟨⟨ev st1, false, .gone⟩ :: rs, stn, .cons hf1 (Fine.refl _) rfl (by rw [hg]; exact ⟨d, hd, .inr ⟨t, hl d rfl, htb.symm⟩⟩) (fun e => by cases e) (fun _ => rfl) h1, h2⟩
      · exact h.elim
theorem Ref.any_left {y : AV} (h : Ref .any y) : y = .any := by
  rcases h with h | ⟨b, h, _⟩
  · exact h.symm
  · cases h
theorem Ref.any_right {x : AV} (h : Ref x .any) : x = .any := by
  rcases h with h | ⟨b, _, h⟩
  · exact h
  · cases h
theorem Ref.gone_right {x : AV} (h : Ref x .gone) : x = .gone := by
  rcases h with h | ⟨b, _, h⟩
  · exact h
  · cases h
theorem Ref.lit_right {x : AV} {b : Bool} (h : Ref x (.lit b)) : x = .lit b := by
  rcases h with h | ⟨c, _, h⟩
  · exact h
  · cases h
theorem look_put (s : ASt) (d : Option Tmp) (v : AV) (t : Tmp) : look (s.put d v).env t = if d = some t then cond (Nat.blt t s.nt) v .any else look s.env t := by
  cases d with
  | none => rw [if_neg (by simp)]; rfl
  | some d =>
    show cond (Nat.beq d t) (cond (Nat.blt d s.nt) v .any) (look s.env t) = _
    by_cases h : d = t
    · subst h
      rw [Nat.beq_refl, if_pos rfl, cond_true]
    · rw [if_neg (fun e => h (Option.some.inj e)), show Nat.beq d t = false from by
        cases hb : Nat.beq d t with
        | false => rfl
        | true => exact absurd (Nat.eq_of_beq_eq_true hb) h, cond_false]
theorem put_nt (s : ASt) (d : Option Tmp) (v : AV) : (s.put d v).nt = s.nt ∧ (s.put d v).heap = s.heap := by cases d <;> exact ⟨rfl, rfl⟩
theorem trail_same {al : Option Al} {all l : List Oper} {rs : List Rec} {stn : ASt} (h : Trail P G al all l st rs stn) : stn.nt = st.nt ∧ stn.heap = st.heap := by
  induction h with
  | nil => exact ⟨rfl, rfl⟩
  | @cons o l st st' st'' stn r rs hf hf2 _ _ _ _ _ ih =>
    have := put_nt st'' o.dst r.v
    exact ⟨ih.1.trans (this.1.trans (hf2.nt.trans hf.nt)), ih.2.trans (this.2.trans (hf2.heap.trans hf.heap))⟩
theorem trail_keep {al : Option Al} {all l : List Oper} {rs : List Rec} {stn : ASt} (h : Trail P G al all l st rs stn) (t : Tmp) (hn : ∀ o ∈ l, o.dst ≠ some t) : Ref (look stn.env t) (look st.env t) := by
  induction h with
  | nil => exact .inl rfl
  | @cons o l st st' st'' stn r rs hf hf2 _ _ _ _ _ ih =>
    have h1 := ih (fun o ho => hn o (List.mem_cons_of_mem _ ho))
    rw [look_put, if_neg (hn o List.mem_cons_self)] at h1
    exact h1.trans ((hf2.env t).trans (hf.env t))
/-- What is known of the operation at a place, by what the temporaries are in the end. -/
theorem trail_get {al : Option Al} {all l : List Oper} {rs : List Rec} {stn : ASt} (h : Trail P G al all l st rs stn) : ∀ (i : Nat) (o : Oper), l[i]? = some o → ∃ r : Rec,
    (∀ t, (∀ j o', i ≤ j → l[j]? = some o' → o'.dst ≠ some t) → Ref (look stn.env t) (r.ins (.tmp t))) ∧
    (∀ x τ, (∀ t, x ≠ .tmp t) → ev τ x = r.ins x) ∧
    (∀ d, o.dst = some d → (∀ j o', i < j → l[j]? = some o' → o'.dst ≠ some d) → Ref (look stn.env d) (cond (Nat.blt d stn.nt) r.v .any)) ∧
    (match o.guard with | none => r.run = true | some (g, b) => ∃ d, dstOf all g = some d ∧ ((((∀ j o', i ≤ j → l[j]? = some o' → o'.dst ≠ some d) → look stn.env d = .gone) ∧ r.run = false) ∨ ∃ t, ((∀ j o', i ≤ j → l[j]? = some o' → o'.dst ≠ some d) → look stn.env d = .lit t) ∧ r.run = (t == b))) ∧
    (r.run = true → OpX P G al stn.heap o r.ins r.v) ∧ (r.run = false → r.v = .gone) := by
  induction h with
  | nil => intro i o h; simp at h
  | @cons o l st st' st'' stn r rs hf hf2 hins hg hop hv ht ih =>
    intro i o' hi
    have hsame := trail_same ht
    have hpn := put_nt st'' o.dst r.v
    cases i with
    | zero =>
      simp only [List.getElem?_cons_zero, Option.some.injEq] at hi
      subst hi
      have key : ∀ t, (∀ j o', 0 ≤ j → (o :: l)[j]? = some o' → o'.dst ≠ some t) → Ref (look stn.env t) (look st'.env t) := fun t hn => by
        have h1 := trail_keep ht t (fun o2 ho2 => by
          obtain ⟨k, hk⟩ := List.mem_iff_getElem?.1 ho2
          exact hn (k + 1) o2 (Nat.zero_le _) (by simpa using hk))
        rw [look_put, if_neg (hn 0 o (Nat.le_refl _) rfl)] at h1
        exact h1.trans (hf2.env t)
      refine ⟨r, fun t hn => by rw [hins]; exact key t hn, fun x τ hx => ?_, fun d hd hn => ?_, ?_, fun hr => ?_, hv⟩
      · rw [hins]
        cases x with
        | tmp t => exact absurd rfl (hx t)
        | _ => rfl
      · have h1 := trail_keep ht d (fun o2 ho2 => by
          obtain ⟨k, hk⟩ := List.mem_iff_getElem?.1 ho2
          exact hn (k + 1) o2 (Nat.succ_pos _) (by simpa using hk))
        rw [look_put, if_pos hd] at h1
        rw [hsame.1, hpn.1]
        exact h1
      · cases hgd : o.guard with
        | none => rw [hgd] at hg; exact hg
        | some p =>
          obtain ⟨g, b⟩ := p
          rw [hgd] at hg
          obtain ⟨d, h1, h2⟩ := hg
          refine ⟨d, h1, ?_⟩
          rcases h2 with ⟨h2, h3⟩ | ⟨t, h2, h3⟩
          · refine .inl ⟨fun hn => ?_, h3⟩
            have := key d hn
            rw [h2] at this
            exact this.gone_right
          · refine .inr ⟨t, fun hn => ?_, h3⟩
            have := key d hn
            rw [h2] at this
            exact this.lit_right
      · have := hop hr
        rw [hsame.2, hpn.2, hf2.heap, hf.heap]
        exact this
    | succ i =>
      obtain ⟨r', h1, h2, h3, h4, h5, h6⟩ := ih i o' (by simpa using hi)
      refine ⟨r', fun t hn => h1 t fun j o2 hj ho2 => hn (j + 1) o2 (by omega) (by simpa using ho2), h2, fun d hd hn => h3 d hd fun j o2 hj ho2 => hn (j + 1) o2 (by omega) (by simpa using ho2), ?_, h5, h6⟩
      cases hgd : o'.guard with
      | none => rw [hgd] at h4; exact h4
      | some p =>
        obtain ⟨g, b⟩ := p
        rw [hgd] at h4
        obtain ⟨d, q1, q2⟩ := h4
        refine ⟨d, q1, ?_⟩
        rcases q2 with ⟨q2, q3⟩ | ⟨t, q2, q3⟩
        · exact .inl ⟨fun hn => q2 fun j o2 hj ho2 => hn (j + 1) o2 (by omega) (by simpa using ho2), q3⟩
        · exact .inr ⟨t, fun hn => q2 fun j o2 hj ho2 => hn (j + 1) o2 (by omega) (by simpa using ho2), q3⟩
/-! ### The check of the edges -/
theorem writers_mem : ∀ (l : List Oper) (i0 : Nat) (t : Tmp) (j : Nat), j ∈ writers t l i0 ↔ ∃ k o, j = i0 + k ∧ l[k]? = some o ∧ o.dst = some t
  | [], i0, t, j => by simp [writers]
  | o :: l, i0, t, j => by
    have ih := writers_mem l (i0 + 1) t j
    have tail : (∃ k o', j = i0 + 1 + k ∧ l[k]? = some o' ∧ o'.dst = some t) → ∃ k o', j = i0 + k ∧ (o :: l)[k]? = some o' ∧ o'.dst = some t := fun ⟨k, o', h1, h2, h3⟩ => ⟨k + 1, o', by omega, by simpa using h2, h3⟩
    have back : ∀ k o', j = i0 + k → (o :: l)[k]? = some o' → o'.dst = some t → (k = 0 ∧ o' = o) ∨ ∃ k o', j = i0 + 1 + k ∧ l[k]? = some o' ∧ o'.dst = some t := fun k o' h1 h2 h3 => by
      cases k with
      | zero => simp at h2; exact .inl ⟨rfl, h2.symm⟩
      | succ k => exact .inr ⟨k, o', by omega, by simpa using h2, h3⟩
    unfold writers
    cases hd : o.dst with
    | none =>
      simp only [ih]
      refine ⟨tail, fun ⟨k, o', h1, h2, h3⟩ => ?_⟩
      rcases back k o' h1 h2 h3 with ⟨_, rfl⟩ | q
      · rw [hd] at h3; cases h3
      · exact q
    | some d =>
      dsimp only
      cases hb : Nat.beq d t with
      | true =>
        obtain rfl := Nat.eq_of_beq_eq_true hb
        simp only [cond_true, List.mem_cons, ih]
        refine ⟨fun h => ?_, fun ⟨k, o', h1, h2, h3⟩ => ?_⟩
        · rcases h with rfl | h
          · exact ⟨0, o, rfl, rfl, hd⟩
          · exact tail h
        · rcases back k o' h1 h2 h3 with ⟨rfl, rfl⟩ | q
          · exact .inl h1
          · exact .inr q
      | false =>
        simp only [cond_false, ih]
        refine ⟨tail, fun ⟨k, o', h1, h2, h3⟩ => ?_⟩
        rcases back k o' h1 h2 h3 with ⟨_, rfl⟩ | q
        · rw [hd] at h3
          have := Option.some.inj h3
          rw [this, Nat.beq_refl] at hb
          cases hb
        · exact q
theorem drawOk_get {all : List Oper} (h : drawOk all = true) : ∀ (i : Nat) (o : Oper), all[i]? = some o → drawOk1 all o i = true := by
  have key : ∀ (l : List Oper) (i0 : Nat), drawOkL all l i0 = true → ∀ (i : Nat) (o : Oper), l[i]? = some o → drawOk1 all o (i0 + i) = true := by
    intro l
    induction l with
    | nil => intro i0 _ i o h; simp at h
    | cons o l ih =>
      intro i0 h i o' hi
      simp only [drawOkL, Bool.and_eq_true] at h
      cases i with
      | zero => simp at hi; subst hi; exact h.1
      | succ i =>
        have := ih (i0 + 1) h.2 i o' (by simpa using hi)
        rwa [show i0 + 1 + i = i0 + (i + 1) by omega] at this
  intro i o hi
  have := key all 0 h i o hi
  rwa [Nat.zero_add] at this
theorem looks_mem {all : List Oper} {o : Oper} : ∀ (l : List Operand), looksOk all o l = true → ∀ t, .tmp t ∈ l → ∀ j ∈ writers t all 0, afterHas o j = true
  | [], _, t, ht => by cases ht
  | x :: l, h, t, ht => by
    rcases List.mem_cons.1 ht with rfl | ht
    · simp only [looksOk, Bool.and_eq_true] at h
      exact fun j hj => List.all_eq_true.1 h.1 j hj
    · refine looks_mem l ?_ t ht
      cases x with
      | tmp t' => simp only [looksOk, Bool.and_eq_true] at h; exact h.2
      | _ => exact h
/-! ### Any order -/
def mkEnv (N : Nat) (f : Nat → AV) : List (Nat × AV) := (List.range N).map fun t => (t, f t)
theorem look_mk (N : Nat) (f : Nat → AV) (t : Nat) : look (mkEnv N f) t = if t < N then f t else .any := by
  have key : ∀ (l : List Nat), look (l.map fun t => (t, f t)) t = if t ∈ l then f t else .any := by
    intro l
    induction l with
    | nil => simp [look]
    | cons d l ih =>
      simp only [List.map_cons, look, ih]
      by_cases h : d = t
      · subst h
        rw [Nat.beq_refl]
        simp
      · rw [show Nat.beq d t = false from by
          cases hb : Nat.beq d t with
          | false => rfl
          | true => exact absurd (Nat.eq_of_beq_eq_true hb) h, cond_false]
        by_cases h2 : t ∈ l
        · rw [if_pos h2, if_pos (List.mem_cons_of_mem _ h2)]
        · rw [if_neg h2, if_neg (fun q => by rcases List.mem_cons.1 q with q | q; exact h q.symm; exact h2 q)]
  unfold mkEnv
  rw [key]
  simp
theorem look_far : ∀ (l : List (Nat × AV)), ∃ N, ∀ t, N ≤ t → look l t = .any
  | [] => ⟨0, fun _ _ => rfl⟩
  | (d, v) :: l => by
    obtain ⟨N, hN⟩ := look_far l
    refine ⟨max N (d + 1), fun t ht => ?_⟩
    show cond (Nat.beq d t) v (look l t) = .any
    rw [show Nat.beq d t = false from by
      cases hb : Nat.beq d t with
      | false => rfl
      | true => have := Nat.eq_of_beq_eq_true hb; omega, cond_false]
    exact hN t (by omega)
theorem SR.env {s1 s2 : ASt} (h : SR G s1 a w) (hn : s2.nt = s1.nt) (hh : s2.heap = s1.heap) (he : ∀ t, look s2.env t = .any ∨ Ref (look s2.env t) (look s1.env t) ∨ Ref (look s1.env t) (look s2.env t)) : SR G s2 a w := by
  obtain ⟨S, ρ, hs⟩ := h
  refine ⟨S, ρ, hs.lt, hs.s0, hs.sp, hh ▸ hs.hr, hn ▸ hs.nt, fun t => ?_, hs.bel, hs.dfr⟩
  rcases he t with q | q | q
  · rw [q]; exact .st _ _ (.any _)
  · exact q.rv.2 (hs.env t)
  · exact q.rv.1 (hs.env t)
def unlisted (listed : Array Bool) (n : Nat) : Nat := (List.range n).countP fun i => !listed.getD i true
theorem countP_lt {p q : Nat → Bool} : ∀ (l : List Nat), (∀ x ∈ l, q x = true → p x = true) → (∃ x ∈ l, p x = true ∧ q x = false) → l.countP q < l.countP p
  | [], _, ⟨x, hx, _⟩ => by cases hx
  | y :: l, h, ⟨x, hx, h1, h2⟩ => by
    have hle : l.countP q ≤ l.countP p := List.countP_mono_left (fun z hz hq => h z (List.mem_cons_of_mem _ hz) hq)
    simp only [List.countP_cons]
    rcases List.mem_cons.1 hx with rfl | hx
    · rw [h1, h2]
      simp
      omega
    · have := countP_lt l (fun z hz => h z (List.mem_cons_of_mem _ hz)) ⟨x, hx, h1, h2⟩
      have hy := h y List.mem_cons_self
      cases hq : q y with
      | true => rw [hy hq]; simp; omega
      | false => cases p y <;> simp <;> omega
inductive Reach (all : List Oper) : Nat → Nat → Prop
  | one {i j : Nat} {o : Oper} (h : all[i]? = some o) (h2 : afterHas o j = true) : Reach all i j
  | step {i m j : Nat} {o : Oper} (h : all[i]? = some o) (h2 : afterHas o m = true) (h3 : Reach all m j) : Reach all i j
theorem edgeMask_ok {acc : List Nat} {R : Nat → Nat → Prop} (hacc : ∀ m j, (nthN acc m).testBit j = true → R m j) {j : Nat} : ∀ (l : List Edge), (edgeMask acc l).testBit j = true → ∃ e ∈ l, Region.binds .any e = true ∧ (e.on = j ∨ R e.on j)
  | [], h => by
    have h : (0 : Nat).testBit j = true := h
    simp at h
  | e :: l, h => by
    unfold edgeMask at h
    cases hb : Region.binds .any e with
    | false =>
      rw [hb, cond_false] at h
      obtain ⟨e', h1, h2⟩ := edgeMask_ok hacc l h
      exact ⟨e', List.mem_cons_of_mem _ h1, h2⟩
    | true =>
      rw [hb, cond_true] at h
      have h : (((1 <<< e.on) ||| nthN acc e.on) ||| edgeMask acc l).testBit j = true := h
      rw [Nat.testBit_or, Nat.testBit_or, Nat.one_shiftLeft, Nat.testBit_two_pow, Bool.or_eq_true, Bool.or_eq_true, decide_eq_true_eq] at h
      rcases h with (h | h) | h
      · exact ⟨e, List.mem_cons_self, hb, .inl h⟩
      · exact ⟨e, List.mem_cons_self, hb, .inr (hacc _ _ h)⟩
      · obtain ⟨e', h1, h2⟩ := edgeMask_ok hacc l h
        exact ⟨e', List.mem_cons_of_mem _ h1, h2⟩
theorem edge_has {o : Oper} {e : Edge} (he : e ∈ o.after.toList) (hb : Region.binds .any e = true) : afterHas o e.on = true :=
  List.any_eq_true.2 ⟨e, he, by rw [hb]; simp⟩
theorem nthN_app : ∀ (acc : List Nat) (x m : Nat), nthN (acc ++ [x]) m = if m < acc.length then nthN acc m else if m = acc.length then x else 0
  | [], x, 0 => rfl
  | [], x, m + 1 => by simp [nthN]
  | y :: acc, x, 0 => by simp [nthN]
  | y :: acc, x, m + 1 => by
    have := nthN_app acc x m
    show nthN (acc ++ [x]) m = if m + 1 < acc.length + 1 then nthN acc m else if m + 1 = acc.length + 1 then x else 0
    rw [this]
    simp only [Nat.add_lt_add_iff_right, Nat.add_right_cancel_iff]
theorem maskAt_ok {all : List Oper} {j : Nat} : ∀ (l : List Oper) (acc : List Nat) (k : Nat), (∀ i, all[acc.length + i]? = l[i]?) → (∀ m j, (nthN acc m).testBit j = true → Reach all m j) → (maskAt l acc k).testBit j = true → Reach all (acc.length + k) j
  | [], acc, k, _, _, h => by
    have h : (0 : Nat).testBit j = true := h
    simp at h
  | o :: l, acc, 0, hl, hacc, h => by
    obtain ⟨e, h1, h2, h3⟩ := edgeMask_ok hacc _ h
    have ho : all[acc.length + 0]? = some o := hl 0
    rcases h3 with rfl | h3
    · exact .one ho (edge_has h1 h2)
    · exact .step ho (edge_has h1 h2) h3
  | o :: l, acc, k + 1, hl, hacc, h => by
    have ho : all[acc.length + 0]? = some o := hl 0
    have hlen : (acc ++ [edgeMask acc o.after.toList]).length = acc.length + 1 := by simp
    have := maskAt_ok (all := all) (j := j) l (acc ++ [edgeMask acc o.after.toList]) k (fun i => by rw [hlen]; have := hl (i + 1); simpa [Nat.add_assoc, Nat.add_comm 1 i] using this) (fun m j hm => by
      rw [nthN_app] at hm
      by_cases q : m < acc.length
      · rw [if_pos q] at hm
        exact hacc m j hm
      · rw [if_neg q] at hm
        by_cases q2 : m = acc.length
        · rw [if_pos q2] at hm
          subst q2
          obtain ⟨e, h1, h2, h3⟩ := edgeMask_ok hacc _ hm
          rcases h3 with rfl | h3
          · exact .one ho (edge_has h1 h2)
          · exact .step ho (edge_has h1 h2) h3
        · rw [if_neg q2] at hm
          simp at hm) h
    rw [hlen] at this
    rw [show acc.length + (k + 1) = acc.length + 1 + k by omega]
    exact this
theorem chainOk_get {all : List Oper} {k : Nat} : ∀ (m : Nat), chainOk all k m = true → ∀ i, k ≤ i → i < k + m → ∃ o, all[i]? = some o ∧ backOnly o i = true ∧ (k < i → afterHas o (i - 1) = true)
  | 0, _, i, h1, h2 => by omega
  | m + 1, h, i, h1, h2 => by
    simp only [chainOk, Bool.and_eq_true] at h
    obtain ⟨q1, q2⟩ := h
    by_cases e : i = k + m
    · subst e
      split at q1
      · rename_i o ho
        simp only [Bool.and_eq_true, Bool.or_eq_true] at q1
        refine ⟨o, ho, q1.1, fun hlt => ?_⟩
        rcases q1.2 with q | q
        · have := Nat.eq_of_beq_eq_true q
          omega
        · exact q
      · cases q1
    · exact chainOk_get m q2 i h1 (by omega)
theorem tailOk_ok {all : List Oper} {k : Nat} (h : tailOk all k = true) (hk : k < all.length) : (∀ j, j < k → Reach all k j) ∧ ∀ i, k ≤ i → i < all.length → ∃ o, all[i]? = some o ∧ backOnly o i = true ∧ (k < i → afterHas o (i - 1) = true) := by
  unfold tailOk at h
  simp only [Bool.or_eq_true, Bool.and_eq_true] at h
  rcases h with h | ⟨h1, h2⟩
  · have := Nat.eq_of_beq_eq_true h
    omega
  · have h1 := Nat.eq_of_beq_eq_true h1
    refine ⟨fun j hj => ?_, fun i hi hi2 => chainOk_get _ h2 i hi (by omega)⟩
    have := maskAt_ok (all := all) (j := j) all [] k (fun i => by simp) (fun m j hm => by
      have hm : (0 : Nat).testBit j = true := by cases m <;> exact hm
      simp at hm) (by
      rw [h1]
      show (1 <<< k - 1).testBit j = true
      rw [Nat.one_shiftLeft, Nat.testBit_two_pow_sub_one]
      exact decide_eq_true hj)
    simpa using this
theorem backOnly_get {o : Oper} {i : Nat} (h : backOnly o i = true) : ∀ j, afterHas o j = true → j < i := fun j hj => by
  obtain ⟨e, he, hb⟩ := List.any_eq_true.1 hj
  simp only [Bool.and_eq_true] at hb
  have h3 := List.all_eq_true.1 h e he
  rw [hb.1] at h3
  have h4 : Nat.blt e.on i = true := by simpa using h3
  rw [← Nat.eq_of_beq_eq_true hb.2]
  exact Nat.le_of_ble_eq_true h4
theorem ready_mem {ops : Array Oper} {listed : Array Bool} (hsz : listed.size = ops.size) {i : Nat} (hio : i < ops.size) (hl : listed.getD i true = false) (h : ∀ j, afterHas ops[i] j = true → j < ops.size ∧ listed.getD j true = true) : i ∈ Region.ready .any ops listed := by
  unfold Region.ready
  refine List.mem_filter.2 ⟨List.mem_range.2 hio, ?_⟩
  rw [hl, Array.getElem?_eq_getElem hio]
  simp only [Bool.not_false, Bool.true_and, Option.map_some, Option.getD_some]
  refine Array.all_eq_true_iff_forall_mem.2 fun e he => ?_
  cases hb : Region.binds .any e with
  | false => rfl
  | true =>
    obtain ⟨q1, q2⟩ := h e.on (List.any_eq_true.2 ⟨e, by simpa using he, by rw [hb]; simp⟩)
    have h3 : e.on < listed.size := by omega
    simp only [Array.getD, h3, dif_pos] at q2
    simp only [Array.getD, h3, dif_pos, Bool.not_true, Bool.false_or]
    exact q2
theorem ready_get {ops : Array Oper} {listed : Array Bool} (hsz : listed.size = ops.size) {i : Nat} (h : i ∈ Region.ready .any ops listed) : ∃ hio : i < ops.size, listed.getD i true = false ∧ ∀ j, j < ops.size → afterHas ops[i] j = true → listed.getD j true = true := by
  unfold Region.ready at h
  obtain ⟨hi1, hi2⟩ := List.mem_filter.1 h
  have hio := List.mem_range.1 hi1
  simp only [Bool.and_eq_true, Bool.not_eq_true'] at hi2
  obtain ⟨hli, haf⟩ := hi2
  rw [Array.getElem?_eq_getElem hio] at haf
  simp only [Option.map_some, Option.getD_some] at haf
  refine ⟨hio, hli, fun j hlt hj => ?_⟩
  obtain ⟨e, he, hb⟩ := List.any_eq_true.1 hj
  simp only [Bool.and_eq_true] at hb
  have h1 := Array.all_eq_true_iff_forall_mem.1 haf e (by simpa using he)
  rw [hb.1, Bool.not_true, Bool.false_or, Nat.eq_of_beq_eq_true hb.2] at h1
  have h3 : j < listed.size := by omega
  simp only [Array.getD, h3, dif_pos] at h1 ⊢
  exact h1
theorem set_get {listed : Array Bool} {n i : Nat} (hsz : listed.size = n) (hio : i < n) (j : Nat) : (listed.setIfInBounds i true).getD j true = if j = i then true else listed.getD j true := by
  by_cases hj : j = i
  · subst hj
    rw [if_pos rfl]
    simp [Array.getD, hsz, hio]
  · rw [if_neg hj]
    simp only [Array.getD_eq_getD_getElem?]
    rw [Array.getElem?_setIfInBounds_ne (fun e => hj e.symm)]
/-- Where the order is that of the text. -/
theorem tail_ok (hC : COKT P T C) {ops : Array Oper} {k : Nat} (hk : ∀ i, k ≤ i → i < ops.size → ∃ o, ops.toList[i]? = some o ∧ backOnly o i = true ∧ (k < i → afterHas o (i - 1) = true)) {Q : Exit → ASt → Prop} : ∀ (m i : Nat) (listed : Array Bool) (τ : ASt) (a : Act) (w : World) (fuel : Nat), i + m = ops.size → k ≤ i → m ≤ fuel → listed.size = ops.size → (∀ j, j < i → listed.getD j true = true) → (∀ j, i ≤ j → j < ops.size → listed.getD j true = false) → aops C ops.toList (ops.toList.drop i) τ (Q .normal) → SR G τ a w → wpAny P .any ops (fun e a' w' => ∃ st', Q e st' ∧ SR G st' a' w') fuel listed a w
  | 0, i, listed, τ, a, w, fuel, hi, hki, hm, hsz, h1, h2, h, hs => by
    rw [List.drop_of_length_le (by simp; omega)] at h
    have hr : Region.ready .any ops listed = [] := by
      refine List.eq_nil_iff_forall_not_mem.2 fun t ht => ?_
      obtain ⟨q1, q2, _⟩ := ready_get hsz ht
      rw [h1 t (by omega)] at q2
      cases q2
    cases fuel with
    | zero => exact ⟨hr, τ, h, hs⟩
    | succ fuel => exact ⟨fun _ => ⟨τ, h, hs⟩, fun t ht => by rw [hr] at ht; cases ht⟩
  | m + 1, i, listed, τ, a, w, fuel, hi, hki, hm, hsz, h1, h2, h, hs => by
    obtain ⟨fuel, rfl⟩ : ∃ f, fuel = f + 1 := ⟨fuel - 1, by omega⟩
    have hio : i < ops.size := by omega
    have hseq : ∀ t (ht : t < ops.size), k ≤ t → backOnly ops[t] t = true ∧ (k < t → afterHas ops[t] (t - 1) = true) := fun t ht hkt => by
      obtain ⟨o, h1, h2, h3⟩ := hk t hkt ht
      rw [Array.getElem?_toList, Array.getElem?_eq_getElem ht] at h1
      cases h1
      exact ⟨h2, h3⟩
    have hmem : i ∈ Region.ready .any ops listed := ready_mem hsz hio (h2 i (Nat.le_refl _) hio) fun j hj => by
      have := backOnly_get (hseq i hio hki).1 j hj
      exact ⟨by omega, h1 j this⟩
    refine ⟨fun hn => (by rw [hn] at hmem; cases hmem), fun t ht => ?_⟩
    obtain ⟨hto, ht1, ht2⟩ := ready_get hsz ht
    obtain rfl : t = i := by
      rcases Nat.lt_trichotomy t i with q | q | q
      · rw [h1 t q] at ht1; cases ht1
      · exact q
      · have := ht2 (t - 1) (by omega) ((hseq t hto (by omega)).2 (by omega))
        rw [h2 (t - 1) (by omega) (by omega)] at this
        cases this
    have next : ∀ τ a w, aops C ops.toList (ops.toList.drop (t + 1)) τ (Q .normal) → SR G τ a w → wpAny P .any ops (fun e a' w' => ∃ st', Q e st' ∧ SR G st' a' w') fuel (listed.setIfInBounds t true) a w := fun τ a w h hs => by
      refine tail_ok hC hk m (t + 1) _ τ a w fuel (by omega) (by omega) (by omega) (by simp [hsz]) (fun j hj => ?_) (fun j hj hj2 => ?_) h hs
      · rw [set_get hsz hio]
        by_cases e : j = t
        · rw [if_pos e]
        · rw [if_neg e]; exact h1 j (by omega)
      · rw [set_get hsz hio, if_neg (by omega)]
        exact h2 j (by omega) hj2
    rw [List.drop_eq_getElem_cons (by simpa using hio), Array.getElem_toList] at h
    obtain ⟨S, ρ, hs⟩ := hs
    unfold wpOp
    rw [Array.getElem?_eq_getElem hio]
    simp only [aops] at h
    split at h
    · rename_i hg
      simp only [Region.wanted, hg, if_true]
      exact .inl (aop_ok hC hs h _ _ (.inr trivial) fun st' a' w' hK hs' => next st' a' w' hK hs')
    · rename_i g b hg
      split at h
      · rename_i d hd
        cases hgo : isGone (look τ.env d) with
        | true =>
          rw [hgo, cond_true] at h
          have hr := hs.env d
          rw [gone_of hgo] at hr
          have hy := yield_gone hd (rv_gone hr)
          have hw : Region.wanted ops[t] (yielded ops a.tmps) = false := by
            simp only [Region.wanted, hg, hy]
            rfl
          simp only [hw]
          rw [if_neg (by decide)]
          exact next _ _ w h ⟨S, ρ, put_ok hs _ (.st _ _ .gone)⟩
        | false =>
        rw [hgo, cond_false] at h
        obtain ⟨t', st', hb, hK, hs', _⟩ := br_ok hs h
        have hy := yield_ok hs' hd hb
        have hw : Region.wanted ops[t] (yielded ops a.tmps) = (t' == b) := by
          simp only [Region.wanted, hg, hy]
          cases t' <;> cases b <;> rfl
        simp only [hw]
        cases htb : (t' == b) with
        | true =>
          rw [htb, cond_true] at hK
          rw [if_pos rfl]
          exact .inl (aop_ok hC hs' hK _ _ (.inr trivial) fun st' a' w' hK hs' => next st' a' w' hK hs')
        | false =>
          rw [htb, cond_false] at hK
          rw [if_neg (by decide)]
          exact next _ _ w hK ⟨S, ρ, put_ok hs' _ (.st _ _ .gone)⟩
      · exact h.elim
theorem allocOf_get : ∀ {l : List Oper} {d : Nat} {t : TypeId}, allocOf l = some (d, t) → ∃ (p : Nat) (o : Oper), l[p]? = some o ∧ o.op = .alloc t ∧ o.guard = none ∧ o.dst = some d
  | [], d, t, h => by cases h
  | o :: l, d, t, h => by
    have rest : allocOf l = some (d, t) → ∃ (p : Nat) (o' : Oper), (o :: l)[p]? = some o' ∧ o'.op = .alloc t ∧ o'.guard = none ∧ o'.dst = some d := fun h => by
      obtain ⟨p, o', h1, h2⟩ := allocOf_get h
      exact ⟨p + 1, o', by simpa using h1, h2⟩
    unfold allocOf at h
    split at h
    · rename_i t' ht
      split at h
      · rename_i hg
        split at h
        · rename_i d' hd
          cases h
          exact ⟨0, o, rfl, ht, hg, hd⟩
        · exact rest h
      · exact rest h
    · exact rest h
/-- What is known of the box that is laid in no order. -/
def AlI (C : Cfg) (al : Option Al) (pre : List Oper) (h0 hn : List AB) : Prop := match al with
  | none => hn = h0
  | some y => y.n = h0.length ∧ ∃ (t : TypeId) (i : TI) (p : Nat) (o : Oper), hn = h0 ++ [.box t i.zero] ∧ C.ty t = some i ∧ pre[p]? = some o ∧ o.op = .alloc t ∧ o.guard = none ∧ o.dst = some y.d
theorem draw_ok0 (hC : COKT P T C) {id : Nat} {ops : Array Oper} {k : Nat} {Q : Exit → ASt → Prop} (h : dregion0 C ops.toList k st (Q .normal)) (hs : SR G st a w) : (Code.region id ops true).wp P (fun e a' w' => ∃ st', Q e st' ∧ SR G st' a' w') a w := by
  unfold dregion0 at h
  cases hdt : (drawOk (ops.toList.take k) && tailOk ops.toList k) with
  | false => rw [hdt] at h; exact h.elim
  | true =>
  rw [hdt, cond_true] at h
  simp only [Bool.and_eq_true] at hdt
  obtain ⟨hd, htO⟩ := hdt
  have hkk : tailOk ops.toList k = true → k ≤ ops.size := fun h => by
    unfold tailOk at h
    simp only [Bool.or_eq_true, Bool.and_eq_true] at h
    rcases h with h | ⟨h, _⟩
    · have := Nat.eq_of_beq_eq_true h
      simp at this
      omega
    · rcases Nat.lt_or_ge ops.size k with q | q
      · exfalso
        have h := Nat.eq_of_beq_eq_true h
        have hr := maskAt_ok (all := ops.toList) (j := k - 1) ops.toList [] k (fun i => by simp) (fun m j hm => by
          have hm : (0 : Nat).testBit j = true := by cases m <;> exact hm
          simp at hm) (by
          rw [h]
          show (1 <<< k - 1).testBit (k - 1) = true
          rw [Nat.one_shiftLeft, Nat.testBit_two_pow_sub_one]
          exact decide_eq_true (by omega))
        have hno : ops.toList[0 + k]? = none := by rw [List.getElem?_eq_none_iff]; simp; omega
        have hr : Reach ops.toList (0 + k) (k - 1) := hr
        cases hr with
        | one h _ => rw [hno] at h; cases h
        | step h _ _ => rw [hno] at h; cases h
      · exact q
  have hkle := hkk htO
  have hplen : (ops.toList.take k).length = k := by simp; omega
  have hpre : ∀ i, i < k → (ops.toList.take k)[i]? = ops.toList[i]? := fun i hi => List.getElem?_take_of_lt hi
  have hpre2 : ∀ i o, (ops.toList.take k)[i]? = some o → i < k ∧ ops.toList[i]? = some o := fun i o hi => by
    have : i < k := by have := (List.getElem?_eq_some_iff.1 hi).1; omega
    exact ⟨this, by rw [← hpre i this]; exact hi⟩
  have hktail : ∀ i, k ≤ i → i < ops.size → ∃ o, ops.toList[i]? = some o ∧ backOnly o i = true ∧ (k < i → afterHas o (i - 1) = true) := fun i h1 h2 => (tailOk_ok htO (by simp; omega)).2 i h1 (by simpa using h2)
  have hkreach : k < ops.size → ∀ j, j < k → Reach ops.toList k j := fun h => (tailOk_ok htO (by simpa using h)).1
  clear htO hkk
  revert h hd hplen hpre hpre2
  generalize ops.toList.take k = pre
  intro h hd hplen hpre hpre2
  obtain ⟨al, st1, hst1, hnt1, hAl, h⟩ : ∃ al st1, st1.env = st.env ∧ st1.nt = st.nt ∧ AlI C al pre st.heap st1.heap ∧ dops C al pre pre st1 fun st => aops C ops.toList (ops.toList.drop k) st (Q .normal) := by
    split at h
    · exact ⟨none, st, rfl, rfl, rfl, h⟩
    · rename_i d t hal
      split at h
      · rename_i i hi
        obtain ⟨p, o, h1, h2, h3, h4⟩ := allocOf_get hal
        exact ⟨some ⟨st.heap.length, d⟩, st.newB (.box t i.zero), rfl, rfl, ⟨rfl, t, i, p, o, rfl, hi, h1, h2, h3, h4⟩, h⟩
      · exact h.elim
  obtain ⟨rs, stn, ht, hK⟩ := dops_trail hC G _ _ h
  have hsame := trail_same ht
  have hget := trail_get ht
  obtain ⟨N, hN⟩ := look_far stn.env
  -- where an edge leads back
  have hback : ∀ (i : Nat) (o : Oper), pre[i]? = some o → ∀ j, afterHas o j = true → j < i := fun i o hi j hj => by
    have := drawOk_get hd i o hi
    simp only [drawOk1, Bool.and_eq_true] at this
    obtain ⟨⟨⟨_, h2⟩, _⟩, _⟩ := this
    obtain ⟨e, he, hb⟩ := List.any_eq_true.1 hj
    simp only [Bool.and_eq_true] at hb
    have h3 := List.all_eq_true.1 h2 e he
    rw [hb.1] at h3
    have h4 : Nat.blt e.on i = true := by simpa using h3
    rw [← Nat.eq_of_beq_eq_true hb.2]
    exact Nat.le_of_ble_eq_true h4
  have hop_look : ∀ (i : Nat) (o : Oper), pre[i]? = some o → ∀ t, .tmp t ∈ o.op.operands.toList → ∀ j ∈ writers t pre 0, afterHas o j = true := fun i o hi t ht2 => by
    have := drawOk_get hd i o hi
    simp only [drawOk1, Bool.and_eq_true] at this
    exact looks_mem _ this.1.1.1 t ht2
  have hsingle : ∀ (i : Nat) (o : Oper) (d : Tmp), pre[i]? = some o → o.dst = some d → writers d pre 0 = [i] := fun i o d hi hd2 => by
    have := drawOk_get hd i o hi
    simp only [drawOk1, Bool.and_eq_true] at this
    have h4 := this.2
    rw [hd2] at h4
    have hm : i ∈ writers d pre 0 := (writers_mem _ _ _ _).2 ⟨i, o, by omega, hi, hd2⟩
    cases hw : writers d pre 0 with
    | nil => rw [hw] at hm; cases hm
    | cons x l =>
      cases l with
      | nil => rw [hw] at hm; simp at hm; rw [hm]
      | cons y l => simp only [hw] at h4; cases h4
  let av : Array Bool → Tmp → Bool := fun listed t => (writers t pre 0).all fun j => listed.getD j true
  let hpOf : Array Bool → List AB := fun listed => match al with
    | none => stn.heap
    | some y => if av listed y.d then stn.heap else st.heap
  let σ : Array Bool → ASt := fun listed => ⟨stn.nt, mkEnv N fun t => if av listed t then look stn.env t else .any, hpOf listed⟩
  have hσ : ∀ listed t, look (σ listed).env t = if av listed t then look stn.env t else .any := fun listed t => by
    show look (mkEnv N _) t = _
    rw [look_mk]
    by_cases ht2 : t < N
    · rw [if_pos ht2]
    · rw [if_neg ht2, hN t (by omega)]
      split <;> rfl
  refine wp_region_any hC.mixed ?_
  -- the start
  have hstart : SR G (σ (Array.replicate ops.size false)) a { w with drawn := w.drawn + 1 } := by
    obtain ⟨S, ρ, hs⟩ := hs
    have hs2 : SR G st a { w with drawn := w.drawn + 1 } := ⟨S, ρ, hs.grow ⟨rfl, rfl, rfl, Nat.le_refl _, fun _ _ => rfl⟩⟩
    refine hs2.env (hsame.1.trans hnt1) ?_ fun t => ?_
    · show hpOf _ = st.heap
      cases al with
      | none => exact hsame.2.trans hAl
      | some y =>
        obtain ⟨_, t, i, p, o, _, _, hp, _, _, hdo⟩ := hAl
        have hlt := (hpre2 _ _ hp).1
        have hav0 : av (Array.replicate ops.size false) y.d = false := by
          show List.all _ _ = false
          rw [hsingle p o y.d hp hdo]
          have : p < ops.size := by omega
          simp [Array.getD, this]
        show (if av _ y.d = true then _ else _) = _
        rw [hav0]
        rfl
    rw [hσ]
    cases hav : av (Array.replicate ops.size false) t with
    | false => exact .inl rfl
    | true =>
      refine .inr (.inl ?_)
      rw [← hst1]
      refine trail_keep ht t fun o ho hdt => ?_
      obtain ⟨k', hk⟩ := List.mem_iff_getElem?.1 ho
      have := List.all_eq_true.1 hav k' ((writers_mem _ _ _ _).2 ⟨k', o, by omega, hk, hdt⟩)
      obtain ⟨q1, q2⟩ := hpre2 _ _ hk
      have hlt : k' < ops.size := by omega
      simp [Array.getD, hlt] at this
  -- the end
  have hend : ∀ listed a w, (∀ i, i < k → listed.getD i true = true) → SR G (σ listed) a w → SR G stn a w := fun listed a w hl hs => by
    have hav1 : ∀ t, av listed t = true := fun t => by
      refine List.all_eq_true.2 fun j hj => ?_
      obtain ⟨k', o, rfl, hk, _⟩ := (writers_mem _ _ _ _).1 hj
      refine hl _ ?_
      have := (hpre2 _ _ hk).1
      omega
    refine hs.env rfl ?_ fun t => .inr (.inl ?_)
    · show stn.heap = hpOf listed
      cases al with
      | none => rfl
      | some y =>
        show _ = if av listed y.d = true then _ else _
        rw [if_pos (hav1 _)]
    · rw [hσ, if_pos (hav1 t)]
      exact .inl rfl
  have main : ∀ (fuel : Nat) (listed : Array Bool) (a : Act) (w : World), listed.size = ops.size → unlisted listed k + (ops.size - k) ≤ fuel → (∀ j, k ≤ j → j < ops.size → listed.getD j true = false) → (∀ (m : Nat) (o : Oper), ops.toList[m]? = some o → listed.getD m true = true → ∀ j, afterHas o j = true → listed.getD j true = true) → SR G (σ listed) a w → wpAny P .any ops (fun e a' w' => ∃ st', Q e st' ∧ SR G st' a' w') fuel listed a w := by
    intro fuel
    induction fuel with
    | zero =>
      intro listed a w hsz hu htl hcl hs
      have hall : ∀ i, i < k → listed.getD i true = true := fun i hi => by
        have h0 : (List.range k).countP (fun i => !listed.getD i true) = 0 := by
          have : (List.range k).countP (fun i => !listed.getD i true) = unlisted listed k := rfl
          omega
        have := List.countP_eq_zero.1 h0 i (List.mem_range.2 hi)
        simpa using this
      exact tail_ok hC hktail (ops.size - k) k listed stn a w 0 (by omega) (Nat.le_refl _) (by omega) hsz hall htl hK (hend listed a w hall hs)
    | succ fuel ih =>
      intro listed a w hsz hu htl hcl hs
      by_cases hall : ∀ i, i < k → listed.getD i true = true
      · exact tail_ok hC hktail (ops.size - k) k listed stn a w (fuel + 1) (by omega) (Nat.le_refl _) (by omega) hsz hall htl hK (hend listed a w hall hs)
      refine ⟨fun hnil => absurd (fun i hi => ?_) hall, fun i hi => ?_⟩
      · -- the least that is not listed would be ready
        have key : ∀ m, ∀ i, i < m → i < k → listed.getD i true = true := by
          intro m
          induction m with
          | zero => intro i hi; omega
          | succ m ihm =>
            intro i hi hik
            by_cases him : i < m
            · exact ihm i him hik
            · cases hl : listed.getD i true with
              | true => rfl
              | false =>
                exfalso
                have hio : i < ops.size := by omega
                have hmem : i ∈ Region.ready .any ops listed := ready_mem hsz hio hl fun j hj => by
                  have := hback i ops[i] (by rw [hpre i hik]; simp [hio]) j hj
                  exact ⟨by omega, ihm j (by omega) (by omega)⟩
                rw [hnil] at hmem
                cases hmem
        exact key (i + 1) i (by omega) hi
      · obtain ⟨hio, hli, haf⟩ := ready_get hsz hi
        have hik : i < k := by
          rcases Nat.lt_or_ge i k with q | q
          · exact q
          · exfalso
            obtain ⟨o, g1, g2, g3⟩ := hktail i q hio
            have g1' := g1
            rw [Array.getElem?_toList, Array.getElem?_eq_getElem hio] at g1'
            cases g1'
            rcases Nat.lt_or_ge k i with q2 | q2
            · have := haf (i - 1) (by omega) (g3 q2)
              rw [htl (i - 1) (by omega) (by omega)] at this
              cases this
            · obtain rfl : i = k := by omega
              have hreach : ∀ m j, Reach ops.toList m j → (∀ o, ops.toList[m]? = some o → ∀ j, afterHas o j = true → listed.getD j true = true) → listed.getD j true = true := by
                intro m j hr
                induction hr with
                | one h h2 => exact fun hh => hh _ h _ h2
                | step h h2 _ ih => exact fun hh => ih fun o ho => hcl _ o ho (hh _ h _ h2)
              refine hall fun j hj => hreach i j (hkreach hio j hj) fun o ho j hj => ?_
              rw [g1] at ho
              cases ho
              rcases Nat.lt_or_ge j ops.size with q3 | q3
              · exact haf j q3 hj
              · rw [Array.getD_eq_getD_getElem?, Array.getElem?_eq_none (by omega)]; rfl
        have hi1 : i ∈ List.range k := List.mem_range.2 hik
        have hol : pre[i]? = some ops[i] := by rw [hpre i hik]; simp [hio]
        have haf2 : ∀ j, afterHas ops[i] j = true → listed.getD j true = true := fun j hj => haf j (by have := hback i ops[i] hol j hj; omega) hj
        obtain ⟨r, q1, q2, q3, q4, q5, q6⟩ := hget i ops[i] hol
        have hsz' : (listed.setIfInBounds i true).size = ops.size := by simp [hsz]
        have hget' := set_get hsz hio
        have htl' : ∀ j, k ≤ j → j < ops.size → (listed.setIfInBounds i true).getD j true = false := fun j h1 h2 => by
          rw [hget', if_neg (by omega)]
          exact htl j h1 h2
        have hcl' : ∀ (m : Nat) (o : Oper), ops.toList[m]? = some o → (listed.setIfInBounds i true).getD m true = true → ∀ j, afterHas o j = true → (listed.setIfInBounds i true).getD j true = true := fun m o ho hm j hj => by
          rw [hget'] at hm ⊢
          by_cases e2 : j = i
          · rw [if_pos e2]
          · rw [if_neg e2]
            by_cases e : m = i
            · subst e
              rw [Array.getElem?_toList, Array.getElem?_eq_getElem hio] at ho
              cases ho
              rcases Nat.lt_or_ge j ops.size with q3 | q3
              · exact haf j q3 hj
              · rw [Array.getD_eq_getD_getElem?, Array.getElem?_eq_none (by omega)]; rfl
            · rw [if_neg e] at hm
              exact hcl m o ho hm j hj
        have hu' : unlisted (listed.setIfInBounds i true) k + (ops.size - k) ≤ fuel := by
          have := countP_lt (p := fun z => !listed.getD z true) (q := fun z => !(listed.setIfInBounds i true).getD z true) (List.range k) (fun x _ hx => by
              rw [hget'] at hx
              by_cases hxi : x = i
              · rw [if_pos hxi] at hx; cases hx
              · rw [if_neg hxi] at hx; exact hx) ⟨i, hi1, by rw [hli]; rfl, by rw [hget', if_pos rfl]; rfl⟩
          unfold unlisted at hu ⊢
          omega
        -- nobody from here on writes what it looks at
        have hlater : ∀ t, (∀ j ∈ writers t pre 0, afterHas ops[i] j = true) → ∀ j o', i ≤ j → pre[j]? = some o' → o'.dst ≠ some t := fun t hw j o' hj ho' hdt => by
          have := hback i ops[i] hol j (hw j ((writers_mem _ _ _ _).2 ⟨j, o', by omega, ho', hdt⟩))
          omega
        have hav : ∀ t, (∀ j ∈ writers t pre 0, afterHas ops[i] j = true) → av listed t = true := fun t hw => List.all_eq_true.2 fun j hj => haf2 j (hw j hj)
        have hav' : ∀ t, ops[i].dst ≠ some t → av (listed.setIfInBounds i true) t = av listed t := fun t hne => by
          have : ∀ j ∈ writers t pre 0, (listed.setIfInBounds i true).getD j true = listed.getD j true := fun j hj => by
            rw [hget', if_neg]
            rintro rfl
            obtain ⟨k, o, e, hk, hdk⟩ := (writers_mem _ _ _ _).1 hj
            obtain rfl : j = k := by omega
            rw [hol] at hk
            cases hk
            exact hne hdk
          show List.all _ _ = List.all _ _
          rw [Bool.eq_iff_iff, List.all_eq_true, List.all_eq_true]
          exact ⟨fun h j hj => by rw [← this j hj]; exact h j hj, fun h j hj => by rw [this j hj]; exact h j hj⟩
        have havd : ∀ t, ops[i].dst = some t → av (listed.setIfInBounds i true) t = true := fun t hdt => by
          refine List.all_eq_true.2 fun j hj => ?_
          rw [hsingle i _ t hol hdt] at hj
          rw [hget', if_pos (by simpa using hj)]
        have hlaterd : ∀ t, ops[i].dst = some t → ∀ j o', i < j → pre[j]? = some o' → o'.dst ≠ some t := fun t hdt j o' hj ho' hdt' => by
          have := (writers_mem pre 0 t j).2 ⟨j, o', by omega, ho', hdt'⟩
          rw [hsingle i _ t hol hdt] at this
          simp at this
          omega
        -- is it wanted?
        have hwant : Region.wanted ops[i] (yielded ops a.tmps) = r.run := by
          cases hgd : ops[i].guard with
          | none =>
            rw [hgd] at q4
            simp only [Region.wanted, hgd]
            exact q4.symm
          | some p =>
            obtain ⟨g, b⟩ := p
            rw [hgd] at q4
            obtain ⟨d, e1, e2⟩ := q4
            have hga : afterHas ops[i] g = true := by
              have := drawOk_get hd i _ hol
              simp only [drawOk1, Bool.and_eq_true, hgd] at this
              exact this.1.2
            have e1' := e1
            rw [dstOf_get] at e1
            obtain ⟨og, ho1, ho2⟩ := Option.bind_eq_some_iff.1 e1
            have hw : ∀ j ∈ writers d pre 0, afterHas ops[i] j = true := fun j hj => by
              rw [hsingle g og d ho1 ho2] at hj
              obtain rfl : j = g := by simpa using hj
              exact hga
            have hgd2 : dstOf ops.toList g = some d := by rw [dstOf_get, ← hpre g (by have := hback i _ hol g hga; omega)]; exact e1
            obtain ⟨S, ρ, hs⟩ := hs
            have hr := hs.env d
            rcases e2 with ⟨e2, e3⟩ | ⟨t, e2, e3⟩
            · rw [hσ, if_pos (hav d hw), e2 (hlater d hw)] at hr
              have hy := yield_gone hgd2 (rv_gone hr)
              simp only [Region.wanted, hgd, hy, e3]
              rfl
            · rw [hσ, if_pos (hav d hw), e2 (hlater d hw)] at hr
              have hy := yield_ok hs (ops := ops) (g := g) (d := d) hgd2 (rv_lit hr)
              simp only [Region.wanted, hgd, hy, e3]
              cases t <;> cases b <;> rfl
        have hhp : (∀ y, al = some y → ops[i].dst ≠ some y.d) → hpOf (listed.setIfInBounds i true) = hpOf listed := fun hy => by
          cases al with
          | none => rfl
          | some y =>
            show (if av _ y.d = true then _ else _) = if av _ y.d = true then _ else _
            rw [hav' y.d (hy y rfl)]
        have fin : ∀ {τ : ASt} {v : AV} {a' : Act} {w' : World}, (r.run = true ∨ True) → τ.nt = stn.nt → τ.heap = hpOf (listed.setIfInBounds i true) → v = r.v → (∀ t, ops[i].dst ≠ some t → look (σ (listed.setIfInBounds i true)).env t = .any ∨ Ref (look (σ (listed.setIfInBounds i true)).env t) (look τ.env t) ∨ Ref (look τ.env t) (look (σ (listed.setIfInBounds i true)).env t)) → SR G (τ.put ops[i].dst v) a' w' → SR G (σ (listed.setIfInBounds i true)) a' w' := by
          intro τ v a' w' _ hn hh hv he hs'
          have hpn := put_nt τ ops[i].dst v
          refine hs'.env (by rw [hpn.1, hn]) (by rw [hpn.2, hh]) fun t => ?_
          rw [look_put]
          by_cases hdt : ops[i].dst = some t
          · rw [if_pos hdt, hσ, if_pos (havd t hdt), hn, hv]
            exact .inr (.inl (q3 t hdt (hlaterd t hdt)))
          · rw [if_neg hdt]
            exact he t hdt
        unfold wpOp
        rw [Array.getElem?_eq_getElem hio]
        simp only [hwant]
        cases hrun : r.run with
        | true =>
          rw [if_pos rfl]
          refine .inl ?_
          rcases q5 hrun with ⟨tt, y, hopA, rfl, hdA, hvA⟩ | ⟨hna, q5⟩
          · obtain ⟨hyn, tb, ib, p, o, hhn, hty, hpo, hoA, hgA, hdo⟩ := hAl
            have hpi : p = i := by
              have := (writers_mem pre 0 y.d i).2 ⟨i, _, by omega, hol, hdA⟩
              rw [hsingle p o y.d hpo hdo] at this
              exact (List.mem_singleton.1 this).symm
            subst hpi
            rw [hol] at hpo
            cases hpo
            rw [hopA] at hoA
            cases hoA
            have hav0 : av listed y.d = false := by
              show List.all _ _ = false
              rw [hsingle p _ y.d hol hdA]
              simp only [List.all_cons, List.all_nil, Bool.and_true]
              exact hli
            have hh0 : hpOf listed = st.heap := by
              show (if av listed y.d = true then _ else _) = _
              rw [hav0]
              rfl
            have hh1 : hpOf (listed.setIfInBounds p true) = stn.heap := by
              show (if av _ y.d = true then _ else _) = _
              rw [if_pos (havd y.d hdA)]
            obtain ⟨S, ρ, hsA⟩ := hs
            have hA : aop C ops[p] (σ listed) fun st' => st' = ((σ listed).newB (.box tt ib.zero)).put ops[p].dst (.ptr (σ listed).heap.length 0) := by
              simp only [aop, hopA, hty]
            refine aop_alloc hC hsA hopA hA _ _ (.inr trivial) ?_
            rintro st' a' w' rfl hs'
            refine ih _ a' w' hsz' hu' htl' hcl' (fin (τ := (σ listed).newB (.box tt ib.zero)) (v := .ptr (σ listed).heap.length 0) (.inr trivial) rfl ?_ ?_ (fun t hne => ?_) hs')
            · rw [hh1, hsame.2, hhn]
              show hpOf listed ++ _ = _
              rw [hh0]
            · rw [hvA, hyn]
              show AV.ptr (hpOf listed).length 0 = _
              rw [hh0]
            · show _ ∨ Ref _ (look (σ listed).env t) ∨ _
              rw [hσ, hav' t hne, hσ]
              exact .inr (.inl (.inl rfl))
          have hnd : ∀ y, al = some y → ops[i].dst ≠ some y.d := fun y hy hdd => by
            subst hy
            obtain ⟨_, tb, ib, p, o, _, _, hpo, hoA, _, hdo⟩ := hAl
            have := (writers_mem pre 0 y.d i).2 ⟨i, _, by omega, hol, hdd⟩
            rw [hsingle p o y.d hpo hdo] at this
            obtain rfl : i = p := by simpa using this
            rw [hol] at hpo
            cases hpo
            exact hna _ hoA
          have hHR : HeapR al stn.heap (hpOf listed) := by
            cases al with
            | none => exact .inl rfl
            | some y =>
              obtain ⟨hyn, tb, ib, p, o, hhn, _⟩ := hAl
              cases hq : av listed y.d with
              | true =>
                refine .inl ?_
                show (if av listed y.d = true then _ else _) = _
                rw [if_pos hq]
              | false =>
                have hh0 : hpOf listed = st.heap := by
                  show (if av listed y.d = true then _ else _) = _
                  rw [hq]
                  rfl
                exact .inr ⟨y, _, rfl, by rw [hh0, hyn], by rw [hh0, hsame.2, hhn]⟩
          let τ : ASt := ⟨stn.nt, mkEnv N fun t => if (∀ j ∈ writers t pre 0, afterHas ops[i] j = true) then r.ins (.tmp t) else look (σ listed).env t, hpOf listed⟩
          have hτ : ∀ t, look τ.env t = if t < N then (if (∀ j ∈ writers t pre 0, afterHas ops[i] j = true) then r.ins (.tmp t) else look (σ listed).env t) else .any := fun t => look_mk N _ t
          have hsτ : SR G τ a w := by
            refine hs.env rfl rfl fun t => ?_
            rw [hτ]
            by_cases htN : t < N
            · rw [if_pos htN]
              by_cases hw : ∀ j ∈ writers t pre 0, afterHas ops[i] j = true
              · rw [if_pos hw, hσ, if_pos (hav t hw)]
                exact .inr (.inr (q1 t (hlater t hw)))
              · rw [if_neg hw]
                exact .inr (.inl (.inl rfl))
            · rw [if_neg htN]
              exact .inl rfl
          refine q5 τ a w hHR (fun x hx => ?_) hsτ _ _ (.inr trivial) ?_
          · cases x with
            | tmp t =>
              have hw := hop_look i _ hol t hx
              show look τ.env t = _
              rw [hτ]
              by_cases htN : t < N
              · rw [if_pos htN, if_pos hw]
              · rw [if_neg htN]
                have := q1 t (hlater t hw)
                rw [hN t (Nat.le_of_not_lt htN)] at this
                exact this.any_left.symm
            | _ => exact q2 _ τ (fun t e => by cases e)
          · rintro st' a' w' rfl hs'
            refine ih _ a' w' hsz' hu' htl' hcl' (fin (τ := τ) (v := r.v) (.inr trivial) rfl (hhp hnd).symm rfl (fun t hne => ?_) hs')
            rw [hσ, hav' t hne]
            cases hat : av listed t with
            | false => exact .inl rfl
            | true =>
              rw [if_pos rfl, hτ]
              by_cases htN : t < N
              · rw [if_pos htN]
                by_cases hw : ∀ j ∈ writers t pre 0, afterHas ops[i] j = true
                · rw [if_pos hw]
                  exact .inr (.inl (q1 t (hlater t hw)))
                · rw [if_neg hw, hσ, if_pos hat]
                  exact .inr (.inl (.inl rfl))
              · rw [if_neg htN, hN t (Nat.le_of_not_lt htN)]
                exact .inl rfl
        | false =>
          rw [if_neg (by decide)]
          have hnd : ∀ y, al = some y → ops[i].dst ≠ some y.d := fun y hy hdd => by
            subst hy
            obtain ⟨_, tb, ib, p, o, _, _, hpo, hoA, hgA, hdo⟩ := hAl
            have := (writers_mem pre 0 y.d i).2 ⟨i, _, by omega, hol, hdd⟩
            rw [hsingle p o y.d hpo hdo] at this
            obtain rfl : i = p := by simpa using this
            rw [hol] at hpo
            cases hpo
            rw [hgA] at q4
            rw [hrun] at q4
            cases q4
          obtain ⟨S, ρ, hs⟩ := hs
          refine ih _ _ w hsz' hu' htl' hcl' (fin (τ := σ listed) (v := .gone) (.inr trivial) rfl (hhp hnd).symm (q6 hrun).symm (fun t hne => ?_) ⟨S, ρ, put_ok hs ops[i].dst (.st _ _ .gone)⟩)
          rw [hσ, hav' t hne, hσ]
          exact .inr (.inl (.inl rfl))
  refine main ops.size _ a _ (by simp) ?_ (fun j _ hj => by simp [Array.getD, hj]) (fun m o ho hm => by
    have hlt := (List.getElem?_eq_some_iff.1 ho).1
    simp at hlt
    simp [Array.getD, hlt] at hm) hstart
  have : unlisted (Array.replicate ops.size false) k ≤ k := by unfold unlisted; exact Nat.le_trans List.countP_le_length (by simp)
  omega
theorem draw_ok (hC : COKT P T C) {id : Nat} {ops : Array Oper} {k : Nat} {Q : Exit → ASt → Prop} (h : dregion C ops.toList k st (Q .normal)) (hs : SR G st a w) : (Code.region id ops true).wp P (fun e a' w' => ∃ st', Q e st' ∧ SR G st' a' w') a w := by
  refine draw_ok0 hC h ?_
  unfold preF
  split
  · exact hs
  · obtain ⟨S, ρ, hs⟩ := hs
    obtain ⟨S1, hs1, _⟩ := hs.frz (regIds C (ops.toList.take k) st (ops.toList.take k))
    exact ⟨S1, ρ, hs1⟩
end Go.Abs
