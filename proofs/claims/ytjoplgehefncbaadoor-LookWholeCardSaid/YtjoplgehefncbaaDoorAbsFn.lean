/- The engine: a function, by its code's condition; the table of types. -/
import Derived.Test.YtjoplgehefncbaaDoorAbsInto
import Derived.KernelRfl
set_option linter.all false
namespace Go.Abs
open Go.RowKit
variable {P : Program} {C : Cfg} {T : World → Prop} {G : Gx T} {w w' : World} {S S' : Nat → Prop} {ρ : List Value} {st : ASt} {a : Act} {h : List AB} {base : Nat}
def finV (h : List AB) (v : AV) : ARes → Prop
  | .st r => sub0 r (fz h v)
  | .row e sz n el => match v with
    | .own id => match hAt h id with
      | .row e' sz' n' el' => cond (Nat.beq e' e && Nat.beq sz' sz) (Need (n' = n) ∧ ∀ i, i < n → cond (ones (el i)) (subs0 (el i) (el' i)) False) False
      | _ => False
    | .nil => Need (n = 0)
    | _ => False
def finR (C : Cfg) (rl : List ResultVar) (res : ARes) (st : ASt) : Prop := match resA C st rl with
  | some vs => finV st.heap (resV vs) res
  | none => False
def Fin (C : Cfg) (rl : List ResultVar) (res : ARes) : Exit → ASt → Prop
  | .normal, st => finR C rl res st
  | .ret, st => finR C rl res st
  | _, _ => False
/-- A function, by its code's condition. -/
theorem FnT.of (hC : COKT P T C) {f : FuncId} {fn : Func} {c : Code} (hf : P.funcs[f]? = some fn) (hnm : (fn.name == "runtime.NumGoroutine") = false) (hb : fn.body = some c) {args : List AV} {res : ARes} (hn : Nat.ble args.length fn.ntmps = true)
    (h : AW P T c (Fin C fn.results.toList res) ⟨fn.ntmps, argEnv 0 args, []⟩) : FnT T P f args res := by
  refine ⟨⟨fn, hf, hnm, by rw [hb]; rfl⟩, fun w S vs ht hlt hv => ?_⟩
  have hn := Nat.le_of_ble_eq_true hn
  refine calls_of_wp hf hb ?_
  have hs : SR (T := T) ⟨w, S, [], ht⟩ ⟨fn.ntmps, argEnv 0 args, []⟩ { tmps := vs.toArray ++ Array.replicate (fn.ntmps - vs.toArray.size) undef, defers := [] } w := by
    refine ⟨S, [], hlt, fun _ q => q, fun _ q => .inl q, ⟨rfl, fun id v hv => by simp at hv, fun i j v u k _ hv => by simp at hv⟩, ?_, fun t => ?_, Below.refl _ _, rfl⟩
    · have := hv.1
      simp
      omega
    · rw [argEnv_look, if_pos (Nat.zero_le _), Nat.sub_zero]
      cases ha : args[t]? with
      | none => exact .st _ _ (.any _)
      | some x =>
        have hlt2 : t < vs.length := by rw [hv.1]; exact (List.getElem?_eq_some_iff.1 ha).1
        have := hv.2 t x vs[t] ha (List.getElem?_eq_getElem hlt2)
        refine .st _ _ ?_
        rw [Array.getD_eq_getD_getElem?, Array.getElem?_append_left (by simpa using hlt2)]
        simpa [hlt2] using this
  refine wp_mono (h _ _ _ hs) fun e a' w' ⟨st', h1, S2, ρ, hs2⟩ => ?_
  have fin : finR C fn.results.toList res st' → a'.defers = [] ∧ ∃ v, (results fn a'.tmps).run P w' = .ok v w' ∧ ∃ v' S', Ending.returned v = .returned v' ∧ Res w' S' w.heap.size res v' ∧ (∀ b, S b → S' b) ∧ (∀ b, S' b → b < w'.heap.size ∧ (S b ∨ w.heap.size ≤ b)) ∧ Below w.heap.size w w' := by
    intro g1
    refine ⟨hs2.dfr, ?_⟩
    unfold finR at g1
    split at g1
    · rename_i rvs hres
      obtain ⟨us, hr, hl, hus⟩ := res_run hC hs2 _ _ hres
      have hrun : (results fn a'.tmps).run P w' = .ok (if h : us.length = 1 then us[0] else .tuple us.toArray) w' := by
        rw [results_eq, Array.mapM_eq_mapM_toList]
        have hr2 := hr
        simp only [Sem.run_bind, Sem.run_map, hr2, Result.andThen_ok, Sem.run_pure]
        simp
      have hV : RV w' S2 ρ (resV rvs) (if h : us.length = 1 then us[0] else .tuple us.toArray) := by
        unfold resV
        split
        · rename_i v
          have : us.length = 1 := hl
          rw [dif_pos this]
          exact hus 0 v _ rfl (List.getElem?_eq_getElem (by omega))
        · rename_i hne
          have : ¬ us.length = 1 := fun e => by
            rw [hl] at e
            match rvs, e with
            | [v], _ => exact hne v rfl
          rw [dif_neg this]
          exact .tup rvs us hl hus
      revert hrun hV
      generalize (if h : us.length = 1 then us[0] else Value.tuple us.toArray) = u
      intro hrun hV
      refine ⟨u, hrun, u, ?_⟩
      cases res with
      | st r =>
        refine ⟨Sx S2 ρ st'.heap (ids (resV rvs)), rfl, sub0_ok r _ _ g1 (fz_ok hs2.hr hV), fun b hb => .inl (hs2.s0 b hb), fun b hb => ?_, hs2.bel⟩
        rcases hb with q | ⟨id, x, _, q1, q2⟩
        · exact ⟨hs2.lt b q, hs2.sp b q⟩
        · obtain ⟨p1, p2, _⟩ := hs2.hr.blk_lt q1 (blkF_blk q2)
          exact ⟨p2, .inr p1⟩
      | row e sz n el =>
        have hS2 : ∀ b, S2 b → b < w'.heap.size ∧ (S b ∨ w.heap.size ≤ b) := fun b hb => ⟨hs2.lt b hb, hs2.sp b hb⟩
        refine ⟨S2, rfl, ?_, hs2.s0, hS2, hs2.bel⟩
        simp only [finV] at g1
        split at g1
        · rename_i id hid
          rw [hid] at hV
          have hu := rv_own hV
          have hE := hs2.hr.ent id u hu
          split at g1
          · rename_i e' sz' n' el' he
            rw [he] at hE
            cases hc : (Nat.beq e' e && Nat.beq sz' sz) with
            | false => rw [hc] at g1; exact g1.elim
            | true =>
              rw [hc] at g1
              simp only [Bool.and_eq_true] at hc
              obtain rfl := Nat.eq_of_beq_eq_true hc.1
              obtain rfl := Nat.eq_of_beq_eq_true hc.2
              obtain ⟨⟨rfl⟩, hel⟩ := g1
              obtain ⟨⟨inner, q1, q2⟩, q3⟩ := hE
              refine ⟨⟨inner, q1, fun i hi => ?_⟩, q3⟩
              have g1 := hel i hi
              cases ho : ones (el i) with
              | false => rw [ho] at g1; exact g1.elim
              | true =>
                rw [ho] at g1
                have h2 := subs0_ok (w := w') (S := S2) (el i) _ g1
                obtain ⟨r1, r2, r3⟩ := q2 i hi
                refine ⟨h2.1.trans r1, rfl, fun j x hx => ?_⟩
                obtain ⟨a, p1, p2⟩ := h2.2 j x hx
                obtain ⟨u, p3, p4⟩ := r3 j a p1
                exact ⟨u, p3, p2 u p4⟩
          · exact g1.elim
        · rename_i hid
          rw [hid] at hV
          obtain rfl := rv_nil hV
          obtain rfl := g1.out
          exact ⟨⟨[], World.ownsRow_nil _ _ _ _, fun i hi => by omega⟩, fun b hb => by cases hb⟩
        · exact g1.elim
    · exact g1.elim
  cases e with
  | normal => exact fin h1
  | ret => exact fin h1
  | _ => exact h1.elim
theorem Fn.of (hC : COK P C) {f : FuncId} {fn : Func} {c : Code} (hf : P.funcs[f]? = some fn) (hnm : (fn.name == "runtime.NumGoroutine") = false) (hb : fn.body = some c) {args : List AV} {res : ARes} (hn : Nat.ble args.length fn.ntmps = true)
    (h : AW P (fun _ => True) c (Fin C fn.results.toList res) ⟨fn.ntmps, argEnv 0 args, []⟩) : Fn P f args res := (FnT.of hC hf hnm hb hn h).fn
/-! ### The table of types, read from the program -/
def tdOf (P : Program) : TypeDesc → TD
  | .int k => .int k
  | .bool => .bool
  | .string => .str
  | .slice e => .slice e
  | .struct fs => .struct (fs.toList.map fun f => (f.offset, P.cellsOf f.type, aggB P f.type))
  | .array n e => .arr n e
  | .pointer e => .ptr e
  | .map k e => .map k e
  | _ => .other
def ti (P : Program) (t : TypeId) : Option TI := match P.underlying t with
  | some d => match P.info? t with
    | some i => match i.zero with
      | some z => some ⟨i.size, i.bytes, ofVals ofVal1 z.cells.toList, tdOf P d⟩
      | none => none
    | none => none
  | none => none
def fieldsOk (P : Program) (t : TypeId) : Bool := match P.underlying t with
  | some (.struct fs) => fs.toList.all fun f => (P.underlying f.type).isSome && Nat.blt 0 (P.cellsOf f.type)
  | _ => true
def tiChk (P : Program) (T : List (TypeId × TI)) : Bool := T.all fun p => ones p.2.zero && Nat.beq p.2.zero.length p.2.size && fieldsOk P p.1
theorem tyOk_of {t : TypeId} {i : TI} (h : ti P t = some i) (h1 : ones i.zero = true) (h2 : i.zero.length = i.size) (h3 : fieldsOk P t = true) : tyOk P t i := by
  unfold ti at h
  split at h
  · rename_i d hd
    split at h
    · rename_i info hi
      split at h
      · rename_i z hz
        obtain rfl := Option.some.inj h
        refine ⟨d, info, z, hd, hi, rfl, rfl, hz, rfl, ?_, h1, h2⟩
        show TDok P d (tdOf P d)
        unfold fieldsOk at h3
        rw [hd] at h3
        cases d with
        | struct fs =>
          refine ⟨fs, rfl, rfl, fun f hf => ?_⟩
          have := List.all_eq_true.1 h3 f hf
          simp only [Bool.and_eq_true] at this
          exact ⟨this.1, Nat.le_of_ble_eq_true this.2⟩
        | _ => first | rfl | exact ⟨fun _ => by simp, fun _ _ => by simp⟩
      · cases h
    · cases h
  · cases h
theorem tys_ok {T : List (TypeId × TI)} (h : T.map (fun p => ti P p.1) = T.map (fun p => some p.2)) (hc : tiChk P T = true) {tbl : FuncId → List AV → (ARes → Prop) → Prop} {ins : FuncId → Option (TypeId × Nat)} {sq : TypeId → Option (List EK)} {mt : TypeId → String → Option FuncId} {il : FuncId → Option Inl} {rn : Code → (Exit → ASt → Prop) → ASt → Prop} : ∀ t i, (Cfg.mk T tbl ins sq mt il rn).ty t = some i → tyOk P t i := by
  intro t i hi
  have key : ∀ (l : List (TypeId × TI)), tlook l t = some i → (t, i) ∈ l := by
    intro l
    induction l with
    | nil => intro h; cases h
    | cons p l ih =>
      obtain ⟨d, v⟩ := p
      intro h
      simp only [tlook] at h
      cases hb : Nat.beq d t with
      | true =>
        rw [hb] at h
        obtain rfl := Nat.eq_of_beq_eq_true hb
        obtain rfl := Option.some.inj h
        exact List.mem_cons_self
      | false =>
        rw [hb] at h
        exact List.mem_cons_of_mem _ (ih h)
  have hm := key T hi
  have h2 := List.all_eq_true.1 hc _ hm
  simp only [Bool.and_eq_true] at h2
  have h1 : ti P t = some i := by
    obtain ⟨k, hk⟩ := List.mem_iff_getElem?.1 hm
    have := congrArg (fun l => l[k]?) h
    simp only [List.getElem?_map, hk, Option.map_some, Option.some.injEq] at this
    exact this
  exact tyOk_of h1 h2.1.1 (Nat.eq_of_beq_eq_true h2.1.2) h2.2
/-- These values may be told as those. -/
def Told (rs as : List AV) : Prop := ∀ (w : World) (S : Nat → Prop) (vs : List Value), RVs0 w S as vs → RVs0 w S rs vs
theorem Told.refl (as : List AV) : Told as as := fun _ _ _ h => h
theorem Told.of {rs as : List AV} (h : subs0 rs as) : Told rs as := fun w S vs hv => by
  have := subs0_ok (w := w) (S := S) rs as h
  refine ⟨hv.1.trans this.1.symm, fun i a v h1 h2 => ?_⟩
  obtain ⟨b, p1, p2⟩ := this.2 i a h1
  exact p2 v (hv.2 i b v p1 h2)
theorem FnT.told {f : FuncId} {rs as : List AV} {r : ARes} (h : FnT T P f rs r) (ht : Told rs as) : FnT T P f as r :=
  ⟨h.1, fun w S vs hw hlt hv => h.2 w S vs hw hlt (ht w S vs hv)⟩
theorem Fn.told {f : FuncId} {rs as : List AV} {r : ARes} (h : Fn P f rs r) (ht : Told rs as) : Fn P f as r :=
  ⟨h.1, fun w S vs hlt hv => h.2 w S vs hlt (ht w S vs hv)⟩
end Go.Abs
