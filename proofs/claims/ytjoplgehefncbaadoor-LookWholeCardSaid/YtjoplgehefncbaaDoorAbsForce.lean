/- The engine, by value: each value is brought to its form once. -/
import Derived.Test.YtjoplgehefncbaaDoorAbsFn
set_option linter.all false
namespace Go.Abs
open Go.RowKit
variable {P : Program} {T : World → Prop} {C : Cfg} {st : ASt}
mutual
def frcV : AV → (AV → Prop) → Prop
  | .any, K => K .any
  | .gone, K => K .gone
  | .int k n, K => K (.int k n)
  | .lit b, K => K (.lit b)
  | .sb b, K => K (.sb b)
  | .str s, K => K (.str s)
  | .agg cs, K => frcL cs fun cs => K (.agg cs)
  | .tup cs, K => frcL cs fun cs => K (.tup cs)
  | .nil, K => K .nil
  | .sl sz n el, K => K (.sl sz n el)
  | .rptr cs, K => frcL cs fun cs => K (.rptr cs)
  | .fn f cs, K => frcL cs fun cs => K (.fn f cs)
  | .iface t v, K => frcV v fun v => K (.iface t v)
  | .nilI, K => K .nilI
  | .nilF, K => K .nilF
  | .nilP, K => K .nilP
  | .own id, K => K (.own id)
  | .ptr id off, K => K (.ptr id off)
  | .optr id sz i off, K => K (.optr id sz i off)
def frcL : List AV → (List AV → Prop) → Prop
  | [], K => K []
  | a :: l, K => frcV a fun a => frcL l fun l => K (a :: l)
end
mutual
theorem frcV_eq : ∀ (v : AV) (K : AV → Prop), frcV v K = K v
  | .any, K => by simp only [frcV]
  | .gone, K => by simp only [frcV]
  | .int k n, K => by simp only [frcV]
  | .lit b, K => by simp only [frcV]
  | .sb b, K => by simp only [frcV]
  | .str s, K => by simp only [frcV]
  | .agg cs, K => by simp only [frcV]; exact frcL_eq cs _
  | .tup cs, K => by simp only [frcV]; exact frcL_eq cs _
  | .nil, K => by simp only [frcV]
  | .sl sz n el, K => by simp only [frcV]
  | .rptr cs, K => by simp only [frcV]; exact frcL_eq cs _
  | .fn f cs, K => by simp only [frcV]; exact frcL_eq cs _
  | .iface t v, K => by simp only [frcV]; exact frcV_eq v _
  | .nilI, K => by simp only [frcV]
  | .nilF, K => by simp only [frcV]
  | .nilP, K => by simp only [frcV]
  | .own id, K => by simp only [frcV]
  | .ptr id off, K => by simp only [frcV]
  | .optr id sz i off, K => by simp only [frcV]
theorem frcL_eq : ∀ (l : List AV) (K : List AV → Prop), frcL l K = K l
  | [], K => by simp only [frcL]
  | a :: l, K => by simp only [frcL]; rw [frcV_eq a]; exact frcL_eq l _
end
def frcM : List (Int × AV) → (List (Int × AV) → Prop) → Prop
  | [], K => K []
  | (n, v) :: l, K => frcV v fun v => frcM l fun l => K ((n, v) :: l)
theorem frcM_eq : ∀ (l : List (Int × AV)) (K : List (Int × AV) → Prop), frcM l K = K l
  | [], K => rfl
  | (n, v) :: l, K => by simp only [frcM, frcV_eq]; exact frcM_eq l _
def frcB : AB → (AB → Prop) → Prop
  | .box t cs, K => frcL cs fun cs => K (.box t cs)
  | .row e sz n el, K => K (.row e sz n el)
  | .fro sz n el, K => K (.fro sz n el)
  | .frb cs, K => frcL cs fun cs => K (.frb cs)
  | .dead, K => K .dead
  | .mp l, K => frcM l fun l => K (.mp l)
  | .gh env tm, K => K (.gh env tm)
theorem frcB_eq (b : AB) (K : AB → Prop) : frcB b K = K b := by cases b <;> simp only [frcB, frcL_eq, frcM_eq]
def frcH : List AB → (List AB → Prop) → Prop
  | [], K => K []
  | b :: h, K => frcH h fun h => frcB b fun b => K (b :: h)
theorem frcH_eq : ∀ (h : List AB) (K : List AB → Prop), frcH h K = K h
  | [], K => rfl
  | b :: h, K => by simp only [frcH, frcB_eq]; exact frcH_eq h _
/-- The environment's head, and that its tail is there. -/
def frcE : List (Nat × AV) → (List (Nat × AV) → Prop) → Prop
  | [], K => K []
  | (d, v) :: l, K => frcV v fun v => match l with
    | [] => K [(d, v)]
    | p :: l => K ((d, v) :: p :: l)
theorem frcE_eq (l : List (Nat × AV)) (K : List (Nat × AV) → Prop) : frcE l K = K l := by
  cases l with
  | nil => rfl
  | cons p l =>
    obtain ⟨d, v⟩ := p
    simp only [frcE, frcV_eq]
    cases l <;> rfl
def frc (nt : Nat) (st : ASt) (K : ASt → Prop) : Prop := match st with
  | ⟨n, env, heap⟩ => cond (Nat.beq n nt) (frcE env fun env => frcH heap fun heap => K ⟨nt, env, heap⟩) (K ⟨n, env, heap⟩)
theorem frc_eq (nt : Nat) (st : ASt) (K : ASt → Prop) : frc nt st K = K st := by
  obtain ⟨n, env, heap⟩ := st
  show cond (Nat.beq n nt) (frcE env fun env => frcH heap fun heap => K ⟨nt, env, heap⟩) (K ⟨n, env, heap⟩) = _
  cases hb : Nat.beq n nt with
  | false => rfl
  | true =>
    rw [cond_true, frcE_eq, frcH_eq]
    obtain rfl := Nat.eq_of_beq_eq_true hb
    rfl
def aopsF (C : Cfg) (nt : Nat) (all : List Oper) : List Oper → ASt → (ASt → Prop) → Prop
  | [], st, K => K st
  | o :: rest, st, K => match o.guard with
    | none => aop C o st fun st => frc nt st fun st => aopsF C nt all rest st K
    | some (g, b) => match dstOf all g with
      | some d => cond (isGone (look st.env d)) (frc nt (st.put o.dst .gone) fun st => aopsF C nt all rest st K) (br st (.tmp d) fun t st => cond (t == b) (frc nt st fun st => aop C o st fun st => frc nt st fun st => aopsF C nt all rest st K) (frc nt (st.put o.dst .gone) fun st => aopsF C nt all rest st K))
      | none => False
def dopsF (C : Cfg) (nt : Nat) (al : Option Al) (all : List Oper) : List Oper → ASt → (ASt → Prop) → Prop
  | [], st, K => K st
  | o :: rest, st, K => match o.guard with
    | none => dop C al o st fun st v => frc nt (st.put o.dst v) fun st => dopsF C nt al all rest st K
    | some (g, b) => match dstOf all g with
      | some d => cond (isGone (look st.env d)) (frc nt (st.put o.dst .gone) fun st => dopsF C nt al all rest st K) (br st (.tmp d) fun t st => cond (t == b) (frc nt st fun st => dop C al o st fun st v => frc nt (st.put o.dst v) fun st => dopsF C nt al all rest st K) (frc nt (st.put o.dst .gone) fun st => dopsF C nt al all rest st K))
      | none => False
theorem aopsF_eq (nt : Nat) (all : List Oper) : ∀ (l : List Oper) (st : ASt) (K : ASt → Prop), aopsF C nt all l st K = aops C all l st K
  | [], st, K => rfl
  | o :: l, st, K => by
    have ih : ∀ st, aopsF C nt all l st K = aops C all l st K := fun st => aopsF_eq nt all l st K
    simp only [aopsF, aops, frc_eq, ih]
    rfl
theorem dopsF_eq (nt : Nat) (al : Option Al) (all : List Oper) : ∀ (l : List Oper) (st : ASt) (K : ASt → Prop), dopsF C nt al all l st K = dops C al all l st K
  | [], st, K => rfl
  | o :: l, st, K => by
    have ih : ∀ st, dopsF C nt al all l st K = dops C al all l st K := fun st => dopsF_eq nt al all l st K
    simp only [dopsF, dops, frc_eq, ih]
    rfl
def dregionF (C : Cfg) (nt : Nat) (all : List Oper) (k : Nat) (st : ASt) (K : ASt → Prop) : Prop :=
  cond (drawOk (all.take k) && tailOk all k) (frc nt (preF C (all.take k) st) fun st => match allocOf (all.take k) with
    | none => dopsF C nt none (all.take k) (all.take k) st fun st => aopsF C nt all (all.drop k) st K
    | some (d, t) => match C.ty t with
      | some i => frc nt (st.newB (.box t i.zero)) fun st' => dopsF C nt (some ⟨st.heap.length, d⟩) (all.take k) (all.take k) st' fun st => aopsF C nt all (all.drop k) st K
      | none => False) False
/-- What is to be shown of a function's code, by value. -/
def awpF (P : Program) (T : World → Prop) (C : Cfg) (nt : Nat) : Code → (Exit → ASt → Prop) → ASt → Prop
  | .skip, Q, st => Q .normal st
  | .region _ ops draw, Q, st => cond draw (dregionF C nt ops.toList (cutK ops.toList) st (Q .normal)) (aopsF C nt ops.toList ops.toList st (Q .normal))
  | .seq x y, Q, st => awpF P T C nt x (thenE (awpF P T C nt y Q) Q) st
  | .cond c x y, Q, st => br st c fun t st => frc nt st fun st => cond t (awpF P T C nt x Q st) (awpF P T C nt y Q st)
  | .block id b, Q, st => awpF P T C nt b (inB id Q) st
  | .exit id, Q, st => Q (.exit id) st
  | .ret, Q, st => Q .ret st
  | .goto l, Q, st => Q (.goto l) st
  | .label _, Q, st => Q .normal st
  | c, Q, st => AW P T c Q st
theorem awpF_eq (nt : Nat) : ∀ (c : Code) (Q : Exit → ASt → Prop), awpF P T C nt c Q = awp P T C c Q
  | .skip, Q => rfl
  | .region _ ops draw, Q => by
    funext st
    simp only [awpF, awp, dregionF, dregion, dregion0, frc_eq, dopsF_eq, aopsF_eq]
    rfl
  | .seq x y, Q => by
    funext st
    show awpF P T C nt x (thenE (awpF P T C nt y Q) Q) st = awp P T C x (thenE (awp P T C y Q) Q) st
    rw [awpF_eq nt y Q, awpF_eq nt x]
  | .cond c x y, Q => by
    funext st
    show (br st c fun t st => frc nt st fun st => cond t (awpF P T C nt x Q st) (awpF P T C nt y Q st)) = br st c fun t st => cond t (awp P T C x Q st) (awp P T C y Q st)
    simp only [frc_eq, awpF_eq nt x Q, awpF_eq nt y Q]
  | .block id b, Q => awpF_eq nt b (inB id Q)
  | .exit id, Q => rfl
  | .ret, Q => rfl
  | .goto l, Q => rfl
  | .label _, Q => rfl
  | .loop c, Q => rfl
  | .rangeFunc f ps x y, Q => rfl
  | .scope c, Q => rfl
  | .refuse s, Q => rfl
theorem awpF_ok (hC : COKT P T C) (nt : Nat) (c : Code) (Q : Exit → ASt → Prop) (st : ASt) (h : frc nt st (awpF P T C nt c Q)) : AW P T c Q st := by
  rw [frc_eq, awpF_eq] at h
  exact awp_ok hC c Q st h
theorem AW.byF (hC : COKT P T C) {nt : Nat} {env : List (Nat × AV)} {heap : List AB} {c : Code} {Q : Exit → ASt → Prop} (h : frc nt ⟨nt, env, heap⟩ (awpF P T C nt c Q)) : AW P T c Q ⟨nt, env, heap⟩ := awpF_ok hC nt c Q _ h
def frcEs : List (Nat × AV) → (List (Nat × AV) → Prop) → Prop
  | [], K => K []
  | (d, v) :: l, K => frcV v fun v => frcEs l fun l => K ((d, v) :: l)
theorem frcEs_eq : ∀ (l : List (Nat × AV)) (K : List (Nat × AV) → Prop), frcEs l K = K l
  | [], K => rfl
  | (d, v) :: l, K => by simp only [frcEs, frcV_eq]; exact frcEs_eq l _
/-- A function, by its code's condition, by value. -/
theorem FnT.ofF (hC : COKT P T C) {f : FuncId} {fn : Func} {c : Code} (hf : P.funcs[f]? = some fn) {nt : Nat} (hnt : fn.ntmps = nt) (hnm : (fn.name == "runtime.NumGoroutine") = false) (hb : fn.body = some c) {args : List AV} {res : ARes} (hn : Nat.ble args.length nt = true)
    (h : frcEs (argEnv 0 args) fun env => awpF P T C nt c (Fin C fn.results.toList res) ⟨nt, env, []⟩) : FnT T P f args res := by
  subst hnt
  rw [frcEs_eq, awpF_eq] at h
  exact FnT.of hC hf hnm hb hn (awp_ok hC _ _ _ h)
theorem Fn.ofF (hC : COK P C) {f : FuncId} {fn : Func} {c : Code} (hf : P.funcs[f]? = some fn) {nt : Nat} (hnt : fn.ntmps = nt) (hnm : (fn.name == "runtime.NumGoroutine") = false) (hb : fn.body = some c) {args : List AV} {res : ARes} (hn : Nat.ble args.length nt = true)
    (h : frcEs (argEnv 0 args) fun env => awpF P (fun _ => True) C nt c (Fin C fn.results.toList res) ⟨nt, env, []⟩) : Fn P f args res := (FnT.ofF hC hf hnt hnm hb hn h).fn
end Go.Abs
