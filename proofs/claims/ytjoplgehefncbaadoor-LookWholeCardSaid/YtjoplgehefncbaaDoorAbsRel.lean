/- The engine, its meaning: which values in memory a value without memory stands for; states; contracts. -/
import Derived.Test.YtjoplgehefncbaaDoorAbsDef
set_option linter.all false
namespace Go.Abs
open Go.RowKit
section
variable (w : World) (S : Nat → Prop)
/-- S: the blocks that are written no more. -/
inductive RV0 : AV → Value → Prop
  | any (v : Value) : RV0 .any v
  | gone : RV0 .gone undef
  | int (k : IntKind) (n : Int) : RV0 (.int k n) (.int k n)
  | lit (b : Bool) : RV0 (.lit b) (.bool b)
  | sb (b : Bool) : RV0 (.sb b) (.bool b)
  | str (s : ByteArray) : RV0 (.str s) (.string s)
  | agg (cs : List AV) (vs : List Value) (hl : vs.length = cs.length) (h : ∀ (i : Nat) (a : AV) (v : Value), cs[i]? = some a → vs[i]? = some v → RV0 a v) : RV0 (.agg cs) (.agg vs.toArray)
  | tup (cs : List AV) (vs : List Value) (hl : vs.length = cs.length) (h : ∀ (i : Nat) (a : AV) (v : Value), cs[i]? = some a → vs[i]? = some v → RV0 a v) : RV0 (.tup cs) (.tuple vs.toArray)
  | nil : RV0 .nil (.slice none 0 0)
  | sl (sz n : Nat) (el : Nat → List AV) (A : Option Addr) (cap : Nat) (g : Nat → Nat → Value) (hcap : n ≤ cap) (hmax : cap ≤ maxLen)
      (hl : ∀ i, i < n → (el i).length = sz ∧ ones (el i) = true)
      (hm : ∀ i j, i < n → j < sz → ∃ ad, A = some ad ∧ S ad.block ∧ w.cell? (ad.add (i * sz + j)) = some (g i j))
      (hr : ∀ (i j : Nat) (a : AV), i < n → (el i)[j]? = some a → RV0 a (g i j)) : RV0 (.sl sz n el) (.slice A n cap)
  | rptr (cs : List AV) (ad : Addr) (g : Nat → Value) (ho : ones cs = true)
      (hm : ∀ j, j < cs.length → S ad.block ∧ w.cell? (ad.add j) = some (g j))
      (hr : ∀ (j : Nat) (a : AV), cs[j]? = some a → RV0 a (g j)) : RV0 (.rptr cs) (.pointer (some ad))
  | fn (f : FuncId) (cs : List AV) (vs : List Value) (hl : vs.length = cs.length) (h : ∀ (i : Nat) (a : AV) (v : Value), cs[i]? = some a → vs[i]? = some v → RV0 a v) : RV0 (.fn f cs) (.func (.func f) #[] vs.toArray)
  | iface (t : TypeId) (a : AV) (v : Value) (h : RV0 a v) : RV0 (.iface t a) (.iface t v)
  | nilI : RV0 .nilI .nilIface
  | nilF : RV0 .nilF .nilFunc
  | nilM : RV0 .nilF (.map none)
  | nilP : RV0 .nilP (.pointer none)
/-- ρ: where the call's own blocks lie. -/
inductive RV (ρ : List Value) : AV → Value → Prop
  | st (a : AV) (v : Value) (h : RV0 w S a v) : RV ρ a v
  | own (id : Nat) (v : Value) (h : ρ[id]? = some v) (h1 : v.oneCell' = true) : RV ρ (.own id) v
  | ptr (id off b : Nat) (h : ρ[id]? = some (.pointer (some ⟨b, 0, none⟩))) : RV ρ (.ptr id off) (.pointer (some ⟨b, off, none⟩))
  | optr (id sz i off b n cap : Nat) (h : ρ[id]? = some (.slice (some ⟨b, 0, none⟩) n cap)) (hi : i < n) : RV ρ (.optr id sz i off) (.pointer (some ⟨b, i * sz + off, none⟩))
  | agg (cs : List AV) (vs : List Value) (hl : vs.length = cs.length) (h : ∀ (i : Nat) (a : AV) (v : Value), cs[i]? = some a → vs[i]? = some v → RV ρ a v) : RV ρ (.agg cs) (.agg vs.toArray)
  | tup (cs : List AV) (vs : List Value) (hl : vs.length = cs.length) (h : ∀ (i : Nat) (a : AV) (v : Value), cs[i]? = some a → vs[i]? = some v → RV ρ a v) : RV ρ (.tup cs) (.tuple vs.toArray)
  | fn (f : FuncId) (cs : List AV) (vs : List Value) (hl : vs.length = cs.length) (h : ∀ (i : Nat) (a : AV) (v : Value), cs[i]? = some a → vs[i]? = some v → RV ρ a v) : RV ρ (.fn f cs) (.func (.func f) #[] vs.toArray)
  | iface (t : TypeId) (a : AV) (v : Value) (h : RV ρ a v) : RV ρ (.iface t a) (.iface t v)
def RVs0 (cs : List AV) (vs : List Value) : Prop := vs.length = cs.length ∧ ∀ (i : Nat) (a : AV) (v : Value), cs[i]? = some a → vs[i]? = some v → RV0 w S a v
def RVs (ρ : List Value) (cs : List AV) (vs : List Value) : Prop := vs.length = cs.length ∧ ∀ (i : Nat) (a : AV) (v : Value), cs[i]? = some a → vs[i]? = some v → RV w S ρ a v
/-- A map's entries. -/
def MpR (ρ : List Value) (l : List (Int × AV)) (es : List MapEntry) : Prop := es.length = l.length ∧ ∀ (i : Nat) (p : Int × AV) (e : MapEntry), l[i]? = some p → es[i]? = some e → e.key = .int .i64 p.1 ∧ RV w S ρ p.2 e.val
/-- An entry of the state's heap, at its place. -/
def Ent (base : Nat) (ρ : List Value) (v : Value) : AB → Prop
  | .box t cs => ∃ b vs, v = .pointer (some ⟨b, 0, none⟩) ∧ base ≤ b ∧ w.heap[b]? = some (.cells (List.toArray vs) t (0, 0)) ∧ ones cs = true ∧ RVs w S ρ cs vs ∧ ¬ S b
  | .row e sz n el => (∃ inner, w.ownsRow base e sz v n inner ∧ ∀ i, i < n → (el i).length = sz ∧ ones (el i) = true ∧ ∀ (j : Nat) (a : AV), (el i)[j]? = some a → ∃ u, inner[i * sz + j]? = some u ∧ RV0 w S a u) ∧ (∀ b, v.ownBlock = some b → ¬ S b)
  | .fro sz n el => RV0 w S (.sl sz n el) v
  | .frb cs => RV0 w S (.rptr cs) v
  | .dead => True
  | .mp l => ∃ b es clock, v = .map (some b) ∧ base ≤ b ∧ w.heap[b]? = some (.map es clock) ∧ MpR w S ρ l es.toList ∧ ¬ S b
  | .gh env tm => ∀ t, RV w S ρ (look env t) (tm.getD t undef)
end
def blk : AB → Value → Option Nat
  | .box _ _, .pointer (some a) => some a.block
  | .row _ _ _ _, v => v.ownBlock
  | .mp _, .map (some b) => some b
  | _, _ => none
structure HR (w : World) (S : Nat → Prop) (base : Nat) (ρ : List Value) (h : List AB) : Prop where
  len : ρ.length = h.length
  ent : ∀ id v, ρ[id]? = some v → Ent w S base ρ v (hAt h id)
  apart : ∀ i j v u b, i ≠ j → ρ[i]? = some v → ρ[j]? = some u → blk (hAt h i) v = some b → blk (hAt h j) u ≠ some b
/-- What stays while a function runs: the world at its begin, the blocks that were written no more then, the deferred calls; T: what the world bears all the while. -/
structure Gx (T : World → Prop) where
  w0 : World
  S0 : Nat → Prop
  defers : List Deferred
  tw : ∀ w', Below w0.heap.size w0 w' → T w'
structure SRi {T : World → Prop} (G : Gx T) (S : Nat → Prop) (ρ : List Value) (st : ASt) (a : Act) (w : World) : Prop where
  lt : ∀ b, S b → b < w.heap.size
  s0 : ∀ b, G.S0 b → S b
  sp : ∀ b, S b → G.S0 b ∨ G.w0.heap.size ≤ b
  hr : HR w S G.w0.heap.size ρ st.heap
  nt : a.tmps.size = st.nt
  env : ∀ t, RV w S ρ (look st.env t) (a.tmps.getD t undef)
  bel : Below G.w0.heap.size G.w0 w
  dfr : a.defers = G.defers
def SR {T : World → Prop} (G : Gx T) (st : ASt) (a : Act) (w : World) : Prop := ∃ S ρ, SRi G S ρ st a w
def AW (P : Program) (T : World → Prop) (c : Code) (Q : Exit → ASt → Prop) (st : ASt) : Prop :=
  ∀ (G : Gx T) a w, SR G st a w → c.wp P (fun e a' w' => ∃ st', Q e st' ∧ SR G st' a' w') a w
def Res (w : World) (S : Nat → Prop) (base : Nat) : ARes → Value → Prop
  | .st r, v => RV0 w S r v
  | .row e sz n el, v => Ent w S base [] v (.row e sz n el)
/-- A function at these arguments gives that. -/
def Fn (P : Program) (f : FuncId) (args : List AV) (res : ARes) : Prop :=
  (∃ fn, P.funcs[f]? = some fn ∧ (fn.name == "runtime.NumGoroutine") = false ∧ fn.body.isNone = false) ∧
  ∀ (w : World) (S : Nat → Prop) (vs : List Value), (∀ b, S b → b < w.heap.size) → RVs0 w S args vs →
    Calls P f vs.toArray w fun e w' => ∃ v S', e = .returned v ∧ Res w' S' w.heap.size res v ∧ (∀ b, S b → S' b) ∧ (∀ b, S' b → b < w'.heap.size ∧ (S b ∨ w.heap.size ≤ b)) ∧ Below w.heap.size w w'
/-- .. where the world bears what the premise says. -/
def FnT (T : World → Prop) (P : Program) (f : FuncId) (args : List AV) (res : ARes) : Prop :=
  (∃ fn, P.funcs[f]? = some fn ∧ (fn.name == "runtime.NumGoroutine") = false ∧ fn.body.isNone = false) ∧
  ∀ (w : World) (S : Nat → Prop) (vs : List Value), (∀ w', Below w.heap.size w w' → T w') → (∀ b, S b → b < w.heap.size) → RVs0 w S args vs →
    Calls P f vs.toArray w fun e w' => ∃ v S', e = .returned v ∧ Res w' S' w.heap.size res v ∧ (∀ b, S b → S' b) ∧ (∀ b, S' b → b < w'.heap.size ∧ (S b ∨ w.heap.size ≤ b)) ∧ Below w.heap.size w w'
theorem Fn.t {T : World → Prop} {P : Program} {f : FuncId} {args : List AV} {res : ARes} (h : Fn P f args res) : FnT T P f args res := ⟨h.1, fun w S vs _ hlt hv => h.2 w S vs hlt hv⟩
theorem FnT.fn {P : Program} {f : FuncId} {args : List AV} {res : ARes} (h : FnT (fun _ => True) P f args res) : Fn P f args res := ⟨h.1, fun w S vs hlt hv => h.2 w S vs (fun _ _ => trivial) hlt hv⟩
/-! ### Movers -/
section
variable {w w' : World} {S S' : Nat → Prop} {ρ : List Value}
theorem RV0.mono {a : AV} {v : Value} (h : RV0 w S a v) (hS : ∀ b, S b → S' b) (hw : ∀ b, S b → w'.heap[b]? = w.heap[b]?) : RV0 w' S' a v := by
  induction h with
  | any v => exact .any v
  | gone => exact .gone
  | int k n => exact .int k n
  | lit b => exact .lit b
  | sb b => exact .sb b
  | str s => exact .str s
  | agg cs vs hl _ ih => exact .agg cs vs hl ih
  | tup cs vs hl _ ih => exact .tup cs vs hl ih
  | nil => exact .nil
  | sl sz n el A cap g hcap hmax hl hm _ ih =>
    refine .sl sz n el A cap g hcap hmax hl (fun i j hi hj => ?_) ih
    obtain ⟨ad, h1, h2, h3⟩ := hm i j hi hj
    refine ⟨ad, h1, hS _ h2, ?_⟩
    rw [World.cell?_of_block (w := w)]
    · exact h3
    · have : (ad.add (i * sz + j)).block = ad.block := by unfold Addr.add; split <;> rfl
      rw [this]
      exact hw _ h2
  | rptr cs ad g ho hm _ ih =>
    refine .rptr cs ad g ho (fun j hj => ?_) ih
    obtain ⟨h2, h3⟩ := hm j hj
    refine ⟨hS _ h2, ?_⟩
    rw [World.cell?_of_block (w := w)]
    · exact h3
    · have : (ad.add j).block = ad.block := by unfold Addr.add; split <;> rfl
      rw [this]
      exact hw _ h2
  | fn f cs vs hl _ ih => exact .fn f cs vs hl ih
  | iface t a v _ ih => exact .iface t a v ih
  | nilI => exact .nilI
  | nilF => exact .nilF
  | nilM => exact .nilM
  | nilP => exact .nilP
theorem RV.mono {a : AV} {v : Value} {ρ' : List Value} (h : RV w S ρ a v) (hS : ∀ b, S b → S' b) (hw : ∀ b, S b → w'.heap[b]? = w.heap[b]?) (hρ : ∀ (i : Nat) (u : Value), ρ[i]? = some u → ρ'[i]? = some u) : RV w' S' ρ' a v := by
  induction h with
  | st a v h => exact .st a v (h.mono hS hw)
  | own id v h h1 => exact .own id v (hρ _ _ h) h1
  | ptr id off b h => exact .ptr id off b (hρ _ _ h)
  | optr id sz i off b n cap h hi => exact .optr id sz i off b n cap (hρ _ _ h) hi
  | agg cs vs hl _ ih => exact .agg cs vs hl ih
  | tup cs vs hl _ ih => exact .tup cs vs hl ih
  | fn f cs vs hl _ ih => exact .fn f cs vs hl ih
  | iface t a v _ ih => exact .iface t a v ih
theorem RVs.mono {cs : List AV} {vs : List Value} {ρ' : List Value} (h : RVs w S ρ cs vs) (hS : ∀ b, S b → S' b) (hw : ∀ b, S b → w'.heap[b]? = w.heap[b]?) (hρ : ∀ (i : Nat) (u : Value), ρ[i]? = some u → ρ'[i]? = some u) : RVs w' S' ρ' cs vs :=
  ⟨h.1, fun i a v h1 h2 => (h.2 i a v h1 h2).mono hS hw hρ⟩
theorem MpR.mono {l : List (Int × AV)} {es : List MapEntry} {ρ' : List Value} (h : MpR w S ρ l es) (hS : ∀ b, S b → S' b) (hw : ∀ b, S b → w'.heap[b]? = w.heap[b]?) (hρ : ∀ (i : Nat) (u : Value), ρ[i]? = some u → ρ'[i]? = some u) : MpR w' S' ρ' l es :=
  ⟨h.1, fun i p e h1 h2 => ⟨(h.2 i p e h1 h2).1, (h.2 i p e h1 h2).2.mono hS hw hρ⟩⟩
theorem RVs0.mono {cs : List AV} {vs : List Value} (h : RVs0 w S cs vs) (hS : ∀ b, S b → S' b) (hw : ∀ b, S b → w'.heap[b]? = w.heap[b]?) : RVs0 w' S' cs vs :=
  ⟨h.1, fun i a v h1 h2 => (h.2 i a v h1 h2).mono hS hw⟩
theorem RVs.of0 {cs : List AV} {vs : List Value} (h : RVs0 w S cs vs) : RVs w S ρ cs vs := ⟨h.1, fun i a v h1 h2 => .st _ _ (h.2 i a v h1 h2)⟩
theorem RV0.oneCell {a : AV} {v : Value} (h : RV0 w S a v) (ho : one a = true) : v.oneCell' = true := by
  cases h <;> first | rfl | (simp [one] at ho)
theorem RV.oneCell {a : AV} {v : Value} (h : RV w S ρ a v) (ho : one a = true) : v.oneCell' = true := by
  cases h with
  | st _ _ h => exact h.oneCell ho
  | own _ _ _ h1 => exact h1
  | ptr => rfl
  | optr => rfl
  | agg => simp [one] at ho
  | tup => simp [one] at ho
  | fn => rfl
  | iface => rfl
theorem ones_get : ∀ {l : List AV} {j : Nat} {a : AV}, ones l = true → l[j]? = some a → one a = true
  | [], _, _, _, h => by simp at h
  | b :: l, 0, a, ho, h => by
    simp only [ones, Bool.and_eq_true] at ho
    simp at h
    subst h
    exact ho.1
  | b :: l, j + 1, a, ho, h => by
    simp only [ones, Bool.and_eq_true] at ho
    exact ones_get (l := l) ho.2 (by simpa using h)
/-- A value that names no block of the call's own needs none. -/
theorem RV.toSt {a : AV} {v : Value} (h : RV w S ρ a v) : stb a = true → RV0 w S a v := by
  have key : ∀ (cs : List AV) (i : Nat) (a : AV), stb.stbs cs = true → cs[i]? = some a → stb a = true := by
    intro cs
    induction cs with
    | nil => intro i a _ h; simp at h
    | cons c cs ih =>
      intro i a hs h
      simp only [stb.stbs, Bool.and_eq_true] at hs
      cases i with
      | zero => simp at h; exact h ▸ hs.1
      | succ i => exact ih i a hs.2 (by simpa using h)
  induction h with
  | st _ _ h => exact fun _ => h
  | own => intro h; simp [stb] at h
  | ptr => intro h; simp [stb] at h
  | optr => intro h; simp [stb] at h
  | agg cs vs hl _ ih => exact fun hs => .agg cs vs hl fun i a v h1 h2 => ih i a v h1 h2 (key cs i a hs h1)
  | tup cs vs hl _ ih => exact fun hs => .tup cs vs hl fun i a v h1 h2 => ih i a v h1 h2 (key cs i a hs h1)
  | fn f cs vs hl _ ih => exact fun hs => .fn f cs vs hl fun i a v h1 h2 => ih i a v h1 h2 (key cs i a hs h1)
  | iface t a v _ ih => exact fun hs => .iface t a v (ih hs)
theorem stbs_get : ∀ {l : List AV} {j : Nat} {a : AV}, stb.stbs l = true → l[j]? = some a → stb a = true
  | [], _, _, _, h => by simp at h
  | b :: l, 0, a, ho, h => by
    simp only [stb.stbs, Bool.and_eq_true] at ho
    simp at h
    subst h
    exact ho.1
  | b :: l, j + 1, a, ho, h => by
    simp only [stb.stbs, Bool.and_eq_true] at ho
    exact stbs_get (l := l) ho.2 (by simpa using h)
theorem RVs.toSt {cs : List AV} {vs : List Value} (h : RVs w S ρ cs vs) (hs : stb.stbs cs = true) : RVs0 w S cs vs :=
  ⟨h.1, fun i a v h1 h2 => (h.2 i a v h1 h2).toSt (stbs_get hs h1)⟩
end
end Go.Abs
