/- The engine in use: what functions are said to do, lists as values, tactics. -/
import Derived.Test.YtjoplgehefncbaaDoorAbsForce
set_option linter.all false
namespace Go.Abs
open Go.RowKit
/-- For each x that fits: at these arguments, that. -/
structure Sp where
  α : Type
  pre : α → Prop
  args : α → List AV
  res : α → ARes
def SpOK (P : Program) (f : FuncId) (S : Sp) : Prop := ∀ x, S.pre x → Fn P f (S.args x) (S.res x)
def tblL : List (FuncId × Sp) → FuncId → List AV → (ARes → Prop) → Prop
  | [], _, _, _ => False
  | (f, S) :: l, g, as, K => cond (Nat.beq g f) (∃ x, Told (S.args x) as ∧ S.pre x ∧ K (S.res x)) (tblL l g as K)
def OKs (P : Program) : List (FuncId × Sp) → Prop
  | [] => True
  | (f, S) :: l => SpOK P f S ∧ OKs P l
theorem tblL_ok {P : Program} {T : World → Prop} : ∀ (l : List (FuncId × Sp)), OKs P l → ∀ f as K, tblL l f as K → ∃ r, FnT T P f as r ∧ K r
  | [], _, _, _, _, h => h.elim
  | (f, S) :: l, hl, g, as, K, h => by
    have h' : cond (Nat.beq g f) (∃ x, Told (S.args x) as ∧ S.pre x ∧ K (S.res x)) (tblL l g as K) := h
    cases hb : Nat.beq g f with
    | true =>
      rw [hb] at h'
      obtain rfl := Nat.eq_of_beq_eq_true hb
      obtain ⟨x, h1, h2, h3⟩ := h'
      exact ⟨_, ((hl.1 x h2).told h1).t, h3⟩
    | false =>
      rw [hb] at h'
      exact tblL_ok l hl.2 g as K h'
def SeqsOK (P : Program) : List (TypeId × List EK) → Prop
  | [] => True
  | (t, ks) :: l => SeqOK P t ks ∧ SeqsOK P l
theorem seqs_ok {P : Program} : ∀ (l : List (TypeId × List EK)), SeqsOK P l → ∀ t ks, qlook l t = some ks → SeqOK P t ks
  | [], _, _, _, h => by cases h
  | (d, v) :: l, hl, t, ks, h => by
    have h' : cond (Nat.beq d t) (some v) (qlook l t) = some ks := h
    cases hb : Nat.beq d t with
    | true =>
      rw [hb] at h'
      obtain rfl := Nat.eq_of_beq_eq_true hb
      obtain rfl := Option.some.inj h'
      exact hl.1
    | false =>
      rw [hb] at h'
      exact seqs_ok l hl.2 t ks h'
structure Ty (P : Program) (T : List (TypeId × TI)) (Q : List (TypeId × List EK)) : Prop where
  sq : SeqsOK P Q
  ok : T.map (fun p => ti P p.1) = T.map (fun p => some p.2)
  chk : tiChk P T = true
  mixed : P.follows .mixedOrders = true
theorem Ty.cfg {P : Program} {T : List (TypeId × TI)} {Q : List (TypeId × List EK)} (h : Ty P T Q) {l : List (FuncId × Sp)} (hl : OKs P l) : COK P ⟨T, tblL l, fun _ => none, qlook Q, fun _ _ => none, fun _ => none, fun _ _ _ => False⟩ :=
  ⟨seqs_ok Q h.sq, tys_ok h.ok h.chk, fun f as K h => tblL_ok l hl f as K h, h.mixed, (fun g p h => by cases h), (fun t m g h => by cases h), (fun g x h => by cases h)⟩
def MethsOK (P : Program) : List (TypeId × String × FuncId) → Prop
  | [] => True
  | (t, m, g) :: l => MethOK P t m g ∧ MethsOK P l
theorem meths_ok {P : Program} : ∀ (l : List (TypeId × String × FuncId)), MethsOK P l → ∀ t m g, mlook l t m = some g → MethOK P t m g
  | [], _, _, _, _, h => by cases h
  | (d, n, f) :: l, hl, t, m, g, h => by
    have h' : cond (Nat.beq d t && (n == m)) (some f) (mlook l t m) = some g := h
    cases hb : (Nat.beq d t && (n == m)) with
    | true =>
      rw [hb] at h'
      rw [Bool.and_eq_true] at hb
      obtain rfl := Nat.eq_of_beq_eq_true hb.1
      obtain rfl := eq_of_beq hb.2
      obtain rfl := Option.some.inj h'
      exact hl.1
    | false =>
      rw [hb] at h'
      exact meths_ok l hl.2 t m g h'
/-- With methods. -/
theorem Ty.cfgM {P : Program} {T : List (TypeId × TI)} {Q : List (TypeId × List EK)} (h : Ty P T Q) {l : List (FuncId × Sp)} {M : List (TypeId × String × FuncId)} (hM : MethsOK P M) (hl : OKs P l) : COK P ⟨T, tblL l, fun _ => none, qlook Q, mlook M, fun _ => none, fun _ _ _ => False⟩ :=
  ⟨seqs_ok Q h.sq, tys_ok h.ok h.chk, fun f as K h => tblL_ok l hl f as K h, h.mixed, (fun g p h => by cases h), meths_ok M hM, (fun g x h => by cases h)⟩
/-- A type's own method, of a receiver that is a value. -/
theorem meth_of {P : Program} {t : TypeId} {m : String} {g : FuncId} {info : TypeInfo} {mi : Method} {fs : Array Field} (hu : P.underlying t = some (.struct fs)) (hi : P.info? t = some info) (hm : info.methods.find? (·.name == m) = some mi) (hp : mi.path = #[]) (hf : mi.func = some (g, false)) (hd : 0 < P.types.size + Made.depth) : MethOK P t m g := by
  intro v w
  obtain ⟨k, hk⟩ : ∃ k, P.types.size + Made.depth = k + 1 := ⟨P.types.size + Made.depth - 1, by omega⟩
  rw [hk]
  simp [Go.method, typeInfo, hi, hm, hp, hf, follow, receiverAt, run_underlying hu, Place.get, Result.andThen]
def ilook : List (FuncId × Inl) → FuncId → Option Inl
  | [], _ => none
  | (d, x) :: l, g => cond (Nat.beq d g) (some x) (ilook l g)
def InlsOK (P : Program) : List (FuncId × Inl) → Prop
  | [] => True
  | (g, x) :: l => (∃ fn, P.funcs[g]? = some fn ∧ (fn.name == "runtime.NumGoroutine") = false ∧ fn.body = some x.c ∧ fn.ntmps = x.nt ∧ fn.results.toList = x.rl) ∧ InlsOK P l
theorem inls_ok {P : Program} : ∀ (l : List (FuncId × Inl)), InlsOK P l → ∀ g x, ilook l g = some x → ∃ fn, P.funcs[g]? = some fn ∧ (fn.name == "runtime.NumGoroutine") = false ∧ fn.body = some x.c ∧ fn.ntmps = x.nt ∧ fn.results.toList = x.rl ∧ ∀ Q st, AW P (fun _ => True) x.c Q st → AW P (fun _ => True) x.c Q st
  | [], _, _, _, h => by cases h
  | (d, y) :: l, hl, g, x, h => by
    have h' : cond (Nat.beq d g) (some y) (ilook l g) = some x := h
    cases hb : Nat.beq d g with
    | true =>
      rw [hb] at h'
      obtain rfl := Nat.eq_of_beq_eq_true hb
      obtain rfl := Option.some.inj h'
      obtain ⟨fn, h1, h2, h3, h4, h5⟩ := hl.1
      exact ⟨fn, h1, h2, h3, h4, h5, fun _ _ h => h⟩
    | false =>
      rw [hb] at h'
      exact inls_ok l hl.2 g x h'
/-- With functions that are gone through where they are called. -/
theorem Ty.cfgN {P : Program} {T : List (TypeId × TI)} {Q : List (TypeId × List EK)} (h : Ty P T Q) {l : List (FuncId × Sp)} {N : List (FuncId × Inl)} (hN : InlsOK P N) (hl : OKs P l) : COK P ⟨T, tblL l, fun _ => none, qlook Q, fun _ _ => none, ilook N, AW P (fun _ => True)⟩ :=
  ⟨seqs_ok Q h.sq, tys_ok h.ok h.chk, fun f as K h => tblL_ok l hl f as K h, h.mixed, (fun g p h => by cases h), (fun t m g h => by cases h), inls_ok N hN⟩
/-- Where the world bears what a premise says. -/
def SpOKT (T : World → Prop) (P : Program) (f : FuncId) (S : Sp) : Prop := ∀ x, S.pre x → FnT T P f (S.args x) (S.res x)
theorem SpOK.t {T : World → Prop} {P : Program} {f : FuncId} {S : Sp} (h : SpOK P f S) : SpOKT T P f S := fun x hx => (h x hx).t
def OKsT (T : World → Prop) (P : Program) : List (FuncId × Sp) → Prop
  | [] => True
  | (f, S) :: l => SpOKT T P f S ∧ OKsT T P l
theorem tblT_ok {P : Program} {T : World → Prop} : ∀ (l : List (FuncId × Sp)), OKsT T P l → ∀ f as K, tblL l f as K → ∃ r, FnT T P f as r ∧ K r
  | [], _, _, _, _, h => h.elim
  | (f, S) :: l, hl, g, as, K, h => by
    have h' : cond (Nat.beq g f) (∃ x, Told (S.args x) as ∧ S.pre x ∧ K (S.res x)) (tblL l g as K) := h
    cases hb : Nat.beq g f with
    | true =>
      rw [hb] at h'
      obtain rfl := Nat.eq_of_beq_eq_true hb
      obtain ⟨x, h1, h2, h3⟩ := h'
      exact ⟨_, (hl.1 x h2).told h1, h3⟩
    | false =>
      rw [hb] at h'
      exact tblT_ok l hl.2 g as K h'
theorem Ty.cfgT {P : Program} {T : List (TypeId × TI)} {Q : List (TypeId × List EK)} (h : Ty P T Q) {U : World → Prop} {l : List (FuncId × Sp)} (hl : OKsT U P l) : COKT P U ⟨T, tblL l, fun _ => none, qlook Q, fun _ _ => none, fun _ => none, fun _ _ _ => False⟩ :=
  ⟨seqs_ok Q h.sq, tys_ok h.ok h.chk, fun f as K h => tblT_ok l hl f as K h, h.mixed, (fun g p h => by cases h), (fun t m g h => by cases h), (fun g x h => by cases h)⟩
/-- With one that puts into a row. -/
theorem Ty.cfgI {P : Program} {T : List (TypeId × TI)} {Q : List (TypeId × List EK)} (h : Ty P T Q) {l : List (FuncId × Sp)} (hl : OKs P l) {f : FuncId} {p : TypeId × Nat} (hI : InsOK P f p.1 p.2) : COK P ⟨T, tblL l, fun g => cond (Nat.beq g f) (some p) none, qlook Q, fun _ _ => none, fun _ => none, fun _ _ _ => False⟩ :=
  ⟨seqs_ok Q h.sq, tys_ok h.ok h.chk, fun f as K h => tblL_ok l hl f as K h, h.mixed, (fun g q hq => by
    have hq' : cond (Nat.beq g f) (some p) none = some q := hq
    clear hq
    cases hb : Nat.beq g f with
    | true =>
      rw [hb] at hq'
      obtain rfl := Nat.eq_of_beq_eq_true hb
      obtain rfl := Option.some.inj hq'
      exact hI
    | false => rw [hb] at hq'; cases hq'), (fun t m g h => by cases h), (fun g x h => by cases h)⟩
/-! ### Lists -/
section
variable {α : Type} [Inhabited α]
/-- The elements of a list, each by its cells. -/
def els (f : α → List AV) (l : List α) (i : Nat) : List AV := f (l.getD i default)
def aL (f : α → List AV) (sz : Nat) (l : List α) : AV := .sl sz l.length (els f l)
def Emb (f : α → List AV) (sz : Nat) : Prop := ∀ x, ones (f x) = true ∧ subs0 (f x) (f x) ∧ (f x).length = sz
theorem els_of {f : α → List AV} {sz : Nat} (hf : Emb f sz) {l : List α} {n : Nat} {el : Nat → List AV} (h : ∀ i, i < l.length → el i = f (l.getD i default)) : ∀ i, i < l.length → cond (ones (els f l i)) (subs0 (els f l i) (el i)) False := fun i hi => by
  rw [h i hi]
  obtain ⟨h1, h2, _⟩ := hf (l.getD i default)
  show cond (ones (f _)) _ _
  rw [h1]
  exact h2
theorem cat_snoc {f : α → List AV} {l : List α} {x : α} {n : Nat} (hn : n = l.length) : ∀ i, i < (l ++ [x]).length → catEl n (els f l) (elt [f x]) i = f ((l ++ [x]).getD i default) := fun i hi => by
  subst hn
  unfold catEl
  by_cases h : i < l.length
  · rw [show Nat.blt i l.length = true from Nat.ble_eq_true_of_le h, cond_true]
    simp [els, List.getD, List.getElem?_append_left h]
  · rw [show Nat.blt i l.length = false from by
      cases hb : Nat.blt i l.length with
      | false => rfl
      | true => exact absurd (Nat.le_of_ble_eq_true hb) h, cond_false]
    simp only [List.length_append, List.length_singleton] at hi
    obtain rfl : i = l.length := by omega
    simp [elt, List.getD]
theorem cat_app {f : α → List AV} {l m : List α} {n : Nat} (hn : n = l.length) : ∀ i, i < (l ++ m).length → catEl n (els f l) (els f m) i = f ((l ++ m).getD i default) := fun i hi => by
  subst hn
  unfold catEl
  by_cases h : i < l.length
  · rw [show Nat.blt i l.length = true from Nat.ble_eq_true_of_le h, cond_true]
    simp [els, List.getD, List.getElem?_append_left h]
  · rw [show Nat.blt i l.length = false from by
      cases hb : Nat.blt i l.length with
      | false => rfl
      | true => exact absurd (Nat.le_of_ble_eq_true hb) h, cond_false]
    simp [els, List.getD, List.getElem?_append_right (Nat.le_of_not_lt h)]
theorem elt_list {f : α → List AV} : ∀ (l : List α) (i : Nat), i < l.length → elt (l.map f) i = f (l.getD i default)
  | [], i, h => by simp at h
  | x :: l, 0, h => rfl
  | x :: l, i + 1, h => by
    have := elt_list (f := f) l i (by simpa using h)
    simpa [elt, List.getD] using this
theorem put_set {f : α → List AV} {l : List α} {k : Nat} {x : α} (hk : k < l.length) : ∀ i, i < (l.set k x).length → putEl k (f x) (els f l) i = f ((l.set k x).getD i default) := fun i hi => by
  unfold putEl
  by_cases h : i = k
  · subst h
    rw [Nat.beq_refl, cond_true]
    simp [List.getD, hk]
  · rw [show Nat.beq i k = false from by
      cases hb : Nat.beq i k with
      | false => rfl
      | true => exact absurd (Nat.eq_of_beq_eq_true hb) h, cond_false]
    simp [els, List.getD, List.getElem?_set_ne (fun e => h e.symm)]
end
theorem iw {n : Int} (h0 : -9223372036854775808 ≤ n) (h1 : n ≤ 9223372036854775807) : IntKind.i64.wrap n = n := by rw [IntKind.wrap_i64]; omega
theorem lit_sub {α : Type} [Inhabited α] {f : α → List AV} {sz : Nat} (hf : Emb f sz) (l : List α) : subs0 [aL f sz l] [.sl sz l.length (elt (l.map f))] := by
  refine ⟨?_, trivial⟩
  show cond (Nat.beq sz sz) _ False
  rw [Nat.beq_refl]
  exact ⟨⟨rfl⟩, els_of (n := 0) hf (elt_list l)⟩
end Go.Abs
