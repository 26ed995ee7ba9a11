/- The engine: what an operation that changes no block yields. -/
import Derived.Test.YtjoplgehefncbaaDoorAbsVal
import Derived.Laws.Cells
import Derived.Laws.StructEq
import Derived.Laws.BytesString
import Derived.Laws.Tables
import Derived.WalkKit
set_option linter.all false
namespace Go.Abs
open Go.RowKit
def aggB (P : Program) (t : TypeId) : Bool := match P.underlying t with
  | some (.struct _) | some (.array _ _) => true
  | _ => false
def TDok (P : Program) (d : TypeDesc) : TD → Prop
  | .int k => d = .int k
  | .bool => d = .bool
  | .str => d = .string
  | .slice e => d = .slice e
  | .struct fs => ∃ fields, d = .struct fields ∧ fields.toList.map (fun f => (f.offset, P.cellsOf f.type, aggB P f.type)) = fs ∧ ∀ f ∈ fields.toList, (P.underlying f.type).isSome = true ∧ 0 < P.cellsOf f.type
  | .arr n e => d = .array n e
  | .ptr e => d = .pointer e
  | .map k e => d = .map k e
  | .other => (∀ fs, d ≠ .struct fs) ∧ (∀ n e, d ≠ .array n e)
def tyOk (P : Program) (t : TypeId) (i : TI) : Prop :=
  ∃ d info z, P.underlying t = some d ∧ P.info? t = some info ∧ info.size = i.size ∧ info.bytes = i.bytes ∧ info.zero = some z ∧ ofVals ofVal1 z.cells.toList = i.zero ∧ TDok P d i.d ∧ ones i.zero = true ∧ i.zero.length = i.size
/-- A function puts one element into a row. -/
def InsOK (P : Program) (g : FuncId) (e : TypeId) (sz : Nat) : Prop :=
  (∃ fn, P.funcs[g]? = some fn ∧ (fn.name == "runtime.NumGoroutine") = false ∧ fn.body.isNone = false) ∧ 0 < sz ∧
  ∀ (w : World) (base : Nat) (v : Value) (n i g2 c2 : Nat) (inner cs : List Value) (cv : Array Value), i ≤ n → w.ownsRow base e sz v n inner → (∀ u ∈ inner, u.oneCell' = true) → w.heap[g2]? = some (.cells cv e (0, 0)) → cv.toList.take sz = cs → some g2 ≠ v.ownBlock → cs.length = sz → (∀ u ∈ cs, u.oneCell' = true) → base ≤ w.heap.size → n < 4294967296 →
    Calls P g #[v, .int .i64 (i : Int), .slice (some ⟨g2, 0, none⟩) 1 c2] w fun e' w' => ∃ v1, e' = .returned v1 ∧ w'.ownsRow base e sz v1 (n + 1) (inner.take (i * sz) ++ (cs ++ inner.drop (i * sz))) ∧ w.grownBy w' v.ownBlock ∧ (v1.ownBlock = v.ownBlock ∨ v1.ownBlock = some w.heap.size)
def fitsK : List EK → List Value → Prop
  | [], [] => True
  | .i k :: ks, v :: vs => (∃ n, v = .int k n) ∧ fitsK ks vs
  | .b :: ks, v :: vs => (∃ n, v = .bool n) ∧ fitsK ks vs
  | .s :: ks, v :: vs => (∃ n, v = .string n) ∧ fitsK ks vs
  | _, _ => False
def eqV : List Value → List Value → Bool
  | .int _ a :: xs, .int _ b :: ys => (a == b) && eqV xs ys
  | .bool a :: xs, .bool b :: ys => (a == b) && eqV xs ys
  | .string a :: xs, .string b :: ys => (a.toList == b.toList) && eqV xs ys
  | _, _ => true
/-- What it says of two structs that they are the same. -/
def SeqOK (P : Program) (t : TypeId) (ks : List EK) : Prop :=
  P.eqGuardType P.depth t = false ∧ ∀ xs ys, fitsK ks xs → fitsK ks ys → ∀ w, (Op.equalIn 10000 t (.agg xs.toArray) (.agg ys.toArray)).run P w = .ok (eqV xs ys) w
/-- A type's method, of a receiver that is a value. -/
def MethOK (P : Program) (t : TypeId) (m : String) (g : FuncId) : Prop := ∀ (v : Value) (w : World), (Go.method (P.types.size + Made.depth) t v m).run P w = .ok (g, v) w
structure COKT (P : Program) (T : World → Prop) (C : Cfg) : Prop where
  seq : ∀ t ks, C.seq t = some ks → SeqOK P t ks
  ty : ∀ t i, C.ty t = some i → tyOk P t i
  tbl : ∀ f args K, C.tbl f args K → ∃ r, FnT T P f args r ∧ K r
  mixed : P.follows .mixedOrders = true
  ins : ∀ g p, C.ins g = some p → InsOK P g p.1 p.2
  meth : ∀ t m g, C.meth t m = some g → MethOK P t m g
  inl : ∀ g x, C.inl g = some x → ∃ fn, P.funcs[g]? = some fn ∧ (fn.name == "runtime.NumGoroutine") = false ∧ fn.body = some x.c ∧ fn.ntmps = x.nt ∧ fn.results.toList = x.rl ∧ ∀ Q st, C.run x.c Q st → AW P T x.c Q st
abbrev COK (P : Program) (C : Cfg) : Prop := COKT P (fun _ => True) C
variable {P : Program} {C : Cfg} {T : World → Prop} {G : Gx T} {w w' : World} {S S' : Nat → Prop} {ρ : List Value} {st : ASt} {a : Act} {h : List AB} {base : Nat}
/-! ### Inversion -/
theorem rv_int {k : IntKind} {n : Int} {u : Value} (hr : RV w S ρ (.int k n) u) : u = .int k n := by cases hr with | st _ _ h => cases h; rfl
theorem rv_lit {b : Bool} {u : Value} (hr : RV w S ρ (.lit b) u) : u = .bool b := by cases hr with | st _ _ h => cases h; rfl
theorem rv_sb {b : Bool} {u : Value} (hr : RV w S ρ (.sb b) u) : u = .bool b := by cases hr with | st _ _ h => cases h; rfl
theorem rv_str {s : ByteArray} {u : Value} (hr : RV w S ρ (.str s) u) : u = .string s := by cases hr with | st _ _ h => cases h; rfl
theorem rv_gone {u : Value} (hr : RV w S ρ .gone u) : u = undef := by cases hr with | st _ _ h => cases h; rfl
theorem rv_nil {u : Value} (hr : RV w S ρ .nil u) : u = .slice none 0 0 := by cases hr with | st _ _ h => cases h; rfl
theorem bval_rv {v : AV} {b : Bool} (hb : bval v = some b) {u : Value} (hr : RV w S ρ v u) : u = .bool b := by
  cases v with
  | lit c => simp only [bval, Option.some.injEq] at hb; subst hb; exact rv_lit hr
  | sb c => simp only [bval, Option.some.injEq] at hb; subst hb; exact rv_sb hr
  | _ => cases hb
theorem rv_agg {cs : List AV} {u : Value} (hr : RV w S ρ (.agg cs) u) : ∃ vs : List Value, u = .agg vs.toArray ∧ RVs w S ρ cs vs := by
  cases hr with
  | st _ _ h =>
    cases h with
    | agg _ vs hl hv => exact ⟨vs, rfl, hl, fun i a v h1 h2 => .st _ _ (hv i a v h1 h2)⟩
  | agg _ vs hl hv => exact ⟨vs, rfl, hl, hv⟩
theorem rv_tup {cs : List AV} {u : Value} (hr : RV w S ρ (.tup cs) u) : ∃ vs : List Value, u = .tuple vs.toArray ∧ RVs w S ρ cs vs := by
  cases hr with
  | st _ _ h =>
    cases h with
    | tup _ vs hl hv => exact ⟨vs, rfl, hl, fun i a v h1 h2 => .st _ _ (hv i a v h1 h2)⟩
  | tup _ vs hl hv => exact ⟨vs, rfl, hl, hv⟩
theorem rv_fn {f : FuncId} {cs : List AV} {u : Value} (hr : RV w S ρ (.fn f cs) u) : ∃ vs : List Value, u = .func (.func f) #[] vs.toArray ∧ RVs w S ρ cs vs := by
  cases hr with
  | st _ _ h =>
    cases h with
    | fn _ _ vs hl hv => exact ⟨vs, rfl, hl, fun i a v h1 h2 => .st _ _ (hv i a v h1 h2)⟩
  | fn _ _ vs hl hv => exact ⟨vs, rfl, hl, hv⟩
theorem rv_iface {t : TypeId} {x : AV} {u : Value} (hr : RV w S ρ (.iface t x) u) : ∃ v, u = .iface t v ∧ RV w S ρ x v := by
  cases hr with
  | st _ _ h =>
    cases h with
    | iface _ _ v hv => exact ⟨v, rfl, .st _ _ hv⟩
  | iface _ _ v hv => exact ⟨v, rfl, hv⟩
theorem rv_ptr {id off : Nat} {u : Value} (hr : RV w S ρ (.ptr id off) u) : ∃ b, ρ[id]? = some (.pointer (some ⟨b, 0, none⟩)) ∧ u = .pointer (some ⟨b, off, none⟩) := by
  cases hr with
  | st _ _ h => cases h
  | ptr _ _ b hb => exact ⟨b, hb, rfl⟩
theorem rv_optr {id sz i off : Nat} {u : Value} (hr : RV w S ρ (.optr id sz i off) u) : ∃ b n cap, ρ[id]? = some (.slice (some ⟨b, 0, none⟩) n cap) ∧ i < n ∧ u = .pointer (some ⟨b, i * sz + off, none⟩) := by
  cases hr with
  | st _ _ h => cases h
  | optr _ _ _ _ b n cap hb hi => exact ⟨b, n, cap, hb, hi, rfl⟩
theorem rv_own {id : Nat} {u : Value} (hr : RV w S ρ (.own id) u) : ρ[id]? = some u := by
  cases hr with
  | st _ _ h => cases h
  | own _ _ hb _ => exact hb
theorem rv_rptr {cs : List AV} {u : Value} (hr : RV w S ρ (.rptr cs) u) : ∃ ad, u = .pointer (some ad) ∧ RV0 w S (.rptr cs) u := by
  cases hr with
  | st _ _ h => cases h with | rptr _ ad g ho hm hr => exact ⟨ad, rfl, .rptr cs ad g ho hm hr⟩
theorem rv_sl {sz n : Nat} {el : Nat → List AV} {u : Value} (hr : RV w S ρ (.sl sz n el) u) : ∃ A cap, u = .slice A n cap ∧ RV0 w S (.sl sz n el) u := by
  cases hr with
  | st _ _ h => cases h with | sl _ _ _ A cap g h1 h2 h3 h4 h5 => exact ⟨A, cap, rfl, .sl sz n el A cap g h1 h2 h3 h4 h5⟩
theorem nth_get : ∀ (l : List AV) (i : Nat), i < l.length → l[i]? = some (nth l i)
  | [], i, hi => by simp at hi
  | c :: l, 0, _ => by simp [nth]
  | c :: l, i + 1, hi => by simpa [nth] using nth_get l i (by simpa using hi)
theorem nth_big : ∀ (l : List AV) (i : Nat), l.length ≤ i → nth l i = .any
  | [], i, _ => by cases i <;> rfl
  | c :: l, 0, hi => by simp at hi
  | c :: l, i + 1, hi => nth_big l i (by simpa using hi)
theorem RVs.drop {cs : List AV} {vs : List Value} (hr : RVs w S ρ cs vs) (k : Nat) : RVs w S ρ (cs.drop k) (vs.drop k) :=
  ⟨by simp [hr.1], fun i a v h1 h2 => hr.2 (k + i) a v (by rwa [List.getElem?_drop] at h1) (by rwa [List.getElem?_drop] at h2)⟩
theorem RVs.take {cs : List AV} {vs : List Value} (hr : RVs w S ρ cs vs) (k : Nat) : RVs w S ρ (cs.take k) (vs.take k) := by
  refine ⟨by simp [hr.1], fun i a v h1 h2 => ?_⟩
  rw [List.getElem?_take] at h1 h2
  by_cases hi : i < k
  · rw [if_pos hi] at h1 h2; exact hr.2 i a v h1 h2
  · rw [if_neg hi] at h1; cases h1
theorem RVs.nth {cs : List AV} {vs : List Value} (hr : RVs w S ρ cs vs) {i : Nat} {v : Value} (hv : vs[i]? = some v) : RV w S ρ (nth cs i) v := by
  have hlt : i < cs.length := by rw [← hr.1]; exact (List.getElem?_eq_some_iff.1 hv).1
  exact hr.2 i _ v (nth_get cs i hlt) hv
/-! ### Memory that is read -/
theorem memAt_ok (hh : HR w S base ρ h) {v : AV} {u : Value} {cs : List AV} (hr : RV w S ρ v u) (hm : memAt h v = some cs) :
    ∃ (ad : Addr) (vs : List Value), u = .pointer (some ad) ∧ RVs w S ρ cs vs ∧ ∀ (j : Nat) (x : Value), vs[j]? = some x → w.cell? (ad.add j) = some x := by
  cases v with
  | ptr id off =>
    obtain ⟨b, hb, rfl⟩ := rv_ptr hr
    have hE := hh.ent id _ hb
    simp only [memAt] at hm
    split at hm
    · rename_i t cs' he
      rw [he] at hE
      obtain rfl := Option.some.inj hm
      obtain ⟨b', vs, e, _, hg, _, hv, _⟩ := hE
      cases e
      refine ⟨_, vs.drop off, rfl, hv.drop off, fun j x hx => ?_⟩
      have hadd : (⟨b, off, none⟩ : Addr).add j = ⟨b, off + j, none⟩ := by unfold Addr.add; split <;> simp_all
      rw [hadd, cell_of_row w b (off + j) _ t (0, 0) hg]
      rw [List.getElem?_drop] at hx
      simpa using hx
    · rename_i cs' he
      rw [he] at hE
      obtain rfl := Option.some.inj hm
      have hE2 := rptr_drop hE off
      have e : (⟨b, 0, none⟩ : Addr).add off = ⟨b, off, none⟩ := by unfold Addr.add; split <;> simp_all
      rw [e] at hE2
      cases hE2 with
      | rptr _ _ g ho hm2 hr2 =>
        refine ⟨_, (List.range (cs'.drop off).length).map g, rfl, ⟨by simp, fun i a v h1 h2 => ?_⟩, fun j x hx => ?_⟩
        · rw [List.getElem?_map, List.getElem?_range (by have := (List.getElem?_eq_some_iff.1 h1).1; exact this)] at h2
          obtain rfl := Option.some.inj h2
          exact .st _ _ (hr2 i a h1)
        · have hj : j < (cs'.drop off).length := by have := (List.getElem?_eq_some_iff.1 hx).1; simpa using this
          rw [List.getElem?_map, List.getElem?_range hj] at hx
          obtain rfl := Option.some.inj hx
          exact (hm2 j hj).2
    · cases hm
  | rptr cs' =>
    simp only [memAt] at hm
    obtain rfl := Option.some.inj hm
    obtain ⟨ad, rfl, h0⟩ := rv_rptr hr
    cases h0 with
    | rptr _ _ g ho hm2 hr2 =>
      refine ⟨_, (List.range cs'.length).map g, rfl, ⟨by simp, fun i a v h1 h2 => ?_⟩, fun j x hx => ?_⟩
      · rw [List.getElem?_map, List.getElem?_range (by have := (List.getElem?_eq_some_iff.1 h1).1; exact this)] at h2
        obtain rfl := Option.some.inj h2
        exact .st _ _ (hr2 i a h1)
      · have hj : j < cs'.length := by have := (List.getElem?_eq_some_iff.1 hx).1; simpa using this
        rw [List.getElem?_map, List.getElem?_range hj] at hx
        obtain rfl := Option.some.inj hx
        exact (hm2 j hj).2
  | optr id sz i off =>
    obtain ⟨b, n, cap, hb, hi, rfl⟩ := rv_optr hr
    have hE := hh.ent id _ hb
    simp only [memAt] at hm
    split at hm
    · rename_i e sz' n' el he
      rw [he] at hE
      cases hz : Nat.beq sz sz' with
      | false => rw [hz] at hm; cases hm
      | true =>
        rw [hz] at hm
        obtain rfl := Nat.eq_of_beq_eq_true hz
        obtain rfl := Option.some.inj hm
        obtain ⟨⟨inner, hown, hel⟩, _⟩ := hE
        have hn : n = n' := by
          rcases hown.2 with ⟨e, _⟩ | ⟨g, c, cur, e, _⟩
          · cases e
          · cases e; rfl
        subst hn
        obtain ⟨h1, h2, h3⟩ := hel i hi
        have hlen := hown.1
        have hb2 : i * sz + sz ≤ inner.length := by
          rw [hlen]
          calc i * sz + sz = (i + 1) * sz := by rw [Nat.add_mul]; omega
            _ ≤ n * sz := Nat.mul_le_mul_right _ hi
        refine ⟨_, ((inner.drop (i * sz)).take sz).drop off, rfl, RVs.drop ⟨?_, fun j x v hx hv => ?_⟩ off, fun j x hx => ?_⟩
        · rw [List.length_take, List.length_drop, h1]; omega
        · obtain ⟨u, hu, hr0⟩ := h3 j x hx
          rw [List.getElem?_take, if_pos (by have := (List.getElem?_eq_some_iff.1 hx).1; omega), List.getElem?_drop, hu] at hv
          obtain rfl := Option.some.inj hv
          exact .st _ _ hr0
        · have hadd : (⟨b, i * sz + off, none⟩ : Addr).add j = (⟨b, 0, none⟩ : Addr).add (i * sz + (off + j)) := by
            rw [Addr.add_lit, Addr.add_lit, Nat.zero_add, Nat.add_assoc]
          rw [hadd]
          rw [List.getElem?_drop, List.getElem?_take] at hx
          by_cases hk : off + j < sz
          · rw [if_pos hk, List.getElem?_drop] at hx
            exact hown.cells (g := b) rfl _ _ hx
          · rw [if_neg hk] at hx; cases hx
    · cases hm
  | _ => cases hm
theorem asSl_ok (hh : HR w S base ρ h) {v : AV} {u : Value} {sz n : Nat} {el : Nat → List AV} (hr : RV w S ρ v u) (hm : asSl h v = some (sz, n, el)) :
    ∃ A cap, u = .slice A n cap ∧ RV0 w (Sx S ρ h (ids v)) (.sl sz n el) u := by
  cases v with
  | sl sz' n' el' =>
    obtain ⟨A, cap, rfl, h0⟩ := rv_sl hr
    simp only [asSl, Option.some.injEq, Prod.mk.injEq] at hm
    obtain ⟨rfl, rfl, rfl⟩ := hm
    exact ⟨A, cap, rfl, h0.mono (fun b hb => .inl hb) (fun _ _ => rfl)⟩
  | own id =>
    have hf := fz_ok hh hr
    have hu := rv_own hr
    have hE := hh.ent id u hu
    simp only [asSl] at hm
    split at hm
    · rename_i e sz' n' el' he
      simp only [Option.some.injEq, Prod.mk.injEq] at hm
      obtain ⟨rfl, rfl, rfl⟩ := hm
      simp only [fz, he] at hf
      rw [he] at hE
      obtain ⟨⟨inner, hown, _⟩, _⟩ := hE
      rcases hown.2 with ⟨rfl, rfl⟩ | ⟨g, c, cur, rfl, _⟩
      · exact ⟨_, _, rfl, hf⟩
      · exact ⟨_, _, rfl, hf⟩
    · rename_i sz' n' el' he
      simp only [Option.some.injEq, Prod.mk.injEq] at hm
      obtain ⟨rfl, rfl, rfl⟩ := hm
      simp only [fz, he] at hf
      cases hf with
      | sl _ _ _ A cap g h1 h2 h3 h4 h5 => exact ⟨A, cap, rfl, .sl _ _ _ A cap g h1 h2 h3 h4 h5⟩
    · cases hm
  | nil =>
    obtain rfl := rv_nil hr
    simp only [asSl, Option.some.injEq, Prod.mk.injEq] at hm
    obtain ⟨rfl, rfl, rfl⟩ := hm
    exact ⟨none, 0, rfl, .sl 1 0 _ none 0 (fun _ _ => undef) (Nat.le_refl _) (by unfold maxLen; omega) (fun i hi => by omega) (fun i j hi => by omega) (fun i j a hi => by omega)⟩
  | _ => cases hm
/-! ### Values of operations -/
theorem eval_get (hs : SRi G S ρ st a w) {x : Operand} {v : AV} (hx : ev st x = v) : RV w S ρ v (a.eval x) := hx ▸ ev_ok hs x
theorem run_info {t : TypeId} {i : TypeInfo} (hi : P.info? t = some i) (w : World) : (typeInfo t).run P w = .ok i w := by simp [typeInfo, hi]
theorem run_sizeOf {t : TypeId} {i : TypeInfo} (hi : P.info? t = some i) (w : World) : (sizeOf t).run P w = .ok i.size w := by simp [sizeOf, run_info hi]
theorem run_isAgg {t : TypeId} {d : TypeDesc} (hd : P.underlying t = some d) (w : World) : (isAgg t).run P w = .ok (aggB P t) w := by
  unfold isAgg aggB
  simp only [Sem.run_bind, run_underlying hd, Result.andThen_ok, hd]
  cases d <;> rfl
theorem TDok.agg {d : TypeDesc} {i : TI} {t : TypeId} (hd : P.underlying t = some d) (ht : TDok P d i.d) : aggB P t = i.isAgg := by
  unfold aggB TI.isAgg
  rw [hd]
  cases hi : i.d with
  | struct fs =>
    rw [hi] at ht
    obtain ⟨fields, rfl, _⟩ := ht
    rfl
  | other =>
    rw [hi] at ht
    cases d <;> first | rfl | exact absurd rfl (ht.1 _) | exact absurd rfl (ht.2 _ _)
  | _ =>
    rw [hi] at ht
    simp only [TDok] at ht
    subst ht
    rfl
theorem load_ok {t : TypeId} {i : TI} (ht : tyOk P t i) {ad : Addr} {cs : List AV} {vs : List Value} (hv : RVs w S ρ cs vs) (hm : ∀ (j : Nat) (x : Value), vs[j]? = some x → w.cell? (ad.add j) = some x)
    (h1 : i.size ≤ cs.length) (h2 : 0 < cs.length) : ∃ u, (Instr.loadAt t (.pointer (some ad))).run P w = .ok u w ∧ RV w S ρ (pack i cs) u := by
  obtain ⟨d, info, z, hd, hi, hsz, _, _, _, hT, _, _⟩ := ht
  have hag := TDok.agg hd hT
  unfold Instr.loadAt loadVar pack
  simp only [Instr.sureAddr, Sem.run_bind, Sem.run_pure, Result.andThen_ok, run_isAgg hd, hag]
  cases i.isAgg with
  | true =>
    have htl : (vs.take i.size).length = i.size := by rw [List.length_take, hv.1]; omega
    have hl := run_loadCells_list (P := P) w ad (vs.take i.size) (fun j x hx => hm j x (by
      rw [List.getElem?_take] at hx
      by_cases hj : j < i.size
      · rwa [if_pos hj] at hx
      · rw [if_neg hj] at hx; cases hx))
    rw [htl] at hl
    simp only [if_true, Sem.run_bind, run_sizeOf hi, Result.andThen_ok, hsz, hl, Sem.run_pure]
    exact ⟨_, rfl, .agg _ _ (hv.take _).1 (hv.take _).2⟩
  | false =>
    have hlt : 0 < vs.length := by rw [hv.1]; exact h2
    have h0 := hm 0 vs[0] (List.getElem?_eq_getElem hlt)
    rw [Addr.add_zero'] at h0
    simp only [Bool.false_eq_true, if_false, run_load, h0, cond_false]
    exact ⟨_, rfl, hv.nth (List.getElem?_eq_getElem hlt)⟩
theorem evs_ok (hs : SRi G S ρ st a w) : ∀ (l : List Operand), RVs w S ρ (evs st l) (l.map a.eval)
  | [] => ⟨rfl, fun i x v h => by simp [evs] at h⟩
  | x :: l => by
    obtain ⟨h1, h2⟩ := evs_ok hs l
    refine ⟨by simp [evs, h1], fun i y v hy hv => ?_⟩
    cases i with
    | zero =>
      simp [evs] at hy hv
      subst hy; subst hv
      exact ev_ok hs x
    | succ i => exact h2 i y v (by simpa [evs] using hy) (by simpa using hv)
theorem intOp_ok {o : BinOp} {k : IntKind} {a b : Int} {c : Option Prop} {v : AV} (t : TypeId) (k' : IntKind) (hk : k = k' ∨ o = .shl ∨ o = .shr) (h : intOp o k a b = some (c, v)) (hc : ∀ p, c = some p → p) (w : World) :
    ∃ u, (binOp o t (.int k a) (.int k' b)).run P w = .ok u w ∧ RV w S ρ v u := by
  cases o <;> simp only [intOp, Option.some.injEq, Prod.mk.injEq, reduceCtorEq] at h
  all_goals obtain ⟨rfl, rfl⟩ := h
  case shl =>
    have := hc _ rfl
    refine ⟨_, ?_, .st _ _ (.int _ _)⟩
    simp [binOp, Op.shift, show ¬ b < 0 by omega]
  case shr =>
    have := hc _ rfl
    refine ⟨_, ?_, .st _ _ (.int _ _)⟩
    simp [binOp, Op.shift, show ¬ b < 0 by omega]
  all_goals
    have hkk : k = k' := by
      rcases hk with h | h | h
      · exact h
      · cases h
      · cases h
    subst hkk
  case quo =>
    have := hc _ rfl
    exact ⟨_, by simp [binOp, Op.intDiv, this], .st _ _ (.int _ _)⟩
  case rem =>
    have := hc _ rfl
    exact ⟨_, by simp [binOp, Op.intDiv, this], .st _ _ (.int _ _)⟩
  case and => exact ⟨_, by rw [binOp_and]; rfl, .st _ _ (.int _ _)⟩
  case or => exact ⟨_, by rw [binOp_or]; rfl, .st _ _ (.int _ _)⟩
  case xor => exact ⟨_, by rw [binOp_xor]; rfl, .st _ _ (.int _ _)⟩
  case add => exact ⟨_, by simp [binOp, Op.intArith], .st _ _ (.int _ _)⟩
  case sub => exact ⟨_, by simp [binOp, Op.intArith], .st _ _ (.int _ _)⟩
  case mul => exact ⟨_, by simp [binOp, Op.intArith], .st _ _ (.int _ _)⟩
  all_goals exact ⟨_, by simp [binOp, Op.intCmp], .st _ _ (.sb _)⟩
theorem strOp_ok {o : BinOp} {a b : ByteArray} {c : Option Prop} {v : AV} (t : TypeId) (h : strOp o a b = some (c, v)) (hc : ∀ p, c = some p → p) (w : World) :
    ∃ u, (binOp o t (.string a) (.string b)).run P w = .ok u w ∧ RV w S ρ v u := by
  cases o <;> simp only [strOp, Option.some.injEq, Prod.mk.injEq, reduceCtorEq] at h
  all_goals obtain ⟨rfl, rfl⟩ := h
  case add =>
    have := hc _ rfl
    refine ⟨_, ?_, .st _ _ (.str _)⟩
    simp only [binOp, Op.stringOp, IntKind.max_i64]
    rw [if_neg (by omega)]
    rfl
  all_goals exact ⟨_, by simp [binOp, Op.stringOp], .st _ _ (.sb _)⟩
theorem cond_some {α : Type} {b : Bool} {x : Option α} {y : α} (h : cond b x none = some y) : b = true ∧ x = some y := by
  cases b with
  | true => exact ⟨rfl, h⟩
  | false => cases h
theorem tyD_ok (hC : COKT P T C) {t : TypeId} {d : TD} (hd : C.tyD t = d) (hne : d ≠ .other) : ∃ i, C.ty t = some i ∧ i.d = d := by
  unfold Cfg.tyD at hd
  cases h : C.ty t with
  | some i => rw [h] at hd; exact ⟨i, rfl, hd⟩
  | none => rw [h] at hd; exact absurd hd.symm hne
theorem slice_ty (hC : COKT P T C) {t : TypeId} {e : TypeId} (hd : C.tyD t = .slice e) : P.underlying t = some (.slice e) := by
  obtain ⟨i, hi, he⟩ := tyD_ok hC hd (by simp)
  obtain ⟨d, info, z, hu, _, _, _, _, _, hT, _, _⟩ := hC.ty t i hi
  rw [he] at hT
  simp only [TDok] at hT
  rw [hu, hT]
theorem elSz_ok (hC : COKT P T C) {t : TypeId} {sz : Nat} (h : Nat.beq sz (C.elSz t) = true) (hp : 0 < sz ∨ ∃ e, C.tyD t = .slice e ∧ ∃ i, C.ty e = some i) : ∃ e info, P.underlying t = some (.slice e) ∧ P.info? e = some info ∧ info.size = sz := by
  have hsz := Nat.eq_of_beq_eq_true h
  unfold Cfg.elSz at hsz
  have key : ∃ e i, C.tyD t = .slice e ∧ C.ty e = some i ∧ sz = i.size := by
    rcases hp with hp | ⟨e, h1, i, h2⟩
    · split at hsz
      · rename_i e he
        split at hsz
        · rename_i i hi
          exact ⟨e, i, he, hi, hsz⟩
        · omega
      · omega
    · rw [h1] at hsz
      simp only [h2] at hsz
      exact ⟨e, i, h1, h2, hsz⟩
  obtain ⟨e, i, h1, h2, h3⟩ := key
  obtain ⟨d, info, z, _, hi, hs, _⟩ := hC.ty e i h2
  exact ⟨e, info, slice_ty hC h1, hi, hs.trans h3.symm⟩
theorem isStr_ok (hC : COKT P T C) {t : TypeId} (h : isStr (C.tyD t) = true) : P.underlying t = some .string := by
  cases hd : C.tyD t with
  | str =>
    obtain ⟨i, hi, he⟩ := tyD_ok hC hd (by simp)
    obtain ⟨d, info, z, hu, _, _, _, _, _, hT, _, _⟩ := hC.ty t i hi
    rw [he] at hT
    simp only [TDok] at hT
    rw [hu, hT]
  | _ => rw [hd] at h; cases h
theorem isInt_ok (hC : COKT P T C) {t : TypeId} {k : IntKind} (h : isInt (C.tyD t) = some k) : P.underlying t = some (.int k) := by
  cases hd : C.tyD t with
  | int k' =>
    rw [hd] at h
    simp only [isInt, Option.some.injEq] at h
    subst h
    obtain ⟨i, hi, he⟩ := tyD_ok hC hd (by simp)
    obtain ⟨d, info, z, hu, _, _, _, _, _, hT, _, _⟩ := hC.ty t i hi
    rw [he] at hT
    simp only [TDok] at hT
    rw [hu, hT]
  | _ => rw [hd] at h; cases h
theorem isSlice_ok (hC : COKT P T C) {t : TypeId} (h : isSlice (C.tyD t) = true) : ∃ e, P.underlying t = some (.slice e) := by
  cases hd : C.tyD t with
  | slice e => exact ⟨e, slice_ty hC hd⟩
  | _ => rw [hd] at h; cases h
theorem fld_ok (hC : COKT P T C) {t : TypeId} {i : TI} {f o n : Nat} {g : Bool} (ht : C.ty t = some i) (hf : fld i f = some (o, n, g)) :
    ∃ fields fd info, P.underlying t = some (.struct fields) ∧ fields[f]? = some fd ∧ fd.offset = o ∧ P.info? fd.type = some info ∧ info.size = n ∧ 0 < n ∧ aggB P fd.type = g ∧ (P.underlying fd.type).isSome = true := by
  obtain ⟨d, info, z, hu, _, _, _, _, _, hT, _, _⟩ := hC.ty t i ht
  unfold fld at hf
  cases hd : i.d with
  | struct fs =>
    rw [hd] at hT hf
    obtain ⟨fields, rfl, hm, hall⟩ := hT
    simp only at hf
    rw [← hm, List.getElem?_map] at hf
    cases hx : fields.toList[f]? with
    | none => rw [hx] at hf; cases hf
    | some fd =>
      rw [hx] at hf
      simp only [Option.map_some, Option.some.injEq, Prod.mk.injEq] at hf
      obtain ⟨rfl, rfl, rfl⟩ := hf
      obtain ⟨h1, h2⟩ := hall fd (List.mem_of_getElem? hx)
      have hi : ∃ info, P.info? fd.type = some info ∧ info.size = P.cellsOf fd.type := by
        unfold Program.cellsOf at h2 ⊢
        cases hi : P.info? fd.type with
        | none => rw [hi] at h2; simp at h2
        | some info => exact ⟨info, rfl, by simp⟩
      obtain ⟨info, hi1, hi2⟩ := hi
      exact ⟨fields, fd, info, hu, by rw [← Array.getElem?_toList]; exact hx, rfl, hi1, hi2, h2, rfl, h1⟩
  | _ => rw [hd] at hf; cases hf
theorem fill_ok {fs : List (Nat × Nat × Bool)} {place : Nat → Option (Nat × Nat)} (hp : ∀ i o n g, fs[i]? = some (o, n, g) → place i = some (o, n)) : ∀ (ps : List (Nat × List AV)) (us : List (Nat × Value)) (cs cs' : List AV) (vs : Array Value),
    us.length = ps.length → (∀ (j i : Nat) (c : List AV) (i' : Nat) (u : Value), ps[j]? = some (i, c) → us[j]? = some (i', u) → i' = i ∧ (ones c = true → RVs w S ρ c u.cells.toList)) → RVs w S ρ cs vs.toList → fillA fs cs ps = some cs' →
    ∃ vs', Instr.fill place vs us = some vs' ∧ RVs w S ρ cs' vs'.toList
  | [], us, cs, cs', vs, hl, hr, hv, hf => by
    obtain rfl : us = [] := List.eq_nil_of_length_eq_zero hl
    obtain rfl := Option.some.inj hf
    exact ⟨vs, rfl, hv⟩
  | (i, c) :: ps, us, cs, cs', vs, hl, hr, hv, hf => by
    cases us with
    | nil => cases hl
    | cons u us =>
      obtain ⟨i', u⟩ := u
      obtain ⟨rfl, hc⟩ := hr 0 i c i' u rfl rfl
      simp only [fillA] at hf
      split at hf
      · rename_i o n g hg
        obtain ⟨hb, hf⟩ := cond_some hf
        simp only [Bool.and_eq_true] at hb
        obtain ⟨⟨h1, h2⟩, h3⟩ := hb
        have h1 := Nat.eq_of_beq_eq_true h1
        have h2 := Nat.le_of_ble_eq_true h2
        have hcu := hc h3
        have hsz : u.cells.size = c.length := by rw [← Array.length_toList, hcu.1]
        have hvs : vs.size = cs.length := by rw [← Array.length_toList, hv.1]
        -- the cells that are put in
        have hput : ∀ (l : List Value) (k : Nat) (b : Array Value), o + k + l.length ≤ b.size → ((l.zipIdx k).foldl (fun (bs : Array Value) (x : Value × Nat) => bs.setIfInBounds (o + x.2) x.1) b).toList = b.toList.take (o + k) ++ l ++ b.toList.drop (o + k + l.length) := by
          intro l
          induction l with
          | nil => intro k b _; simp
          | cons x l ih =>
            intro k b hk
            simp only [List.length_cons] at hk
            simp only [List.zipIdx_cons, List.foldl_cons]
            rw [show k + 1 = k + 1 from rfl, ih (k + 1) (b.setIfInBounds (o + k) x) (by simp; omega)]
            apply List.ext_getElem?
            intro j
            simp only [List.getElem?_append, List.length_append, List.length_take, Array.length_toList, Array.size_setIfInBounds, List.length_cons, List.getElem?_take, List.getElem?_drop, Array.getElem?_toList]
            rw [show min (o + (k + 1)) b.size = o + k + 1 by omega, show min (o + k) b.size = o + k by omega]
            by_cases j1 : j < o + k
            · rw [if_pos (by omega), if_pos (by omega), if_pos (by omega), if_pos (by omega), if_pos (by omega), if_pos (by omega), Array.getElem?_setIfInBounds_ne (by omega)]
            · by_cases j2 : j = o + k
              · subst j2
                rw [if_pos (by omega), if_pos (by omega), if_pos (by omega), if_pos (by omega), if_neg (by omega)]
                simp [show o + k < b.size by omega]
              · by_cases j3 : j < o + k + 1 + l.length
                · rw [if_pos (by omega), if_neg (by omega), if_pos (by omega), if_neg (by omega)]
                  rw [show j - (o + k) = (j - (o + k + 1)) + 1 by omega, List.getElem?_cons_succ]
                · rw [if_neg (by omega), if_neg (by omega), Array.getElem?_setIfInBounds_ne (by omega)]
                  congr 1
                  omega
        have hp2 : (u.cells.zipIdx.foldl (fun (bs : Array Value) (x : Value × Nat) => bs.setIfInBounds (o + x.2) x.1) vs).toList = vs.toList.take o ++ u.cells.toList ++ vs.toList.drop (o + c.length) := by
          rw [← Array.foldl_toList, Array.toList_zipIdx]
          have := hput u.cells.toList 0 vs (by rw [Array.length_toList]; omega)
          rw [this, Array.length_toList, hsz]
          simp
        have hnew : RVs w S ρ (cs.take o ++ c ++ cs.drop (o + c.length)) (u.cells.zipIdx.foldl (fun (bs : Array Value) (x : Value × Nat) => bs.setIfInBounds (o + x.2) x.1) vs).toList := by
          rw [hp2]
          refine ⟨by simp [hcu.1, ← hvs], fun j x v hx hv' => ?_⟩
          simp only [List.getElem?_append, List.length_append, List.length_take, Array.length_toList, List.getElem?_take, List.getElem?_drop] at hx hv'
          rw [hsz, hvs] at hv'
          rw [show min o cs.length = o by omega] at hx hv'
          by_cases j1 : j < o
          · rw [if_pos (by omega), if_pos j1, if_pos j1] at hx hv'
            exact hv.2 j x v hx hv'
          · by_cases j2 : j < o + c.length
            · rw [if_pos (by omega), if_neg j1] at hx hv'
              exact hcu.2 _ x v hx hv'
            · rw [if_neg (by omega)] at hx hv'
              exact hv.2 _ x v hx hv'
        obtain ⟨vs', h4, h5⟩ := fill_ok hp ps us _ cs' _ (by simpa using hl) (fun j => hr (j + 1)) hnew hf
        refine ⟨vs', ?_, h5⟩
        unfold Instr.fill
        simp only [hp i' o n g hg]
        rw [if_neg (by simp; omega)]
        exact h4
      · cases hf
theorem foldlM_nil (x : Value) (f : Value → Value → Sem Value) : ([] : List Value).foldlM f x = pure x := rfl
theorem agg_part (hC : COKT P T C) {t : TypeId} {i : TI} {f o n : Nat} {g : Bool} (ht : C.ty t = some i) (hf : fld i f = some (o, n, g)) {cs : List AV} {vs : List Value} (hv : RVs w S ρ cs vs) (h1 : o + n ≤ cs.length) (h2 : 0 < n) (w1 : World) :
    ∃ u, (Instr.field t (.agg vs.toArray) f).run P w1 = .ok u w1 ∧ RV w S ρ (cond g (.agg ((cs.drop o).take n)) (nth cs o)) u := by
  obtain ⟨fields, fd, info, hu, hfd, ho, hi, hn, _, hg, hu2⟩ := fld_ok hC ht hf
  obtain ⟨d2, hd2⟩ := Option.isSome_iff_exists.1 hu2
  unfold Instr.field
  simp only [Sem.run_bind, run_underlying hu, Result.andThen_ok, hfd, asAgg, Sem.run_pure, part, run_isAgg hd2, hg, ho]
  cases g with
  | true =>
    simp only [if_true, Sem.run_bind, run_sizeOf hi, Result.andThen_ok, hn, Sem.run_pure, cond_true]
    refine ⟨_, rfl, ?_⟩
    have : vs.toArray.extract o (o + n) = ((vs.drop o).take n).toArray := by
      apply Array.ext'
      simp [List.take_drop]
    rw [this]
    have hh := (hv.drop o).take n
    exact .agg _ _ hh.1 hh.2
  | false =>
    have hlt : o < vs.length := by rw [hv.1]; omega
    simp only [Bool.false_eq_true, if_false, cond_false]
    have : vs.toArray[o]? = some vs[o] := by simp [hlt]
    rw [this]
    exact ⟨_, rfl, hv.nth (List.getElem?_eq_getElem hlt)⟩
end Go.Abs
