/- The engine: one state told by another; loops; functions. -/
import Derived.Test.YtjoplgehefncbaaDoorAbsCode
import Derived.LoopN
import Derived.Deep.LoopGhost
import Derived.ScopeJumps
set_option linter.all false
namespace Go.Abs
open Go.RowKit
variable {P : Program} {C : Cfg} {T : World → Prop} {G : Gx T} {w w' : World} {S S' : Nat → Prop} {ρ : List Value} {st : ASt} {a : Act} {h : List AB} {base : Nat}
mutual
/-- A value a told as r. -/
def sub0 : AV → AV → Prop
  | .any, _ => True
  | .gone, _ => False
  | .int k n, a => match a with
    | .int k' n' => cond (k' == k) (Need (n' = n)) False
    | _ => False
  | .lit b, a => match a with
    | .lit c => Need (c = b)
    | .sb c => Need (c = b)
    | _ => False
  | .sb b, a => match a with
    | .lit c => Need (c = b)
    | .sb c => Need (c = b)
    | _ => False
  | .str s, a => match a with
    | .str s' => Need (s' = s)
    | _ => False
  | .agg cs, a => match a with
    | .agg cs' => subs0 cs cs'
    | _ => False
  | .tup cs, a => match a with
    | .tup cs' => subs0 cs cs'
    | _ => False
  | .nil, a => match a with
    | .nil => True
    | _ => False
  | .sl sz n el, a => match a with
    | .sl sz' n' el' => cond (Nat.beq sz' sz) (Need (n' = n) ∧ ∀ i, i < n → cond (ones (el i)) (subs0 (el i) (el' i)) False) False
    | .nil => Need (n = 0)
    | _ => False
  | .rptr cs, a => match a with
    | .rptr cs' => cond (ones cs) (subs0 cs cs') False
    | _ => False
  | .fn f cs, a => match a with
    | .fn f' cs' => cond (Nat.beq f' f) (subs0 cs cs') False
    | _ => False
  | .iface t v, a => match a with
    | .iface t' v' => cond (Nat.beq t' t) (sub0 v v') False
    | _ => False
  | .nilI, a => match a with
    | .nilI => True
    | _ => False
  | .nilF, a => match a with
    | .nilF => True
    | _ => False
  | .nilP, a => match a with
    | .nilP => True
    | _ => False
  | .own _, _ => False
  | .ptr _ _, _ => False
  | .optr _ _ _ _, _ => False
def subs0 : List AV → List AV → Prop
  | [], as => match as with
    | [] => True
    | _ => False
  | r :: rs, as => match as with
    | [] => False
    | a :: as => sub0 r a ∧ subs0 rs as
end
def midx : List (Option Nat) → Nat → Option (Option Nat)
  | [], _ => none
  | x :: _, 0 => some x
  | _ :: l, i + 1 => midx l i
def inM (id : Nat) : List (Option Nat) → Bool
  | [] => false
  | some x :: l => cond (Nat.beq x id) true (inM id l)
  | none :: l => inM id l
def freeM (m : List (Option Nat)) : List Nat → Bool
  | [] => true
  | id :: l => !inM id m && freeM m l
mutual
/-- The same, of a frame's values: r's blocks are those that m names. -/
def sub (h : List AB) (m : List (Option Nat)) : AV → AV → Prop
  | .own j, a => match a with
    | .own id => match midx m j with
      | some (some x) => cond (Nat.beq x id) True False
      | _ => False
    | .nil => match midx m j with
      | some none => True
      | _ => False
    | _ => False
  | .ptr j o, a => match a with
    | .ptr id o' => match midx m j with
      | some (some x) => cond (Nat.beq x id && Nat.beq o' o) True False
      | _ => False
    | _ => False
  | .agg cs, a => match a with
    | .agg cs' => subs h m cs cs'
    | _ => False
  | .tup cs, a => match a with
    | .tup cs' => subs h m cs cs'
    | _ => False
  | .fn f cs, a => match a with
    | .fn f' cs' => cond (Nat.beq f' f) (subs h m cs cs') False
    | _ => False
  | .iface t v, a => match a with
    | .iface t' v' => cond (Nat.beq t' t) (sub h m v v') False
    | _ => False
  | r, a => cond (freeM m (ids a)) (sub0 r (fz h a)) False
def subs (h : List AB) (m : List (Option Nat)) : List AV → List AV → Prop
  | [], as => match as with
    | [] => True
    | _ => False
  | r :: rs, as => match as with
    | [] => False
    | a :: as => sub h m r a ∧ subs h m rs as
end
def entM (h : List AB) (m : List (Option Nat)) (x : Option Nat) : AB → Prop
  | .row e sz n el => match x with
    | none => Need (n = 0)
    | some id => match hAt h id with
      | .row e' sz' n' el' => cond (Nat.beq e' e && Nat.beq sz' sz) (Need (n' = n) ∧ ∀ i, i < n → cond (ones (el i)) (subs0 (el i) (el' i)) False) False
      | _ => False
  | .box t cs => match x with
    | none => False
    | some id => match hAt h id with
      | .box t' cs' => cond (Nat.beq t' t && ones cs) (subs h m cs cs') False
      | _ => False
  | .dead => True
  | _ => False
def nodupM : List (Option Nat) → Bool
  | [] => true
  | some x :: l => !inM x l && nodupM l
  | none :: l => nodupM l
def intoEnv (h : List AB) (m : List (Option Nat)) (se : List (Nat × AV)) : List (Nat × AV) → Prop
  | [] => True
  | (t, v) :: l => sub h m v (look se t) ∧ intoEnv h m se l
def intoHeap (h : List AB) (m : List (Option Nat)) : List AB → List (Option Nat) → Prop
  | [], [] => True
  | b :: bs, x :: xs => entM h m x b ∧ intoHeap h m bs xs
  | _, _ => False
/-- The state st may be told as I, its blocks by m. -/
def IntoM (st I : ASt) (m : List (Option Nat)) : Prop := cond (nodupM m && Nat.beq I.nt st.nt) (intoHeap st.heap m I.heap m ∧ intoEnv st.heap m st.env I.env) False
def findM (se : List (Nat × AV)) (j : Nat) : List (Nat × AV) → Option Nat
  | [] => none
  | (t, v) :: l => match v with
    | .own j' => cond (Nat.beq j' j) (match look se t with
      | .own id => some id
      | _ => none) (findM se j l)
    | .ptr j' _ => cond (Nat.beq j' j) (match look se t with
      | .ptr id _ => some id
      | _ => none) (findM se j l)
    | _ => findM se j l
def findMs (se env : List (Nat × AV)) (j : Nat) : List AB → List (Option Nat)
  | [] => []
  | _ :: l => findM se j env :: findMs se env (j + 1) l
/-- Blocks that are named in a box alone. -/
def findC (j : Nat) : List AV → List AV → Option Nat
  | [], _ => none
  | v :: cs, as => match as with
    | [] => none
    | a :: as => match v with
      | .own j' => cond (Nat.beq j' j) (match a with
        | .own id => some id
        | _ => none) (findC j cs as)
      | _ => findC j cs as
def findB (h : List AB) (j : Nat) : List AB → List (Option Nat) → Option Nat
  | [], _ => none
  | b :: bs, xs => match xs with
    | [] => none
    | x :: xs => match b with
      | .box _ cs => match x with
        | some id => match hAt h id with
          | .box _ cs' => match findC j cs cs' with
            | some y => some y
            | none => findB h j bs xs
          | _ => findB h j bs xs
        | none => findB h j bs xs
      | _ => findB h j bs xs
def fixM (h Ih : List AB) (m : List (Option Nat)) (j : Nat) : List (Option Nat) → List (Option Nat)
  | [] => []
  | x :: l => match x with
    | some y => some y :: fixM h Ih m (j + 1) l
    | none => findB h j Ih m :: fixM h Ih m (j + 1) l
def intoMs (h Ih : List AB) (m : List (Option Nat)) : List (Option Nat) := fixM h Ih m 0 m
def Into (st I : ASt) : Prop := IntoM st I (intoMs st.heap I.heap (findMs st.env I.env 0 I.heap))
/-! ### It serves -/
mutual
theorem sub0_ok : ∀ (r a : AV) (v : Value), sub0 r a → RV0 w S a v → RV0 w S r v
  | .any, a, v, _, _ => .any v
  | .gone, a, v, h, _ => (show False by simpa only [sub0] using h).elim
  | .int k n, a, v, h, hr => by
    simp only [sub0] at h
    split at h
    · rename_i k' n'
      cases hk : (k' == k) with
      | false => rw [hk] at h; exact h.elim
      | true =>
        rw [hk] at h
        obtain rfl : k' = k := by simpa using hk
        obtain rfl := h.out
        exact hr
    · exact h.elim
  | .lit b, a, v, h, hr => by
    simp only [sub0] at h
    split at h
    · obtain rfl := h.out; exact hr
    · obtain rfl := h.out; cases hr; exact .lit _
    · exact h.elim
  | .sb b, a, v, h, hr => by
    simp only [sub0] at h
    split at h
    · obtain rfl := h.out; cases hr; exact .sb _
    · obtain rfl := h.out; exact hr
    · exact h.elim
  | .str s, a, v, h, hr => by
    simp only [sub0] at h
    split at h
    · obtain rfl := h.out; exact hr
    · exact h.elim
  | .agg cs, a, v, h, hr => by
    simp only [sub0] at h
    split at h
    · cases hr with
      | agg _ vs hl hv =>
        have := subs0_ok cs _ h
        refine .agg cs vs (hl.trans this.1.symm) fun i x v h1 h2 => ?_
        obtain ⟨a, h3, h4⟩ := this.2 i x h1
        exact h4 v (hv i a v h3 h2)
    · exact h.elim
  | .tup cs, a, v, h, hr => by
    simp only [sub0] at h
    split at h
    · cases hr with
      | tup _ vs hl hv =>
        have := subs0_ok cs _ h
        refine .tup cs vs (hl.trans this.1.symm) fun i x v h1 h2 => ?_
        obtain ⟨a, h3, h4⟩ := this.2 i x h1
        exact h4 v (hv i a v h3 h2)
    · exact h.elim
  | .nil, a, v, h, hr => by
    simp only [sub0] at h
    split at h
    · exact hr
    · exact h.elim
  | .sl sz n el, a, v, h, hr => by
    simp only [sub0] at h
    split at h
    · rename_i sz' n' el'
      cases hz : Nat.beq sz' sz with
      | false => rw [hz] at h; exact h.elim
      | true =>
        rw [hz] at h
        obtain rfl := Nat.eq_of_beq_eq_true hz
        obtain ⟨⟨rfl⟩, h⟩ := h
        have hk : ∀ i, i < n' → ones (el i) = true ∧ subs0 (el i) (el' i) := fun i hi => by
          have := h i hi
          cases ho : ones (el i) with
          | false => rw [ho] at this; exact this.elim
          | true => rw [ho] at this; exact ⟨rfl, this⟩
        cases hr with
        | sl _ _ _ A cap g h1 h2 h3 h4 h5 =>
          refine .sl sz' n' el A cap g h1 h2 (fun i hi => ⟨(subs0_ok (el i) _ (hk i hi).2).1.trans (h3 i hi).1, (hk i hi).1⟩) h4 (fun i j x hi hx => ?_)
          obtain ⟨a, q1, q2⟩ := (subs0_ok (el i) _ (hk i hi).2).2 j x hx
          exact q2 _ (h5 i j a hi q1)
    · obtain rfl := h.out
      cases hr
      exact .sl sz 0 el none 0 (fun _ _ => undef) (Nat.le_refl _) (by unfold maxLen; omega) (fun i hi => by omega) (fun i j hi => by omega) (fun i j a hi => by omega)
    · exact h.elim
  | .rptr cs, a, v, h, hr => by
    simp only [sub0] at h
    split at h
    · cases ho : ones cs with
      | false => rw [ho] at h; exact h.elim
      | true =>
        rw [ho] at h
        cases hr with
        | rptr _ ad g h1 h2 h3 =>
          have := subs0_ok cs _ h
          refine .rptr cs ad g ho (fun j hj => h2 j (by rw [← this.1]; exact hj)) fun j x hx => ?_
          obtain ⟨a, q1, q2⟩ := this.2 j x hx
          exact q2 _ (h3 j a q1)
    · exact h.elim
  | .fn f cs, a, v, h, hr => by
    simp only [sub0] at h
    split at h
    · rename_i f' cs'
      cases hz : Nat.beq f' f with
      | false => rw [hz] at h; exact h.elim
      | true =>
        rw [hz] at h
        obtain rfl := Nat.eq_of_beq_eq_true hz
        cases hr with
        | fn _ _ vs hl hv =>
          have := subs0_ok cs _ h
          refine .fn f' cs vs (hl.trans this.1.symm) fun i x v h1 h2 => ?_
          obtain ⟨a, h3, h4⟩ := this.2 i x h1
          exact h4 v (hv i a v h3 h2)
    · exact h.elim
  | .iface t x, a, v, h, hr => by
    simp only [sub0] at h
    split at h
    · rename_i t' x'
      cases hz : Nat.beq t' t with
      | false => rw [hz] at h; exact h.elim
      | true =>
        rw [hz] at h
        obtain rfl := Nat.eq_of_beq_eq_true hz
        cases hr with
        | iface _ _ v hv => exact .iface t' x v (sub0_ok x x' v h hv)
    · exact h.elim
  | .nilI, a, v, h, hr => by
    simp only [sub0] at h
    split at h
    · exact hr
    · exact h.elim
  | .nilF, a, v, h, hr => by
    simp only [sub0] at h
    split at h
    · exact hr
    · exact h.elim
  | .nilP, a, v, h, hr => by
    simp only [sub0] at h
    split at h
    · exact hr
    · exact h.elim
  | .own _, a, v, h, hr => by simp only [sub0] at h
  | .ptr _ _, a, v, h, hr => by simp only [sub0] at h
  | .optr _ _ _ _, a, v, h, hr => by simp only [sub0] at h
theorem subs0_ok : ∀ (rs as : List AV), subs0 rs as → rs.length = as.length ∧ ∀ (i : Nat) (r : AV), rs[i]? = some r → ∃ a, as[i]? = some a ∧ ∀ v, RV0 w S a v → RV0 w S r v
  | [], as, h => by
    cases as with
    | nil => exact ⟨rfl, fun i r h => by simp at h⟩
    | cons a as => exact h.elim
  | r :: rs, as, h => by
    cases as with
    | nil => exact h.elim
    | cons a as =>
      obtain ⟨h1, h2⟩ := h
      obtain ⟨q1, q2⟩ := subs0_ok rs as h2
      refine ⟨by simp [q1], fun i x hx => ?_⟩
      cases i with
      | zero =>
        simp at hx
        subst hx
        exact ⟨a, rfl, fun v hv => sub0_ok r a v h1 hv⟩
      | succ i => exact q2 i x (by simpa using hx)
end
theorem inM_mem : ∀ (m : List (Option Nat)) (id : Nat), inM id m = true ↔ some id ∈ m
  | [], id => by simp [inM]
  | none :: m, id => by simp [inM, inM_mem m id]
  | some x :: m, id => by
    simp only [inM]
    cases hb : Nat.beq x id with
    | true =>
      obtain rfl := Nat.eq_of_beq_eq_true hb
      simp
    | false =>
      rw [cond_false, inM_mem m id]
      have hne : x ≠ id := fun e => by rw [e, Nat.beq_refl] at hb; cases hb
      simp [Ne.symm hne]
theorem midx_get : ∀ (m : List (Option Nat)) (j : Nat), midx m j = m[j]?
  | [], j => by simp [midx]
  | x :: m, 0 => by simp [midx]
  | x :: m, j + 1 => by simpa [midx] using midx_get m j
theorem freeM_mem : ∀ {m : List (Option Nat)} {l : List Nat}, freeM m l = true → ∀ id ∈ l, inM id m = false
  | m, [], _, id, hi => by cases hi
  | m, x :: l, h, id, hi => by
    simp only [freeM, Bool.and_eq_true, Bool.not_eq_true'] at h
    rcases List.mem_cons.1 hi with rfl | hi
    · exact h.1
    · exact freeM_mem h.2 id hi
theorem nodupM_get : ∀ (m : List (Option Nat)), nodupM m = true → ∀ (i j id : Nat), m[i]? = some (some id) → m[j]? = some (some id) → i = j
  | [], _, i, j, id, h, _ => by simp at h
  | x :: m, hn, i, j, id, h1, h2 => by
    have hm : nodupM m = true := by
      cases x with
      | none => exact hn
      | some y => simp only [nodupM, Bool.and_eq_true] at hn; exact hn.2
    have hx : ∀ k, x = some id → m[k]? = some (some id) → False := fun k e hk => by
      subst e
      simp only [nodupM, Bool.and_eq_true, Bool.not_eq_true'] at hn
      have := (inM_mem m id).2 (List.mem_of_getElem? hk)
      rw [hn.1] at this
      cases this
    cases i with
    | zero =>
      cases j with
      | zero => rfl
      | succ j => exact (hx j (by simpa using h1) (by simpa using h2)).elim
    | succ i =>
      cases j with
      | zero => exact (hx i (by simpa using h2) (by simpa using h1)).elim
      | succ j => rw [nodupM_get m hm i j id (by simpa using h1) (by simpa using h2)]
theorem frz_at : ∀ (l : List Nat) (h : List AB) (id : Nat), id ∉ l → hAt (frz h l) id = hAt h id
  | [], h, id, _ => rfl
  | x :: l, h, id, hn => by
    simp only [frz]
    rw [frz_at l _ id (fun hm => hn (List.mem_cons_of_mem _ hm)), frz1_at h x id (fun e => hn (e ▸ List.mem_cons_self))]
def mapρ (ρ : List Value) (m : List (Option Nat)) : List Value := m.map fun x => match x with
  | some id => ρ.getD id undef
  | none => .slice none 0 0
section
variable {m : List (Option Nat)} (hh : HR w S base ρ h) (hS' : ∀ b, Sx S ρ h ((List.range h.length).filter fun id => !inM id m) b → S' b) (hSS : ∀ b, S b → S' b)
include hh hS' hSS
theorem fz_free {a : AV} {v : Value} (hf : freeM m (ids a) = true) (hr : RV w S ρ a v) : RV0 w S' (fz h a) v := by
  refine (fz_ok hh hr).mono (fun b hb => ?_) (fun _ _ => rfl)
  rcases hb with hb | ⟨id, u, hi, hu, hk⟩
  · exact hSS b hb
  · refine hS' b (.inr ⟨id, u, List.mem_filter.2 ⟨List.mem_range.2 ?_, ?_⟩, hu, hk⟩)
    · rw [← hh.len]
      exact (List.getElem?_eq_some_iff.1 hu).1
    · rw [freeM_mem hf id hi]
      rfl
theorem sub_dflt {r a : AV} {v : Value} (h' : cond (freeM m (ids a)) (sub0 r (fz h a)) False) (hr : RV w S ρ a v) : RV w S' (mapρ ρ m) r v := by
  cases hf : freeM m (ids a) with
  | false => rw [hf] at h'; exact h'.elim
  | true =>
    rw [hf] at h'
    exact .st _ _ (sub0_ok r _ v h' (fz_free hh hS' hSS hf hr))
mutual
theorem sub_ok : ∀ (r a : AV) (v : Value), sub h m r a → RV w S ρ a v → RV w S' (mapρ ρ m) r v
  | .own j, a, v, h', hr => by
    simp only [sub] at h'
    split at h'
    · rename_i id
      split at h'
      · rename_i x hx
        cases hb : Nat.beq x id with
        | false => rw [hb] at h'; exact h'.elim
        | true =>
          obtain rfl := Nat.eq_of_beq_eq_true hb
          have hu := rv_own hr
          refine .own j v ?_ (hr.oneCell rfl)
          unfold mapρ
          rw [List.getElem?_map, ← midx_get, hx]
          simp [List.getD_eq_getElem?_getD, hu]
      · exact h'.elim
    · split at h'
      · rename_i hx
        obtain rfl := rv_nil hr
        refine .own j _ ?_ rfl
        unfold mapρ
        rw [List.getElem?_map, ← midx_get, hx]
        rfl
      · exact h'.elim
    · exact h'.elim
  | .ptr j o, a, v, h', hr => by
    simp only [sub] at h'
    split at h'
    · rename_i id o'
      split at h'
      · rename_i x hx
        cases hb : (Nat.beq x id && Nat.beq o' o) with
        | false => rw [hb] at h'; exact h'.elim
        | true =>
          simp only [Bool.and_eq_true] at hb
          obtain rfl := Nat.eq_of_beq_eq_true hb.1
          obtain rfl := Nat.eq_of_beq_eq_true hb.2
          obtain ⟨b, hu, rfl⟩ := rv_ptr hr
          refine .ptr j o' b ?_
          unfold mapρ
          rw [List.getElem?_map, ← midx_get, hx]
          simp [List.getD_eq_getElem?_getD, hu]
      · exact h'.elim
    · exact h'.elim
  | .agg cs, a, v, h', hr => by
    simp only [sub] at h'
    split at h'
    · obtain ⟨vs, rfl, hl, hv⟩ := rv_agg hr
      have := subs_ok cs _ h'
      refine .agg cs vs (hl.trans this.1.symm) fun i x v h1 h2 => ?_
      obtain ⟨a, h3, h4⟩ := this.2 i x h1
      exact h4 v (hv i a v h3 h2)
    · exact h'.elim
  | .tup cs, a, v, h', hr => by
    simp only [sub] at h'
    split at h'
    · obtain ⟨vs, rfl, hl, hv⟩ := rv_tup hr
      have := subs_ok cs _ h'
      refine .tup cs vs (hl.trans this.1.symm) fun i x v h1 h2 => ?_
      obtain ⟨a, h3, h4⟩ := this.2 i x h1
      exact h4 v (hv i a v h3 h2)
    · exact h'.elim
  | .fn f cs, a, v, h', hr => by
    simp only [sub] at h'
    split at h'
    · rename_i f' cs'
      cases hz : Nat.beq f' f with
      | false => rw [hz] at h'; exact h'.elim
      | true =>
        rw [hz] at h'
        obtain rfl := Nat.eq_of_beq_eq_true hz
        obtain ⟨vs, rfl, hl, hv⟩ := rv_fn hr
        have := subs_ok cs _ h'
        refine .fn f' cs vs (hl.trans this.1.symm) fun i x v h1 h2 => ?_
        obtain ⟨a, h3, h4⟩ := this.2 i x h1
        exact h4 v (hv i a v h3 h2)
    · exact h'.elim
  | .iface t x, a, v, h', hr => by
    simp only [sub] at h'
    split at h'
    · rename_i t' x'
      cases hz : Nat.beq t' t with
      | false => rw [hz] at h'; exact h'.elim
      | true =>
        rw [hz] at h'
        obtain rfl := Nat.eq_of_beq_eq_true hz
        obtain ⟨v, rfl, hv⟩ := rv_iface hr
        exact .iface t' x v (sub_ok x x' v h' hv)
    · exact h'.elim
  | .any, a, v, h', hr => .st _ _ (.any v)
  | .gone, a, v, h', hr => sub_dflt hh hS' hSS (by simpa only [sub] using h') hr
  | .int k n, a, v, h', hr => sub_dflt hh hS' hSS (by simpa only [sub] using h') hr
  | .lit b, a, v, h', hr => sub_dflt hh hS' hSS (by simpa only [sub] using h') hr
  | .sb b, a, v, h', hr => sub_dflt hh hS' hSS (by simpa only [sub] using h') hr
  | .str s, a, v, h', hr => sub_dflt hh hS' hSS (by simpa only [sub] using h') hr
  | .nil, a, v, h', hr => sub_dflt hh hS' hSS (by simpa only [sub] using h') hr
  | .sl sz n el, a, v, h', hr => sub_dflt hh hS' hSS (by simpa only [sub] using h') hr
  | .rptr cs, a, v, h', hr => sub_dflt hh hS' hSS (by simpa only [sub] using h') hr
  | .nilI, a, v, h', hr => sub_dflt hh hS' hSS (by simpa only [sub] using h') hr
  | .nilF, a, v, h', hr => sub_dflt hh hS' hSS (by simpa only [sub] using h') hr
  | .nilP, a, v, h', hr => sub_dflt hh hS' hSS (by simpa only [sub] using h') hr
  | .optr id sz i off, a, v, h', hr => sub_dflt hh hS' hSS (by simpa only [sub] using h') hr
theorem subs_ok : ∀ (rs as : List AV), subs h m rs as → rs.length = as.length ∧ ∀ (i : Nat) (r : AV), rs[i]? = some r → ∃ a, as[i]? = some a ∧ ∀ v, RV w S ρ a v → RV w S' (mapρ ρ m) r v
  | [], as, h' => by
    cases as with
    | nil => exact ⟨rfl, fun i r h => by simp at h⟩
    | cons a as => exact h'.elim
  | r :: rs, as, h' => by
    cases as with
    | nil => exact h'.elim
    | cons a as =>
      obtain ⟨h1, h2⟩ := h'
      obtain ⟨q1, q2⟩ := subs_ok rs as h2
      refine ⟨by simp [q1], fun i x hx => ?_⟩
      cases i with
      | zero =>
        simp at hx
        subst hx
        exact ⟨a, rfl, fun v hv => sub_ok r a v h1 hv⟩
      | succ i => exact q2 i x (by simpa using hx)
end
end
theorem intoHeap_get {m : List (Option Nat)} : ∀ (bs : List AB) (xs : List (Option Nat)), intoHeap h m bs xs → bs.length = xs.length ∧ ∀ j x, xs[j]? = some x → entM h m x (hAt bs j)
  | [], [], _ => ⟨rfl, fun j x hx => by simp at hx⟩
  | [], _ :: _, h' => h'.elim
  | _ :: _, [], h' => h'.elim
  | b :: bs, x :: xs, h' => by
    obtain ⟨h1, h2⟩ := h'
    obtain ⟨q1, q2⟩ := intoHeap_get bs xs h2
    refine ⟨by simp [q1], fun j y hy => ?_⟩
    cases j with
    | zero => simp at hy; subst hy; exact h1
    | succ j => exact q2 j y (by simpa using hy)
theorem intoEnv_get {m : List (Option Nat)} {se : List (Nat × AV)} : ∀ (l : List (Nat × AV)), intoEnv h m se l → ∀ t, look l t = .any ∨ sub h m (look l t) (look se t)
  | [], _, t => .inl rfl
  | (d, v) :: l, h', t => by
    obtain ⟨h1, h2⟩ := h'
    simp only [look]
    cases hb : Nat.beq d t with
    | true =>
      obtain rfl := Nat.eq_of_beq_eq_true hb
      exact .inr h1
    | false => exact intoEnv_get l h2 t
theorem into_ok {I : ASt} {m : List (Option Nat)} (hI : IntoM st I m) (hs : SR G st a w) : SR G I a w := by
  unfold IntoM at hI
  cases hc : (nodupM m && Nat.beq I.nt st.nt) with
  | false => rw [hc] at hI; exact hI.elim
  | true =>
    rw [hc] at hI
    simp only [Bool.and_eq_true] at hc
    obtain ⟨hnd, hnt⟩ := hc
    obtain ⟨hheap, henv⟩ := hI
    obtain ⟨S, ρ, hs⟩ := hs
    obtain ⟨S', hs', hSx⟩ := hs.frz ((List.range st.heap.length).filter fun id => !inM id m)
    have hSS : ∀ b, S b → S' b := fun b hb => (hSx b).2 (.inl hb)
    have hsub := fun r a v => sub_ok (m := m) hs.hr (fun b hb => (hSx b).2 hb) hSS r a v
    have hsubs := fun rs as => subs_ok (m := m) hs.hr (fun b hb => (hSx b).2 hb) hSS rs as
    obtain ⟨hlen, hent⟩ := intoHeap_get _ _ hheap
    have hkeep : ∀ id, some id ∈ m → hAt (frz st.heap ((List.range st.heap.length).filter fun id => !inM id m)) id = hAt st.heap id := fun id hm => frz_at _ _ _ fun hx => by
      have := (List.mem_filter.1 hx).2
      rw [(inM_mem m id).2 hm] at this
      cases this
    have hρ : ∀ j v, (mapρ ρ m)[j]? = some v → ∃ x, m[j]? = some x ∧ v = match x with | some id => ρ.getD id undef | none => .slice none 0 0 := fun j v hv => by
      unfold mapρ at hv
      rw [List.getElem?_map] at hv
      obtain ⟨x, h1, h2⟩ := Option.map_eq_some_iff.1 hv
      exact ⟨x, h1, h2.symm⟩
    -- a live entry's place
    have hlive : ∀ id b, hAt st.heap id = b → b ≠ .dead → ∃ v, ρ[id]? = some v ∧ ρ.getD id undef = v := fun id b hb hne => by
      have hlt : id < ρ.length := by
        rw [hs.hr.len]
        rcases Nat.lt_or_ge id st.heap.length with q | q
        · exact q
        · rw [hAt_big _ _ q] at hb
          exact absurd hb.symm hne
      exact ⟨ρ[id], List.getElem?_eq_getElem hlt, by simp [List.getD_eq_getElem?_getD, List.getElem?_eq_getElem hlt]⟩
    refine ⟨S', mapρ ρ m, hs'.lt, hs'.s0, hs'.sp, ⟨by unfold mapρ; simp [hlen], fun j v hv => ?_, fun i j v u k hij hv hu hk => ?_⟩, by rw [hs.nt, Nat.eq_of_beq_eq_true hnt], fun t => ?_, hs.bel, hs.dfr⟩
    · obtain ⟨x, hx, rfl⟩ := hρ j v hv
      have hE := hent j x hx
      cases hI : hAt I.heap j with
      | dead => trivial
      | fro => rw [hI] at hE; exact hE.elim
      | frb => rw [hI] at hE; exact hE.elim
      | mp => rw [hI] at hE; exact hE.elim
      | gh => rw [hI] at hE; exact hE.elim
      | row e sz n el =>
        rw [hI] at hE
        cases x with
        | none =>
          obtain rfl := Need.out hE
          exact ⟨⟨[], World.ownsRow_nil w _ e sz, fun i hi => by omega⟩, fun b hb => by cases hb⟩
        | some id =>
          simp only [entM] at hE
          split at hE
          · rename_i e' sz' n' el' hid
            cases hc : (Nat.beq e' e && Nat.beq sz' sz) with
            | false => rw [hc] at hE; exact hE.elim
            | true =>
              rw [hc] at hE
              simp only [Bool.and_eq_true] at hc
              obtain rfl := Nat.eq_of_beq_eq_true hc.1
              obtain rfl := Nat.eq_of_beq_eq_true hc.2
              obtain ⟨⟨rfl⟩, hel⟩ := hE
              obtain ⟨v, hv1, hv2⟩ := hlive id _ hid (by simp)
              have hE0 := hs'.hr.ent id v hv1
              rw [show hAt (st.setH (frz st.heap _)).heap id = _ from hkeep id (List.mem_of_getElem? hx), hid] at hE0
              obtain ⟨⟨inner, q1, q2⟩, q3⟩ := hE0
              dsimp only
              rw [hv2]
              refine ⟨⟨inner, q1, fun i hi => ?_⟩, q3⟩
              have h1 := hel i hi
              cases ho : ones (el i) with
              | false => rw [ho] at h1; exact h1.elim
              | true =>
                rw [ho] at h1
                have h2 := subs0_ok (w := w) (S := S') (el i) _ h1
                obtain ⟨r1, r2, r3⟩ := q2 i hi
                refine ⟨h2.1.trans r1, rfl, fun j x hx => ?_⟩
                obtain ⟨a, p1, p2⟩ := h2.2 j x hx
                obtain ⟨u, p3, p4⟩ := r3 j a p1
                exact ⟨u, p3, p2 u p4⟩
          · exact hE.elim
      | box t cs =>
        rw [hI] at hE
        cases x with
        | none => exact hE.elim
        | some id =>
          simp only [entM] at hE
          split at hE
          · rename_i t' cs' hid
            cases hc : (Nat.beq t' t && ones cs) with
            | false => rw [hc] at hE; exact hE.elim
            | true =>
              rw [hc] at hE
              simp only [Bool.and_eq_true] at hc
              obtain rfl := Nat.eq_of_beq_eq_true hc.1
              obtain ⟨v, hv1, hv2⟩ := hlive id _ hid (by simp)
              have hE0 := hs.hr.ent id v hv1
              rw [hid] at hE0
              obtain ⟨b, vs, rfl, q1, q2, q3, q4, q5⟩ := hE0
              dsimp only
              rw [hv2]
              have h2 := hsubs cs cs' hE
              refine ⟨b, vs, rfl, q1, q2, hc.2, ⟨q4.1.trans h2.1.symm, fun i y u hy hu => ?_⟩, ?_⟩
              · obtain ⟨a, p1, p2⟩ := h2.2 i y hy
                exact p2 u (q4.2 i a u p1 hu)
              · have hE1 := hs'.hr.ent id _ hv1
                rw [show hAt (st.setH (frz st.heap _)).heap id = _ from hkeep id (List.mem_of_getElem? hx), hid] at hE1
                obtain ⟨b', vs', e, _, _, _, _, r5⟩ := hE1
                cases e
                exact r5
          · exact hE.elim
    · obtain ⟨x, hx, rfl⟩ := hρ i v hv
      obtain ⟨y, hy, rfl⟩ := hρ j u hu
      have key : ∀ i x k, m[i]? = some x → blk (hAt I.heap i) (match x with | some id => ρ.getD id undef | none => Value.slice none 0 0) = some k → ∃ id v, x = some id ∧ ρ[id]? = some v ∧ blk (hAt st.heap id) v = some k := by
        intro i x k hx hk
        have hE := hent i x hx
        cases hI : hAt I.heap i with
        | dead => rw [hI] at hk; cases x <;> simp [blk] at hk
        | fro => rw [hI] at hE; exact hE.elim
        | frb => rw [hI] at hE; exact hE.elim
        | mp => rw [hI] at hE; exact hE.elim
        | gh => rw [hI] at hE; exact hE.elim
        | row e sz n el =>
          rw [hI] at hE hk
          cases x with
          | none => cases hk
          | some id =>
            simp only [entM] at hE
            split at hE
            · rename_i e' sz' n' el' hid
              obtain ⟨v, hv1, hv2⟩ := hlive id _ hid (by simp)
              dsimp only at hk
              rw [hv2] at hk
              exact ⟨id, v, rfl, hv1, by rw [hid]; exact hk⟩
            · exact hE.elim
        | box t cs =>
          rw [hI] at hE hk
          cases x with
          | none => exact hE.elim
          | some id =>
            simp only [entM] at hE
            split at hE
            · rename_i t' cs' hid
              obtain ⟨v, hv1, hv2⟩ := hlive id _ hid (by simp)
              dsimp only at hk
              rw [hv2] at hk
              have hE0 := hs.hr.ent id v hv1
              rw [hid] at hE0
              obtain ⟨b, vs, rfl, _⟩ := hE0
              exact ⟨id, _, rfl, hv1, by rw [hid]; exact hk⟩
            · exact hE.elim
      obtain ⟨id1, v1, rfl, r1, r2⟩ := key i x k hx hk
      intro hk2
      obtain ⟨id2, v2, rfl, s1, s2⟩ := key j y k hy hk2
      refine hs.hr.apart id1 id2 v1 v2 k (fun e => ?_) r1 s1 r2 s2
      subst e
      exact hij (nodupM_get m hnd i j id1 hx hy)
    · rcases intoEnv_get _ henv t with q | q
      · rw [q]; exact .st _ _ (.any _)
      · exact hsub _ _ _ q (hs.env t)
/-- A loop, by what holds at each round's head. -/
theorem AW.loop {c : Code} {Q : Exit → ASt → Prop} {ι : Type} (I : ι → ASt) (Gd : ι → Prop) (μ : ι → Nat) (i0 : ι) (h0 : Gd i0) (hst : Into st (I i0))
    (hstep : ∀ i, Gd i → AW P T c (thenE (fun st' => ∃ j, Gd j ∧ μ j < μ i ∧ Into st' (I j)) Q) (I i)) : AW P T (.loop c) Q st := by
  intro G a w hs
  refine wp_loop_rounds (μ i0 + 1) ?_
  have key : ∀ n i a w, μ i < n → Gd i → SR G (I i) a w → Code.rounds P c (fun e a' w' => ∃ st', Q e st' ∧ SR G st' a' w') n a w := by
    intro n
    induction n with
    | zero => intro i a w h; omega
    | succ n ih =>
      intro i a w hn hi hs
      refine wp_mono (hstep i hi G a w hs) fun e a' w' ⟨st', h1, h2⟩ => ?_
      cases e with
      | normal =>
        obtain ⟨j, hj, hlt, hin⟩ := h1
        exact ih j a' w' (by omega) hj (into_ok hin h2)
      | _ => exact ⟨st', h1, h2⟩
  exact key _ i0 a w (by omega) h0 (into_ok hst hs)
def jumpA (l : Nat) (J : ASt → Prop) (Q : Exit → ASt → Prop) : Exit → ASt → Prop
  | .goto l', st => l' = l ∧ J st
  | e, st => Q e st
theorem least_of {p : Nat → Prop} (h : ∃ n, p n) : ∃ n, p n ∧ ∀ m, p m → n ≤ m := by
  obtain ⟨n, hn⟩ := h
  induction n using Nat.strongRecOn with
  | _ n ih =>
    by_cases q : ∃ m, m < n ∧ p m
    · obtain ⟨m, h1, h2⟩ := q
      exact ih m h1 h2
    · exact ⟨n, hn, fun m hm => Nat.le_of_not_lt fun hlt => q ⟨m, hlt, hm⟩⟩
/-- A scope in which the run jumps back to one label. -/
theorem AW.scope {c rest : Code} {Q : Exit → ASt → Prop} {ι : Type} (l : Nat) (hf : findLabel c l = some rest) (I : ι → ASt) (Gd : ι → Prop) (μ : ι → Nat)
    (first : AW P T c (jumpA l (fun st' => ∃ j, Gd j ∧ Into st' (I j)) Q) st)
    (pass : ∀ i, Gd i → AW P T rest (jumpA l (fun st' => ∃ j, Gd j ∧ μ j < μ i ∧ Into st' (I j)) Q) (I i)) : AW P T (.scope c) Q st := by
  intro G a w hs
  classical
  have conv : ∀ {J : ASt → Prop} {J' : Act → World → Prop}, (∀ st a w, J st → SR G st a w → J' a w) → ∀ {c : Code} {a : Act} {w : World}, c.wp P (fun e a' w' => ∃ st', jumpA l J Q e st' ∧ SR G st' a' w') a w → c.wp P (Exit.jump l J' (fun e a' w' => ∃ st', Q e st' ∧ SR G st' a' w')) a w := by
    intro J J' hJ c a w h
    refine wp_mono h fun e a' w' ⟨st', h1, h2⟩ => ?_
    cases e with
    | goto l' => exact ⟨h1.1, hJ _ _ _ h1.2 h2⟩
    | _ => exact ⟨st', h1, h2⟩
  let At : Act → World → Nat → Prop := fun a w n => ∃ i, μ i = n ∧ Gd i ∧ SR G (I i) a w
  let m : Act → World → Nat := fun a w => if h : ∃ n, At a w n then (least_of h).choose else 0
  have hm : ∀ {a w i}, Gd i → SR G (I i) a w → m a w ≤ μ i := fun {a w i} hi hs => by
    have hex : ∃ n, At a w n := ⟨_, i, rfl, hi, hs⟩
    show (if h : ∃ n, At a w n then (least_of h).choose else 0) ≤ _
    rw [dif_pos hex]
    exact (least_of hex).choose_spec.2 _ ⟨i, rfl, hi, hs⟩
  refine wp_scope_jumps l (fun a w => ∃ i, Gd i ∧ SR G (I i) a w) m hf ?_ ?_
  · exact conv (fun st a w ⟨j, h1, h2⟩ hs => ⟨j, h1, into_ok h2 hs⟩) (first G a w hs)
  · rintro a w ⟨i0, hi0, hs0⟩
    have hex : ∃ n, At a w n := ⟨_, i0, rfl, hi0, hs0⟩
    obtain ⟨i, h1, h2, h3⟩ := (least_of hex).choose_spec.1
    have hmi : m a w = μ i := by
      show (if h : ∃ n, At a w n then (least_of h).choose else 0) = _
      rw [dif_pos hex, h1]
    exact conv (fun st a w ⟨j, q1, q2, q3⟩ hs => ⟨⟨j, q1, into_ok q3 hs⟩, by rw [hmi]; exact Nat.lt_of_le_of_lt (hm q1 (into_ok q3 hs)) q2⟩) (pass i h2 G a w h3)
/-- A scope without a jump. -/
theorem AW.straight {c : Code} {Q : Exit → ASt → Prop} (h : AW P T c (fun e st => match e with | .goto _ => False | e => Q e st) st) : AW P T (.scope c) Q st := by
  intro G a w hs
  refine wp_scope_straight (wp_mono (h G a w hs) fun e a' w' ⟨st', h1, h2⟩ => ?_)
  cases e with
  | goto l => exact h1
  | _ => exact ⟨st', h1, h2⟩
end Go.Abs
