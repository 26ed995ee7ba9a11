/- The engine: the value of an operation that changes no block is what the model's run gives. -/
import Derived.Test.YtjoplgehefncbaaDoorAbsOp
set_option linter.all false
namespace Go.Abs
open Go.RowKit
variable {P : Program} {C : Cfg} {T : World → Prop} {G : Gx T} {w w' : World} {S S' : Nat → Prop} {ρ : List Value} {st : ASt} {a : Act} {h : List AB} {base : Nat}
/-- What is to be shown of an operation. -/
def Runs (P : Program) (w : World) (S : Nat → Prop) (ρ : List Value) (a : Act) (o : Oper) (v : AV) : Prop := ∃ u, (execOp a.eval o).run P w = .ok (.value u) w ∧ RV w S ρ v u
theorem aval_index (hC : COKT P T C) (hs : SRi G S ρ st a w) {o : Oper} {t : TypeId} {x i : Operand} (ho : o.op = .indexAddr t x i) {c : Option Prop} {v : AV} (h : aval C o st = some (c, v)) (hc : ∀ p, c = some p → p) : Runs P w S ρ a o v := by
  simp only [aval, ho] at h
  have hx := ev_ok hs x
  have hi := ev_ok hs i
  split at h
  · rename_i k n he
    rw [he] at hi
    have ei := rv_int hi
    have hsl : ∀ {sz m : Nat} {el : Nat → List AV}, (cond (Nat.beq sz (C.elSz t) && Nat.blt 0 sz) (some (some (0 ≤ n ∧ n < (m : Int)), AV.rptr (el n.toNat))) none : VR) = some (c, v) → RV0 w S (.sl sz m el) (a.eval x) → Runs P w S ρ a o v := by
      intro sz m el h h0
      obtain ⟨hb, h⟩ := cond_some h
      simp only [Bool.and_eq_true] at hb
      obtain ⟨hz, hp⟩ := hb
      have hp : 0 < sz := Nat.le_of_ble_eq_true hp
      simp only [Option.some.injEq, Prod.mk.injEq] at h
      obtain ⟨rfl, rfl⟩ := h
      obtain ⟨hn0, hn1⟩ := hc _ rfl
      obtain ⟨e, info, hu, hie, hsz⟩ := elSz_ok hC hz (.inl hp)
      obtain ⟨nn, rfl⟩ : ∃ nn : Nat, n = nn := ⟨n.toNat, by omega⟩
      rw [Int.toNat_natCast]
      generalize hu2 : a.eval x = ux at h0
      cases h0 with
      | sl _ _ _ A cap g hcap hmax hl hm hr =>
        obtain ⟨ad, rfl, _, _⟩ := hm nn 0 (by omega) hp
        refine ⟨.pointer (some (ad.add (nn * sz))), ?_, .st _ _ (.rptr _ _ (g nn) (hl nn (by omega)).2 (fun j hj => ?_) (fun j y hy => hr nn j y (by omega) hy))⟩
        · simp only [execOp, ho, Instr.indexAt, ei, hu2, asIntOf, Sem.run_bind, Sem.run_pure, Result.andThen_ok, run_underlying hu]
          rw [if_pos ⟨by omega, by omega⟩]
          simp [run_sizeOf hie, hsz]
        · rw [(hl nn (by omega)).1] at hj
          obtain ⟨ad', e1, h2, h3⟩ := hm nn j (by omega) hj
          cases e1
          have e2 : (ad.add (nn * sz)).block = ad.block := by unfold Addr.add; split <;> rfl
          have e3 : (ad.add (nn * sz)).add j = ad.add (nn * sz + j) := by
            unfold Addr.add
            by_cases q1 : nn * sz = 0
            · simp [q1]
            · by_cases q2 : j = 0
              · subst q2; simp [q1]
              · simp [q1, q2, Nat.add_assoc]
          exact ⟨e2 ▸ h2, by rw [e3]; exact h3⟩
    split at h
    · rename_i id hid
      rw [hid] at hx
      have hu := rv_own hx
      have hE := hs.hr.ent id _ hu
      split at h
      · rename_i e sz m el he2
        obtain ⟨hb, h⟩ := cond_some h
        simp only [Bool.and_eq_true] at hb
        obtain ⟨hz, hp⟩ := hb
        have hp : 0 < sz := Nat.le_of_ble_eq_true hp
        simp only [Option.some.injEq, Prod.mk.injEq] at h
        obtain ⟨rfl, rfl⟩ := h
        obtain ⟨hn0, hn1⟩ := hc _ rfl
        rw [he2] at hE
        obtain ⟨⟨inner, hown, hel⟩, _⟩ := hE
        rcases hown.2 with ⟨e1, e2⟩ | ⟨g, cap, cur, e1, hb, hg, hnc, hcm, hcs, htk⟩
        · omega
        · obtain ⟨e2, info, hu2, hie, hsz⟩ := elSz_ok hC hz (.inl hp)
          obtain ⟨nn, rfl⟩ : ∃ nn : Nat, n = nn := ⟨n.toNat, by omega⟩
          rw [Int.toNat_natCast]
          refine ⟨.pointer (some ⟨g, nn * sz + 0, none⟩), ?_, .optr id sz nn 0 g m cap (e1 ▸ hu) (by omega)⟩
          simp only [execOp, ho, Instr.indexAt, ei, e1, asIntOf, Sem.run_bind, Sem.run_pure, Result.andThen_ok, run_underlying hu2]
          rw [if_pos ⟨by omega, by omega⟩]
          simp [run_sizeOf hie, hsz, Addr.add_lit]
      · rename_i sz m el he2
        rw [he2] at hE
        exact hsl h hE
      · cases h
    · rename_i sz m el hid
      rw [hid] at hx
      obtain ⟨A, cap, _, h0⟩ := rv_sl hx
      exact hsl h h0
    · cases h
  · cases h
theorem aval_fieldAddr (hC : COKT P T C) (hs : SRi G S ρ st a w) {o : Oper} {t : TypeId} {x : Operand} {f : Nat} (ho : o.op = .fieldAddr t x f) {c : Option Prop} {v : AV} (h : aval C o st = some (c, v)) (hc : ∀ p, c = some p → p) : Runs P w S ρ a o v := by
  simp only [aval, ho] at h
  have hx := ev_ok hs x
  split at h
  · rename_i i hi
    split at h
    · rename_i o' n g hf
      obtain ⟨fields, fd, info, hu, hfd, hof, hie, hsz, hn, _, _⟩ := fld_ok hC hi hf
      have run : ∀ ad : Addr, a.eval x = .pointer (some ad) → (execOp a.eval o).run P w = .ok (.value (.pointer (some (ad.add o')))) w := by
        intro ad e
        have : ¬ info.size = 0 := by omega
        simp [execOp, ho, Instr.fieldAt, run_underlying hu, hfd, e, Instr.sureAddr, fieldPlace, run_sizeOf hie, this, hof]
      split at h
      · rename_i id off he
        rw [he] at hx
        simp only [Option.some.injEq, Prod.mk.injEq] at h
        obtain ⟨rfl, rfl⟩ := h
        obtain ⟨b, hb, e⟩ := rv_ptr hx
        refine ⟨_, run _ e, ?_⟩
        rw [Addr.add_lit]
        exact .ptr id _ b hb
      · rename_i cs he
        rw [he] at hx
        simp only [Option.some.injEq, Prod.mk.injEq] at h
        obtain ⟨rfl, rfl⟩ := h
        obtain ⟨ad, e, h0⟩ := rv_rptr hx
        rw [e] at h0
        exact ⟨_, run _ e, .st _ _ (rptr_drop h0 o')⟩
      · rename_i id sz i' off he
        rw [he] at hx
        simp only [Option.some.injEq, Prod.mk.injEq] at h
        obtain ⟨rfl, rfl⟩ := h
        obtain ⟨b, m, cap, hb, hi2, e⟩ := rv_optr hx
        refine ⟨_, run _ e, ?_⟩
        rw [Addr.add_lit, Nat.add_assoc]
        exact .optr id sz i' _ b m cap hb hi2
      · cases h
    · cases h
  · cases h
theorem aval_load (hC : COKT P T C) (hs : SRi G S ρ st a w) {o : Oper} {t : TypeId} {x : Operand} (ho : o.op = .load t x) {c : Option Prop} {v : AV} (h : aval C o st = some (c, v)) : Runs P w S ρ a o v := by
  simp only [aval, ho] at h
  have hx := ev_ok hs x
  split at h
  · rename_i i hi
    split at h
    · rename_i cs hm
      obtain ⟨hb, h⟩ := cond_some h
      simp only [Bool.and_eq_true] at hb
      simp only [Option.some.injEq, Prod.mk.injEq] at h
      obtain ⟨rfl, rfl⟩ := h
      obtain ⟨ad, vs, e, hv, hcell⟩ := memAt_ok hs.hr hx hm
      obtain ⟨u, hrun, hu⟩ := load_ok (hC.ty t i hi) hv hcell (Nat.le_of_ble_eq_true hb.1) (Nat.le_of_ble_eq_true hb.2)
      refine ⟨u, ?_, hu⟩
      simp [execOp, ho, e, hrun]
    · cases h
  · cases h
theorem rvs_cons {a : AV} {as : List AV} {xs : List Value} (h : RVs w S ρ (a :: as) xs) : ∃ x r, xs = x :: r ∧ RV w S ρ a x ∧ RVs w S ρ as r := by
  match xs, h with
  | [], h => exact absurd h.1 (by simp)
  | x :: r, h => exact ⟨x, r, rfl, h.2 0 a x rfl rfl, by simpa using h.1, fun i b v h1 h2 => h.2 (i + 1) b v h1 h2⟩
theorem fits_ok : ∀ {ks : List EK} {cs : List AV} {xs : List Value}, fitsA ks cs = true → RVs w S ρ cs xs → fitsK ks xs
  | [], cs, xs, h, hx => by
    cases cs with
    | nil =>
      match xs, hx.1 with
      | [], _ => trivial
    | cons => cases h
  | k :: ks, [], xs, h, hx => by cases h
  | k :: ks, a :: as, xs, h, hx => by
    obtain ⟨x, r, rfl, h1, h2⟩ := rvs_cons hx
    cases k with
    | i k =>
      simp only [fitsA] at h
      split at h
      · rename_i k' n
        rw [Bool.and_eq_true] at h
        obtain rfl := eq_of_beq h.1
        exact ⟨⟨n, rv_int h1⟩, fits_ok h.2 h2⟩
      · cases h
    | b =>
      simp only [fitsA] at h
      split at h
      · rename_i b hb
        exact ⟨⟨b, bval_rv hb h1⟩, fits_ok h h2⟩
      · cases h
    | s =>
      simp only [fitsA] at h
      split at h
      · rename_i s
        exact ⟨⟨s, rv_str h1⟩, fits_ok h h2⟩
      · cases h
theorem eqA_ok : ∀ {ks : List EK} {cs ds : List AV} {xs ys : List Value}, fitsA ks cs = true → fitsA ks ds = true → RVs w S ρ cs xs → RVs w S ρ ds ys → eqV xs ys = eqA cs ds
  | [], cs, ds, xs, ys, h, g, hx, hy => by
    cases cs with
    | nil =>
      match xs, hx.1 with
      | [], _ => simp [eqV, eqA]
    | cons => cases h
  | k :: ks, [], ds, xs, ys, h, g, hx, hy => by cases h
  | k :: ks, _ :: _, [], xs, ys, h, g, hx, hy => by cases g
  | k :: ks, a :: as, b :: bs, xs, ys, h, g, hx, hy => by
    obtain ⟨x, r, rfl, h1, h2⟩ := rvs_cons hx
    obtain ⟨y, q, rfl, g1, g2⟩ := rvs_cons hy
    cases k with
    | i k =>
      simp only [fitsA] at h g
      split at h
      · split at g
        · rw [Bool.and_eq_true] at h g
          rw [rv_int h1, rv_int g1]
          simp only [eqV, eqA, eqA_ok h.2 g.2 h2 g2]
        · cases g
      · cases h
    | b =>
      simp only [fitsA] at h g
      split at h
      · rename_i p hp
        split at g
        · rename_i q hq
          rw [bval_rv hp h1, bval_rv hq g1]
          have e := eqA_ok h g h2 g2
          cases a with
          | lit c =>
            cases b with
            | lit d =>
              simp only [bval, Option.some.injEq] at hp hq
              subst hp hq
              simp only [eqV, eqA, bval, e]
            | sb d =>
              simp only [bval, Option.some.injEq] at hp hq
              subst hp hq
              simp only [eqV, eqA, bval, e]
            | _ => cases hq
          | sb c =>
            cases b with
            | lit d =>
              simp only [bval, Option.some.injEq] at hp hq
              subst hp hq
              simp only [eqV, eqA, bval, e]
            | sb d =>
              simp only [bval, Option.some.injEq] at hp hq
              subst hp hq
              simp only [eqV, eqA, bval, e]
            | _ => cases hq
          | _ => cases hp
        · cases g
      · cases h
    | s =>
      simp only [fitsA] at h g
      split at h
      · split at g
        · rw [rv_str h1, rv_str g1]
          simp only [eqV, eqA, eqA_ok h g h2 g2]
        · cases g
      · cases h
theorem aval_binOp (hC : COKT P T C) (hs : SRi G S ρ st a w) {o : Oper} {op : BinOp} {t ty : TypeId} {x y : Operand} (ho : o.op = .binOp op t x y ty) {c : Option Prop} {v : AV} (h : aval C o st = some (c, v)) (hc : ∀ p, c = some p → p) : Runs P w S ρ a o v := by
  simp only [aval, ho] at h
  have hx := ev_ok hs x
  have hy := ev_ok hs y
  split at h
  · rename_i k n he
    rw [he] at hx
    have ex := rv_int hx
    split at h
    · rename_i k' m he2
      rw [he2] at hy
      have ey := rv_int hy
      have key : ∀ hk : k = k' ∨ op = .shl ∨ op = .shr, intOp op k n m = some (c, v) → Runs P w S ρ a o v := by
        intro hk h
        obtain ⟨u, hr, hv⟩ := intOp_ok (P := P) (S := S) (ρ := ρ) t k' hk h hc w
        refine ⟨u, ?_, hv⟩
        simp [execOp, ho, ex, ey, hr, eqGuard_at_int]
      split at h
      · exact key (.inr (.inl rfl)) h
      · exact key (.inr (.inr rfl)) h
      · unfold sameKind at h
        cases hk : k == k' with
        | true => rw [hk] at h; exact key (.inl (by simpa using hk)) h
        | false => rw [hk] at h; cases h
    · cases h
  · rename_i s he
    rw [he] at hx
    have ex := rv_str hx
    split at h
    · rename_i s' he2
      rw [he2] at hy
      have ey := rv_str hy
      obtain ⟨u, hr, hv⟩ := strOp_ok (P := P) (S := S) (ρ := ρ) t h hc w
      refine ⟨u, ?_, hv⟩
      simp [execOp, ho, ex, ey, hr, eqGuard_at_string]
    · cases h
  · rename_i cs he
    rw [he] at hx
    obtain ⟨xs, ex, hxs⟩ := rv_agg hx
    split at h
    · rename_i ds he2
      rw [he2] at hy
      obtain ⟨ys, ey, hys⟩ := rv_agg hy
      unfold sqOp at h
      split at h
      · rename_i ks hks
        obtain ⟨hb, h⟩ := cond_some h
        rw [Bool.and_eq_true] at hb
        obtain ⟨hg, hE⟩ := hC.seq t ks hks
        have f1 := fits_ok hb.1 hxs
        have f2 := fits_ok hb.2 hys
        have e1 := eqA_ok hb.1 hb.2 hxs hys
        have hE := hE xs ys f1 f2 w
        split at h
        · simp only [Option.some.injEq, Prod.mk.injEq] at h
          obtain ⟨rfl, rfl⟩ := h
          refine ⟨.bool (eqA cs ds), ?_, .st _ _ (.sb _)⟩
          simp [execOp, ho, ex, ey, run_eqGuard_agg w _ t _ _ _ _ hg, run_eql_struct, hE, e1]
        · simp only [Option.some.injEq, Prod.mk.injEq] at h
          obtain ⟨rfl, rfl⟩ := h
          refine ⟨.bool (!(eqA cs ds)), ?_, .st _ _ (.sb _)⟩
          simp [execOp, ho, ex, ey, run_eqGuard_agg w _ t _ _ _ _ hg, run_neq_struct, hE, e1]
        · cases h
      · cases h
    · cases h
  · split at h
    · rename_i p q hp hq
      have ex := bval_rv hp hx
      have ey := bval_rv hq hy
      unfold boolOp at h
      split at h
      · rename_i hb
        obtain ⟨i, hi, he⟩ := tyD_ok hC hb (by simp)
        obtain ⟨d, info, z, hu, _, _, _, _, _, hT, _, _⟩ := hC.ty t i hi
        rw [he] at hT
        simp only [TDok] at hT
        rw [hT] at hu
        split at h
        · simp only [Option.some.injEq, Prod.mk.injEq] at h
          obtain ⟨rfl, rfl⟩ := h
          exact ⟨.bool (p == q), by simp [execOp, ho, ex, ey, run_eql_bool w t p q hu, eqGuard_at_bool], .st _ _ (.sb _)⟩
        · simp only [Option.some.injEq, Prod.mk.injEq] at h
          obtain ⟨rfl, rfl⟩ := h
          exact ⟨.bool (p != q), by simp [execOp, ho, ex, ey, run_neq_bool w t p q hu, eqGuard_at_bool, bne], .st _ _ (.sb _)⟩
        · cases h
      · cases h
    · cases h
theorem aval_unOp (hC : COKT P T C) (hs : SRi G S ρ st a w) {o : Oper} {op : UnOp} {t : TypeId} {x : Operand} (ho : o.op = .unOp op t x) {c : Option Prop} {v : AV} (h : aval C o st = some (c, v)) : Runs P w S ρ a o v := by
  simp only [aval, ho] at h
  have hx := ev_ok hs x
  split at h
  · split at h
    · rename_i b he
      rw [he] at hx
      simp only [Option.some.injEq, Prod.mk.injEq] at h
      obtain ⟨rfl, rfl⟩ := h
      exact ⟨_, by simp [execOp, ho, rv_lit hx, Op.unary], .st _ _ (.lit _)⟩
    · rename_i b he
      rw [he] at hx
      simp only [Option.some.injEq, Prod.mk.injEq] at h
      obtain ⟨rfl, rfl⟩ := h
      exact ⟨_, by simp [execOp, ho, rv_sb hx, Op.unary], .st _ _ (.sb _)⟩
    · cases h
  · split at h
    · rename_i k n he
      rw [he] at hx
      simp only [Option.some.injEq, Prod.mk.injEq] at h
      obtain ⟨rfl, rfl⟩ := h
      exact ⟨_, by simp [execOp, ho, rv_int hx, Op.unary, Op.intArith], .st _ _ (.int _ _)⟩
    · cases h
  · cases h
theorem aval_nilCheck (hC : COKT P T C) (hs : SRi G S ρ st a w) {o : Oper} {x : Operand} (ho : o.op = .nilCheck x) {c : Option Prop} {v : AV} (h : aval C o st = some (c, v)) : Runs P w S ρ a o v := by
  simp only [aval, ho] at h
  have hx := ev_ok hs x
  split at h
  · rename_i cs he
    rw [he] at hx
    simp only [Option.some.injEq, Prod.mk.injEq] at h
    obtain ⟨rfl, rfl⟩ := h
    obtain ⟨ad, e, h0⟩ := rv_rptr hx
    exact ⟨_, by simp [execOp, ho, e], e ▸ hx⟩
  · rename_i id off he
    rw [he] at hx
    simp only [Option.some.injEq, Prod.mk.injEq] at h
    obtain ⟨rfl, rfl⟩ := h
    obtain ⟨b, hb, e⟩ := rv_ptr hx
    exact ⟨_, by simp [execOp, ho, e], e ▸ hx⟩
  · rename_i id sz i off he
    rw [he] at hx
    simp only [Option.some.injEq, Prod.mk.injEq] at h
    obtain ⟨rfl, rfl⟩ := h
    obtain ⟨b, m, cap, hb, hi2, e⟩ := rv_optr hx
    exact ⟨_, by simp [execOp, ho, e], e ▸ hx⟩
  · rename_i f cs he
    rw [he] at hx
    simp only [Option.some.injEq, Prod.mk.injEq] at h
    obtain ⟨rfl, rfl⟩ := h
    obtain ⟨vs, e, _⟩ := rv_fn hx
    exact ⟨_, by simp [execOp, ho, e], e ▸ hx⟩
  · cases h
theorem aval_field (hC : COKT P T C) (hs : SRi G S ρ st a w) {o : Oper} {t : TypeId} {x : Operand} {f : Nat} (ho : o.op = .field t x f) {c : Option Prop} {v : AV} (h : aval C o st = some (c, v)) : Runs P w S ρ a o v := by
  simp only [aval, ho] at h
  have hx := ev_ok hs x
  split at h
  · rename_i i hi
    split at h
    · rename_i o' n g hf
      split at h
      · rename_i cs he
        rw [he] at hx
        obtain ⟨hb, h⟩ := cond_some h
        simp only [Bool.and_eq_true] at hb
        simp only [Option.some.injEq, Prod.mk.injEq] at h
        obtain ⟨rfl, rfl⟩ := h
        obtain ⟨vs, e, hv⟩ := rv_agg hx
        obtain ⟨u, hr, hu⟩ := agg_part hC hi hf hv (Nat.le_of_ble_eq_true hb.1) (Nat.le_of_ble_eq_true hb.2) w
        exact ⟨u, by simp [execOp, ho, e, hr], hu⟩
      · cases h
    · cases h
  · cases h
theorem aval_strIndex (hC : COKT P T C) (hs : SRi G S ρ st a w) {o : Oper} {t : TypeId} {x i : Operand} (ho : o.op = .index t x i) {c : Option Prop} {v : AV} (h : aval C o st = some (c, v)) (hc : ∀ p, c = some p → p) : Runs P w S ρ a o v := by
  simp only [aval, ho] at h
  have hx := ev_ok hs x
  have hi := ev_ok hs i
  split at h
  · rename_i s he
    rw [he] at hx
    split at h
    · rename_i k n he2
      rw [he2] at hi
      obtain ⟨hb, h⟩ := cond_some h
      simp only [Option.some.injEq, Prod.mk.injEq] at h
      obtain ⟨rfl, rfl⟩ := h
      obtain ⟨h1, h2⟩ := hc _ rfl
      have hu := isStr_ok hC hb
      obtain ⟨m, rfl⟩ : ∃ m : Nat, n = m := ⟨n.toNat, by omega⟩
      have hm : m < s.size := by omega
      have hm2 : m < s.data.toList.length := by simpa using hm
      refine ⟨_, ?_, .st _ _ (.int _ _)⟩
      simp only [execOp, ho, Instr.index, rv_str hx, rv_int hi, asIntOf, Sem.run_bind, Sem.run_pure, Result.andThen_ok, run_underlying hu]
      rw [if_pos h1, Int.toNat_natCast]
      have : s[m]? = some s[m] := by simp [hm]
      rw [this]
      simp only [Sem.run_pure, Result.andThen_ok, List.getD_eq_getElem?_getD, List.getElem?_eq_getElem hm2]
      rfl
    · cases h
  · cases h
theorem aval_extract (hC : COKT P T C) (hs : SRi G S ρ st a w) {o : Oper} {x : Operand} {i : Nat} (ho : o.op = .extract x i) {c : Option Prop} {v : AV} (h : aval C o st = some (c, v)) : Runs P w S ρ a o v := by
  simp only [aval, ho] at h
  have hx := ev_ok hs x
  split at h
  · rename_i vs he
    rw [he] at hx
    obtain ⟨hb, h⟩ := cond_some h
    simp only [Option.some.injEq, Prod.mk.injEq] at h
    obtain ⟨rfl, rfl⟩ := h
    obtain ⟨us, e, hv⟩ := rv_tup hx
    have hlt : i < us.length := by rw [hv.1]; exact Nat.le_of_ble_eq_true hb
    refine ⟨us[i], ?_, hv.nth (List.getElem?_eq_getElem hlt)⟩
    simp [execOp, ho, e, Instr.extract, hlt]
  · cases h
theorem isU8s_ok (hC : COKT P T C) {t : TypeId} (h : isU8s C t = true) : ∃ e, P.underlying t = some (.slice e) ∧ P.underlying e = some (.int .u8) := by
  unfold isU8s at h
  split at h
  · rename_i e he
    split at h
    · rename_i k hk
      obtain rfl := eq_of_beq h
      obtain ⟨i, hi, hd⟩ := tyD_ok hC he (by simp)
      obtain ⟨d, info, z, hu, _, _, _, _, _, hT, _, _⟩ := hC.ty t i hi
      rw [hd] at hT
      simp only [TDok] at hT
      rw [hT] at hu
      exact ⟨e, hu, isInt_ok hC hk⟩
    · cases h
  · cases h
theorem strOf_run {n cap : Nat} {el : Nat → List AV} {A : Option Addr} (h : RV0 w S (.sl 1 n el) (.slice A n cap)) (hu : ∀ i, i < n → (u8v (el i)).isSome = true) : (Conv.bytesToString (.slice A n cap)).run P w = .ok (.string (elStr n el)) w := by
  cases h with
  | sl _ _ _ _ _ g hcap hmax hl hm hr =>
    have hg : ∀ i, i < n → g i 0 = .int .u8 ((u8v (el i)).getD 0) := fun i hi => by
      have h1 := hu i hi
      have h2 := hr i 0
      revert h1 h2
      generalize el i = cs
      intro h1 h2
      match cs, h1, h2 with
      | [a], h1, h2 =>
        have h3 := h2 a hi rfl
        cases a with
        | int k m =>
          simp only [u8v] at h1 ⊢
          cases hk : k == IntKind.u8 with
          | true =>
            obtain rfl := eq_of_beq hk
            generalize g i 0 = u at h3
            cases h3
            rfl
          | false => rw [hk] at h1; cases h1
        | _ => cases h1
    cases n with
    | zero =>
      cases A with
      | none =>
        simp [Conv.bytesToString]
        rfl
      | some ad =>
        have := run_bytesToString (P := P) w ad 0 cap [] (by rw [show (([] : List Int).map (Value.int .u8)).toArray = #[] from rfl]; exact run_loadCells_list (P := P) w ad [] (fun j x hx => by cases hx))
        exact this
    | succ n =>
      obtain ⟨ad, rfl, _, _⟩ := hm 0 0 (Nat.succ_pos _) (by omega)
      have := run_bytesToString (P := P) w ad (n + 1) cap ((List.range (n + 1)).map fun i => (u8v (el i)).getD 0) (by
        have hl := run_loadCells_list (P := P) w ad (((List.range (n + 1)).map fun i => (u8v (el i)).getD 0).map (Value.int .u8)) (fun j x hx => by
          rw [List.map_map, List.getElem?_map] at hx
          by_cases hj : j < n + 1
          · rw [List.getElem?_range hj] at hx
            obtain rfl := Option.some.inj hx
            obtain ⟨ad', e, _, hc⟩ := hm j 0 hj (by omega)
            cases e
            rw [hg j hj] at hc
            refine Eq.trans ?_ hc
            simp
          · rw [List.getElem?_eq_none (by rw [List.length_range]; omega)] at hx
            cases hx)
        rw [List.length_map, List.length_map, List.length_range] at hl
        exact hl)
      exact this
theorem aval_convert (hC : COKT P T C) (hs : SRi G S ρ st a w) {o : Oper} {src dst : TypeId} {x : Operand} (ho : o.op = .convert src dst x) {c : Option Prop} {v : AV} (h : aval C o st = some (c, v)) (hc : ∀ p, c = some p → p) : Runs P w S ρ a o v := by
  simp only [aval, ho] at h
  have hx := ev_ok hs x
  split at h
  · rename_i k hk
    split at h
    · rename_i k' n he
      rw [he] at hx
      split at h
      · rename_i i hi
        simp only [Option.some.injEq, Prod.mk.injEq] at h
        obtain ⟨rfl, rfl⟩ := h
        obtain ⟨d, _, _, hu, _⟩ := hC.ty src i hi
        have hd := isInt_ok hC hk
        exact ⟨_, by simp [execOp, ho, convert, run_underlying hu, run_underlying hd, rv_int hx, Conv.intToInt], .st _ _ (.int _ _)⟩
      · cases h
    · cases h
  · obtain ⟨hb, h⟩ := cond_some h
    rw [Bool.and_eq_true] at hb
    split at h
    · rename_i sz n el hsl
      obtain ⟨hb2, h⟩ := cond_some h
      obtain rfl := Nat.eq_of_beq_eq_true hb2
      have h := Prod.mk.inj (Option.some.inj h)
      obtain ⟨rfl, rfl⟩ := h
      have hc := hc _ rfl
      obtain ⟨A, cap, e, h0⟩ := asSl_ok hs.hr hx hsl
      obtain ⟨eT, hsrc, he⟩ := isU8s_ok hC hb.2
      have hd := isStr_ok hC hb.1
      refine ⟨_, ?_, .st _ _ (.str _)⟩
      rw [e] at h0
      have hrun := strOf_run (P := P) h0 hc
      have hcv := (run_convert_bytes_string w src dst eT A n cap hsrc he hd).trans hrun
      simp [execOp, ho, e, hcv]
    · cases h
theorem aval_makeFunc (hC : COKT P T C) (hs : SRi G S ρ st a w) {o : Oper} {fn : Go.Fn} {first caps : Array Operand} (ho : o.op = .makeFunc fn first caps) {c : Option Prop} {v : AV} (h : aval C o st = some (c, v)) : Runs P w S ρ a o v := by
  simp only [aval, ho] at h
  split at h
  · rename_i f
    split at h
    · rename_i hf
      simp only [Option.some.injEq, Prod.mk.injEq] at h
      obtain ⟨rfl, rfl⟩ := h
      have hv := evs_ok hs caps.toList
      have e1 : first = #[] := by simpa using hf
      refine ⟨_, ?_, .fn f _ (caps.toList.map a.eval) hv.1 hv.2⟩
      simp only [execOp, ho, Instr.makeFunc, e1, Array.map_empty, Sem.run_bind, Sem.run_pure, Result.andThen_ok]
      congr 3
      apply Array.ext'
      simp
    · cases h
  · cases h
theorem evParts_get : ∀ (ps : List (Nat × Operand)) (j : Nat), (evParts st ps)[j]? = (ps[j]?).map fun p => (p.1, cells (ev st p.2))
  | [], j => by simp [evParts]
  | p :: ps, 0 => by simp [evParts]
  | p :: ps, j + 1 => by simpa [evParts] using evParts_get ps j
theorem evParts_len : ∀ (ps : List (Nat × Operand)), (evParts st ps).length = ps.length
  | [] => rfl
  | p :: ps => by simp [evParts, evParts_len ps]
theorem cells_ok {v : AV} {u : Value} (hr : RV w S ρ v u) (ho : ones (cells v) = true) : RVs w S ρ (cells v) u.cells.toList := by
  cases v with
  | agg cs =>
    obtain ⟨vs, rfl, hv⟩ := rv_agg hr
    simpa [cells, Value.cells] using hv
  | any => simp [cells, ones, one] at ho
  | gone => simp [cells, ones, one] at ho
  | tup vs => simp [cells, ones, one] at ho
  | _ =>
    have h1 := hr.oneCell (by simp [one])
    have hc : u.cells = #[u] := by cases u <;> first | rfl | (simp [Value.oneCell'] at h1)
    rw [hc]
    refine ⟨rfl, fun i x v hx hv => ?_⟩
    cases i with
    | zero =>
      simp [cells] at hx hv
      subst hx; subst hv
      exact hr
    | succ i => simp [cells] at hx
theorem mapM_some_of_forall' {α β : Type} {f : α → Option β} {g : α → β} : ∀ (l : List α), (∀ x ∈ l, f x = some (g x)) → l.mapM f = some (l.map g)
  | [], _ => rfl
  | x :: l, h => by
    rw [List.mapM_cons, h x List.mem_cons_self, mapM_some_of_forall' l (fun y hy => h y (List.mem_cons_of_mem _ hy))]
    rfl
theorem aval_build (hC : COKT P T C) (hs : SRi G S ρ st a w) {o : Oper} {t : TypeId} {ps : Array (Nat × Operand)} (ho : o.op = .build t ps) {c : Option Prop} {v : AV} (h : aval C o st = some (c, v)) : Runs P w S ρ a o v := by
  simp only [aval, ho] at h
  split at h
  · rename_i i hi
    split at h
    · rename_i fs hd
      split at h
      · rename_i cs hf
        simp only [Option.some.injEq, Prod.mk.injEq] at h
        obtain ⟨rfl, rfl⟩ := h
        obtain ⟨d, info, z, hu, hie, hsz, _, hz, hzc, hT, _, _⟩ := hC.ty t i hi
        rw [hd] at hT
        obtain ⟨fields, rfl, hm, hall⟩ := hT
        have hpl : fields.toList.mapM (fun f => (P.info? f.type).map fun i => (f.offset, i.size)) = some (fields.toList.map fun f => (f.offset, P.cellsOf f.type)) := by
          refine mapM_some_of_forall' _ fun f hf => ?_
          have h2 := (hall f hf).2
          unfold Program.cellsOf at h2 ⊢
          cases hi : P.info? f.type with
          | none => rw [hi] at h2; simp at h2
          | some info => simp
        have hz0 : RVs w S ρ i.zero z.cells.toList := hzc ▸ RVs.of0 (ofVals_ok w S _)
        obtain ⟨vs', h1, h2⟩ := fill_ok (w := w) (S := S) (ρ := ρ) (fs := fs) (place := fun x => (fields.toList.map fun f => (f.offset, P.cellsOf f.type)).toArray[x]?) (fun j o n g hj => by
            rw [← hm, List.getElem?_map] at hj
            obtain ⟨f, hf1, hf2⟩ := Option.map_eq_some_iff.1 hj
            simp only [Prod.mk.injEq] at hf2
            simp [hf1, hf2.1, hf2.2.1]) (evParts st ps.toList) (ps.map fun (i, x) => (i, a.eval x)).toList i.zero cs z.cells (by simp [evParts_len]) (fun j i' c i2 u h1 h2 => by
            rw [evParts_get] at h1
            obtain ⟨p, hp1, hp2⟩ := Option.map_eq_some_iff.1 h1
            simp only [Array.toList_map, List.getElem?_map, hp1, Option.map_some, Option.some.injEq, Prod.mk.injEq] at h2
            simp only [Prod.mk.injEq] at hp2
            obtain ⟨rfl, rfl⟩ := hp2
            obtain ⟨rfl, rfl⟩ := h2
            exact ⟨rfl, fun hone => cells_ok (ev_ok hs p.2) hone⟩) hz0 hf
        have hb : P.built t (ps.map fun (i, x) => (i, a.eval x)).toList = some vs' := by
          unfold Program.built
          simp only [hie, hu, hz, hpl]
          exact h1
        refine ⟨.agg vs', ?_, ?_⟩
        · simp only [execOp, ho, Sem.run_bind, run_build w t _ vs' hb, Result.andThen_ok, Sem.run_pure]
        · have := RV.agg (w := w) (S := S) (ρ := ρ) cs vs'.toList h2.1 h2.2
          simpa using this
      · cases h
    · cases h
  · cases h
theorem bounds_ok {isS : Bool} {len cap l hh : Nat} {lo hi : Option Value} (hlo : lo = none ∧ l = 0 ∨ ∃ k, lo = some (.int k (l : Int))) (hhi : hi = none ∧ hh = len ∨ ∃ k, hi = some (.int k (hh : Int))) (h1 : l ≤ hh) (h2 : hh ≤ cap) (w : World) :
    (Instr.sliceBounds isS len cap lo hi none).run P w = .ok (l, hh, cap) w := by
  have hb : ∀ (k : IntKind) (i y : Nat) (code : BoundsCode), i ≤ y → (Instr.sliceBound (.int k (i : Int)) y code).run P w = .ok i w := by
    intro k i y code hy
    unfold Instr.sliceBound
    simp only [asIntOf, Sem.run_bind, Sem.run_pure, Result.andThen_ok]
    rw [if_pos ⟨by omega, by omega⟩]
    simp
  unfold Instr.sliceBounds
  rcases hhi with ⟨rfl, rfl⟩ | ⟨k, rfl⟩
  · rcases hlo with ⟨rfl, rfl⟩ | ⟨k, rfl⟩
    · simp
    · simp [hb k l hh _ h1]
  · rcases hlo with ⟨rfl, rfl⟩ | ⟨k', rfl⟩
    · simp [hb k hh cap _ h2]
    · simp [hb k hh cap _ h2, hb k' l hh _ h1]
theorem evO_ok (hs : SRi G S ρ st a w) {x : Option Operand} {d : Int} {k : IntKind} {l : Int} (he : evO st x (.int .i64 d) = .int k l) (hl : 0 ≤ l) : x.map a.eval = none ∧ (l.toNat : Int) = d ∨ ∃ k, x.map a.eval = some (.int k (l.toNat : Int)) := by
  cases x with
  | none =>
    simp only [evO, AV.int.injEq] at he
    exact .inl ⟨rfl, by omega⟩
  | some x =>
    simp only [evO] at he
    have := ev_ok hs x
    rw [he] at this
    refine .inr ⟨k, ?_⟩
    rw [Int.toNat_of_nonneg hl]
    simp [rv_int this]
theorem aval_slice (hC : COKT P T C) (hs : SRi G S ρ st a w) {o : Oper} {t : TypeId} {x : Operand} {lo hi mx : Option Operand} (ho : o.op = .slice t x lo hi mx) {c : Option Prop} {v : AV} (h : aval C o st = some (c, v)) (hc : ∀ p, c = some p → p) : Runs P w S ρ a o v := by
  simp only [aval, ho] at h
  have hx := ev_ok hs x
  split at h
  · have key : ∀ {sz n : Nat} {el : Nat → List AV} {l hh : Int} {k k' : IntKind}, evO st lo (.int .i64 0) = .int k l → evO st hi (.int .i64 (n : Int)) = .int k' hh → (cond (Nat.beq sz (C.elSz t) && Nat.blt 0 sz) (some (some (0 ≤ l ∧ l ≤ hh ∧ hh ≤ (n : Int)), AV.sl sz (hh - l).toNat (fun i => el (l.toNat + i)))) none : VR) = some (c, v) → RV0 w S (.sl sz n el) (a.eval x) → Runs P w S ρ a o v := by
      intro sz n el l hh k k' hel heh h h0
      obtain ⟨hb, h⟩ := cond_some h
      simp only [Bool.and_eq_true] at hb
      obtain ⟨hz, hp⟩ := hb
      have hp : 0 < sz := Nat.le_of_ble_eq_true hp
      simp only [Option.some.injEq, Prod.mk.injEq] at h
      obtain ⟨rfl, rfl⟩ := h
      obtain ⟨q1, q2, q3⟩ := hc _ rfl
      obtain ⟨e, info, hu, hie, hsz⟩ := elSz_ok hC hz (.inl hp)
      generalize hu2 : a.eval x = ux at h0
      cases h0 with
      | sl _ _ _ A cap g hcap hmax hl hm hr =>
        have hlo := evO_ok hs hel q1
        have hhi := evO_ok hs heh (by omega)
        have hrun := bounds_ok (P := P) (isS := true) (len := n) (cap := cap) (l := l.toNat) (hh := hh.toNat) (lo := lo.map a.eval) (hi := hi.map a.eval)
          (hlo.imp (fun q => ⟨q.1, by omega⟩) id) (hhi.imp (fun q => ⟨q.1, by omega⟩) id) (by omega) (by omega) w
        refine ⟨.slice (if cap = l.toNat then A else A.map (·.add (l.toNat * sz))) (hh.toNat - l.toNat) (cap - l.toNat), ?_, .st _ _ ?_⟩
        · simp only [execOp, ho, Instr.sliceAt, Instr.slice, hu2, Sem.run_bind, Result.andThen_ok, run_underlying hu, Option.map_none, hrun, run_sizeOf hie, hsz, Sem.run_pure]
        · rw [show hh.toNat - l.toNat = (hh - l).toNat by omega]
          refine .sl sz _ _ _ _ (fun i j => g (l.toNat + i) j) (by omega) (by omega) (fun i hi2 => hl _ (by omega)) (fun i j hi2 hj => ?_) (fun i j y hi2 hy => hr _ j y (by omega) hy)
          obtain ⟨ad, rfl, h2, h3⟩ := hm (l.toNat + i) j (by omega) hj
          have hne : ¬ cap = l.toNat := by omega
          rw [if_neg hne]
          have e2 : (ad.add (l.toNat * sz)).block = ad.block := by unfold Addr.add; split <;> rfl
          have e3 : (ad.add (l.toNat * sz)).add (i * sz + j) = ad.add ((l.toNat + i) * sz + j) := by rw [add_add, Nat.add_mul, Nat.add_assoc]
          exact ⟨_, rfl, e2 ▸ h2, by rw [e3]; exact h3⟩
    split at h
    · rename_i s he
      rw [he] at hx
      split at h
      · rename_i k l hel
        split at h
        · rename_i k' hh heh
          obtain ⟨hb, h⟩ := cond_some h
          simp only [Option.some.injEq, Prod.mk.injEq] at h
          obtain ⟨rfl, rfl⟩ := h
          obtain ⟨q1, q2, q3⟩ := hc _ rfl
          have hu := isStr_ok hC hb
          have hlo := evO_ok hs hel q1
          have hhi := evO_ok hs heh (by omega)
          have hrun := bounds_ok (P := P) (isS := false) (len := s.size) (cap := s.size) (l := l.toNat) (hh := hh.toNat) (lo := lo.map a.eval) (hi := hi.map a.eval)
            (hlo.imp (fun q => ⟨q.1, by omega⟩) id) (hhi.imp (fun q => ⟨q.1, by omega⟩) id) (by omega) (by omega) w
          refine ⟨_, ?_, .st _ _ (.str _)⟩
          simp [execOp, ho, Instr.sliceAt, Instr.slice, rv_str hx, run_underlying hu, hrun]
        · cases h
      · cases h
    · rename_i sz n el he
      rw [he] at hx
      split at h
      · rename_i k l hel
        split at h
        · rename_i k' hh heh
          obtain ⟨A, cap, _, h0⟩ := rv_sl hx
          exact key hel heh h h0
        · cases h
      · cases h
    · rename_i id he
      rw [he] at hx
      have hu := rv_own hx
      have hE := hs.hr.ent id _ hu
      split at h
      · rename_i sz n el he2
        rw [he2] at hE
        split at h
        · rename_i k l hel
          split at h
          · rename_i k' hh heh
            exact key hel heh h hE
          · cases h
        · cases h
      · cases h
    · cases h
  · cases h
theorem aval_call (hC : COKT P T C) (hs : SRi G S ρ st a w) {o : Oper} {cl : Call} (ho : o.op = .call cl) {c : Option Prop} {v : AV} (h : aval C o st = some (c, v)) : Runs P w S ρ a o v := by
  simp only [aval, ho] at h
  obtain ⟨cal, args, ats⟩ := cl
  have hv := evs_ok hs args.toList
  dsimp only at h
  have hargs : ∀ us : List Value, args.toList.map a.eval = us → args.map a.eval = us.toArray := by
    intro us e
    apply Array.ext'
    rw [Array.toList_map]
    exact e
  split at h
  · skip
    split at h
    · rename_i t ts hats
      have hat : ats[0]? = some t := by rw [← Array.getElem?_toList, hats]; rfl
      split at h
      · rename_i x hx
        rw [hx] at hv
        obtain ⟨hl, hv⟩ := hv
        match hm : args.toList.map a.eval, hl with
        | [u], _ =>
        have hu := hargs _ hm
        have hr := hv 0 x u rfl (by rw [hm]; rfl)
        split at h
        · rename_i s
          obtain ⟨hb, h⟩ := cond_some h
          simp only [Option.some.injEq, Prod.mk.injEq] at h
          obtain ⟨rfl, rfl⟩ := h
          have hty := isStr_ok hC hb
          refine ⟨_, ?_, .st _ _ (.int _ _)⟩
          simp [execOp, ho, resolve, invoke, builtin, hu, rv_str hr, Builtin.len_, hat, run_underlying hty, goInt]
        · split at h
          · rename_i sz n el hsl
            obtain ⟨hb, h⟩ := cond_some h
            simp only [Option.some.injEq, Prod.mk.injEq] at h
            obtain ⟨rfl, rfl⟩ := h
            obtain ⟨e, hty⟩ := isSlice_ok hC hb
            obtain ⟨A, cap, rfl, _⟩ := asSl_ok hs.hr hr hsl
            refine ⟨_, ?_, .st _ _ (.int _ _)⟩
            simp [execOp, ho, resolve, invoke, builtin, hu, Builtin.len_, hat, run_underlying hty, goInt]
          · cases h
      · cases h
    · cases h
  · skip
    split at h
    · rename_i k n k' m hx
      rw [hx] at hv
      obtain ⟨hl, hv⟩ := hv
      match hm : args.toList.map a.eval, hl with
      | [u, u'], _ =>
      have hu := hargs _ hm
      have h1 := rv_int (hv 0 _ u rfl (by rw [hm]; rfl))
      have h2 := rv_int (hv 1 _ u' rfl (by rw [hm]; rfl))
      obtain ⟨hb, h⟩ := cond_some h
      simp only [Option.some.injEq, Prod.mk.injEq] at h
      obtain ⟨rfl, rfl⟩ := h
      refine ⟨_, ?_, .st _ _ (.int _ _)⟩
      simp [execOp, ho, resolve, invoke, builtin, hu, Builtin.min_, h1, h2, Builtin.min2]
    · rename_i k n k' m k2 q hx
      rw [hx] at hv
      obtain ⟨hl, hv⟩ := hv
      match hm : args.toList.map a.eval, hl with
      | [u, u', u2], _ =>
      have hu := hargs _ hm
      have h1 := rv_int (hv 0 _ u rfl (by rw [hm]; rfl))
      have h2 := rv_int (hv 1 _ u' rfl (by rw [hm]; rfl))
      have h3 := rv_int (hv 2 _ u2 rfl (by rw [hm]; rfl))
      obtain ⟨hb, h⟩ := cond_some h
      obtain ⟨hb, h⟩ := cond_some h
      simp only [Option.some.injEq, Prod.mk.injEq] at h
      obtain ⟨rfl, rfl⟩ := h
      refine ⟨_, ?_, .st _ _ (.int _ _)⟩
      simp [execOp, ho, resolve, invoke, builtin, hu, Builtin.min_, h1, h2, h3, Builtin.min2]
    · cases h
  · skip
    split at h
    · rename_i k n k' m hx
      rw [hx] at hv
      obtain ⟨hl, hv⟩ := hv
      match hm : args.toList.map a.eval, hl with
      | [u, u'], _ =>
      have hu := hargs _ hm
      have h1 := rv_int (hv 0 _ u rfl (by rw [hm]; rfl))
      have h2 := rv_int (hv 1 _ u' rfl (by rw [hm]; rfl))
      obtain ⟨hb, h⟩ := cond_some h
      simp only [Option.some.injEq, Prod.mk.injEq] at h
      obtain ⟨rfl, rfl⟩ := h
      refine ⟨_, ?_, .st _ _ (.int _ _)⟩
      simp [execOp, ho, resolve, invoke, builtin, hu, Builtin.max_, h1, h2, Builtin.max2]
    · cases h
  · cases h
/-- An operation that changes no block yields its value. -/
theorem aval_makeInterface (hC : COKT P T C) (hs : SRi G S ρ st a w) {o : Oper} {t : TypeId} {x : Operand} (ho : o.op = .makeInterface t x) {c : Option Prop} {v : AV} (h : aval C o st = some (c, v)) : Runs P w S ρ a o v := by
  simp only [aval, ho] at h
  split at h
  · rename_i fs hd
    simp only [Option.some.injEq, Prod.mk.injEq] at h
    obtain ⟨rfl, rfl⟩ := h
    obtain ⟨i, hi, he⟩ := tyD_ok hC hd (by simp)
    obtain ⟨d, info, z, hu, _, _, _, _, _, hT, _, _⟩ := hC.ty t i hi
    rw [he] at hT
    obtain ⟨fields, rfl, _⟩ := hT
    refine ⟨.iface t (a.eval x), ?_, .iface _ _ _ (ev_ok hs x)⟩
    simp only [execOp, ho, Instr.makeInterface, Sem.run_bind, run_underlying hu, Result.andThen_ok, Sem.run_pure]
  · cases h
theorem aval_ok (hC : COKT P T C) (hs : SRi G S ρ st a w) {o : Oper} {c : Option Prop} {v : AV} (h : aval C o st = some (c, v)) (hc : ∀ p, c = some p → p) : Runs P w S ρ a o v := by
  cases ho : o.op
  case move x =>
    simp only [aval, ho, Option.some.injEq, Prod.mk.injEq] at h
    obtain ⟨rfl, rfl⟩ := h
    exact ⟨_, by simp [execOp, ho], ev_ok hs x⟩
  case assign x =>
    simp only [aval, ho, Option.some.injEq, Prod.mk.injEq] at h
    obtain ⟨rfl, rfl⟩ := h
    exact ⟨_, by simp [execOp, ho], ev_ok hs x⟩
  case fieldAddr => exact aval_fieldAddr hC hs ho h hc
  case field => exact aval_field hC hs ho h
  case load => exact aval_load hC hs ho h
  case binOp => exact aval_binOp hC hs ho h hc
  case unOp => exact aval_unOp hC hs ho h
  case nilCheck => exact aval_nilCheck hC hs ho h
  case indexAddr => exact aval_index hC hs ho h hc
  case index => exact aval_strIndex hC hs ho h hc
  case extract => exact aval_extract hC hs ho h
  case build => exact aval_build hC hs ho h
  case convert => exact aval_convert hC hs ho h hc
  case makeFunc => exact aval_makeFunc hC hs ho h
  case makeInterface => exact aval_makeInterface hC hs ho h
  case slice => exact aval_slice hC hs ho h hc
  case call => exact aval_call hC hs ho h
  all_goals (simp only [aval, ho] at h; cases h)
end Go.Abs
