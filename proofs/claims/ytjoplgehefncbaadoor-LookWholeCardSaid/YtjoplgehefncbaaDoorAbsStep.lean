/- The engine: operations that change blocks of the call's own; regions without a draw. -/
import Derived.Test.YtjoplgehefncbaaDoorAbsAval
import Derived.Great.BuildSlice
set_option linter.all false
namespace Go.Abs
open Go.RowKit
variable {P : Program} {C : Cfg} {T : World → Prop} {G : Gx T} {w w' : World} {S S' : Nat → Prop} {ρ : List Value} {st : ASt} {a : Act} {h : List AB} {base : Nat}
/-- A world in which the blocks that are known are as they were. -/
theorem HR.move (hh : HR w S base ρ h) (hS : ∀ b, S b → w'.heap[b]? = w.heap[b]?) (hb : ∀ id v b, ρ[id]? = some v → blk (hAt h id) v = some b → w'.heap[b]? = w.heap[b]?) : HR w' S base ρ h := by
  refine ⟨hh.len, fun id v hv => ?_, hh.apart⟩
  have hE := hh.ent id v hv
  have hk := fun b => hb id v b hv
  cases hx : hAt h id with
  | box t cs =>
    rw [hx] at hE hk
    obtain ⟨b, vs, rfl, h1, h2, h3, h4, h5⟩ := hE
    exact ⟨b, vs, rfl, h1, (hk b rfl).trans h2, h3, h4.mono (fun _ q => q) hS (fun _ _ q => q), h5⟩
  | row e sz n el =>
    rw [hx] at hE hk
    obtain ⟨⟨inner, h1, h2⟩, h3⟩ := hE
    refine ⟨⟨inner, ?_, fun i hi => ⟨(h2 i hi).1, (h2 i hi).2.1, fun j x hj => ?_⟩⟩, h3⟩
    · refine ⟨h1.1, ?_⟩
      rcases h1.2 with q | ⟨g, cap, cur, rfl, q1, q2, q3⟩
      · exact .inl q
      · exact .inr ⟨g, cap, cur, rfl, q1, (hk g rfl).trans q2, q3⟩
    · obtain ⟨u, q1, q2⟩ := (h2 i hi).2.2 j x hj
      exact ⟨u, q1, q2.mono (fun _ q => q) hS⟩
  | fro => rw [hx] at hE; exact RV0.mono hE (fun _ q => q) hS
  | frb => rw [hx] at hE; exact RV0.mono hE (fun _ q => q) hS
  | mp l =>
    rw [hx] at hE hk
    obtain ⟨b, es, clock, rfl, h1, h2, h3, h4⟩ := hE
    exact ⟨b, es, clock, rfl, h1, (hk b rfl).trans h2, h3.mono (fun _ q => q) hS (fun _ _ q => q), h4⟩
  | gh env tm =>
    rw [hx] at hE
    exact fun t => (hE t).mono (fun _ q => q) hS (fun _ _ q => q)
  | dead => trivial
theorem HR.blk_lt (hh : HR w S base ρ h) {id : Nat} {v : Value} {b : Nat} (hv : ρ[id]? = some v) (hb : blk (hAt h id) v = some b) : base ≤ b ∧ b < w.heap.size ∧ ¬ S b := by
  have hE := hh.ent id v hv
  cases hx : hAt h id with
  | box t cs =>
    rw [hx] at hE hb
    obtain ⟨b', vs, rfl, h1, h2, h3, h4, h5⟩ := hE
    simp [blk] at hb
    subst hb
    exact ⟨h1, (Array.getElem?_eq_some_iff.1 h2).1, h5⟩
  | row e sz n el =>
    rw [hx] at hE hb
    obtain ⟨⟨inner, h1, h2⟩, h3⟩ := hE
    exact ⟨(h1.lt b hb).1, (h1.lt b hb).2, h3 b hb⟩
  | fro => rw [hx] at hb; cases v <;> cases hb
  | frb => rw [hx] at hb; cases v <;> cases hb
  | mp l =>
    rw [hx] at hE hb
    obtain ⟨b', es, clock, rfl, h1, h2, h3, h5⟩ := hE
    simp [blk] at hb
    subst hb
    exact ⟨h1, (Array.getElem?_eq_some_iff.1 h2).1, h5⟩
  | gh => rw [hx] at hb; cases v <;> cases hb
  | dead => rw [hx] at hb; cases v <;> cases hb
/-- Nothing that is there is written: new blocks at most. -/
theorem SRi.grow (hs : SRi G S ρ st a w) (hb : Below w.heap.size w w') : SRi G S ρ st a w' := by
  have hS : ∀ b, S b → w'.heap[b]? = w.heap[b]? := fun b hx => hb.block b (hs.lt b hx)
  refine ⟨fun b hx => Nat.lt_of_lt_of_le (hs.lt b hx) hb.size, hs.s0, hs.sp, hs.hr.move hS (fun id v b hv hx => hb.block b (hs.hr.blk_lt hv hx).2.1), hs.nt, fun t => (hs.env t).mono (fun _ q => q) hS (fun _ _ q => q), ?_, hs.dfr⟩
  exact hs.bel.trans (hb.mono hs.bel.size)
/-- More blocks are written no more: new ones. -/
theorem SRi.more (hs : SRi G S ρ st a w) (hS : ∀ b, S b → S' b) (hn : ∀ b, S' b → b < w.heap.size ∧ (S b ∨ (G.w0.heap.size ≤ b ∧ ∀ id v, ρ[id]? = some v → blk (hAt st.heap id) v ≠ some b))) : SRi G S' ρ st a w := by
  refine ⟨fun b hb => (hn b hb).1, fun b hb => hS b (hs.s0 b hb), fun b hb => ?_, ⟨hs.hr.len, fun id v hv => (hs.hr.ent id v hv).mono hS (fun k hk hx => ?_), hs.hr.apart⟩, hs.nt, fun t => (hs.env t).mono hS (fun _ _ => rfl) (fun _ _ q => q), hs.bel, hs.dfr⟩
  · rcases (hn b hb).2 with q | q
    · exact hs.sp b q
    · exact .inr q.1
  · rcases (hn k hx).2 with q | q
    · exact (hs.hr.blk_lt hv hk).2.2 q
    · exact q.2 id v hv hk
/-- One more block of the call's own. -/
theorem SRi.newB (hs : SRi G S ρ st a w) {b : AB} {v : Value} (hE : Ent w S G.w0.heap.size ρ v b) (hap : ∀ k, blk b v = some k → ∀ id u, ρ[id]? = some u → blk (hAt st.heap id) u ≠ some k) : SRi G S (ρ ++ [v]) (st.newB b) a w := by
  have hρ : ∀ (i : Nat) (u : Value), ρ[i]? = some u → (ρ ++ [v])[i]? = some u := fun i u hi => by
    rw [List.getElem?_append_left (List.getElem?_eq_some_iff.1 hi).1]; exact hi
  have hentm : ∀ {x : AB} {u : Value}, Ent w S G.w0.heap.size ρ u x → Ent w S G.w0.heap.size (ρ ++ [v]) u x := by
    intro x u hx
    cases x with
    | box t cs =>
      obtain ⟨b, vs, rfl, h1, h2, h3, h4, h5⟩ := hx
      exact ⟨b, vs, rfl, h1, h2, h3, h4.mono (fun _ q => q) (fun _ _ => rfl) hρ, h5⟩
    | mp l =>
      obtain ⟨b, es, clock, rfl, h1, h2, h3, h4⟩ := hx
      exact ⟨b, es, clock, rfl, h1, h2, h3.mono (fun _ q => q) (fun _ _ => rfl) hρ, h4⟩
    | gh env tm => exact fun t => (hx t).mono (fun _ q => q) (fun _ _ => rfl) hρ
    | _ => exact hx
  have hl := hs.hr.len
  refine ⟨hs.lt, hs.s0, hs.sp, ⟨by simp [ASt.newB, hl], fun id u hu => ?_, fun i j u x k hij hu hx hk => ?_⟩, hs.nt, fun t => (hs.env t).mono (fun _ q => q) (fun _ _ => rfl) hρ, hs.bel, hs.dfr⟩
  · show Ent w S G.w0.heap.size (ρ ++ [v]) u (hAt (st.heap ++ [b]) id)
    rw [hAt_app]
    by_cases hi : id < st.heap.length
    · rw [if_pos hi]
      rw [List.getElem?_append_left (by omega)] at hu
      exact hentm (hs.hr.ent id u hu)
    · rw [if_neg hi]
      rw [List.getElem?_append_right (by omega)] at hu
      have h0 : id - ρ.length = 0 := by
        have := (List.getElem?_eq_some_iff.1 hu).1
        simp at this
        omega
      rw [h0] at hu
      obtain rfl : v = u := by simpa using hu
      rw [if_pos (by omega)]
      exact hentm hE
  · have hk2 : blk (hAt (st.heap ++ [b]) i) u = some k := hk
    show blk (hAt (st.heap ++ [b]) j) x ≠ some k
    rw [hAt_app] at hk2 ⊢
    by_cases hi : i < st.heap.length
    · rw [if_pos hi] at hk2
      rw [List.getElem?_append_left (by omega)] at hu
      by_cases hj : j < st.heap.length
      · rw [if_pos hj]
        rw [List.getElem?_append_left (by omega)] at hx
        exact hs.hr.apart i j u x k hij hu hx hk2
      · rw [if_neg hj]
        rw [List.getElem?_append_right (by omega)] at hx
        have h0 : j - ρ.length = 0 := by
          have := (List.getElem?_eq_some_iff.1 hx).1
          simp at this
          omega
        rw [h0] at hx
        obtain rfl : v = x := by simpa using hx
        rw [if_pos (by omega)]
        exact fun e => hap k e i u hu hk2
    · rw [if_neg hi] at hk2
      rw [List.getElem?_append_right (by omega)] at hu
      have h0 : i - ρ.length = 0 := by
        have := (List.getElem?_eq_some_iff.1 hu).1
        simp at this
        omega
      rw [h0] at hu
      obtain rfl : v = u := by simpa using hu
      rw [if_pos (by omega)] at hk2
      have hj : j < st.heap.length := by
        have := (List.getElem?_eq_some_iff.1 hx).1
        simp at this
        omega
      rw [if_pos hj]
      rw [List.getElem?_append_left (by omega)] at hx
      exact hap k hk2 j x hx
/-- Some blocks are written no more. -/
theorem SRi.frz (hs : SRi G S ρ st a w) (l : List Nat) : ∃ S', SRi G S' ρ (st.setH (frz st.heap l)) a w ∧ (∀ b, S' b ↔ Sx S ρ st.heap l b) := by
  obtain ⟨S', h1, h2⟩ := frz_ok l hs.hr
  have hS : ∀ b, S b → S' b := fun b hb => (h2 b).2 (.inl hb)
  refine ⟨S', ⟨fun b hb => ?_, fun b hb => hS b (hs.s0 b hb), fun b hb => ?_, h1, hs.nt, fun t => (hs.env t).mono hS (fun _ _ => rfl) (fun _ _ q => q), hs.bel, hs.dfr⟩, h2⟩
  · rcases (h2 b).1 hb with q | ⟨id, v, _, hv, hk⟩
    · exact hs.lt b q
    · exact (hs.hr.blk_lt hv (blkF_blk hk)).2.1
  · rcases (h2 b).1 hb with q | ⟨id, v, _, hv, hk⟩
    · exact hs.sp b q
    · exact .inr (hs.hr.blk_lt hv (blkF_blk hk)).1
/-- One entry turns. -/
theorem SRi.upd (hs : SRi G S ρ st a w) (id : Nat) (x : AB) (hx : ∀ v, ρ[id]? = some v → Ent w' S G.w0.heap.size ρ v x ∧ ∀ k, blk x v = some k → blk (hAt st.heap id) v = some k) (hS : ∀ b, S b → w'.heap[b]? = w.heap[b]?)
    (ho : ∀ j v b, j ≠ id → ρ[j]? = some v → blk (hAt st.heap j) v = some b → w'.heap[b]? = w.heap[b]?) (hsz : w.heap.size ≤ w'.heap.size) (hbel : Below G.w0.heap.size G.w0 w') : SRi G S ρ (st.setH (hSet st.heap id x)) a w' := by
  refine ⟨fun b hb => Nat.lt_of_lt_of_le (hs.lt b hb) hsz, hs.s0, hs.sp, ⟨hs.hr.len.trans (hSet_len _ _ _).symm, fun j v hv => ?_, fun i j v u k hij hv hu hk => ?_⟩, hs.nt, fun t => (hs.env t).mono (fun _ q => q) hS (fun _ _ q => q), hbel, hs.dfr⟩
  · show Ent w' S G.w0.heap.size ρ v (hAt (hSet st.heap id x) j)
    rw [hAt_set]
    by_cases hj : j = id ∧ id < st.heap.length
    · rw [if_pos hj]
      obtain ⟨rfl, _⟩ := hj
      exact (hx v hv).1
    · rw [if_neg hj]
      have hlt : j < st.heap.length := by rw [← hs.hr.len]; exact (List.getElem?_eq_some_iff.1 hv).1
      have hne : j ≠ id := fun e => hj ⟨e, by omega⟩
      have hE := hs.hr.ent j v hv
      have hk := fun b => ho j v b hne hv
      cases hy : hAt st.heap j with
      | box t cs =>
        rw [hy] at hE hk
        obtain ⟨b, vs, rfl, h1, h2, h3, h4, h5⟩ := hE
        exact ⟨b, vs, rfl, h1, (hk b rfl).trans h2, h3, h4.mono (fun _ q => q) hS (fun _ _ q => q), h5⟩
      | row e sz n el =>
        rw [hy] at hE hk
        obtain ⟨⟨inner, h1, h2⟩, h3⟩ := hE
        refine ⟨⟨inner, ?_, fun i hi => ⟨(h2 i hi).1, (h2 i hi).2.1, fun j x hj => ?_⟩⟩, h3⟩
        · refine ⟨h1.1, ?_⟩
          rcases h1.2 with q | ⟨g, cap, cur, rfl, q1, q2, q3⟩
          · exact .inl q
          · exact .inr ⟨g, cap, cur, rfl, q1, (hk g rfl).trans q2, q3⟩
        · obtain ⟨u, q1, q2⟩ := (h2 i hi).2.2 j x hj
          exact ⟨u, q1, q2.mono (fun _ q => q) hS⟩
      | fro => rw [hy] at hE; exact RV0.mono hE (fun _ q => q) hS
      | frb => rw [hy] at hE; exact RV0.mono hE (fun _ q => q) hS
      | mp l =>
        rw [hy] at hE hk
        obtain ⟨b, es, clock, rfl, h1, h2, h3, h4⟩ := hE
        exact ⟨b, es, clock, rfl, h1, (hk b rfl).trans h2, h3.mono (fun _ q => q) hS (fun _ _ q => q), h4⟩
      | gh env tm =>
        rw [hy] at hE
        exact fun t => (hE t).mono (fun _ q => q) hS (fun _ _ q => q)
      | dead => trivial
  · have hb : ∀ q y z, ρ[q]? = some y → blk (hAt (hSet st.heap id x) q) y = some z → blk (hAt st.heap q) y = some z := by
      intro q y z hq hz
      rw [hAt_set] at hz
      by_cases hj : q = id ∧ id < st.heap.length
      · rw [if_pos hj] at hz
        obtain ⟨rfl, _⟩ := hj
        exact (hx y hq).2 z hz
      · rwa [if_neg hj] at hz
    exact fun e => hs.hr.apart i j v u k hij hv hu (hb i v k hv hk) (hb j u k hu e)
/-- The elements of a slice that is read. -/
theorem asSl_els (hh : HR w S base ρ h) {v : AV} {u : Value} {sz n : Nat} {el : Nat → List AV} (hr : RV w S ρ v u) (hm : asSl h v = some (sz, n, el)) (hnn : v ≠ .nil) :
    ∃ (A : Option Addr) (cap : Nat) (g : Nat → Nat → Value), u = .slice A n cap ∧ (∀ i, i < n → (el i).length = sz ∧ ones (el i) = true) ∧
      (∀ i j, i < n → j < sz → ∃ ad, A = some ad ∧ w.cell? (ad.add (i * sz + j)) = some (g i j)) ∧ ∀ (i j : Nat) (x : AV), i < n → (el i)[j]? = some x → RV0 w S x (g i j) := by
  have hsl : ∀ {sz n : Nat} {el : Nat → List AV} {u : Value}, RV0 w S (.sl sz n el) u → ∃ (A : Option Addr) (cap : Nat) (g : Nat → Nat → Value), u = .slice A n cap ∧ (∀ i, i < n → (el i).length = sz ∧ ones (el i) = true) ∧
      (∀ i j, i < n → j < sz → ∃ ad, A = some ad ∧ w.cell? (ad.add (i * sz + j)) = some (g i j)) ∧ ∀ (i j : Nat) (x : AV), i < n → (el i)[j]? = some x → RV0 w S x (g i j) := by
    intro sz n el u h0
    cases h0 with
    | sl _ _ _ A cap g h1 h2 h3 h4 h5 => exact ⟨A, cap, g, rfl, h3, fun i j hi hj => let ⟨ad, q1, _, q3⟩ := h4 i j hi hj; ⟨ad, q1, q3⟩, h5⟩
  cases v with
  | sl sz' n' el' =>
    obtain ⟨A, cap, rfl, h0⟩ := rv_sl hr
    simp only [asSl, Option.some.injEq, Prod.mk.injEq] at hm
    obtain ⟨rfl, rfl, rfl⟩ := hm
    exact hsl h0
  | own id =>
    have hu := rv_own hr
    have hE := hh.ent id u hu
    simp only [asSl] at hm
    split at hm
    · rename_i e sz' n' el' he
      simp only [Option.some.injEq, Prod.mk.injEq] at hm
      obtain ⟨rfl, rfl, rfl⟩ := hm
      rw [he] at hE
      obtain ⟨⟨inner, hown, hel⟩, _⟩ := hE
      rcases hown.2 with ⟨rfl, rfl⟩ | ⟨g, cap, cur, rfl, _⟩
      · exact ⟨none, 0, fun _ _ => undef, rfl, fun i hi => by omega, fun i j hi => by omega, fun i j x hi => by omega⟩
      · have hlen := hown.1
        refine ⟨_, _, fun i j => inner.getD (i * sz' + j) undef, rfl, fun i hi => ⟨(hel i hi).1, (hel i hi).2.1⟩, fun i j hi hj => ⟨_, rfl, ?_⟩, fun i j x hi hx => ?_⟩
        · have hlt : i * sz' + j < inner.length := by
            rw [hlen]
            calc i * sz' + j < i * sz' + sz' := by omega
              _ = (i + 1) * sz' := by rw [Nat.add_mul]; omega
              _ ≤ n' * sz' := Nat.mul_le_mul_right _ hi
          exact hown.cells (g := g) rfl _ _ (by show _ = some (inner.getD (i * sz' + j) undef); rw [List.getD_eq_getElem?_getD, List.getElem?_eq_getElem hlt]; rfl)
        · obtain ⟨u, h1, h2⟩ := (hel i hi).2.2 j x hx
          show RV0 w S x (inner.getD (i * sz' + j) undef)
          rw [List.getD_eq_getElem?_getD, h1]
          exact h2
    · rename_i sz' n' el' he
      simp only [Option.some.injEq, Prod.mk.injEq] at hm
      obtain ⟨rfl, rfl, rfl⟩ := hm
      rw [he] at hE
      exact hsl hE
    · cases hm
  | nil => exact absurd rfl hnn
  | _ => cases hm
theorem run_append_nil (w : World) (base : Nat) (t ty e : TypeId) (i : TypeInfo) (size : Nat) (ht : P.underlying t = some (.slice e)) (hi : P.info? e = some i)
    (v : Value) (n : Nat) (xs : List Value) (hown : w.ownsRow base e size v n xs) (c : Nat) : (Builtin.append_ #[t, t] ty #[v, .slice none 0 c]).run P w = .ok v w := by
  rcases hown.2 with ⟨rfl, rfl⟩ | ⟨g, cap, cur, rfl, _, _, hnc, _⟩
  · simp [Builtin.append_, run_underlying ht, sizeOf, typeInfo, hi, Builtin.lenOf, Builtin.firstCells]
  · simp [Builtin.append_, run_underlying ht, sizeOf, typeInfo, hi, Builtin.lenOf, Builtin.firstCells, hnc, storeCells]
/-- 'append', onto a row of the call's own or nil. -/
theorem append_ok {t ty e : TypeId} {i : TI} (hu : P.underlying t = some (.slice e)) (hT : tyOk P e i) (hp : 0 < i.size) (hb : 0 < i.bytes) {v : Value} {n : Nat} {inner : List Value} {el : Nat → List AV}
    (hown : w.ownsRow base e i.size v n inner) (hel : ∀ k, k < n → (el k).length = i.size ∧ ones (el k) = true ∧ ∀ (j : Nat) (x : AV), (el k)[j]? = some x → ∃ u, inner[k * i.size + j]? = some u ∧ RV0 w S x u) (hbase : base ≤ w.heap.size) (hnS : ∀ b, v.ownBlock = some b → ¬ S b) (hlt : ∀ b, S b → b < w.heap.size)
    {A : Option Addr} {m cap : Nat} {elx : Nat → List AV} {g : Nat → Nat → Value} (hlx : ∀ k, k < m → (elx k).length = i.size ∧ ones (elx k) = true)
    (hmx : ∀ k j, k < m → j < i.size → ∃ ad, A = some ad ∧ w.cell? (ad.add (k * i.size + j)) = some (g k j)) (hrx : ∀ (k j : Nat) (x : AV), k < m → (elx k)[j]? = some x → RV0 w S x (g k j)) (hbytes : (n + m) * i.bytes ≤ 140737488355328) :
    ∃ v1 w1, (Builtin.append_ #[t, t] ty #[v, .slice A m cap]).run P w = .ok v1 w1 ∧ w.grownBy w1 v.ownBlock ∧ (v1.ownBlock = v.ownBlock ∨ v1.ownBlock = some w.heap.size) ∧ Ent w1 S base ρ v1 (.row e i.size (n + m) (catEl n el elx)) := by
  obtain ⟨d, info, z, hd, hi, hsz, hby, hz, hzc, _, _, hzl⟩ := hT
  have hS1 : ∀ {w1 : World}, w.grownBy w1 v.ownBlock → ∀ b, S b → w1.heap[b]? = w.heap[b]? := fun hg b hb => hg.block b (hlt b hb) (fun e => hnS b e.symm hb)
  have hcat : ∀ (w1 : World) (inner1 : List Value), (∀ b, S b → w1.heap[b]? = w.heap[b]?) → (∀ k j, k < n → j < i.size → inner1[k * i.size + j]? = inner[k * i.size + j]?) → (∀ k j, k < m → j < i.size → inner1[(n + k) * i.size + j]? = some (g k j)) →
      ∀ k, k < n + m → (catEl n el elx k).length = i.size ∧ ones (catEl n el elx k) = true ∧ ∀ (j : Nat) (x : AV), (catEl n el elx k)[j]? = some x → ∃ u, inner1[k * i.size + j]? = some u ∧ RV0 w1 S x u := by
    intro w1 inner1 hw h1 h2 k hk
    unfold catEl
    by_cases hkn : k < n
    · rw [show Nat.blt k n = true from Nat.ble_eq_true_of_le hkn, cond_true]
      refine ⟨(hel k hkn).1, (hel k hkn).2.1, fun j x hx => ?_⟩
      obtain ⟨u, q1, q2⟩ := (hel k hkn).2.2 j x hx
      have hj : j < i.size := by rw [← (hel k hkn).1]; exact (List.getElem?_eq_some_iff.1 hx).1
      exact ⟨u, (h1 k j hkn hj).trans q1, q2.mono (fun _ q => q) hw⟩
    · rw [show Nat.blt k n = false from by
        cases hb : Nat.blt k n with
        | false => rfl
        | true => exact absurd (Nat.le_of_ble_eq_true hb) hkn, cond_false]
      refine ⟨(hlx (k - n) (by omega)).1, (hlx (k - n) (by omega)).2, fun j x hx => ?_⟩
      have hj : j < i.size := by rw [← (hlx (k - n) (by omega)).1]; exact (List.getElem?_eq_some_iff.1 hx).1
      have := h2 (k - n) j (by omega) hj
      rw [show n + (k - n) = k by omega] at this
      exact ⟨_, this, (hrx (k - n) j x (by omega) hx).mono (fun _ q => q) hw⟩
  by_cases hm0 : m = 0 ∧ A = none
  · obtain ⟨rfl, rfl⟩ := hm0
    refine ⟨v, w, run_append_nil w base t ty e info _ hu hi v n inner hown cap, ⟨rfl, rfl, rfl, Nat.le_refl _, fun _ _ _ => rfl⟩, .inl rfl, ⟨inner, hown, ?_⟩, hnS⟩
    exact hcat w inner (fun _ _ => rfl) (fun _ _ _ _ => rfl) (fun k j hk => by omega)
  · obtain ⟨ad, rfl⟩ : ∃ ad, A = some ad := by
      cases A with
      | some ad => exact ⟨ad, rfl⟩
      | none =>
        rcases Nat.eq_zero_or_pos m with h0 | h0
        · exact absurd ⟨h0, rfl⟩ hm0
        · obtain ⟨ad, q, _⟩ := hmx 0 0 h0 hp
          cases q
    let news := (List.range (m * i.size)).map fun q => g (q / i.size) (q % i.size)
    have hnl : news.length = m * i.size := by simp [news]
    have hdm : ∀ k j, j < i.size → (k * i.size + j) / i.size = k ∧ (k * i.size + j) % i.size = j := fun k j hj => by
      rw [Nat.mul_comm]
      exact ⟨by rw [Nat.mul_add_div hp, Nat.div_eq_of_lt hj]; omega, by rw [Nat.mul_add_mod, Nat.mod_eq_of_lt hj]⟩
    have hng : ∀ k j, k < m → j < i.size → news[k * i.size + j]? = some (g k j) := fun k j hk hj => by
      have hlt2 : k * i.size + j < m * i.size := by
        calc k * i.size + j < k * i.size + i.size := by omega
          _ = (k + 1) * i.size := by rw [Nat.add_mul]; omega
          _ ≤ m * i.size := Nat.mul_le_mul_right _ hk
      simp only [news]
      rw [List.getElem?_map, List.getElem?_range hlt2, Option.map_some, (hdm k j hj).1, (hdm k j hj).2]
    have hsplit : ∀ q, q < m * i.size → q / i.size < m ∧ q % i.size < i.size ∧ q = q / i.size * i.size + q % i.size := fun q hq => by
      have h1 := Nat.div_add_mod q i.size
      refine ⟨Nat.div_lt_of_lt_mul (by rw [Nat.mul_comm]; exact hq), Nat.mod_lt _ hp, ?_⟩
      rw [Nat.mul_comm]
      exact h1.symm
    have hnews : ∀ j u, news[j]? = some u → w.cell? (ad.add j) = some u := fun q u hq => by
      have hlt2 : q < m * i.size := by rw [← hnl]; exact (List.getElem?_eq_some_iff.1 hq).1
      obtain ⟨h1, h2, h3⟩ := hsplit q hlt2
      rw [h3] at hq ⊢
      rw [hng _ _ h1 h2] at hq
      obtain rfl := Option.some.inj hq
      obtain ⟨ad', e, h4⟩ := hmx _ _ h1 h2
      cases e
      exact h4
    have hone : ∀ u ∈ news, u.oneCell' = true := fun u hu2 => by
      obtain ⟨q, hq⟩ := List.mem_iff_getElem?.1 hu2
      have hlt2 : q < m * i.size := by rw [← hnl]; exact (List.getElem?_eq_some_iff.1 hq).1
      obtain ⟨h1, h2, h3⟩ := hsplit q hlt2
      rw [h3, hng _ _ h1 h2] at hq
      obtain rfl := Option.some.inj hq
      have hl := hlx _ h1
      have hx : (elx (q / i.size))[q % i.size]? = some ((elx (q / i.size))[q % i.size]'(by rw [hl.1]; exact h2)) := List.getElem?_eq_getElem _
      exact (hrx _ _ _ h1 hx).oneCell (ones_get hl.2 hx)
    have hnm : n + m ≤ maxLen := by
      have : n + m ≤ (n + m) * i.bytes := Nat.le_mul_of_pos_right _ hb
      unfold maxLen
      omega
    obtain ⟨v1, w1, hr, h2, h3, _, h5⟩ := run_append_own_at (P := P) w base t ty e info z i.size i.bytes hu hi hz hsz hby (by rw [← hzl, ← hzc, ← (ofVals_ok w S z.cells.toList).1, Array.length_toList]) hp v n inner hown ad m cap news hnl hnews hone hnm hbytes hbase
    refine ⟨v1, w1, hr, h3, h5, ⟨inner ++ news, h2, ?_⟩, fun b hbk hSb => ?_⟩
    · have hil := hown.1
      refine hcat w1 (inner ++ news) (hS1 h3) (fun k j hk hj => ?_) (fun k j hk hj => ?_)
      · have hlt2 : k * i.size + j < inner.length := by
          rw [hil]
          calc k * i.size + j < k * i.size + i.size := by omega
            _ = (k + 1) * i.size := by rw [Nat.add_mul]; omega
            _ ≤ n * i.size := Nat.mul_le_mul_right _ hk
        exact List.getElem?_append_left hlt2
      · rw [List.getElem?_append_right (by rw [hil, Nat.add_mul]; omega), hil, show (n + k) * i.size + j - n * i.size = k * i.size + j by rw [Nat.add_mul]; omega]
        exact hng k j hk hj
    · rcases h5 with q | q
      · exact hnS b (q ▸ hbk) hSb
      · rw [q] at hbk
        have := hlt b hSb
        have := Option.some.inj hbk
        omega
end Go.Abs
