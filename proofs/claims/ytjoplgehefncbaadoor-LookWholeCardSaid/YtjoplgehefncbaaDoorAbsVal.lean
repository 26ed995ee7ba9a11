/- The engine: operands, frozen blocks, the values of operations. -/
import Derived.Test.YtjoplgehefncbaaDoorAbsRel
import Derived.Laws.OwnMore
set_option linter.all false
namespace Go.Abs
open Go.RowKit
variable {P : Program} {C : Cfg} {T : World → Prop} {G : Gx T} {w w' : World} {S S' : Nat → Prop} {ρ : List Value} {st : ASt} {a : Act} {h : List AB} {base : Nat}
theorem ofVal1_ok (w : World) (S : Nat → Prop) (v : Value) : RV0 w S (ofVal1 v) v := by
  unfold ofVal1
  split
  · exact .int _ _
  · exact .lit _
  · exact .str _
  · exact .nil
  · exact .nilI
  · exact .nilF
  · exact .nilM
  · exact .nilP
  · exact .any _
theorem ofVals_ok (w : World) (S : Nat → Prop) : ∀ l : List Value, RVs0 w S (ofVals ofVal1 l) l
  | [] => ⟨rfl, fun i a v h => by simp [ofVals] at h⟩
  | u :: l => by
    obtain ⟨h1, h2⟩ := ofVals_ok w S l
    refine ⟨by simp [ofVals, h1], fun i a v ha hv => ?_⟩
    cases i with
    | zero =>
      simp [ofVals] at ha hv
      subst ha; subst hv
      exact ofVal1_ok w S _
    | succ i => exact h2 i a v (by simpa [ofVals] using ha) (by simpa using hv)
theorem ofVal_ok (w : World) (S : Nat → Prop) (v : Value) : RV0 w S (ofVal v) v := by
  unfold ofVal
  split
  · rename_i cs
    have := ofVals_ok w S cs.toList
    exact .agg _ _ this.1 this.2
  · rename_i cs
    have := ofVals_ok w S cs.toList
    exact .tup _ _ this.1 this.2
  · exact ofVal1_ok w S _
theorem ev_ok (hs : SRi G S ρ st a w) (x : Operand) : RV w S ρ (ev st x) (a.eval x) := by
  cases x with
  | tmp t => exact hs.env t
  | const v => exact .st _ _ (ofVal_ok w S v)
  | global g => exact .st _ _ (.any _)
  | func f => exact .st _ _ (.fn f [] [] rfl (fun i a v h => by simp at h))
theorem put_ok (hs : SRi G S ρ st a w) (d : Option Tmp) {v : AV} {u : Value} (hv : RV w S ρ v u) : SRi G S ρ (st.put d v) (a.put d u) w := by
  cases d with
  | none => exact hs
  | some d =>
    refine ⟨hs.lt, hs.s0, hs.sp, hs.hr, ?_, fun t => ?_, hs.bel, hs.dfr⟩
    · simp only [Act.put, Array.size_setIfInBounds]
      exact hs.nt
    · show RV w S ρ (cond (Nat.beq d t) (cond (Nat.blt d st.nt) v .any) (look st.env t)) ((a.tmps.setIfInBounds d u).getD t undef)
      by_cases hd : d = t
      · subst hd
        rw [Nat.beq_refl, cond_true]
        by_cases hlt : d < st.nt
        · rw [show Nat.blt d st.nt = true from Nat.ble_eq_true_of_le hlt, cond_true]
          have : (a.tmps.setIfInBounds d u).getD d undef = u := by
            simp [Array.getD, hs.nt, hlt]
          rw [this]
          exact hv
        · rw [show Nat.blt d st.nt = false from by
            cases hb : Nat.blt d st.nt with
            | false => rfl
            | true => exact absurd (Nat.le_of_ble_eq_true hb) hlt, cond_false]
          exact .st _ _ (.any _)
      · rw [show Nat.beq d t = false from by
            cases hb : Nat.beq d t with
            | false => rfl
            | true => exact absurd (Nat.eq_of_beq_eq_true hb) hd, cond_false]
        have : (a.tmps.setIfInBounds d u).getD t undef = a.tmps.getD t undef := by
          simp only [Array.getD_eq_getD_getElem?]
          rw [Array.getElem?_setIfInBounds_ne hd]
        rw [this]
        exact hs.env t
theorem hSet_len : ∀ (h : List AB) (i : Nat) (x : AB), (hSet h i x).length = h.length
  | [], _, _ => rfl
  | _ :: _, 0, _ => rfl
  | _ :: h, i + 1, x => by simp [hSet, hSet_len h i x]
theorem hAt_set : ∀ (h : List AB) (i : Nat) (x : AB) (j : Nat), hAt (hSet h i x) j = if j = i ∧ i < h.length then x else hAt h j
  | [], i, x, j => by simp [hSet, hAt]
  | b :: h, 0, x, j => by
    cases j with
    | zero => simp [hSet, hAt]
    | succ j => simp [hSet, hAt]
  | b :: h, i + 1, x, j => by
    cases j with
    | zero => simp [hSet, hAt]
    | succ j =>
      have := hAt_set h i x j
      simp only [hSet, hAt, this, List.length_cons]
      by_cases hj : j = i ∧ i < h.length
      · rw [if_pos hj, if_pos (by omega)]
      · rw [if_neg hj, if_neg (by omega)]
theorem hAt_big : ∀ (h : List AB) (i : Nat), h.length ≤ i → hAt h i = .dead
  | [], i, _ => by cases i <;> rfl
  | b :: h, 0, hl => by simp at hl
  | b :: h, i + 1, hl => hAt_big h i (by simpa using hl)
theorem hAt_app : ∀ (h : List AB) (x : AB) (i : Nat), hAt (h ++ [x]) i = if i < h.length then hAt h i else if i = h.length then x else .dead
  | [], x, i => by
    cases i with
    | zero => simp [hAt]
    | succ i => simp [hAt]
  | b :: h, x, i => by
    cases i with
    | zero => simp [hAt]
    | succ i =>
      have := hAt_app h x i
      simp only [List.cons_append, hAt, this, List.length_cons, Nat.add_lt_add_iff_right, Nat.add_right_cancel_iff]
/-! ### Blocks that are written no more -/
def blkF : AB → Value → Option Nat
  | .box _ cs, .pointer (some a) => cond (stb.stbs cs) (some a.block) none
  | .row _ _ _ _, v => v.ownBlock
  | _, _ => none
theorem blkF_blk {b : AB} {v : Value} {k : Nat} (hb : blkF b v = some k) : blk b v = some k := by
  cases b with
  | box t cs =>
    cases v with
    | pointer o =>
      cases o with
      | none => cases hb
      | some ad =>
        simp only [blkF] at hb
        cases hs : stb.stbs cs with
        | true => rw [hs] at hb; exact hb
        | false => rw [hs] at hb; cases hb
    | _ => cases hb
  | row => exact hb
  | fro => cases v <;> cases hb
  | frb => cases v <;> cases hb
  | mp => cases v <;> cases hb
  | gh => cases v <;> cases hb
  | dead => cases v <;> cases hb
/-- The blocks written no more, and those of some of the heap's entries. -/
def Sx (S : Nat → Prop) (ρ : List Value) (h : List AB) (l : List Nat) (b : Nat) : Prop := S b ∨ ∃ id v, id ∈ l ∧ ρ[id]? = some v ∧ blkF (hAt h id) v = some b
theorem Sx.sub {l l' : List Nat} (hl : ∀ i ∈ l, i ∈ l') (b : Nat) (hb : Sx S ρ h l b) : Sx S ρ h l' b := by
  rcases hb with hb | ⟨id, v, h1, h2, h3⟩
  · exact .inl hb
  · exact .inr ⟨id, v, hl id h1, h2, h3⟩
theorem row_sl {e : TypeId} {sz n : Nat} {el : Nat → List AV} {v : Value} (hE : Ent w S base ρ v (.row e sz n el)) (hS : ∀ b, S b → S' b) (hb : ∀ b, v.ownBlock = some b → S' b) : RV0 w S' (.sl sz n el) v := by
  obtain ⟨⟨inner, hown, hel⟩, _⟩ := hE
  rcases hown.2 with ⟨rfl, rfl⟩ | ⟨g, cap, cur, rfl, hbg, hg, hnc, hcm, hcs, htake⟩
  · exact .sl sz 0 el none 0 (fun _ _ => undef) (Nat.le_refl _) (by unfold maxLen; omega) (fun i hi => by omega) (fun i j hi => by omega) (fun i j a hi => by omega)
  · have hlen := hown.1
    refine .sl sz n el (some ⟨g, 0, none⟩) cap (fun i j => inner.getD (i * sz + j) undef) hnc hcm (fun i hi => ⟨(hel i hi).1, (hel i hi).2.1⟩) (fun i j hi hj => ?_) (fun i j a hi ha => ?_)
    · have hlt : i * sz + j < inner.length := by
        rw [hlen]
        calc i * sz + j < i * sz + sz := by omega
          _ = (i + 1) * sz := by rw [Nat.add_mul]; omega
          _ ≤ n * sz := Nat.mul_le_mul_right _ hi
      refine ⟨_, rfl, hb g rfl, ?_⟩
      exact hown.cells (g := g) rfl _ _ (by rw [List.getD_eq_getElem?_getD, List.getElem?_eq_getElem hlt]; rfl)
    · obtain ⟨u, h1, h2⟩ := (hel i hi).2.2 j a ha
      show RV0 w S' a (inner.getD (i * sz + j) undef)
      rw [List.getD_eq_getElem?_getD, h1]
      exact h2.mono hS (fun _ _ => rfl)
theorem box_rp {t : TypeId} {cs : List AV} {b : Nat} (hE : Ent w S base ρ (.pointer (some ⟨b, 0, none⟩)) (.box t cs)) (hst : stb.stbs cs = true) (off : Nat) (hS : ∀ b, S b → S' b) (hb : S' b) : RV0 w S' (.rptr (cs.drop off)) (.pointer (some ⟨b, off, none⟩)) := by
  obtain ⟨b', vs, e, _, hh, ho, hr, _⟩ := hE
  cases e
  have hr0 := hr.toSt hst
  have hones : ∀ (l : List AV) (k : Nat), ones l = true → ones (l.drop k) = true := by
    intro l
    induction l with
    | nil => intro k _; simp [ones]
    | cons c l ih =>
      intro k hk
      cases k with
      | zero => exact hk
      | succ k => simp only [ones, Bool.and_eq_true] at hk; exact ih k hk.2
  refine .rptr _ _ (fun j => vs.getD (off + j) undef) (hones cs off ho) (fun j hj => ⟨hb, ?_⟩) (fun j x hx => ?_)
  · rw [List.length_drop] at hj
    have hadd : (⟨b, off, none⟩ : Addr).add j = ⟨b, off + j, none⟩ := by unfold Addr.add; split <;> simp_all
    rw [hadd, cell_of_row w b (off + j) _ t (0, 0) hh]
    have hlt : off + j < vs.length := by rw [hr.1]; omega
    rw [List.getD_eq_getElem?_getD, List.getElem?_eq_getElem hlt]
    simp [hlt]
  · rw [List.getElem?_drop] at hx
    have hlt : off + j < vs.length := by rw [hr.1]; exact (List.getElem?_eq_some_iff.1 hx).1
    have := hr0.2 _ _ vs[off + j] hx (List.getElem?_eq_getElem hlt)
    rw [List.getD_eq_getElem?_getD, List.getElem?_eq_getElem hlt]
    exact this.mono hS (fun _ _ => rfl)
theorem add_add (ad : Addr) (x y : Nat) : (ad.add x).add y = ad.add (x + y) := by
  unfold Addr.add
  by_cases h1 : x = 0
  · subst h1; simp
  · by_cases h2 : y = 0
    · subst h2; simp [h1]
    · simp [h1, h2, Nat.add_assoc]
theorem add_block (ad : Addr) (x : Nat) : (ad.add x).block = ad.block := by unfold Addr.add; split <;> rfl
theorem rptr_drop {cs : List AV} {ad : Addr} (hr : RV0 w S (.rptr cs) (.pointer (some ad))) (k : Nat) : RV0 w S (.rptr (cs.drop k)) (.pointer (some (ad.add k))) := by
  cases hr with
  | rptr cs ad g ho hm hr =>
    have hones : ∀ (l : List AV) (k : Nat), ones l = true → ones (l.drop k) = true := by
      intro l
      induction l with
      | nil => intro k _; simp [ones]
      | cons c l ih =>
        intro k hk
        cases k with
        | zero => exact hk
        | succ k => simp only [ones, Bool.and_eq_true] at hk; exact ih k hk.2
    refine .rptr _ _ (fun j => g (k + j)) (hones cs k ho) (fun j hj => ?_) (fun j x hx => hr _ _ (by rw [List.getElem?_drop] at hx; exact hx))
    rw [List.length_drop] at hj
    obtain ⟨h1, h2⟩ := hm (k + j) (by omega)
    have e1 : (ad.add k).block = ad.block := by unfold Addr.add; split <;> rfl
    have e2 : (ad.add k).add j = ad.add (k + j) := by
      unfold Addr.add
      by_cases hk : k = 0
      · subst hk; simp
      · by_cases hj0 : j = 0
        · subst hj0; simp [hk]
        · simp [hk, hj0, Nat.add_assoc]
    exact ⟨e1 ▸ h1, by rw [e2]; exact h2⟩
theorem idss_mem : ∀ {l : List AV} {i : Nat} {x : AV}, l[i]? = some x → ∀ k ∈ ids x, k ∈ ids.idss l
  | [], _, _, hx => by simp at hx
  | c :: l, 0, x, hx => fun k hk => by
    simp at hx
    subst hx
    simp only [ids.idss, List.mem_append]
    exact .inl hk
  | c :: l, i + 1, x, hx => fun k hk => by
    simp only [ids.idss, List.mem_append]
    exact .inr (idss_mem (l := l) (by simpa using hx) k hk)
theorem fzs_get : ∀ (l : List AV) (i : Nat), (fz.fzs h l)[i]? = (l[i]?).map (fz h)
  | [], i => by simp [fz.fzs]
  | c :: l, 0 => by simp [fz.fzs]
  | c :: l, i + 1 => by simpa [fz.fzs] using fzs_get l i
theorem fzs_len : ∀ (l : List AV), (fz.fzs h l).length = l.length
  | [] => rfl
  | c :: l => by simp [fz.fzs, fzs_len l]
theorem idss_stb : ∀ (l : List AV), (∀ (i : Nat) (x : AV), l[i]? = some x → fz h x = x) → fz.fzs h l = l
  | [], _ => rfl
  | c :: l, hx => by
    simp only [fz.fzs]
    rw [hx 0 c (by simp), idss_stb l (fun i x hi => hx (i + 1) x (by simpa using hi))]
/-- A value that reads as it stands is not turned. -/
theorem fz_st0 {x : AV} {v : Value} (hr : RV0 w S x v) : fz h x = x := by
  induction hr with
  | agg cs vs hl _ ih => simp only [fz]; rw [idss_stb cs (fun i x hi => by
      have hlt : i < vs.length := by rw [hl]; exact (List.getElem?_eq_some_iff.1 hi).1
      exact ih i x _ hi (List.getElem?_eq_getElem hlt))]
  | tup cs vs hl _ ih => simp only [fz]; rw [idss_stb cs (fun i x hi => by
      have hlt : i < vs.length := by rw [hl]; exact (List.getElem?_eq_some_iff.1 hi).1
      exact ih i x _ hi (List.getElem?_eq_getElem hlt))]
  | fn f cs vs hl _ ih => simp only [fz]; rw [idss_stb cs (fun i x hi => by
      have hlt : i < vs.length := by rw [hl]; exact (List.getElem?_eq_some_iff.1 hi).1
      exact ih i x _ hi (List.getElem?_eq_getElem hlt))]
  | iface t a v _ ih => simp only [fz, ih]
  | _ => rfl
theorem fz_ok (hh : HR w S base ρ h) {x : AV} {v : Value} (hr : RV w S ρ x v) : RV0 w (Sx S ρ h (ids x)) (fz h x) v := by
  induction hr with
  | st a v h0 =>
    rw [fz_st0 h0]
    exact h0.mono (fun b hb => .inl hb) (fun _ _ => rfl)
  | own id v hi h1 =>
    have hE := hh.ent id v hi
    simp only [fz]
    split
    · rename_i e sz n el he
      rw [he] at hE
      exact row_sl hE (fun b hb => .inl hb) (fun b hb => .inr ⟨id, v, by simp [ids], hi, by rw [he]; exact hb⟩)
    · rename_i sz n el he
      rw [he] at hE
      exact RV0.mono hE (fun b hb => .inl hb) (fun _ _ => rfl)
    · exact .any _
  | ptr id off b hi =>
    have hE := hh.ent id _ hi
    simp only [fz]
    split
    · rename_i t cs he
      rw [he] at hE
      cases hs : stb.stbs cs with
      | true => exact box_rp hE hs off (fun b hb => .inl hb) (.inr ⟨id, _, by simp [ids], hi, by rw [he]; simp [blkF, hs]⟩)
      | false => exact .any _
    · rename_i cs he
      rw [he] at hE
      have := rptr_drop (RV0.mono hE (S' := Sx S ρ h (ids (.ptr id off))) (fun b hb => .inl hb) (fun _ _ => rfl)) off
      have e : (⟨b, 0, none⟩ : Addr).add off = ⟨b, off, none⟩ := by unfold Addr.add; split <;> simp_all
      rw [e] at this
      exact this
    · exact .any _
  | optr => exact .any _
  | agg cs vs hl _ ih =>
    refine .agg _ vs (by rw [fzs_len]; exact hl) fun i a v ha hv => ?_
    rw [fzs_get] at ha
    obtain ⟨x, hx, rfl⟩ := Option.map_eq_some_iff.1 ha
    exact (ih i x v hx hv).mono (fun b hb => hb.sub (idss_mem hx)) (fun _ _ => rfl)
  | tup cs vs hl _ ih =>
    refine .tup _ vs (by rw [fzs_len]; exact hl) fun i a v ha hv => ?_
    rw [fzs_get] at ha
    obtain ⟨x, hx, rfl⟩ := Option.map_eq_some_iff.1 ha
    exact (ih i x v hx hv).mono (fun b hb => hb.sub (idss_mem hx)) (fun _ _ => rfl)
  | fn f cs vs hl _ ih =>
    refine .fn f _ vs (by rw [fzs_len]; exact hl) fun i a v ha hv => ?_
    rw [fzs_get] at ha
    obtain ⟨x, hx, rfl⟩ := Option.map_eq_some_iff.1 ha
    exact (ih i x v hx hv).mono (fun b hb => hb.sub (idss_mem hx)) (fun _ _ => rfl)
  | iface t a v _ ih => exact .iface t _ v ih
theorem fzs_ok (hh : HR w S base ρ h) {cs : List AV} {vs : List Value} (hr : RVs w S ρ cs vs) : RVs0 w (Sx S ρ h (ids.idss cs)) (fz.fzs h cs) vs := by
  refine ⟨by rw [fzs_len]; exact hr.1, fun i a v ha hv => ?_⟩
  rw [fzs_get] at ha
  obtain ⟨x, hx, rfl⟩ := Option.map_eq_some_iff.1 ha
  exact (fz_ok hh (hr.2 i x v hx hv)).mono (fun b hb => hb.sub (idss_mem hx)) (fun _ _ => rfl)
theorem frz1_at (h : List AB) (id j : Nat) (hj : j ≠ id) : hAt (frz1 h id) j = hAt h j := by
  unfold frz1
  split
  · rw [hAt_set, if_neg (fun e => hj e.1)]
  · rename_i t cs he
    cases hs : stb.stbs cs with
    | true => rw [cond_true, hAt_set, if_neg (fun e => hj e.1)]
    | false => rw [cond_false]
  · rfl
theorem frz1_len (h : List AB) (id : Nat) : (frz1 h id).length = h.length := by
  unfold frz1
  split
  · exact hSet_len _ _ _
  · rename_i t cs he
    cases stb.stbs cs with
    | true => exact hSet_len _ _ _
    | false => rfl
  · rfl
theorem frz1_blkF (h : List AB) (id : Nat) (v : Value) : blkF (hAt (frz1 h id) id) v = none := by
  have hlt : ∀ x : AB, hAt h id = x → x ≠ .dead → id < h.length := fun x hx hne => by
    rcases Nat.lt_or_ge id h.length with hl | hl
    · exact hl
    · rw [hAt_big h id hl] at hx
      exact absurd hx.symm hne
  unfold frz1
  split
  · rename_i e sz n el he
    rw [hAt_set, if_pos ⟨rfl, hlt _ he (by simp)⟩]
    cases v <;> rfl
  · rename_i t cs he
    cases hs : stb.stbs cs with
    | true =>
      rw [cond_true, hAt_set, if_pos ⟨rfl, hlt _ he (by simp)⟩]
      cases v <;> rfl
    | false =>
      rw [cond_false, he]
      cases v with
      | pointer o => cases o <;> simp [blkF, hs]
      | _ => rfl
  · rename_i h1 h2
    cases hx : hAt h id with
    | row e sz n el => exact absurd hx (h1 e sz n el)
    | box t cs => exact absurd hx (h2 t cs)
    | fro => cases v <;> rfl
    | frb => cases v <;> rfl
    | mp => cases v <;> rfl
    | gh => cases v <;> rfl
    | dead => cases v <;> rfl
theorem Ent.mono {b : AB} {v : Value} (hE : Ent w S base ρ v b) (hS : ∀ b, S b → S' b) (hn : ∀ k, blk b v = some k → ¬ S' k) : Ent w S' base ρ v b := by
  cases b with
  | box t cs =>
    obtain ⟨b', vs, rfl, h1, h2, h3, h4, h5⟩ := hE
    exact ⟨b', vs, rfl, h1, h2, h3, h4.mono hS (fun _ _ => rfl) (fun _ _ e => e), hn b' rfl⟩
  | row e sz n el =>
    obtain ⟨⟨inner, h1, h2⟩, h3⟩ := hE
    refine ⟨⟨inner, h1, fun i hi => ⟨(h2 i hi).1, (h2 i hi).2.1, fun j a ha => ?_⟩⟩, fun k hk => hn k hk⟩
    obtain ⟨u, hu, hr⟩ := (h2 i hi).2.2 j a ha
    exact ⟨u, hu, hr.mono hS (fun _ _ => rfl)⟩
  | fro sz n el => exact RV0.mono hE hS (fun _ _ => rfl)
  | frb cs => exact RV0.mono hE hS (fun _ _ => rfl)
  | mp l =>
    obtain ⟨b', es, clock, rfl, h1, h2, h3, h4⟩ := hE
    exact ⟨b', es, clock, rfl, h1, h2, h3.mono hS (fun _ _ => rfl) (fun _ _ e => e), hn b' rfl⟩
  | gh env tm => exact fun t => (hE t).mono hS (fun _ _ => rfl) (fun _ _ e => e)
  | dead => trivial
theorem frz1_ok (hh : HR w S base ρ h) (id : Nat) : HR w (Sx S ρ h [id]) base ρ (frz1 h id) := by
  have hnS : ∀ j v k, j ≠ id → ρ[j]? = some v → blk (hAt h j) v = some k → ¬ Sx S ρ h [id] k := by
    intro j v k hj hv hk hx
    have hE := hh.ent j v hv
    rcases hx with hx | ⟨i, u, hi, hu, hb⟩
    · cases hb : hAt h j with
      | box t cs =>
        rw [hb] at hE hk
        obtain ⟨b', vs, rfl, _, _, _, _, h5⟩ := hE
        simp [blk] at hk
        subst hk
        exact h5 hx
      | row e sz n el =>
        rw [hb] at hE hk
        exact hE.2 k hk hx
      | fro => rw [hb] at hk; cases v <;> cases hk
      | frb => rw [hb] at hk; cases v <;> cases hk
      | mp l =>
        rw [hb] at hE hk
        obtain ⟨b', es, clock, rfl, _, _, _, h5⟩ := hE
        simp [blk] at hk
        subst hk
        exact h5 hx
      | gh => rw [hb] at hk; cases v <;> cases hk
      | dead => rw [hb] at hk; cases v <;> cases hk
    · obtain rfl : i = id := by simpa using hi
      exact hh.apart j i v u k hj hv hu hk (blkF_blk hb)
  refine ⟨by rw [frz1_len]; exact hh.len, fun j v hv => ?_, fun i j v u b hij hv hu hb => ?_⟩
  · by_cases hj : j = id
    · subst hj
      have hE := hh.ent j v hv
      have hlt : j < h.length := by rw [← hh.len]; exact (List.getElem?_eq_some_iff.1 hv).1
      unfold frz1
      split
      · rename_i e sz n el he
        rw [hAt_set, if_pos ⟨rfl, hlt⟩]
        rw [he] at hE
        exact row_sl hE (fun b hb => .inl hb) (fun b hb => .inr ⟨j, v, by simp, hv, by rw [he]; exact hb⟩)
      · rename_i t cs he
        rw [he] at hE
        cases hs : stb.stbs cs with
        | true =>
          rw [cond_true, hAt_set, if_pos ⟨rfl, hlt⟩]
          have hE2 := hE
          obtain ⟨b', vs, rfl, _⟩ := hE2
          exact box_rp hE hs 0 (fun b hb => .inl hb) (.inr ⟨j, _, by simp, hv, by rw [he]; simp [blkF, hs]⟩)
        | false =>
          rw [cond_false, he]
          refine hE.mono (fun b hb => .inl hb) (fun k hk hx => ?_)
          rcases hx with hx | ⟨i, u, hi, hu, hb⟩
          · obtain ⟨b', vs, rfl, _, _, _, _, h5⟩ := hE
            simp [blk] at hk
            subst hk
            exact h5 hx
          · obtain rfl : i = j := by simpa using hi
            rw [he] at hb
            cases u with
            | pointer o => cases o <;> simp [blkF, hs] at hb
            | _ => cases hb
      · rename_i h1 h2
        cases hx : hAt h j with
        | row e sz n el => exact absurd hx (h1 e sz n el)
        | box t cs => exact absurd hx (h2 t cs)
        | fro => rw [hx] at hE; exact RV0.mono hE (fun b hb => .inl hb) (fun _ _ => rfl)
        | frb => rw [hx] at hE; exact RV0.mono hE (fun b hb => .inl hb) (fun _ _ => rfl)
        | mp l =>
          rw [hx] at hE
          obtain ⟨b', es, clock, rfl, h1', h2', h3', h4'⟩ := hE
          refine ⟨b', es, clock, rfl, h1', h2', h3'.mono (fun b hb => .inl hb) (fun _ _ => rfl) (fun _ _ e => e), fun hy => ?_⟩
          rcases hy with hy | ⟨i, u, hi, hu, hb⟩
          · exact h4' hy
          · obtain rfl : i = j := by simpa using hi
            rw [hx] at hb
            cases u <;> cases hb
        | gh env tm =>
          rw [hx] at hE
          exact fun t => (hE t).mono (fun b hb => .inl hb) (fun _ _ => rfl) (fun _ _ e => e)
        | dead => trivial
    · rw [frz1_at h id j hj]
      exact (hh.ent j v hv).mono (fun b hb => .inl hb) (fun k hk => hnS j v k hj hv hk)
  · -- entries keep their blocks, or lose them
    have hsub : ∀ j v k, blk (hAt (frz1 h id) j) v = some k → blk (hAt h j) v = some k := by
      intro j v k hk
      by_cases hj : j = id
      · subst hj
        revert hk
        unfold frz1
        split
        · rename_i e sz n el he
          rw [hAt_set]
          split
          · intro hk; cases v <;> cases hk
          · exact fun hk => hk
        · rename_i t cs he
          cases hs : stb.stbs cs with
          | true =>
            rw [cond_true, hAt_set]
            split
            · intro hk; cases v <;> cases hk
            · exact fun hk => hk
          | false => exact fun hk => hk
        · exact fun hk => hk
      · rw [frz1_at h id j hj] at hk
        exact hk
    exact fun hu2 => hh.apart i j v u b hij hv hu (hsub i v b hb) (hsub j u b hu2)
theorem frz_ok : ∀ (l : List Nat) {h : List AB} {S : Nat → Prop}, HR w S base ρ h → ∃ S', HR w S' base ρ (frz h l) ∧ (∀ b, S' b ↔ Sx S ρ h l b)
  | [], h, S, hh => ⟨S, hh, fun b => ⟨fun hb => .inl hb, fun hb => by
      rcases hb with hb | ⟨_, _, hi, _⟩
      · exact hb
      · cases hi⟩⟩
  | id :: l, h, S, hh => by
    obtain ⟨S', h1, h2⟩ := frz_ok l (frz1_ok hh id)
    refine ⟨S', h1, fun b => (h2 b).trans ⟨fun hb => ?_, fun hb => ?_⟩⟩
    · rcases hb with (hb | ⟨i, v, hi, hv, hk⟩) | ⟨i, v, hi, hv, hk⟩
      · exact .inl hb
      · exact .inr ⟨i, v, by simp at hi; simp [hi], hv, hk⟩
      · refine .inr ⟨i, v, List.mem_cons_of_mem _ hi, hv, ?_⟩
        by_cases hid : i = id
        · subst hid
          rw [frz1_blkF] at hk
          cases hk
        · rwa [frz1_at h id i hid] at hk
    · rcases hb with hb | ⟨i, v, hi, hv, hk⟩
      · exact .inl (.inl hb)
      · by_cases hid : i = id
        · subst hid
          exact .inl (.inr ⟨i, v, by simp, hv, hk⟩)
        · refine .inr ⟨i, v, by rcases List.mem_cons.1 hi with e | e; exact absurd e hid; exact e, hv, ?_⟩
          rw [frz1_at h id i hid]
          exact hk
end Go.Abs
