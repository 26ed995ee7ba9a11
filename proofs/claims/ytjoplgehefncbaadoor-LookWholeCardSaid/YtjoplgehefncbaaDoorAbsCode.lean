/- The engine: a function's condition, and that it suffices. -/
import Derived.Test.YtjoplgehefncbaaDoorAbsDraw
import Derived.Laws.BytesArg
set_option linter.all false
namespace Go.Abs
open Go.RowKit
variable {P : Program} {C : Cfg} {T : World → Prop} {G : Gx T} {w w' : World} {S S' : Nat → Prop} {ρ : List Value} {st : ASt} {a : Act} {h : List AB} {base : Nat}
theorem aops_ok (hC : COKT P T C) {ops : Array Oper} {K : ASt → Prop} {Q : Exit → Act → World → Prop} (hQ : ∀ st' a' w', K st' → SR G st' a' w' → Q .normal a' w') : ∀ (l : List Oper) (st : ASt) (a : Act) (w : World), aops C ops.toList l st K → SR G st a w → wpList P ops Q l a w
  | [], st, a, w, h, hs => hQ st a w h hs
  | o :: l, st, a, w, h, hs => by
    obtain ⟨S, ρ, hs⟩ := hs
    unfold wpList
    simp only [aops] at h
    split at h
    · rename_i hg
      rw [if_pos (by simp [Region.wanted, hg])]
      exact .inl (aop_ok hC hs h Q _ (.inr trivial) (fun st' a' w' hK hs' => aops_ok hC hQ l st' a' w' hK hs'))
    · rename_i g b hg
      split at h
      · rename_i d hd
        cases hgo : isGone (look st.env d) with
        | true =>
          rw [hgo, cond_true] at h
          have hr := hs.env d
          rw [gone_of hgo] at hr
          have hy := yield_gone hd (rv_gone hr)
          have hw : Region.wanted o (yielded ops a.tmps) = false := by
            simp only [Region.wanted, hg, hy]
            rfl
          rw [hw, if_neg (by decide)]
          exact aops_ok hC hQ l _ _ w h ⟨S, ρ, put_ok hs o.dst (.st _ _ .gone)⟩
        | false =>
        rw [hgo, cond_false] at h
        obtain ⟨t, st', hb, hK, hs', _⟩ := br_ok hs h
        have hy := yield_ok hs' hd hb
        have hw : Region.wanted o (yielded ops a.tmps) = (t == b) := by
          simp only [Region.wanted, hg, hy]
          cases t <;> cases b <;> rfl
        rw [hw]
        cases htb : (t == b) with
        | true =>
          rw [htb, cond_true] at hK
          rw [if_pos rfl]
          exact .inl (aop_ok hC hs' hK Q _ (.inr trivial) (fun st' a' w' hK hs' => aops_ok hC hQ l st' a' w' hK hs'))
        | false =>
          rw [htb, cond_false] at hK
          rw [if_neg (by decide)]
          exact aops_ok hC hQ l _ _ w hK ⟨S, ρ, put_ok hs' o.dst (.st _ _ .gone)⟩
      · exact h.elim
def thenE (K : ASt → Prop) (Q : Exit → ASt → Prop) : Exit → ASt → Prop
  | .normal, st => K st
  | e, st => Q e st
def inB (id : Nat) (Q : Exit → ASt → Prop) : Exit → ASt → Prop
  | .exit id', st => cond (Nat.beq id' id) (Q .normal st) (Q (.exit id') st)
  | e, st => Q e st
/-- What is to be shown of a function's code. -/
def awp (P : Program) (T : World → Prop) (C : Cfg) : Code → (Exit → ASt → Prop) → ASt → Prop
  | .skip, Q, st => Q .normal st
  | .region _ ops draw, Q, st => cond draw (dregion C ops.toList (cutK ops.toList) st (Q .normal)) (aops C ops.toList ops.toList st (Q .normal))
  | .seq x y, Q, st => awp P T C x (thenE (awp P T C y Q) Q) st
  | .cond c x y, Q, st => br st c fun t st => cond t (awp P T C x Q st) (awp P T C y Q st)
  | .block id b, Q, st => awp P T C b (inB id Q) st
  | .exit id, Q, st => Q (.exit id) st
  | .ret, Q, st => Q .ret st
  | .goto l, Q, st => Q (.goto l) st
  | .label _, Q, st => Q .normal st
  | c, Q, st => AW P T c Q st
theorem AW.mono {c : Code} {Q Q' : Exit → ASt → Prop} (h : AW P T c Q st) (hq : ∀ e st, Q e st → Q' e st) : AW P T c Q' st :=
  fun G a w hs => wp_mono (h G a w hs) fun e a' w' ⟨st', h1, h2⟩ => ⟨st', hq _ _ h1, h2⟩
theorem awp_ok (hC : COKT P T C) : ∀ (c : Code) (Q : Exit → ASt → Prop) (st : ASt), awp P T C c Q st → AW P T c Q st
  | .skip, Q, st, h => fun G a w hs => wp_skip ⟨st, h, hs⟩
  | .region id ops draw, Q, st, h => fun G a w hs => by
    simp only [awp] at h
    cases draw with
    | false =>
      rw [cond_false] at h
      exact wp_region_list (aops_ok hC (fun st' a' w' hK hs' => ⟨st', hK, hs'⟩) _ st a w h hs)
    | true =>
      rw [cond_true] at h
      exact draw_ok hC h hs
  | .seq x y, Q, st, h => fun G a w hs => by
    refine wp_seq (wp_mono (awp_ok hC x _ st h G a w hs) fun e a' w' ⟨st', h1, h2⟩ => ?_)
    cases e with
    | normal => exact awp_ok hC y Q st' h1 G a' w' h2
    | _ => exact ⟨st', h1, h2⟩
  | .cond c x y, Q, st, h => fun G a w hs => by
    obtain ⟨S, ρ, hs⟩ := hs
    obtain ⟨t, st', hb, hK, hs', _⟩ := br_ok hs h
    cases t with
    | true => exact wp_cond_true hb (awp_ok hC x Q st' hK G a w ⟨S, ρ, hs'⟩)
    | false => exact wp_cond_false hb (awp_ok hC y Q st' hK G a w ⟨S, ρ, hs'⟩)
  | .block id b, Q, st, h => fun G a w hs => by
    refine wp_block (wp_mono (awp_ok hC b _ st h G a w hs) fun e a' w' ⟨st', h1, h2⟩ => ?_)
    cases e with
    | exit id' =>
      simp only [inB] at h1
      simp only [Exit.inBlock]
      cases hid : Nat.beq id' id with
      | true => rw [hid] at h1; rw [if_pos (Nat.eq_of_beq_eq_true hid)]; exact ⟨st', h1, h2⟩
      | false =>
        rw [hid] at h1
        rw [if_neg (fun e => by rw [e, Nat.beq_refl] at hid; cases hid)]
        exact ⟨st', h1, h2⟩
    | _ => exact ⟨st', h1, h2⟩
  | .exit id, Q, st, h => fun G a w hs => wp_exit ⟨st, h, hs⟩
  | .ret, Q, st, h => fun G a w hs => wp_ret ⟨st, h, hs⟩
  | .goto l, Q, st, h => fun G a w hs => wp_goto ⟨st, h, hs⟩
  | .label l, Q, st, h => fun G a w hs => wp_label ⟨st, h, hs⟩
  | .loop c, Q, st, h => h
  | .rangeFunc f ps x y, Q, st, h => h
  | .scope c, Q, st, h => h
  | .refuse s, Q, st, h => h
end Go.Abs
