/- dest: a table's rows. -/
import Derived.Test.YtmjbobbgidpigaaADestE
set_option linter.all false
set_option maxRecDepth 100000
namespace Go.Abs.Dest
open Go.RowKit Go.Proofs Go.Abs.Tab
/-- How far a row goes from a code on. -/
def stepR (b : Bf) (lo : Int) : Int := min (255 - lo % 256) (255 - (lastI b.to + (lo - b.lo)) % 256)
def endR (b : Bf) (lo : Int) : Int := min b.hi (lo + stepR b lo)
def piece (b : Bf) (lo : Int) : Bf := ⟨b.n, lo, endR b lo, fur b.to (lo - b.lo)⟩
def rowsF (b : Bf) : Nat → Int → List Bf
  | 0, _ => []
  | k + 1, lo => piece b lo :: (if endR b lo < b.hi then rowsF b k (endR b lo + 1) else [])
def rows1 (b : Bf) : List Bf := rowsF b (b.hi - b.lo + 1).toNat b.lo
def rowsB (t : List Bf) : List Bf := t.flatMap rows1
theorem step_nonneg (b : Bf) (lo : Int) : 0 ≤ stepR b lo := by
  unfold stepR
  have h1 := Int.emod_lt_of_pos lo (show (0 : Int) < 256 by decide)
  have h2 := Int.emod_lt_of_pos (lastI b.to + (lo - b.lo)) (show (0 : Int) < 256 by decide)
  omega
theorem rowsF_more (b : Bf) : ∀ (k : Nat) (lo : Int), (b.hi - lo + 1).toNat ≤ k → lo ≤ b.hi → rowsF b (k + 1) lo = rowsF b k lo
  | 0, lo, h, hl => by omega
  | k + 1, lo, h, hl => by
    have hs := step_nonneg b lo
    unfold rowsF
    congr 1
    split
    · rename_i hlt
      exact rowsF_more b k _ (by unfold endR at *; omega) (by omega)
    · rfl
theorem rowsF_fuel (b : Bf) (lo : Int) (hl : lo ≤ b.hi) : ∀ k, (b.hi - lo + 1).toNat ≤ k → rowsF b k lo = rowsF b (b.hi - lo + 1).toNat lo := by
  intro k hk
  induction k with
  | zero => rw [Nat.le_zero.1 hk]
  | succ k ih =>
    by_cases h : (b.hi - lo + 1).toNat ≤ k
    · rw [rowsF_more b k lo h hl, ih h]
    · rw [show k + 1 = (b.hi - lo + 1).toNat by omega]
/-- The rows from a code on. -/
def fromR (b : Bf) (lo : Int) : List Bf := rowsF b (b.hi - lo + 1).toNat lo
theorem fromR_eq {b : Bf} {lo : Int} (hl : lo ≤ b.hi) : fromR b lo = piece b lo :: (if endR b lo < b.hi then fromR b (endR b lo + 1) else []) := by
  have hs := step_nonneg b lo
  unfold fromR
  rw [show (b.hi - lo + 1).toNat = (b.hi - lo).toNat + 1 by omega]
  show piece b lo :: (if endR b lo < b.hi then rowsF b (b.hi - lo).toNat (endR b lo + 1) else []) = _
  congr 1
  split
  · rename_i h
    exact rowsF_fuel b _ (by omega) _ (by unfold endR; omega)
  · rfl
theorem rowsF_len (b : Bf) : ∀ (k : Nat) (lo : Int), (rowsF b k lo).length ≤ k
  | 0, lo => Nat.le_refl _
  | k + 1, lo => by
    unfold rowsF
    split
    · have := rowsF_len b k (endR b lo + 1)
      simp only [List.length_cons]
      omega
    · simp
theorem piece_sane {b : Bf} (h : sane b = true) {lo : Int} (h1 : b.lo ≤ lo) (h2 : lo ≤ b.hi) : sane (piece b lo) = true := by
  have := step_nonneg b lo
  exact part_sane h h1 (by unfold endR; omega) (by unfold endR; omega)
def outR (t : List Bf) (k : Nat) : List Bf := (t.take k).flatMap rows1
theorem outR_next {t : List Bf} {k : Nat} (hk : k < t.length) : outR t (k + 1) = outR t k ++ rows1 (t.getD k default) := by
  unfold outR
  rw [List.take_succ_eq_append_getElem hk, List.flatMap_append, getB hk]
  simp
theorem outR_len {t : List Bf} (hg : ∀ x ∈ t, sane x = true) (k : Nat) : (outR t k).length ≤ 65536 * t.length := by
  have : ∀ (l : List Bf), (∀ x ∈ l, sane x = true) → (l.flatMap rows1).length ≤ 65536 * l.length := by
    intro l
    induction l with
    | nil => intro _; exact Nat.le_refl _
    | cons x l ih =>
      intro h
      have i1 := ih (fun y hy => h y (List.mem_cons_of_mem _ hy))
      have r := rngB (h x List.mem_cons_self)
      have i2 := rowsF_len x (x.hi - x.lo + 1).toNat x.lo
      rw [List.flatMap_cons, List.length_append, List.length_cons]
      have i3 : (rows1 x).length ≤ (x.hi - x.lo + 1).toNat := i2
      omega
  have h := this (t.take k) (fun x hx => hg x (List.mem_of_mem_take hx))
  rw [List.length_take] at h
  unfold outR
  omega
/-- As it is reckoned. -/
def rawE (x : Bf) (lo : Int) : Int := if IntKind.i64.wrap (lo + (if 255 - lastI (fur x.to (lo - x.lo)) % 256 < 255 - lo % 256 then 255 - lastI (fur x.to (lo - x.lo)) % 256 else 255 - lo % 256)) < x.hi then IntKind.i64.wrap (lo + (if 255 - lastI (fur x.to (lo - x.lo)) % 256 < 255 - lo % 256 then 255 - lastI (fur x.to (lo - x.lo)) % 256 else 255 - lo % 256)) else x.hi
theorem rawE_eq {x : Bf} (hx : sane x = true) {lo : Int} (h1 : x.lo ≤ lo) (h2 : lo ≤ x.hi) : rawE x lo = endR x lo := by
  have r := rngB hx
  have e : (if 255 - lastI (fur x.to (lo - x.lo)) % 256 < 255 - lo % 256 then 255 - lastI (fur x.to (lo - x.lo)) % 256 else 255 - lo % 256) = stepR x lo := by
    rw [lastI_fur r.2.2.1.1]
    unfold stepR
    split <;> omega
  have hs := step_nonneg x lo
  have hs2 : stepR x lo ≤ 255 := by unfold stepR; have := Int.emod_nonneg lo (show (256 : Int) ≠ 0 by decide); omega
  unfold rawE endR
  rw [e, iw (by omega) (by omega)]
  split <;> omega
theorem endR_rng {x : Bf} {lo : Int} (h2 : lo ≤ x.hi) : lo ≤ endR x lo ∧ endR x lo ≤ x.hi := by
  have hs := step_nonneg x lo
  unfold endR
  omega
def resR (t : List Bf) : List Bf := if EB.canon t = true then rowsB t else []
def SRows : Sp := ⟨List Bf, fun t => t.length ≤ 1000000, fun t => [aB t], fun t => .row 24 4 (resR t).length (els cBf (resR t))⟩
set_option maxHeartbeats 16000000 in
theorem rows : SpOK Try.prog 18 SRows := fun (t : List Bf) hl => by
  have hC : COK Try.prog (cfg [(24, SCanon), (37, SPart), (38, SRoom), (31, SLast1)]) := Ty.ty.cfg ⟨canonB, part, room, last1, trivial⟩
  have hl : t.length ≤ 1000000 := hl
  ((refine Fn.ofF hC Try.func18 Try.ntmps18 rfl rfl rfl ?_); (repeat' first | (with_reducible exact trivial) | (with_reducible rfl) | (refine And.intro ?_ ?_) | (refine Need.mk ?_) | exact True.intro | (first | (refine ⟨_, Told.refl _, ?_, ?_⟩) | (refine ⟨⟨_, _⟩, Told.refl _, ?_, ?_⟩) | (refine ⟨⟨_, _, _⟩, Told.refl _, ?_, ?_⟩) | (refine ⟨⟨_, _, _, _⟩, Told.refl _, ?_, ?_⟩) | (refine ⟨⟨_, _, _, _, _⟩, Told.refl _, ?_, ?_⟩) | (refine ⟨(), Told.refl _, ?_, ?_⟩)) | (with_reducible intro _) | (refine fun (_ : Bool) => ?_)))
  · show t.length < _
    omega
  · rename_i h
    unfold resR
    rw [if_neg (by simpa using h)]
    rfl
  · rename_i h
    have hc : EB.canon t = true := by simpa using h
    have hg := ((EB.canon_iff t).1 hc).1
    have hg : ∀ x ∈ t, sane x = true := hg
    refine AW.loop (I := fun k : Nat => ⟨51, [(11, aB t), (12, .int .i64 t.length), (13, .int .i64 k), (3, .own 0)], [.row 24 4 (outR t k).length (els cBf (outR t k))]⟩) (fun k => k ≤ t.length) (fun k => t.length - k) 0 (Nat.zero_le _) ?_ ?_
    · (repeat' first | (with_reducible exact trivial) | (with_reducible rfl) | (refine And.intro ?_ ?_) | (refine Need.mk ?_) | exact True.intro | (first | (refine ⟨_, Told.refl _, ?_, ?_⟩) | (refine ⟨⟨_, _⟩, Told.refl _, ?_, ?_⟩) | (refine ⟨⟨_, _, _⟩, Told.refl _, ?_, ?_⟩) | (refine ⟨⟨_, _, _, _⟩, Told.refl _, ?_, ?_⟩) | (refine ⟨⟨_, _, _, _, _⟩, Told.refl _, ?_, ?_⟩) | (refine ⟨(), Told.refl _, ?_, ?_⟩)) | (with_reducible intro _) | (refine fun (_ : Bool) => ?_))
      all_goals rfl
    · intro k hk
      rcases Nat.lt_or_ge k t.length with hlt | hge
      · have hx : sane (t.getD (k : Int).toNat default) = true := by
          rw [Int.toNat_natCast, getB hlt]
          exact hg _ (List.getElem_mem _)
        have hnx : outR t (k + 1) = outR t k ++ fromR (t.getD (k : Int).toNat default) (t.getD (k : Int).toNat default).lo := outR_next hlt
        have hol := outR_len hg (k + 1)
        have hd : decide ((k : Int) < (t.length : Int)) = true := decide_eq_true (by omega)
        have hw := iw (n := (k : Int) + 1) (by omega) (by omega)
        ((refine AW.byF ‹_› ?_); (repeat' first | (with_reducible exact trivial) | (with_reducible rfl) | (refine And.intro ?_ ?_) | (refine Need.mk ?_) | exact True.intro | (first | (refine ⟨_, Told.refl _, ?_, ?_⟩) | (refine ⟨⟨_, _⟩, Told.refl _, ?_, ?_⟩) | (refine ⟨⟨_, _, _⟩, Told.refl _, ?_, ?_⟩) | (refine ⟨⟨_, _, _, _⟩, Told.refl _, ?_, ?_⟩) | (refine ⟨⟨_, _, _, _, _⟩, Told.refl _, ?_, ?_⟩) | (refine ⟨(), Told.refl _, ?_, ?_⟩)) | (with_reducible intro _) | (refine fun (_ : Bool) => ?_)))
        all_goals first | (exact absurd ‹decide ((k : Int) < (t.length : Int)) = false› (by rw [hd]; decide)) | skip
        · omega
        · omega
        refine AW.scope 0 rfl (I := fun x : Int × List Bf => ⟨51, [(11, aB t), (12, .int .i64 t.length), (13, .int .i64 k), (3, .own 0), (5, .ptr 1 0), (6, .int .i64 x.1)], [.row 24 4 x.2.length (els cBf x.2), .box 24 (cBf (t.getD (k : Int).toNat default))]⟩) (fun x => (t.getD (k : Int).toNat default).lo ≤ x.1 ∧ x.1 ≤ (t.getD (k : Int).toNat default).hi ∧ outR t (k + 1) = x.2 ++ fromR (t.getD (k : Int).toNat default) x.1) (fun x => ((t.getD (k : Int).toNat default).hi - x.1).toNat) ?_ ?_
        · have r := rngB hx
          have hol1 : (outR t k).length ≤ (outR t (k + 1)).length := by rw [hnx, List.length_append]; omega
          have hE := rawE_eq hx (Int.le_refl _) r.2.1.2.1
          have hR := endR_rng (x := t.getD (k : Int).toNat default) r.2.1.2.1
          have hF := fromR_eq (b := t.getD (k : Int).toNat default) r.2.1.2.1
          ((refine AW.byF ‹_› ?_); (repeat' first | (with_reducible exact trivial) | (with_reducible rfl) | (refine And.intro ?_ ?_) | (refine Need.mk ?_) | exact True.intro | (first | (refine ⟨_, Told.refl _, ?_, ?_⟩) | (refine ⟨⟨_, _⟩, Told.refl _, ?_, ?_⟩) | (refine ⟨⟨_, _, _⟩, Told.refl _, ?_, ?_⟩) | (refine ⟨⟨_, _, _, _⟩, Told.refl _, ?_, ?_⟩) | (refine ⟨⟨_, _, _, _, _⟩, Told.refl _, ?_, ?_⟩) | (refine ⟨(), Told.refl _, ?_, ?_⟩)) | (with_reducible intro _) | (refine fun (_ : Bool) => ?_)))
          all_goals first
            | exact hx
            | omega
            | (dsimp only; omega)
            | (dsimp only; rw [fur_len]; omega)
            | (dsimp only; rw [lastI_fur r.2.2.1.1]; omega)
            | skip
          · rename_i hq
            have hq : rawE (t.getD (k : Int).toNat default) (t.getD (k : Int).toNat default).lo < (t.getD (k : Int).toNat default).hi := of_decide_eq_true hq
            rw [hE] at hq
            rw [if_pos hq] at hF
            refine Exists.intro (endR (t.getD (k : Int).toNat default) (t.getD (k : Int).toNat default).lo + 1, outR t k ++ [piece (t.getD (k : Int).toNat default) (t.getD (k : Int).toNat default).lo]) (And.intro ⟨?_, ?_, ?_⟩ ?_)
            · show (t.getD (k : Int).toNat default).lo ≤ endR (t.getD (k : Int).toNat default) (t.getD (k : Int).toNat default).lo + 1
              omega
            · show endR (t.getD (k : Int).toNat default) (t.getD (k : Int).toNat default).lo + 1 ≤ (t.getD (k : Int).toNat default).hi
              omega
            · show outR t (k + 1) = (outR t k ++ [piece (t.getD (k : Int).toNat default) (t.getD (k : Int).toNat default).lo]) ++ fromR (t.getD (k : Int).toNat default) (endR (t.getD (k : Int).toNat default) (t.getD (k : Int).toNat default).lo + 1)
              rw [hnx, hF]
              simp
            · (repeat' first | (with_reducible exact trivial) | (with_reducible rfl) | (refine And.intro ?_ ?_) | (refine Need.mk ?_) | exact True.intro | (first | (refine ⟨_, Told.refl _, ?_, ?_⟩) | (refine ⟨⟨_, _⟩, Told.refl _, ?_, ?_⟩) | (refine ⟨⟨_, _, _⟩, Told.refl _, ?_, ?_⟩) | (refine ⟨⟨_, _, _, _⟩, Told.refl _, ?_, ?_⟩) | (refine ⟨⟨_, _, _, _, _⟩, Told.refl _, ?_, ?_⟩) | (refine ⟨(), Told.refl _, ?_, ?_⟩)) | (with_reducible intro _) | (refine fun (_ : Bool) => ?_))
              all_goals first | rfl | (simp; done) | skip
              · rename_i i hi
                refine els_of cBf_emb (n := 0) (fun i hi => ?_) i hi
                show catEl (outR t k).length (els cBf (outR t k)) (elt [cBf ⟨(t.getD (k : Int).toNat default).n, (t.getD (k : Int).toNat default).lo, rawE (t.getD (k : Int).toNat default) (t.getD (k : Int).toNat default).lo, fur (t.getD (k : Int).toNat default).to ((t.getD (k : Int).toNat default).lo - (t.getD (k : Int).toNat default).lo)⟩]) i = _
                rw [hE]
                exact cat_snoc' rfl (fun _ _ => rfl) i hi
              · show IntKind.i64.wrap (rawE (t.getD (k : Int).toNat default) (t.getD (k : Int).toNat default).lo + 1) = endR (t.getD (k : Int).toNat default) (t.getD (k : Int).toNat default).lo + 1
                rw [hE]
                exact iw (by omega) (by omega)
          · rename_i hq
            have hq : ¬ rawE (t.getD (k : Int).toNat default) (t.getD (k : Int).toNat default).lo < (t.getD (k : Int).toNat default).hi := of_decide_eq_false hq
            rw [hE] at hq
            rw [if_neg hq] at hF
            have hn : outR t (k + 1) = outR t k ++ [piece (t.getD (k : Int).toNat default) (t.getD (k : Int).toNat default).lo] := by rw [hnx, hF]
            refine Exists.intro (k + 1) (And.intro ?_ (And.intro ?_ ?_))
            · omega
            · omega
            · (repeat' first | (with_reducible exact trivial) | (with_reducible rfl) | (refine And.intro ?_ ?_) | (refine Need.mk ?_) | exact True.intro | (first | (refine ⟨_, Told.refl _, ?_, ?_⟩) | (refine ⟨⟨_, _⟩, Told.refl _, ?_, ?_⟩) | (refine ⟨⟨_, _, _⟩, Told.refl _, ?_, ?_⟩) | (refine ⟨⟨_, _, _, _⟩, Told.refl _, ?_, ?_⟩) | (refine ⟨⟨_, _, _, _, _⟩, Told.refl _, ?_, ?_⟩) | (refine ⟨(), Told.refl _, ?_, ?_⟩)) | (with_reducible intro _) | (refine fun (_ : Bool) => ?_))
              · rw [hn]
                simp
              · rename_i i hi
                rw [hn] at hi ⊢
                refine els_of cBf_emb (n := 0) (fun i hi => ?_) i hi
                show catEl (outR t k).length (els cBf (outR t k)) (elt [cBf ⟨(t.getD (k : Int).toNat default).n, (t.getD (k : Int).toNat default).lo, rawE (t.getD (k : Int).toNat default) (t.getD (k : Int).toNat default).lo, fur (t.getD (k : Int).toNat default).to ((t.getD (k : Int).toNat default).lo - (t.getD (k : Int).toNat default).lo)⟩]) i = _
                rw [hE]
                exact cat_snoc' rfl (fun _ _ => rfl) i hi
              · rw [hw]
                omega
        · rintro ⟨lo, out⟩ ⟨h1, h2, h3⟩
          dsimp only at h1 h2 h3
          have r := rngB hx
          have hol1 : out.length ≤ (outR t (k + 1)).length := by rw [h3, List.length_append]; omega
          have hE := rawE_eq hx h1 h2
          have hR := endR_rng h2
          have hF := fromR_eq h2
          ((refine AW.byF ‹_› ?_); (repeat' first | (with_reducible exact trivial) | (with_reducible rfl) | (refine And.intro ?_ ?_) | (refine Need.mk ?_) | exact True.intro | (first | (refine ⟨_, Told.refl _, ?_, ?_⟩) | (refine ⟨⟨_, _⟩, Told.refl _, ?_, ?_⟩) | (refine ⟨⟨_, _, _⟩, Told.refl _, ?_, ?_⟩) | (refine ⟨⟨_, _, _, _⟩, Told.refl _, ?_, ?_⟩) | (refine ⟨⟨_, _, _, _, _⟩, Told.refl _, ?_, ?_⟩) | (refine ⟨(), Told.refl _, ?_, ?_⟩)) | (with_reducible intro _) | (refine fun (_ : Bool) => ?_)))
          all_goals first
            | exact hx
            | omega
            | (dsimp only; omega)
            | (dsimp only; rw [fur_len]; omega)
            | (dsimp only; rw [lastI_fur r.2.2.1.1]; omega)
            | skip
          · rename_i hq
            have hq : rawE (t.getD (k : Int).toNat default) lo < (t.getD (k : Int).toNat default).hi := of_decide_eq_true hq
            rw [hE] at hq
            rw [if_pos hq] at hF
            refine Exists.intro (endR (t.getD (k : Int).toNat default) lo + 1, out ++ [piece (t.getD (k : Int).toNat default) lo]) (And.intro ⟨?_, ?_, ?_⟩ (And.intro ?_ ?_))
            · show (t.getD (k : Int).toNat default).lo ≤ endR (t.getD (k : Int).toNat default) lo + 1
              omega
            · show endR (t.getD (k : Int).toNat default) lo + 1 ≤ (t.getD (k : Int).toNat default).hi
              omega
            · show outR t (k + 1) = (out ++ [piece (t.getD (k : Int).toNat default) lo]) ++ fromR (t.getD (k : Int).toNat default) (endR (t.getD (k : Int).toNat default) lo + 1)
              rw [h3, hF]
              simp
            · show ((t.getD (k : Int).toNat default).hi - (endR (t.getD (k : Int).toNat default) lo + 1)).toNat < ((t.getD (k : Int).toNat default).hi - lo).toNat
              omega
            · (repeat' first | (with_reducible exact trivial) | (with_reducible rfl) | (refine And.intro ?_ ?_) | (refine Need.mk ?_) | exact True.intro | (first | (refine ⟨_, Told.refl _, ?_, ?_⟩) | (refine ⟨⟨_, _⟩, Told.refl _, ?_, ?_⟩) | (refine ⟨⟨_, _, _⟩, Told.refl _, ?_, ?_⟩) | (refine ⟨⟨_, _, _, _⟩, Told.refl _, ?_, ?_⟩) | (refine ⟨⟨_, _, _, _, _⟩, Told.refl _, ?_, ?_⟩) | (refine ⟨(), Told.refl _, ?_, ?_⟩)) | (with_reducible intro _) | (refine fun (_ : Bool) => ?_))
              all_goals first | rfl | (simp; done) | skip
              · rename_i i hi
                refine els_of cBf_emb (n := 0) (fun i hi => ?_) i hi
                show catEl (out).length (els cBf (out)) (elt [cBf ⟨(t.getD (k : Int).toNat default).n, lo, rawE (t.getD (k : Int).toNat default) lo, fur (t.getD (k : Int).toNat default).to (lo - (t.getD (k : Int).toNat default).lo)⟩]) i = _
                rw [hE]
                exact cat_snoc' rfl (fun _ _ => rfl) i hi
              · show IntKind.i64.wrap (rawE (t.getD (k : Int).toNat default) lo + 1) = endR (t.getD (k : Int).toNat default) lo + 1
                rw [hE]
                exact iw (by omega) (by omega)
          · rename_i hq
            have hq : ¬ rawE (t.getD (k : Int).toNat default) lo < (t.getD (k : Int).toNat default).hi := of_decide_eq_false hq
            rw [hE] at hq
            rw [if_neg hq] at hF
            have hn : outR t (k + 1) = out ++ [piece (t.getD (k : Int).toNat default) lo] := by rw [h3, hF]
            refine Exists.intro (k + 1) (And.intro ?_ (And.intro ?_ ?_))
            · omega
            · omega
            · (repeat' first | (with_reducible exact trivial) | (with_reducible rfl) | (refine And.intro ?_ ?_) | (refine Need.mk ?_) | exact True.intro | (first | (refine ⟨_, Told.refl _, ?_, ?_⟩) | (refine ⟨⟨_, _⟩, Told.refl _, ?_, ?_⟩) | (refine ⟨⟨_, _, _⟩, Told.refl _, ?_, ?_⟩) | (refine ⟨⟨_, _, _, _⟩, Told.refl _, ?_, ?_⟩) | (refine ⟨⟨_, _, _, _, _⟩, Told.refl _, ?_, ?_⟩) | (refine ⟨(), Told.refl _, ?_, ?_⟩)) | (with_reducible intro _) | (refine fun (_ : Bool) => ?_))
              · rw [hn]
                simp
              · rename_i i hi
                rw [hn] at hi ⊢
                refine els_of cBf_emb (n := 0) (fun i hi => ?_) i hi
                show catEl (out).length (els cBf (out)) (elt [cBf ⟨(t.getD (k : Int).toNat default).n, lo, rawE (t.getD (k : Int).toNat default) lo, fur (t.getD (k : Int).toNat default).to (lo - (t.getD (k : Int).toNat default).lo)⟩]) i = _
                rw [hE]
                exact cat_snoc' rfl (fun _ _ => rfl) i hi
              · rw [hw]
                omega
      · obtain rfl : k = t.length := by omega
        have hd : decide ((t.length : Int) < (t.length : Int)) = false := decide_eq_false (by omega)
        have hr : resR t = outR t t.length := by
          unfold resR outR
          rw [if_pos hc, List.take_length]
          rfl
        ((refine AW.byF ‹_› ?_); (repeat' first | (with_reducible exact trivial) | (with_reducible rfl) | (refine And.intro ?_ ?_) | (refine Need.mk ?_) | exact True.intro | (first | (refine ⟨_, Told.refl _, ?_, ?_⟩) | (refine ⟨⟨_, _⟩, Told.refl _, ?_, ?_⟩) | (refine ⟨⟨_, _, _⟩, Told.refl _, ?_, ?_⟩) | (refine ⟨⟨_, _, _, _⟩, Told.refl _, ?_, ?_⟩) | (refine ⟨⟨_, _, _, _, _⟩, Told.refl _, ?_, ?_⟩) | (refine ⟨(), Told.refl _, ?_, ?_⟩)) | (with_reducible intro _) | (refine fun (_ : Bool) => ?_)))
        all_goals first | (exact absurd ‹decide ((t.length : Int) < (t.length : Int)) = true› (by rw [hd]; decide)) | skip
        all_goals rw [hr]
end Go.Abs.Dest
