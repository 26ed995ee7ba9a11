/- The document's answer for layer 8: a table's rows. -/
import Derived.Test.YtmjbobbgidpigaaADestR3
set_option linter.all false
set_option maxRecDepth 100000
namespace Go.Abs.Dest
open Go.RowKit Go.Proofs Go.Abs.Tab
/-- What is left of one from a code on. -/
def leftR (b : Bf) (lo : Int) : Bf := ⟨b.n, lo, b.hi, fur b.to (lo - b.lo)⟩
/-- How far a row goes, as the document reckons it. -/
def dR (b : Bf) (lo : Int) : Int := endR b lo - lo
theorem dR_min {b : Bf} (hb : 1 ≤ b.to.length) (lo : Int) : (if b.hi - lo < (if 255 - lastI (fur b.to (lo - b.lo)) % 256 < 255 - lo % 256 then 255 - lastI (fur b.to (lo - b.lo)) % 256 else 255 - lo % 256) then b.hi - lo else (if 255 - lastI (fur b.to (lo - b.lo)) % 256 < 255 - lo % 256 then 255 - lastI (fur b.to (lo - b.lo)) % 256 else 255 - lo % 256)) = dR b lo := by
  rw [lastI_fur hb]
  unfold dR endR stepR
  repeat' split
  all_goals omega
/-- The rows from a code on; none behind the last one. -/
def restR (b : Bf) (lo : Int) : List Bf := if lo ≤ b.hi then fromR b lo else []
theorem restR_next {b : Bf} {lo : Int} (h : lo ≤ b.hi) : restR b lo = piece b lo :: restR b (endR b lo + 1) := by
  unfold restR
  rw [if_pos h, fromR_eq h]
  refine congrArg _ ?_
  by_cases q : endR b lo < b.hi
  · rw [if_pos q, if_pos (by omega)]
  · rw [if_neg q, if_neg (by omega)]
theorem rawD_eq {b : Bf} (hb : sane b = true) {lo : Int} (h1 : b.lo ≤ lo) (h2 : lo ≤ b.hi) : (if IntKind.i64.wrap (b.hi - (leftR b lo).lo) < (if IntKind.i64.wrap (255 - ((leftR b lo).to.getD (IntKind.i64.wrap (((leftR b lo).to.length : Int) - 1)).toNat default).tmod 256) < IntKind.i64.wrap (255 - (leftR b lo).lo.tmod 256) then IntKind.i64.wrap (255 - ((leftR b lo).to.getD (IntKind.i64.wrap (((leftR b lo).to.length : Int) - 1)).toNat default).tmod 256) else IntKind.i64.wrap (255 - (leftR b lo).lo.tmod 256)) then IntKind.i64.wrap (b.hi - (leftR b lo).lo) else (if IntKind.i64.wrap (255 - ((leftR b lo).to.getD (IntKind.i64.wrap (((leftR b lo).to.length : Int) - 1)).toNat default).tmod 256) < IntKind.i64.wrap (255 - (leftR b lo).lo.tmod 256) then IntKind.i64.wrap (255 - ((leftR b lo).to.getD (IntKind.i64.wrap (((leftR b lo).to.length : Int) - 1)).toNat default).tmod 256) else IntKind.i64.wrap (255 - (leftR b lo).lo.tmod 256))) = dR b lo := by
  have r := rngB hb
  have hln : (leftR b lo).to.length = b.to.length := fur_len _ _
  have e1 : IntKind.i64.wrap (((leftR b lo).to.length : Int) - 1) = ((b.to.length - 1 : Nat) : Int) := by rw [hln, iw (by omega) (by omega)]; omega
  have e2 : (leftR b lo).to.getD (b.to.length - 1) default = lastI (fur b.to (lo - b.lo)) := by
    unfold lastI
    rw [fur_len]
    rfl
  have e3 : lastI (fur b.to (lo - b.lo)) = lastI b.to + (lo - b.lo) := lastI_fur r.2.2.1.1 _
  have e4 : (leftR b lo).lo = lo := rfl
  rw [e1, Int.toNat_natCast, e2, e4, Int.tmod_eq_emod_of_nonneg (by omega), Int.tmod_eq_emod_of_nonneg (by omega)]
  have q1 := Int.emod_nonneg (lastI (fur b.to (lo - b.lo))) (show (256 : Int) ≠ 0 by decide)
  have q2 := Int.emod_nonneg lo (show (256 : Int) ≠ 0 by decide)
  have q3 := Int.emod_lt_of_pos (lastI (fur b.to (lo - b.lo))) (show (0 : Int) < 256 by decide)
  have q4 := Int.emod_lt_of_pos lo (show (0 : Int) < 256 by decide)
  rw [iw (n := b.hi - lo) (by omega) (by omega), iw (n := 255 - lastI (fur b.to (lo - b.lo)) % 256) (by omega) (by omega), iw (n := 255 - lo % 256) (by omega) (by omega)]
  exact dR_min r.2.2.1.1 lo
set_option maxHeartbeats 16000000 in
theorem rrows : SpOK Try.prog 27 SRows := fun (t : List Bf) hl => by
  have hC : COK Try.prog (cfg [(25, SCanon), (40, SFur)]) := Ty.ty.cfg ⟨rcanon, rfurther, trivial⟩
  have hl : t.length ≤ 1000000 := hl
  ((refine Fn.ofF hC Try.func27 Try.ntmps27 rfl rfl rfl ?_); (repeat' first | (with_reducible exact trivial) | (with_reducible rfl) | (refine And.intro ?_ ?_) | (refine Need.mk ?_) | exact True.intro | (first | (refine ⟨_, Told.refl _, ?_, ?_⟩) | (refine ⟨⟨_, _⟩, Told.refl _, ?_, ?_⟩) | (refine ⟨⟨_, _, _⟩, Told.refl _, ?_, ?_⟩) | (refine ⟨⟨_, _, _, _⟩, Told.refl _, ?_, ?_⟩) | (refine ⟨⟨_, _, _, _, _⟩, Told.refl _, ?_, ?_⟩) | (refine ⟨(), Told.refl _, ?_, ?_⟩)) | (with_reducible intro _) | (refine fun (_ : Bool) => ?_)))
  · show t.length < _
    omega
  · rename_i h
    unfold resR
    rw [if_neg (by simpa using h)]
    rfl
  · rename_i h
    have hc : EB.canon t = true := by simpa using h
    have hg := ((EB.canon_iff t).1 hc).1
    have hg : ∀ x ∈ t, sane x = true := hg
    refine AW.loop (I := fun k : Nat => ⟨83, [(0, aB t), (3, .own 0), (4, .int .i64 k)], [.row 24 4 (outR t k).length (els cBf (outR t k))]⟩) (fun k => k ≤ t.length) (fun k => t.length - k) 0 (Nat.zero_le _) ?_ ?_
    · (repeat' first | (with_reducible exact trivial) | (with_reducible rfl) | (refine And.intro ?_ ?_) | (refine Need.mk ?_) | exact True.intro | (first | (refine ⟨_, Told.refl _, ?_, ?_⟩) | (refine ⟨⟨_, _⟩, Told.refl _, ?_, ?_⟩) | (refine ⟨⟨_, _, _⟩, Told.refl _, ?_, ?_⟩) | (refine ⟨⟨_, _, _, _⟩, Told.refl _, ?_, ?_⟩) | (refine ⟨⟨_, _, _, _, _⟩, Told.refl _, ?_, ?_⟩) | (refine ⟨(), Told.refl _, ?_, ?_⟩)) | (with_reducible intro _) | (refine fun (_ : Bool) => ?_))
      all_goals rfl
    · intro k hk
      rcases Nat.lt_or_ge k t.length with hlt | hge
      · obtain ⟨b, hb⟩ : ∃ b, b = t.getD k default := ⟨_, rfl⟩
        have hx : sane b = true := by rw [hb]; exact hg _ (getMem hlt)
        have r := rngB hx
        have hnx : outR t (k + 1) = outR t k ++ restR b b.lo := by
          rw [outR_next hlt, ← hb]
          unfold restR
          rw [if_pos r.2.1.2.1]
          rfl
        have hol := outR_len hg (k + 1)
        have hd : decide ((k : Int) < (t.length : Int)) = true := decide_eq_true (by omega)
        have hw := iw (n := (k : Int) + 1) (by omega) (by omega)
        ((refine AW.byF ‹_› ?_); (repeat' first | (with_reducible exact trivial) | (with_reducible rfl) | (refine And.intro ?_ ?_) | (refine Need.mk ?_) | exact True.intro | (first | (refine ⟨_, Told.refl _, ?_, ?_⟩) | (refine ⟨⟨_, _⟩, Told.refl _, ?_, ?_⟩) | (refine ⟨⟨_, _, _⟩, Told.refl _, ?_, ?_⟩) | (refine ⟨⟨_, _, _, _⟩, Told.refl _, ?_, ?_⟩) | (refine ⟨⟨_, _, _, _, _⟩, Told.refl _, ?_, ?_⟩) | (refine ⟨(), Told.refl _, ?_, ?_⟩)) | (with_reducible intro _) | (refine fun (_ : Bool) => ?_)))
        all_goals first | (exact absurd ‹decide ((k : Int) < (t.length : Int)) = false› (by rw [hd]; decide)) | skip
        · omega
        · omega
        refine AW.loop (I := fun x : Int × List Bf => ⟨83, [(0, aB t), (3, .own 0), (4, .int .i64 k), (5, .ptr 1 0)], [.row 24 4 x.2.length (els cBf x.2), .box 24 (cBf (leftR b x.1))]⟩) (fun x => b.lo ≤ x.1 ∧ x.1 ≤ b.hi + 1 ∧ outR t (k + 1) = x.2 ++ restR b x.1) (fun x => (b.hi + 1 - x.1).toNat) (b.lo, outR t k) ⟨Int.le_refl _, by dsimp only; omega, hnx⟩ ?_ ?_
        · rw [hb]
          (repeat' first | (with_reducible exact trivial) | (with_reducible rfl) | (refine And.intro ?_ ?_) | (refine Need.mk ?_) | exact True.intro | (first | (refine ⟨_, Told.refl _, ?_, ?_⟩) | (refine ⟨⟨_, _⟩, Told.refl _, ?_, ?_⟩) | (refine ⟨⟨_, _, _⟩, Told.refl _, ?_, ?_⟩) | (refine ⟨⟨_, _, _, _⟩, Told.refl _, ?_, ?_⟩) | (refine ⟨⟨_, _, _, _, _⟩, Told.refl _, ?_, ?_⟩) | (refine ⟨(), Told.refl _, ?_, ?_⟩)) | (with_reducible intro _) | (refine fun (_ : Bool) => ?_))
          all_goals first | rfl | skip
          · show _ = (fur (t.getD k default).to ((t.getD k default).lo - (t.getD k default).lo)).length
            rw [fur_len]
            rfl
          · show _ = (fur (t.getD k default).to ((t.getD k default).lo - (t.getD k default).lo)).getD _ default
            rw [Int.sub_self, fur_zero]
            rfl
        · rintro ⟨lo, out⟩ ⟨h1, h2, h3⟩
          dsimp only at h1 h2 h3 ⊢
          have hol1 : out.length ≤ (outR t (k + 1)).length := by rw [h3, List.length_append]; omega
          rcases Int.lt_or_le b.hi lo with hq | hq
          · have hd2 : decide (lo ≤ b.hi) = false := decide_eq_false (by omega)
            have hn : outR t (k + 1) = out := by
              rw [h3]
              unfold restR
              rw [if_neg (by omega), List.append_nil]
            ((refine AW.byF ‹_› ?_); (repeat' first | (with_reducible exact trivial) | (with_reducible rfl) | (refine And.intro ?_ ?_) | (refine Need.mk ?_) | exact True.intro | (first | (refine ⟨_, Told.refl _, ?_, ?_⟩) | (refine ⟨⟨_, _⟩, Told.refl _, ?_, ?_⟩) | (refine ⟨⟨_, _, _⟩, Told.refl _, ?_, ?_⟩) | (refine ⟨⟨_, _, _, _⟩, Told.refl _, ?_, ?_⟩) | (refine ⟨⟨_, _, _, _, _⟩, Told.refl _, ?_, ?_⟩) | (refine ⟨(), Told.refl _, ?_, ?_⟩)) | (with_reducible intro _) | (refine fun (_ : Bool) => ?_)))
            all_goals first | (exact absurd ‹decide ((leftR b lo).lo ≤ (t.getD (k : Int).toNat default).hi) = true› (by rw [Int.toNat_natCast, ← hb]; exact fun h => by rw [show (leftR b lo).lo = lo from rfl, hd2] at h; cases h)) | skip
            any_goals (refine Exists.intro (k + 1) (And.intro ?_ (And.intro ?_ ?_)); all_goals (repeat' first | (with_reducible exact trivial) | (with_reducible rfl) | (refine And.intro ?_ ?_) | (refine Need.mk ?_) | exact True.intro | (first | (refine ⟨_, Told.refl _, ?_, ?_⟩) | (refine ⟨⟨_, _⟩, Told.refl _, ?_, ?_⟩) | (refine ⟨⟨_, _, _⟩, Told.refl _, ?_, ?_⟩) | (refine ⟨⟨_, _, _, _⟩, Told.refl _, ?_, ?_⟩) | (refine ⟨⟨_, _, _, _, _⟩, Told.refl _, ?_, ?_⟩) | (refine ⟨(), Told.refl _, ?_, ?_⟩)) | (with_reducible intro _) | (refine fun (_ : Bool) => ?_)))
            all_goals first
              | omega
              | (rw [hw]; omega)
              | (rw [hn]; done)
          · have hd2 : decide (lo ≤ b.hi) = true := decide_eq_true (by omega)
            have hR := endR_rng hq
            have hF := restR_next hq
            have hmn := dR_min r.2.2.1.1 lo
            have hln : (fur b.to (lo - b.lo)).length = b.to.length := fur_len _ _
            have hll : lastI (fur b.to (lo - b.lo)) = lastI b.to + (lo - b.lo) := lastI_fur r.2.2.1.1 _
            have hraw := rawD_eq hx h1 hq
            have hdr : dR b lo = endR b lo - lo := rfl
            have el : (leftR b lo).lo = lo := rfl
            have et : (leftR b lo).to = fur b.to (lo - b.lo) := rfl
            have en : (leftR b lo).n = b.n := rfl
            have eh : (leftR b lo).hi = b.hi := rfl
            have e1 : IntKind.i64.wrap (((fur b.to (lo - b.lo)).length : Int) - 1) = ((b.to.length - 1 : Nat) : Int) := by rw [hln, iw (by omega) (by omega)]; omega
            have hpc : ([.int .i64 b.n, .int .i64 lo, .int .i64 (lo + dR b lo), .sl 1 b.to.length (els ci (fur b.to (lo - b.lo)))] : List AV) = cBf (piece b lo) := by
              show _ = ([.int .i64 b.n, .int .i64 lo, .int .i64 (endR b lo), .sl 1 (fur b.to (lo - b.lo)).length (els ci (fur b.to (lo - b.lo)))] : List AV)
              rw [hln, show lo + dR b lo = endR b lo by omega]
            have hfa : fur (fur b.to (lo - b.lo)) (dR b lo + 1) = (leftR b (endR b lo + 1)).to := by
              show _ = fur b.to (endR b lo + 1 - b.lo)
              rw [fur_add]
              congr 1
              omega
            have w1 := iw (n := lo + dR b lo) (by omega) (by omega)
            have w2 := iw (n := lo + dR b lo + 1) (by omega) (by omega)
            have w3 := iw (n := dR b lo + 1) (by omega) (by omega)
            ((refine AW.byF ‹_› ?_); (repeat' first | (with_reducible exact trivial) | (with_reducible rfl) | (refine And.intro ?_ ?_) | (refine Need.mk ?_) | exact True.intro | (first | (refine ⟨_, Told.refl _, ?_, ?_⟩) | (refine ⟨⟨_, _⟩, Told.refl _, ?_, ?_⟩) | (refine ⟨⟨_, _, _⟩, Told.refl _, ?_, ?_⟩) | (refine ⟨⟨_, _, _, _⟩, Told.refl _, ?_, ?_⟩) | (refine ⟨⟨_, _, _, _, _⟩, Told.refl _, ?_, ?_⟩) | (refine ⟨(), Told.refl _, ?_, ?_⟩)) | (with_reducible intro _) | (refine fun (_ : Bool) => ?_)))
            all_goals first | (exact absurd ‹decide ((leftR b lo).lo ≤ (t.getD (k : Int).toNat default).hi) = false› (by rw [Int.toNat_natCast, ← hb]; exact fun h => by rw [show (leftR b lo).lo = lo from rfl, hd2] at h; cases h)) | skip
            any_goals (refine Exists.intro (endR b lo + 1, out ++ [piece b lo]) (And.intro ?_ (And.intro ?_ ?_)); all_goals (repeat' first | (with_reducible exact trivial) | (with_reducible rfl) | (refine And.intro ?_ ?_) | (refine Need.mk ?_) | exact True.intro | (first | (refine ⟨_, Told.refl _, ?_, ?_⟩) | (refine ⟨⟨_, _⟩, Told.refl _, ?_, ?_⟩) | (refine ⟨⟨_, _, _⟩, Told.refl _, ?_, ?_⟩) | (refine ⟨⟨_, _, _, _⟩, Told.refl _, ?_, ?_⟩) | (refine ⟨⟨_, _, _, _, _⟩, Told.refl _, ?_, ?_⟩) | (refine ⟨(), Told.refl _, ?_, ?_⟩)) | (with_reducible intro _) | (refine fun (_ : Bool) => ?_)))
            all_goals try simp only [Int.toNat_natCast, ← hb, hraw] at *
            all_goals try simp only [el, et, en, eh, e1, hln, hll, w1, w2, w3] at *
            all_goals first
              | omega
              | (dsimp only; omega)
              | (rw [h3, hF]; simp; done)
              | (simp; done)
              | rfl
              | (show lo + dR b lo + 1 = endR b lo + 1; omega)
              | (rw [hfa]; done)
              | (refine els_of cBf_emb (n := 0) (fun z hz => ?_) _ ‹_›
                 show catEl out.length (els cBf out) (elt [[.int .i64 b.n, .int .i64 lo, .int .i64 (lo + dR b lo), .sl 1 b.to.length (els ci (fur b.to (lo - b.lo)))]]) z = _
                 rw [hpc]
                 exact cat_snoc' rfl (fun _ _ => rfl) z hz)
      · obtain rfl : k = t.length := by omega
        have hd : decide ((t.length : Int) < (t.length : Int)) = false := decide_eq_false (by omega)
        have hr : resR t = outR t t.length := by
          unfold resR outR
          rw [if_pos hc, List.take_length]
          rfl
        ((refine AW.byF ‹_› ?_); (repeat' first | (with_reducible exact trivial) | (with_reducible rfl) | (refine And.intro ?_ ?_) | (refine Need.mk ?_) | exact True.intro | (first | (refine ⟨_, Told.refl _, ?_, ?_⟩) | (refine ⟨⟨_, _⟩, Told.refl _, ?_, ?_⟩) | (refine ⟨⟨_, _, _⟩, Told.refl _, ?_, ?_⟩) | (refine ⟨⟨_, _, _, _⟩, Told.refl _, ?_, ?_⟩) | (refine ⟨⟨_, _, _, _, _⟩, Told.refl _, ?_, ?_⟩) | (refine ⟨(), Told.refl _, ?_, ?_⟩)) | (with_reducible intro _) | (refine fun (_ : Bool) => ?_)))
        all_goals first | (exact absurd ‹decide ((t.length : Int) < (t.length : Int)) = true› (by rw [hd]; decide)) | skip
        all_goals rw [hr]
end Go.Abs.Dest
