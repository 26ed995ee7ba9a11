/- DestRows by the engine. -/
import Derived.Test.YtmjbobbgidpigaaADestFinds
set_option linter.all false
set_option maxRecDepth 100000
namespace Go.Abs.Dest
open Go.RowKit Go.Proofs Go.Abs.Tab Go.Abs.DLast
theorem shr8 (x : Int) : x.fdiv (2 ^ (min (8 : Int).toNat IntKind.i64.bits)) = x / 256 := by
  show x.fdiv 256 = x / 256
  exact Int.fdiv_eq_ediv_of_nonneg x (by decide)
/-- No row passes a multiple of 256. -/
theorem rowsF_cut {b : Bf} (hb : 1 ≤ b.to.length) : ∀ (k : Nat) (lo : Int), lo ≤ b.hi → ∀ x ∈ rowsF b k lo, x.lo / 256 = x.hi / 256 ∧ lastI x.to / 256 = (lastI x.to + (x.hi - x.lo)) / 256
  | 0, lo, _, x, hx => by cases hx
  | k + 1, lo, h, x, hx => by
    unfold rowsF at hx
    rcases List.mem_cons.1 hx with rfl | hx
    · show lo / 256 = endR b lo / 256 ∧ lastI (fur b.to (lo - b.lo)) / 256 = (lastI (fur b.to (lo - b.lo)) + (endR b lo - lo)) / 256
      rw [lastI_fur hb]
      have h1 : lo ≤ endR b lo := (endR_rng h).1
      have h2 : endR b lo ≤ lo + (255 - lo % 256) := by unfold endR stepR; omega
      have h3 : endR b lo ≤ lo + (255 - (lastI b.to + (lo - b.lo)) % 256) := by unfold endR stepR; omega
      generalize endR b lo = e at h1 h2 h3
      generalize lastI b.to + (lo - b.lo) = z at h3
      omega
    · split at hx
      · exact rowsF_cut hb k _ (by omega) x hx
      · cases hx
theorem rows_cut {t : List Bf} (h : EB.Tab t) : ∀ x ∈ rowsB t, x.lo / 256 = x.hi / 256 ∧ lastI x.to / 256 = (lastI x.to + (x.hi - x.lo)) / 256 := fun x hx => by
  obtain ⟨b, hb, hx⟩ := List.mem_flatMap.1 hx
  have r := rngB (h.1 b hb)
  exact rowsF_cut r.2.2.1.1 _ b.lo r.2.1.2.1 x hx
theorem rows_more {t : List Bf} (h : ∀ x ∈ t, sane x = true) : t.length ≤ (rowsB t).length := by
  induction t with
  | nil => exact Nat.le_refl _
  | cons b t ih =>
    have i := ih (fun x hx => h x (List.mem_cons_of_mem _ hx))
    have r := rngB (h b List.mem_cons_self)
    have e : rows1 b = fromR b b.lo := rfl
    rw [fromR_eq r.2.1.2.1] at e
    have e2 : rowsB (b :: t) = rows1 b ++ rowsB t := rfl
    rw [e2, List.length_append, e, List.length_cons, List.length_cons]
    omega
def SDestRows : Sp := ⟨List Bf × Int × Int, fun _ => True, fun (l, n, v) => [aB l, aCode n v], fun _ => .st (.lit true)⟩
set_option maxHeartbeats 16000000 in
theorem destRows : SpOK Try.prog 8 SDestRows := fun ⟨l, cn, cv⟩ _ => by
  have hC : COK Try.prog (cfg [(9, SAwake), (16, SFew), (17, SShort), (13, SBuild), (18, SRows), (10, SBSane), (12, SFind), (20, SLast), (15, SSame), (14, SSameB)]) := Ty.ty.cfg ⟨awake, rfew, rshort, build, rows, saneB, find, last, refSame, rsame, trivial⟩
  obtain ⟨t, ht⟩ : ∃ t, t = EB.build l := ⟨_, rfl⟩
  have htab : EB.Tab t := by rw [ht]; exact (EB.build_ok l).1
  have htl : t.length ≤ 2 * l.length := by rw [ht]; exact (EB.build_ok l).2.1
  obtain ⟨r, hr⟩ : ∃ r, r = resR t := ⟨_, rfl⟩
  have er : r = rowsB t := hr.trans (resR_tab htab)
  have hok := (rows_ok htab).1
  have hcut := rows_cut htab
  have hmore := rows_more htab.1
  have hrl := rowsB_len htab
  have hbr := build_rows htab
  have hla := last_rows htab cn cv
  rw [← er] at hok hcut hmore hrl hbr hla
  have hfi : EB.find t cn cv = EB.last r cn cv := (EB.find_tab htab cn cv).trans hla.symm
  have hll := last_len r cn cv
  have hf : (!few l) = false → l.length ≤ 60 := fun h => ((few_iff l).1 (by simpa using h)).1
  clear er hla
  ((refine Fn.ofF hC Try.func8 Try.ntmps8 rfl rfl rfl ?_); (repeat' first | (with_reducible exact trivial) | (with_reducible rfl) | (refine And.intro ?_ ?_) | (refine Need.mk ?_) | exact True.intro | (first | (refine ⟨_, Told.refl _, ?_, ?_⟩) | (refine ⟨⟨_, _⟩, Told.refl _, ?_, ?_⟩) | (refine ⟨⟨_, _, _⟩, Told.refl _, ?_, ?_⟩) | (refine ⟨⟨_, _, _, _⟩, Told.refl _, ?_, ?_⟩) | (refine ⟨⟨_, _, _, _, _⟩, Told.refl _, ?_, ?_⟩) | (refine ⟨(), Told.refl _, ?_, ?_⟩)) | (with_reducible intro _) | (refine fun (_ : Bool) => ?_)))
  · have hf := hf ‹_›
    show l.length ≤ 100000000
    omega
  · have hf := hf ‹_›
    show (EB.build l).length ≤ 1000000
    rw [← ht]
    omega
  have hf := hf ‹_›
  refine AW.loop (I := fun k : Nat => ⟨112, [(3, .ptr 0 0), (5, .lit true), (6, aB t), (7, .own 1), (8, .int .i64 k)], [.box 26 [.int .i64 cn, .int .i64 cv], .row 24 4 r.length (els cBf r)]⟩) (fun k => k ≤ r.length) (fun k => r.length - k) 0 (Nat.zero_le _) ?_ ?_
  · clear hok hcut hmore hrl hbr hfi hll
    subst hr
    subst ht
    (repeat' first | (with_reducible exact trivial) | (with_reducible rfl) | (refine And.intro ?_ ?_) | (refine Need.mk ?_) | exact True.intro | (first | (refine ⟨_, Told.refl _, ?_, ?_⟩) | (refine ⟨⟨_, _⟩, Told.refl _, ?_, ?_⟩) | (refine ⟨⟨_, _, _⟩, Told.refl _, ?_, ?_⟩) | (refine ⟨⟨_, _, _, _⟩, Told.refl _, ?_, ?_⟩) | (refine ⟨⟨_, _, _, _, _⟩, Told.refl _, ?_, ?_⟩) | (refine ⟨(), Told.refl _, ?_, ?_⟩)) | (with_reducible intro _) | (refine fun (_ : Bool) => ?_))
    all_goals rfl
  · intro k hk
    rcases Nat.lt_or_ge k r.length with hlt | hge
    · have hd : decide ((k : Int) < (r.length : Int)) = true := decide_eq_true (by omega)
      have hw := iw (n := (k : Int) + 1) (by omega) (by omega)
      obtain ⟨x, hx⟩ : ∃ x, x = r.getD k default := ⟨_, rfl⟩
      have hxm : x ∈ r := by rw [hx]; exact getMem hlt
      have hs := (hok x hxm).1
      have hc := hcut x hxm
      have g := rngB hs
      have e1 : IntKind.i64.wrap ((x.to.length : Int) - 1) = ((x.to.length - 1 : Nat) : Int) := by rw [iw (by omega) (by omega)]; omega
      have e2 : x.to.getD (x.to.length - 1) default = lastI x.to := rfl
      ((refine AW.byF ‹_› ?_); (repeat' first | (with_reducible exact trivial) | (with_reducible rfl) | (refine And.intro ?_ ?_) | (refine Need.mk ?_) | exact True.intro | (first | (refine ⟨_, Told.refl _, ?_, ?_⟩) | (refine ⟨⟨_, _⟩, Told.refl _, ?_, ?_⟩) | (refine ⟨⟨_, _, _⟩, Told.refl _, ?_, ?_⟩) | (refine ⟨⟨_, _, _, _⟩, Told.refl _, ?_, ?_⟩) | (refine ⟨⟨_, _, _, _, _⟩, Told.refl _, ?_, ?_⟩) | (refine ⟨(), Told.refl _, ?_, ?_⟩)) | (with_reducible intro _) | (refine fun (_ : Bool) => ?_)))
      all_goals first | (exact absurd ‹decide ((k : Int) < (r.length : Int)) = false› (by rw [hd]; decide)) | skip
      any_goals (refine Exists.intro (k + 1) (And.intro ?_ (And.intro ?_ ?_)); all_goals (repeat' first | (with_reducible exact trivial) | (with_reducible rfl) | (refine And.intro ?_ ?_) | (refine Need.mk ?_) | exact True.intro | (first | (refine ⟨_, Told.refl _, ?_, ?_⟩) | (refine ⟨⟨_, _⟩, Told.refl _, ?_, ?_⟩) | (refine ⟨⟨_, _, _⟩, Told.refl _, ?_, ?_⟩) | (refine ⟨⟨_, _, _, _⟩, Told.refl _, ?_, ?_⟩) | (refine ⟨⟨_, _, _, _, _⟩, Told.refl _, ?_, ?_⟩) | (refine ⟨(), Told.refl _, ?_, ?_⟩)) | (with_reducible intro _) | (refine fun (_ : Bool) => ?_)))
      all_goals try simp only [Int.toNat_natCast] at *
      all_goals try simp only [← hx, hs, e1, e2, shr8, Int.toNat_natCast] at *
      all_goals first
        | omega
        | (rw [hw]; omega)
        | (exfalso; simp at *; done)
        | (exfalso; rename_i q; simp only [bne_iff_ne, ne_eq, beq_iff_eq] at q; omega)
        | (exfalso; rename_i q; rw [iw (n := lastI x.to + x.hi) (by omega) (by omega), iw (by omega) (by omega)] at q; simp only [bne_iff_ne, ne_eq] at q; have := hc.2; rw [show lastI x.to + x.hi - x.lo = lastI x.to + (x.hi - x.lo) by omega] at q; omega)
    · obtain rfl : k = r.length := by omega
      have hd : decide ((r.length : Int) < (r.length : Int)) = false := decide_eq_false (by omega)
      ((refine AW.byF ‹_› ?_); (repeat' first | (with_reducible exact trivial) | (with_reducible rfl) | (refine And.intro ?_ ?_) | (refine Need.mk ?_) | exact True.intro | (first | (refine ⟨_, Told.refl _, ?_, ?_⟩) | (refine ⟨⟨_, _⟩, Told.refl _, ?_, ?_⟩) | (refine ⟨⟨_, _, _⟩, Told.refl _, ?_, ?_⟩) | (refine ⟨⟨_, _, _, _⟩, Told.refl _, ?_, ?_⟩) | (refine ⟨⟨_, _, _, _, _⟩, Told.refl _, ?_, ?_⟩) | (refine ⟨(), Told.refl _, ?_, ?_⟩)) | (with_reducible intro _) | (refine fun (_ : Bool) => ?_)))
      all_goals first | (exact absurd ‹decide ((r.length : Int) < (r.length : Int)) = true› (by rw [hd]; decide)) | skip
      all_goals try simp only [hfi, hbr] at *
      all_goals first
        | (show t.length < 4611686018427387904; omega)
        | (show r.length < 1000000000; omega)
        | (show r.length ≤ 100000000; omega)
        | (show t.length < 9223372036854775807; omega)
        | (show ((EB.last r cn cv).getD []).length < 9223372036854775807; omega)
        | (have := rngB (htab.1 _ ‹_›); omega)
        | (exact decide_eq_true rfl)
        | (simp only [decide_true]; done)
        | (((try dsimp only at *); (try simp only [decide_eq_true_eq, decide_eq_false_iff_not, beq_iff_eq, bne_iff_ne, beq_eq_false_iff_ne, bne_eq_false_iff_eq, ne_eq, Decidable.not_not, ge_iff_le, gt_iff_lt, Bool.not_eq_true', Bool.not_eq_false', Int.not_lt, Int.not_le, Nat.not_lt, Nat.not_le] at *)); omega)
        | (exfalso; simp at *; done)
        | (exfalso; simp at *; omega)
end Go.Abs.Dest
