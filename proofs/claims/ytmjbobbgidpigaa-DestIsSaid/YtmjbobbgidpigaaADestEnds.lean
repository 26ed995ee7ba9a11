/- DestEnds by the engine. -/
import Derived.Test.YtmjbobbgidpigaaADestAwake
import Derived.Test.YtmjbobbgidpigaaADestFew
import Derived.Test.YtmjbobbgidpigaaADestOne
set_option linter.all false
set_option maxRecDepth 100000
namespace Go.Abs.Dest
open Go.RowKit Go.Proofs Go.Abs.Tab
/-- What each entry of a table says of its first and its last code, and of the one behind. -/
theorem ends_of {t : List Bf} (h : EB.Tab t) {b : Bf} (hb : b ∈ t) : EB.find t b.n b.lo = some b.to ∧ EB.find t b.n b.hi = some (fur b.to (b.hi - b.lo)) ∧ ∀ w, EB.find t b.n (b.hi + 1) = some w → w ≠ fur b.to (b.hi + 1 - b.lo) := by
  have r := rngB (h.1 b hb)
  rw [EB.find_tab h, EB.find_tab h, EB.find_tab h]
  refine ⟨?_, ?_, fun w hw => ?_⟩
  · refine (Tb.get_of_mem _ h.2.1 hb ⟨rfl, Int.le_refl _, r.2.1.2.1⟩).trans ?_
    exact congrArg some (Tb.val_lo _ b)
  · refine (Tb.get_of_mem _ h.2.1 hb ⟨rfl, r.2.1.2.1, Int.le_refl _⟩).trans ?_
    rfl
  · exact Tb.next_not _ h.2.1 h.2.2 b hb w hw
theorem getMem {l : List Bf} {i : Nat} (h : i < l.length) : l.getD i default ∈ l := by
  rw [getB h]
  exact List.getElem_mem h
def SDestEnds : Sp := ⟨List Bf × Int, fun _ => True, fun (l, k) => [aB l, .int .i64 k], fun _ => .st (.lit true)⟩
set_option maxHeartbeats 16000000 in
theorem destEnds : SpOK Try.prog 4 SDestEnds := fun ⟨l, kk⟩ hl => by
  have hC : COK Try.prog (cfg [(9, SAwake), (16, SFew), (13, SBuild), (12, SFind), (15, SSame)]) := Ty.ty.cfg ⟨awake, rfew, build, find, refSame, trivial⟩
  obtain ⟨t, ht⟩ : ∃ t, t = EB.build l := ⟨_, rfl⟩
  have htab : EB.Tab t := by rw [ht]; exact (EB.build_ok l).1
  have htl : t.length ≤ 2 * l.length := by rw [ht]; exact (EB.build_ok l).2.1
  obtain ⟨m, hm⟩ : ∃ m, m = IntKind.i64.wrap ((BitVec.ofInt IntKind.i64.bits kk &&& BitVec.ofInt IntKind.i64.bits 65535).toNat : Int) := ⟨_, rfl⟩
  have hm0 : 0 ≤ m := by
    have : m = kk % 65536 := hm.trans (and_low 16 (by decide) kk)
    omega
  have key : (!few l) = false → ((t.length : Int) == 0) = false → l.length ≤ 60 ∧ (t.length : Int) ≠ 0 ∧ 0 ≤ m.tmod t.length ∧ m.tmod t.length < t.length ∧ t.getD (m.tmod t.length).toNat default ∈ t := fun h1 h2 => by
    have hf := ((few_iff l).1 (by simpa using h1)).1
    have hne : (t.length : Int) ≠ 0 := by simpa using h2
    have h3 := Int.tmod_nonneg (t.length : Int) hm0
    have h4 := Int.tmod_lt_of_pos m (show (0 : Int) < t.length by omega)
    exact ⟨hf, hne, h3, h4, getMem (by omega)⟩
  ((refine Fn.ofF hC Try.func4 Try.ntmps4 rfl rfl rfl ?_); (repeat' first | (with_reducible exact trivial) | (with_reducible rfl) | (refine And.intro ?_ ?_) | (refine Need.mk ?_) | exact True.intro | (first | (refine ⟨_, Told.refl _, ?_, ?_⟩) | (refine ⟨⟨_, _⟩, Told.refl _, ?_, ?_⟩) | (refine ⟨⟨_, _, _⟩, Told.refl _, ?_, ?_⟩) | (refine ⟨⟨_, _, _, _⟩, Told.refl _, ?_, ?_⟩) | (refine ⟨⟨_, _, _, _, _⟩, Told.refl _, ?_, ?_⟩) | (refine ⟨(), Told.refl _, ?_, ?_⟩)) | (with_reducible intro _) | (refine fun (_ : Bool) => ?_)))
  · have hf := ((few_iff l).1 (by simpa using ‹(!few l) = false›)).1
    show l.length ≤ 100000000
    omega
  all_goals simp only [← ht, ← hm] at *
  all_goals
    obtain ⟨k1, k2, k3, k4, k5⟩ := key ‹_› ‹_›
    clear key hm hm0
    obtain ⟨b, hb⟩ : ∃ b, b = t.getD (m.tmod t.length).toNat default := ⟨_, rfl⟩
    simp only [← hb] at *
    clear hb
    obtain ⟨e1, e2, e3⟩ := ends_of htab k5
    have r := rngB (htab.1 b k5)
    have hw := iw (n := b.hi + 1) (by omega) (by omega)
    simp only [e1, e2, hw, Option.getD_some, Option.isSome_some, fur_len] at *
    clear e1 e2 hw
  all_goals
    have q1 : IntKind.i64.wrap ((b.to.length : Int) - 1) = ((b.to.length - 1 : Nat) : Int) := by rw [iw (by omega) (by omega)]; omega
    have q2 : IntKind.i64.wrap (((0 + b.to.length : Nat) : Int) - 1) = ((b.to.length - 1 : Nat) : Int) := by rw [iw (by omega) (by omega)]; omega
    have q3 : (fur b.to (b.hi - b.lo)).getD (b.to.length - 1) default = lastI b.to + (b.hi - b.lo) := by
      have := lastI_fur r.2.2.1.1 (b.hi - b.lo)
      unfold lastI at this
      rwa [fur_len] at this
    have q4 : b.to.getD (b.to.length - 1) default = lastI b.to := rfl
    simp only [q1, q2, q3, q4, Int.toNat_natCast, Nat.sub_zero] at *
  all_goals first
    | omega
    | exact k3
    | exact k4
    | (show t.length < 4611686018427387904; omega)
    | (show b.to.length < 9223372036854775807; omega)
    | (exfalso; simp_all; done)
    | (exfalso; rename_i q; rw [iw (n := lastI b.to + b.hi) (by omega) (by omega), iw (by omega) (by omega)] at q; simp only [bne_iff_ne, ne_eq] at q; omega)
    | skip
  refine Exists.intro ((EB.find t b.n (b.hi + 1)).getD [], fur b.to (b.hi + 1 - b.lo)) (And.intro (Told.of ?_) (And.intro ?_ ?_))
  · (repeat' first | (with_reducible exact trivial) | (with_reducible rfl) | (refine And.intro ?_ ?_) | (refine Need.mk ?_) | exact True.intro | (first | (refine ⟨_, Told.refl _, ?_, ?_⟩) | (refine ⟨⟨_, _⟩, Told.refl _, ?_, ?_⟩) | (refine ⟨⟨_, _, _⟩, Told.refl _, ?_, ?_⟩) | (refine ⟨⟨_, _, _, _⟩, Told.refl _, ?_, ?_⟩) | (refine ⟨⟨_, _, _, _, _⟩, Told.refl _, ?_, ?_⟩) | (refine ⟨(), Told.refl _, ?_, ?_⟩)) | (with_reducible intro _) | (refine fun (_ : Bool) => ?_))
    · show 0 + b.to.length = (fur b.to (b.hi + 1 - b.lo)).length
      rw [fur_len]
      omega
    · rename_i i hi
      refine els_of ci_emb (n := 0) (fun i hi => ?_) i hi
      show putEl (b.to.length - 1) (ci (IntKind.i64.wrap (lastI b.to + (b.hi - b.lo) + 1))) (els ci (fur b.to (b.hi - b.lo))) i = _
      rw [iw (n := lastI b.to + (b.hi - b.lo) + 1) (by omega) (by omega)]
      have e : fur b.to (b.hi + 1 - b.lo) = (fur b.to (b.hi - b.lo)).set (b.to.length - 1) (lastI b.to + (b.hi - b.lo) + 1) := by
        rw [show b.hi + 1 - b.lo = (b.hi - b.lo) + 1 by omega, ← fur_add, fur, fur_len, lastI_fur r.2.2.1.1]
      rw [e] at hi ⊢
      exact put_set (by rw [fur_len]; omega) i hi
  · show ((EB.find t b.n (b.hi + 1)).getD []).length < 9223372036854775807
    cases hf : EB.find t b.n (b.hi + 1) with
    | none => show 0 < 9223372036854775807; omega
    | some w =>
      rw [EB.find_tab htab] at hf
      obtain ⟨y, hy, _, rfl⟩ := Tb.get_mem _ hf
      have := rngB (htab.1 y hy)
      show (fur y.to _).length < _
      rw [fur_len]
      omega
  · (repeat' first | (with_reducible exact trivial) | (with_reducible rfl) | (refine And.intro ?_ ?_) | (refine Need.mk ?_) | exact True.intro | (first | (refine ⟨_, Told.refl _, ?_, ?_⟩) | (refine ⟨⟨_, _⟩, Told.refl _, ?_, ?_⟩) | (refine ⟨⟨_, _, _⟩, Told.refl _, ?_, ?_⟩) | (refine ⟨⟨_, _, _, _⟩, Told.refl _, ?_, ?_⟩) | (refine ⟨⟨_, _, _, _, _⟩, Told.refl _, ?_, ?_⟩) | (refine ⟨(), Told.refl _, ?_, ?_⟩)) | (with_reducible intro _) | (refine fun (_ : Bool) => ?_))
    have q1 := ‹(!(EB.find t b.n (b.hi + 1)).isSome) = false›
    cases hf : EB.find t b.n (b.hi + 1) with
    | none =>
      rw [hf] at q1
      cases q1
    | some w =>
      have := e3 w hf
      simp [this]
end Go.Abs.Dest
