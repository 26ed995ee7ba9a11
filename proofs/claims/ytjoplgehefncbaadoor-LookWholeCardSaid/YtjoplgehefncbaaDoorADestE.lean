/- dest: what a table tells; its rows. -/
import Derived.Test.YtjoplgehefncbaaDoorADestD
set_option linter.all false
set_option maxRecDepth 100000
namespace Go.Abs.Dest
open Go.RowKit Go.Proofs Go.Abs.Tab
def SFind : Sp := ⟨List Bf × Int × Int, fun (t, n, v) => t.length < 4611686018427387904, fun (t, n, v) => [aB t, aCode n v], fun (t, n, v) => rO (EB.find t n v)⟩
theorem find_no {t : List Bf} (h : EB.canon t = false) (n v : Int) : EB.find t n v = none := if_neg (by rw [h]; decide)
theorem find_yes {t : List Bf} (h : EB.canon t = true) (n v : Int) : EB.find t n v = EB.get t n v := if_pos h
set_option maxHeartbeats 16000000 in
theorem find : SpOK Tryd.prog 23 SFind := fun ⟨t, n, v⟩ hl => by
  have hC : COK Tryd.prog (cfg [(38, SCanon), (39, SBin), (41, STo)]) := Ty.ty.cfg ⟨canonB, bin, toB, trivial⟩
  have hl : t.length < 4611686018427387904 := hl
  ((refine Fn.ofF hC Tryd.func23 Tryd.ntmps23 rfl rfl rfl ?_); (repeat' first | (with_reducible exact trivial) | (with_reducible rfl) | (refine And.intro ?_ ?_) | (refine Need.mk ?_) | exact True.intro | (first | (refine ⟨_, Told.refl _, ?_, ?_⟩) | (refine ⟨⟨_, _⟩, Told.refl _, ?_, ?_⟩) | (refine ⟨⟨_, _, _⟩, Told.refl _, ?_, ?_⟩) | (refine ⟨⟨_, _, _, _⟩, Told.refl _, ?_, ?_⟩) | (refine ⟨⟨_, _, _, _, _⟩, Told.refl _, ?_, ?_⟩) | (refine ⟨(), Told.refl _, ?_, ?_⟩)) | (with_reducible intro _) | (refine fun (_ : Bool) => ?_)))
  · show t.length < _
    omega
  · rename_i h
    rw [find_no (by simpa using h)]
    rfl
  · rename_i h
    rw [find_no (by simpa using h)]
    rfl
  · rename_i h
    have hc : EB.canon t = true := by simpa using h
    have htab := (EB.canon_iff t).1 hc
    have hf := find_yes hc n v
    have hg := EB.get_place htab n v
    have htu := place_turns htab.2.1 ⟨n, v, 0, []⟩ hl
    have hple := EB.place_le t n v
    have htu : turns t ⟨n, v, 0, []⟩ (EB.place t n v) := htu
    obtain ⟨p, hp⟩ : ∃ p, EB.place t n v = p := ⟨_, rfl⟩
    rw [hp] at hg htu hple
    have ez := ord_zero (t.getD p default) ⟨n, v, 0, []⟩
    have ew := iw (n := (p : Int) - 1) (by omega) (by omega)
    have f2 : (p < t.length ∧ ordB (t.getD p default) ⟨n, v, 0, []⟩ = 0) → EB.find t n v = EB.to (t.getD (p : Int).toNat default) n v := fun h => by
      rw [hf, hg, dif_pos ⟨h.1, ez.1 h.2⟩]
      rfl
    have f1 : ¬ (p < t.length ∧ ordB (t.getD p default) ⟨n, v, 0, []⟩ = 0) → ¬ p = 0 → EB.find t n v = EB.to (t.getD ((p : Int) - 1).toNat default) n v := fun h h0 => by
      rw [hf, hg, dif_neg (fun q => h ⟨q.1, ez.2 q.2⟩), if_neg h0, show ((p : Int) - 1).toNat = p - 1 by omega]
    have f0 : ¬ (p < t.length ∧ ordB (t.getD p default) ⟨n, v, 0, []⟩ = 0) → p = 0 → EB.find t n v = none := fun h h0 => by
      rw [hf, hg, dif_neg (fun q => h ⟨q.1, ez.2 q.2⟩), if_pos h0]
    clear hg hf ez hp hc h
    refine Exists.intro (t, ⟨n, v, 0, []⟩, p) (And.intro (Told.of ?_) (And.intro htu ?_))
    · (repeat' first | (with_reducible exact trivial) | (with_reducible rfl) | (refine And.intro ?_ ?_) | (refine Need.mk ?_) | exact True.intro | (first | (refine ⟨_, Told.refl _, ?_, ?_⟩) | (refine ⟨⟨_, _⟩, Told.refl _, ?_, ?_⟩) | (refine ⟨⟨_, _, _⟩, Told.refl _, ?_, ?_⟩) | (refine ⟨⟨_, _, _, _⟩, Told.refl _, ?_, ?_⟩) | (refine ⟨⟨_, _, _, _, _⟩, Told.refl _, ?_, ?_⟩) | (refine ⟨(), Told.refl _, ?_, ?_⟩)) | (with_reducible intro _) | (refine fun (_ : Bool) => ?_))
      all_goals first | omega | rfl
    · (repeat' first | (with_reducible exact trivial) | (with_reducible rfl) | (refine And.intro ?_ ?_) | (refine Need.mk ?_) | exact True.intro | (first | (refine ⟨_, Told.refl _, ?_, ?_⟩) | (refine ⟨⟨_, _⟩, Told.refl _, ?_, ?_⟩) | (refine ⟨⟨_, _, _⟩, Told.refl _, ?_, ?_⟩) | (refine ⟨⟨_, _, _, _⟩, Told.refl _, ?_, ?_⟩) | (refine ⟨⟨_, _, _, _, _⟩, Told.refl _, ?_, ?_⟩) | (refine ⟨(), Told.refl _, ?_, ?_⟩)) | (with_reducible intro _) | (refine fun (_ : Bool) => ?_))
      all_goals simp only [ew, decide_eq_true_eq, decide_eq_false_iff_not, Bool.not_eq_true', Bool.not_eq_false'] at *
      all_goals first
        | omega
        | exact Int.natCast_nonneg p
        | (rw [f0 ‹_› (by omega)]; rfl)
        | (rw [f1 ‹_› (by omega)]; done)
        | (rw [f2 ‹_›]; done)
        | (have := (‹_ ∧ _› : p < t.length ∧ ordB (t.getD p default) ⟨n, v, 0, []⟩ = 0).1; omega)
end Go.Abs.Dest
