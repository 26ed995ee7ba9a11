/- DestFinds by the engine. -/
import Derived.Test.YtmjbobbgidpigaaADestOrder
import Derived.Test.YtmjbobbgidpigaaADestLast
set_option linter.all false
set_option maxRecDepth 100000
namespace Go.Abs.Dest
open Go.RowKit Go.Proofs Go.Abs.Tab Go.Abs.DLast
theorem to_len {b : Bf} {n v : Int} {w : List Int} (h : EB.to b n v = some w) : w.length ≤ 64 := by
  unfold En.to at h
  split at h
  · rename_i q
    obtain rfl := Option.some.inj h
    show (fur b.to _).length ≤ 64
    rw [fur_len]
    exact (rngB q.1).2.2.1.2
  · cases h
theorem last_len (l : List Bf) (n v : Int) : ((EB.last l n v).getD []).length ≤ 64 := by
  cases h : EB.last l n v with
  | none => exact Nat.zero_le _
  | some w =>
    obtain ⟨x, _, hs, hh, rfl⟩ := last_some_mem h
    exact to_len (b := x) (n := n) (v := v) (if_pos ⟨hs, hh⟩)
def SDestFinds : Sp := ⟨List Bf × Int × Int, fun _ => True, fun (l, n, v) => [aB l, aCode n v], fun _ => .st (.lit true)⟩
set_option maxHeartbeats 16000000 in
theorem destFinds : SpOK Try.prog 7 SDestFinds := fun ⟨l, cn, cv⟩ _ => by
  have hC : COK Try.prog (cfg [(9, SAwake), (16, SFew), (13, SBuild), (12, SFind), (20, SLast), (15, SSame), (24, SCanon), (14, SSameB)]) := Ty.ty.cfg ⟨awake, rfew, build, find, last, refSame, canonB, rsame, trivial⟩
  obtain ⟨t, ht⟩ : ∃ t, t = EB.build l := ⟨_, rfl⟩
  have htab : EB.Tab t := by rw [ht]; exact (EB.build_ok l).1
  have htl : t.length ≤ 2 * l.length := by rw [ht]; exact (EB.build_ok l).2.1
  have hcn : EB.canon t = true := (EB.canon_iff t).2 htab
  have hag := EB.build_again htab
  have hfb : EB.find t cn cv = EB.last l cn cv := by rw [ht]; exact EB.find_build l cn cv
  have hll := last_len l cn cv
  have hf : (!few l) = false → l.length ≤ 60 := fun h => ((few_iff l).1 (by simpa using h)).1
  ((refine Fn.ofF hC Try.func7 Try.ntmps7 rfl rfl rfl ?_); (repeat' first | (with_reducible exact trivial) | (with_reducible rfl) | (refine And.intro ?_ ?_) | (refine Need.mk ?_) | exact True.intro | (first | (refine ⟨_, Told.refl _, ?_, ?_⟩) | (refine ⟨⟨_, _⟩, Told.refl _, ?_, ?_⟩) | (refine ⟨⟨_, _, _⟩, Told.refl _, ?_, ?_⟩) | (refine ⟨⟨_, _, _, _⟩, Told.refl _, ?_, ?_⟩) | (refine ⟨⟨_, _, _, _, _⟩, Told.refl _, ?_, ?_⟩) | (refine ⟨(), Told.refl _, ?_, ?_⟩)) | (with_reducible intro _) | (refine fun (_ : Bool) => ?_)))
  all_goals try simp only [← ht, hcn, hag, hfb] at *
  all_goals try (have hf := hf ‹_›)
  all_goals first
    | (show t.length < 4611686018427387904; omega)
    | (show l.length < 1000000000; omega)
    | (show l.length ≤ 100000000; omega)
    | (show t.length ≤ 100000000; omega)
    | (show t.length < 9223372036854775807; omega)
    | (show ((EB.last l cn cv).getD []).length < 9223372036854775807; omega)
    | (have := rngB (htab.1 _ ‹_›); omega)
    | (rw [iw (by omega) (by omega)]; exact decide_eq_true (by omega))
    | (exfalso; simp at *; done)
end Go.Abs.Dest
