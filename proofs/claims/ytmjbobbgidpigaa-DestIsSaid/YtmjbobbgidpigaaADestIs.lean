/- DestIs by the engine. -/
import Derived.Test.YtmjbobbgidpigaaADestFinds
import Derived.Test.YtmjbobbgidpigaaADestR4
set_option linter.all false
set_option maxRecDepth 100000
namespace Go.Abs.Dest
open Go.RowKit Go.Proofs Go.Abs.Tab Go.Abs.DLast
theorem to_len2 (b : Bf) (n v : Int) : ((EB.to b n v).getD []).length ≤ 64 := by
  cases h : EB.to b n v with
  | none => exact Nat.zero_le _
  | some w => exact to_len h
theorem find_len (t : List Bf) (n v : Int) : ((EB.find t n v).getD []).length ≤ 64 := by
  cases h : EB.find t n v with
  | none => exact Nat.zero_le _
  | some w =>
    unfold En.find at h
    split at h
    · rename_i hc
      have htab := (EB.canon_iff t).1 hc
      obtain ⟨y, hy, hh, rfl⟩ := Tb.get_mem _ h
      exact to_len (b := y) (n := n) (v := v) (if_pos ⟨htab.1 y hy, hh⟩)
    · cases h
theorem resR_sane (t : List Bf) : ∀ x ∈ resR t, sane x = true := by
  intro x hx
  unfold resR at hx
  split at hx
  · rename_i hc
    exact ((rows_ok ((EB.canon_iff t).1 hc)).1 x hx).1
  · cases hx
theorem resR_len (t : List Bf) : (resR t).length ≤ 65536 * t.length := by
  unfold resR
  split
  · rename_i hc
    exact rowsB_len ((EB.canon_iff t).1 hc)
  · exact Nat.zero_le _
def SDestIs : Sp := ⟨List Bf × Bf × Int × Int, fun _ => True, fun (l, b, n, v) => [aB l, .agg (cBf b), aCode n v], fun _ => .st (.lit true)⟩
set_option maxHeartbeats 16000000 in
theorem destIs : SpOK Try.prog 6 SDestIs := fun ⟨l, b, cn, cv⟩ _ => by
  have hC : COK Try.prog (cfg [(9, SAwake), (16, SFew), (17, SShort), (11, STo), (19, STo), (20, SLast), (21, SLastR), (12, SFind), (22, SFindR), (15, SSame), (10, SBSane), (23, SBSane), (13, SBuild), (26, SBuildR), (24, SCanon), (25, SCanon), (18, SRows), (27, SRows), (14, SSameB)]) := Ty.ty.cfg ⟨awake, rfew, rshort, toB, rto, last, rlast, find, rfind, refSame, saneB, rsane, build, rbuild, canonB, rcanon, rows, rrows, rsame, trivial⟩
  obtain ⟨t, ht⟩ : ∃ t, t = EB.build l := ⟨_, rfl⟩
  have htab : EB.Tab t := by rw [ht]; exact (EB.build_ok l).1
  have htl : t.length ≤ 2 * l.length := by rw [ht]; exact (EB.build_ok l).2.1
  have k1 := to_len2 b cn cv
  have k2 := last_len l cn cv
  have k3 := find_len l cn cv
  have k4 := resR_len l
  have k5 := resR_len t
  have k6 := resR_sane l
  have k7 := resR_sane t
  have hf : (!few l) = false → l.length ≤ 60 := fun h => ((few_iff l).1 (by simpa using h)).1
  ((refine Fn.ofF hC Try.func6 Try.ntmps6 rfl rfl rfl ?_); (repeat' first | (with_reducible exact trivial) | (with_reducible rfl) | (refine And.intro ?_ ?_) | (refine Need.mk ?_) | exact True.intro | (first | (refine ⟨_, Told.refl _, ?_, ?_⟩) | (refine ⟨⟨_, _⟩, Told.refl _, ?_, ?_⟩) | (refine ⟨⟨_, _, _⟩, Told.refl _, ?_, ?_⟩) | (refine ⟨⟨_, _, _, _⟩, Told.refl _, ?_, ?_⟩) | (refine ⟨⟨_, _, _, _, _⟩, Told.refl _, ?_, ?_⟩) | (refine ⟨(), Told.refl _, ?_, ?_⟩)) | (with_reducible intro _) | (refine fun (_ : Bool) => ?_)))
  all_goals try simp only [← ht] at *
  all_goals try (have hf := hf ‹_›)
  all_goals first
    | omega
    | (show l.length < 9223372036854775807; omega)
    | (show l.length < 4611686018427387904; omega)
    | (show l.length < 1000000000; omega)
    | (show l.length ≤ 100000000; omega)
    | (show l.length ≤ 10000000; omega)
    | (show l.length ≤ 1000000; omega)
    | (show t.length ≤ 1000000; omega)
    | (show ((EB.to b cn cv).getD []).length < 9223372036854775807; omega)
    | (show ((EB.last l cn cv).getD []).length < 9223372036854775807; omega)
    | (show ((EB.find l cn cv).getD []).length < 9223372036854775807; omega)
    | (show t.length < 9223372036854775807; omega)
    | (show (resR t).length < 9223372036854775807; omega)
    | (show (resR l).length < 9223372036854775807; omega)
    | (have := rngB (htab.1 _ ‹_›); omega)
    | (have := rngB (k6 _ ‹_›); omega)
    | (have := rngB (k7 _ ‹_›); omega)
    | (simp only [beq_self_eq_true, decide_true]; done)
    | (exfalso; simp at *; done)
end Go.Abs.Dest
