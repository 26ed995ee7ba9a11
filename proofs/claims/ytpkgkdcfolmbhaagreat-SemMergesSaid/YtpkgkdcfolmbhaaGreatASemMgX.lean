/- Several texts of this claim, merged (ASemMgX). -/
import Derived.Test.YtpkgkdcfolmbhaaGreatASemXa
set_option linter.all false
set_option maxRecDepth 100000
namespace Go.Abs.Sm
open Go.RowKit Go.Proofs Go.Abs.Tab Go.Abs.Dest Go.Abs.Span Go.Abs.Coll Go.Abs.Hx Go.Abs.Mt Go.Abs.Rc
def SMerges : Sp := ⟨Tbl × Tbl, fun _ => True, fun (t, u) => [.agg (cT t), .agg (cT u)], fun _ => .st (.lit true)⟩
set_option maxHeartbeats 16000000 in
theorem semMerges : SpOK Tryz.prog 6 SMerges := fun ⟨t, u⟩ _ => by
  have hC : COK Tryz.prog (cfg [(9, SAwakeM), (10, SFewT), (15, STab), (13, STab), (16, SSameT), (18, SSaneT), (19, SMerge)]) := Ty.ty.cfg ⟨awake09, rfewT, table09, told09, rsameT, saneTC, semMerge, trivial⟩
  have hft : (!fewT t) = false → lens t 60 := fun h => by
    obtain ⟨⟨_, a, b, c⟩, d, _⟩ := (fewT_iff t).1 (by simpa using h)
    exact ⟨a, b, c, d⟩
  have hfu : (!fewT u) = false → lens u 60 := fun h => by
    obtain ⟨⟨_, a, b, c⟩, d, _⟩ := (fewT_iff u).1 (by simpa using h)
    exact ⟨a, b, c, d⟩
  have e1 : saneT t = true → sameT (mergeT t t) t = true := fun h => by rw [merge_self ((sane_iff t).1 h).2]; exact sameT_self _
  have e2 : saneT t = true → sameT (mergeT t T0) t = true := fun h => by rw [merge_none ((sane_iff t).1 h).2]; exact sameT_self _
  have e3 : saneT t = true → saneT (mergeT t u) = true := fun h => by rw [sane_iff]; exact ⟨((sane_iff t).1 h).1, merge_can t u⟩
  have e4 : sameT (mergeT t u) (mergeT (mergeT t u) u) = true := by rw [merge_more]; exact sameT_self _
  have o1 := merge_to t t
  have o2 := merge_to t T0
  have o3 := merge_to t u
  ((refine Fn.ofF hC Tryz.func6 Tryz.ntmps6 rfl rfl rfl ?_); (repeat' first | (with_reducible exact trivial) | (with_reducible rfl) | (refine And.intro ?_ ?_) | (refine Need.mk ?_) | exact True.intro | (first | (refine ⟨_, Told.refl _, ?_, ?_⟩) | (refine ⟨⟨_, _⟩, Told.refl _, ?_, ?_⟩) | (refine ⟨⟨_, _, _⟩, Told.refl _, ?_, ?_⟩) | (refine ⟨⟨_, _, _, _⟩, Told.refl _, ?_, ?_⟩) | (refine ⟨⟨_, _, _, _, _⟩, Told.refl _, ?_, ?_⟩) | (refine ⟨(), Told.refl _, ?_, ?_⟩)) | (with_reducible intro _) | (refine fun (_ : Bool) => ?_)))
  all_goals have ht := hft ‹_›
  all_goals have hu := hfu ‹_›
  all_goals have hm := lens_merge ht hu
  all_goals have hm1 := lens_merge ht ht
  all_goals obtain ⟨t1, t2, t3, t4⟩ := id ht
  all_goals obtain ⟨u1, u2, u3, u4⟩ := id hu
  all_goals obtain ⟨m1, m2, m3, m4⟩ := id hm
  all_goals obtain ⟨n1, n2, n3, n4⟩ := id hm1
  all_goals first
    | omega
    | (have := o1 _ ‹_›; omega)
    | (have := o2 _ ‹_›; omega)
    | (have := o3 _ ‹_›; omega)
    | skip
  refine Exists.intro (t, T0) (And.intro (Told.of ?_) (And.intro ?_ ?_))
  · (repeat' first | (with_reducible exact trivial) | (with_reducible rfl) | (refine And.intro ?_ ?_) | (refine Need.mk ?_) | exact True.intro | (first | (refine ⟨_, Told.refl _, ?_, ?_⟩) | (refine ⟨⟨_, _⟩, Told.refl _, ?_, ?_⟩) | (refine ⟨⟨_, _, _⟩, Told.refl _, ?_, ?_⟩) | (refine ⟨⟨_, _, _, _⟩, Told.refl _, ?_, ?_⟩) | (refine ⟨⟨_, _, _, _, _⟩, Told.refl _, ?_, ?_⟩) | (refine ⟨(), Told.refl _, ?_, ?_⟩)) | (with_reducible intro _) | (refine fun (_ : Bool) => ?_))
    all_goals first
      | with_reducible rfl
      | (unfold T0; rfl)
      | (rename_i z hz; exact els_of cR_emb (n := 0) (fun _ _ => rfl) z hz)
      | (rename_i z hz; exact els_of cSp_emb (n := 0) (fun _ _ => rfl) z hz)
      | (rename_i z hz; exact els_of cBf_emb (n := 0) (fun _ _ => rfl) z hz)
      | skip
  · exact ⟨lens_mono ht (by omega), ⟨Nat.zero_le _, Nat.zero_le _, Nat.zero_le _, Nat.zero_le _⟩⟩
  have hm2 := lens_merge (u := T0) ht ⟨Nat.zero_le _, Nat.zero_le _, Nat.zero_le _, Nat.zero_le _⟩
  obtain ⟨k1, k2, k3, k4⟩ := id hm2
  (repeat' first | (with_reducible exact trivial) | (with_reducible rfl) | (refine And.intro ?_ ?_) | (refine Need.mk ?_) | exact True.intro | (first | (refine ⟨_, Told.refl _, ?_, ?_⟩) | (refine ⟨⟨_, _⟩, Told.refl _, ?_, ?_⟩) | (refine ⟨⟨_, _, _⟩, Told.refl _, ?_, ?_⟩) | (refine ⟨⟨_, _, _, _⟩, Told.refl _, ?_, ?_⟩) | (refine ⟨⟨_, _, _, _, _⟩, Told.refl _, ?_, ?_⟩) | (refine ⟨(), Told.refl _, ?_, ?_⟩)) | (with_reducible intro _) | (refine fun (_ : Bool) => ?_))
  all_goals first
    | omega
    | (have := o1 _ ‹_›; omega)
    | (have := o2 _ ‹_›; omega)
    | (have := o3 _ ‹_›; omega)
    | (simp_all; done)
    | skip
end Go.Abs.Sm
