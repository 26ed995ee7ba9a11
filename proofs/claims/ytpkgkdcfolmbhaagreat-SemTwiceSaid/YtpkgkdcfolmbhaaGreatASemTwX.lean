/- Several texts of this claim, merged (ASemTwX). -/
import Derived.Test.YtpkgkdcfolmbhaaGreatASemXa
set_option linter.all false
set_option maxRecDepth 100000
namespace Go.Abs.Sm
open Go.RowKit Go.Proofs Go.Abs.Tab Go.Abs.Dest Go.Abs.Span Go.Abs.Coll Go.Abs.Hx Go.Abs.Mt Go.Abs.Rc
def STwice : Sp := ⟨List Itm, fits, fun l => [aX l], fun _ => .st (.lit true)⟩
set_option maxHeartbeats 16000000 in
theorem semTwice : SpOK Tryz.prog 4 STwice := fun (l : List Itm) hf => by
  have hC : COK Tryz.prog (cfg [(9, SAwakeM), (11, SShortL), (12, SOurs), (17, SAllX), (13, STab), (16, SSameT), (18, SSaneT)]) := Ty.ty.cfg ⟨awake09, rshort, ours09, semAll, told09, rsameT, saneTC, trivial⟩
  have hsame : sameT (allT l) (allT (l ++ l)) = true := by rw [all_twice]; exact sameT_self _
  have hsane := sane_all (l ++ l)
  ((refine Fn.ofF hC Tryz.func4 Tryz.ntmps4 rfl rfl rfl ?_); (repeat' first | (with_reducible exact trivial) | (with_reducible rfl) | (refine And.intro ?_ ?_) | (refine Need.mk ?_) | exact True.intro | (first | (refine ⟨_, Told.refl _, ?_, ?_⟩) | (refine ⟨⟨_, _⟩, Told.refl _, ?_, ?_⟩) | (refine ⟨⟨_, _, _⟩, Told.refl _, ?_, ?_⟩) | (refine ⟨⟨_, _, _, _⟩, Told.refl _, ?_, ?_⟩) | (refine ⟨⟨_, _, _, _, _⟩, Told.refl _, ?_, ?_⟩) | (refine ⟨(), Told.refl _, ?_, ?_⟩)) | (with_reducible intro _) | (refine fun (_ : Bool) => ?_)))
  all_goals try exact hf.1
  all_goals try exact (hf.2 _ ‹_›).1
  all_goals try exact (hf.2 _ ‹_ ∈ l›).2 _ ‹_›
  all_goals have hs := short_few (l := l) (by simpa using ‹(!shortL l) = false›)
  all_goals obtain ⟨s1, s2⟩ := hs
  all_goals have s3 := ents_le (l := l) s2
  all_goals first
    | (show l.length ≤ 1000000; omega)
    | (show cntL l ≤ 100000; omega)
    | (have := s3 _ ‹_›; omega)
    | (show (0 + l.length) * 96 ≤ 140737488355328; omega)
    | (show (0 + l.length + l.length) * 96 ≤ 140737488355328; omega)
    | skip
  have hc2 : cntL (l ++ l) ≤ 480 := by rw [cntL_app]; omega
  have s4 := ents_le (l := l ++ l) hc2
  have hll : (l ++ l).length ≤ 120 := by rw [List.length_append]; omega
  obtain ⟨q1, q2, q3, q4⟩ := lens_all s2
  obtain ⟨p1, p2, p3, p4⟩ := lens_all hc2
  have q5 := all_to l
  refine Exists.intro (l ++ l) (And.intro (Told.of (told_two cX_emb l l)) (And.intro ⟨by show (l ++ l).length ≤ 1000000; omega, fun x hx => by have := s4 x hx; omega⟩ ?_))
  (repeat' first | (with_reducible exact trivial) | (with_reducible rfl) | (refine And.intro ?_ ?_) | (refine Need.mk ?_) | exact True.intro | (first | (refine ⟨_, Told.refl _, ?_, ?_⟩) | (refine ⟨⟨_, _⟩, Told.refl _, ?_, ?_⟩) | (refine ⟨⟨_, _, _⟩, Told.refl _, ?_, ?_⟩) | (refine ⟨⟨_, _, _, _⟩, Told.refl _, ?_, ?_⟩) | (refine ⟨⟨_, _, _, _, _⟩, Told.refl _, ?_, ?_⟩) | (refine ⟨(), Told.refl _, ?_, ?_⟩)) | (with_reducible intro _) | (refine fun (_ : Bool) => ?_))
  all_goals first
    | (show (l ++ l).length ≤ 1000000; omega)
    | (show cntL (l ++ l) ≤ 100000; omega)
    | omega
    | (have := q5 _ ‹_›; omega)
    | (simp_all; done)
    | skip
end Go.Abs.Sm
