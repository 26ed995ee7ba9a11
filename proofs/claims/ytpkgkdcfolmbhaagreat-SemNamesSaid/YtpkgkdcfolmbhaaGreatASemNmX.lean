/- Several texts of this claim, merged (ASemNmX). -/
import Derived.Test.YtpkgkdcfolmbhaaGreatASemXa
set_option linter.all false
set_option maxRecDepth 100000
namespace Go.Abs.Sm
open Go.RowKit Go.Proofs Go.Abs.Tab Go.Abs.Dest Go.Abs.Span Go.Abs.Coll Go.Abs.Hx Go.Abs.Mt Go.Abs.Rc
def SNamesX : Sp := ⟨Tbl × List Itm, fun (_, l) => fits l, fun (t, l) => [.agg (cT t), aX l], fun _ => .st (.lit true)⟩
theorem do_use {t : Tbl} {x : Itm} (h : x.kind = 1 ∨ x.kind < 0 ∨ x.kind > 8) : doT t x = t := by
  have h0 : x.kind ≠ 0 := by omega
  have h2 : x.kind ≠ 2 := by omega
  have h3 : x.kind ≠ 3 := by omega
  have h4 : x.kind ≠ 4 := by omega
  have h5 : x.kind ≠ 5 := by omega
  have h6 : x.kind ≠ 6 := by omega
  have h7 : x.kind ≠ 7 := by omega
  have h8 : x.kind ≠ 8 := by omega
  unfold doT listT builtT nameX modeX rectsX cidsX notsX bfsX
  simp [h0, h2, h3, h4, h5, h6, h7, h8]
theorem do_def {t : Tbl} {x : Itm} (h : x.kind = 0) : (⟨t.name, t.wmode, (doT t x).spaces, (doT t x).cids, (doT t x).nots, (doT t x).bfs⟩ : Tbl) = t := by
  unfold doT listT builtT nameX modeX rectsX cidsX notsX bfsX
  simp [h]
theorem do_name {t : Tbl} {x : Itm} (h : x.kind ≠ 0) : (doT t x).name = t.name ∧ (doT t x).wmode = t.wmode := by
  unfold doT listT builtT nameX modeX
  simp [h]
set_option maxHeartbeats 16000000 in
theorem semNames : SpOK Tryz.prog 3 SNamesX := fun ⟨t, l⟩ hf => by
  have hC : COK Tryz.prog (cfg [(9, SAwakeM), (10, SFewT), (11, SShortL), (12, SOurs), (14, SDo), (15, STab), (13, STab), (16, SSameT)]) := Ty.ty.cfg ⟨awake09, rfewT, rshort, ours09, semDo, table09, told09, rsameT, trivial⟩
  have hf : fits l := hf
  obtain ⟨x, hx⟩ : ∃ x, x = l.getD 0 default := ⟨_, rfl⟩
  have e0 : Int.toNat 0 = 0 := rfl
  ((refine Fn.ofF hC Tryz.func3 Tryz.ntmps3 rfl rfl rfl ?_); (repeat' first | (with_reducible exact trivial) | (with_reducible rfl) | (refine And.intro ?_ ?_) | (refine Need.mk ?_) | exact True.intro | (first | (refine ⟨_, Told.refl _, ?_, ?_⟩) | (refine ⟨⟨_, _⟩, Told.refl _, ?_, ?_⟩) | (refine ⟨⟨_, _, _⟩, Told.refl _, ?_, ?_⟩) | (refine ⟨⟨_, _, _, _⟩, Told.refl _, ?_, ?_⟩) | (refine ⟨⟨_, _, _, _, _⟩, Told.refl _, ?_, ?_⟩) | (refine ⟨(), Told.refl _, ?_, ?_⟩)) | (with_reducible intro _) | (refine fun (_ : Bool) => ?_)))
  all_goals try exact hf.1
  all_goals try exact (hf.2 _ ‹_›).1
  all_goals try exact (hf.2 _ ‹_ ∈ l›).2 _ ‹_›
  all_goals have hs := short_few (l := l) (by simpa using ‹(!shortL l) = false›)
  all_goals obtain ⟨s1, s2⟩ := hs
  all_goals have s3 := ents_le (l := l) s2
  all_goals have s0 : 0 < l.length := Nat.pos_of_ne_zero fun h => by simp [h] at *
  all_goals have s4 := cntL_at s0
  all_goals obtain ⟨⟨_, t1, t2, t3⟩, t4, t5⟩ := (fewT_iff t).1 (by simpa using ‹(!fewT t) = false›)
  all_goals have hd : lens (doT t (l.getD 0 default)) (2 * (60 + 240)) := lens_built (list_few t (l.getD 0 default) 60 240 ⟨t1, t2, t3, t4⟩ (by omega)) (l.getD 0 default).kind
  all_goals obtain ⟨d1, d2, d3, d4⟩ := id hd
  all_goals try rw [e0] at *
  all_goals rw [← hx] at *
  all_goals first
    | (show l.length ≤ 1000000; omega)
    | (show cntX x ≤ 500000; omega)
    | (have := s3 _ ‹_›; omega)
    | omega
    | (have := t5 _ ‹_›; omega)
    | (have hm := ‹_ ∈ (doT t x).bfs›
       first
         | rw [do_use (Or.inl (by simpa using ‹(x.kind == 1) = true›))] at hm
         | rw [do_use (Or.inr (Or.inl (of_decide_eq_true ‹decide (x.kind < 0) = true›)))] at hm
         | rw [do_use (Or.inr (Or.inr (of_decide_eq_true ‹decide (x.kind > 8) = true›)))] at hm
       have := t5 _ hm
       omega)
    | (have hk : x.kind = 1 := by simpa using ‹(x.kind == 1) = true›
       have hu : doT t x = t := do_use (Or.inl hk)
       rw [hu] at *
       first
         | (have := t5 _ ‹_›; omega)
         | (rw [sameT_self]; done)
         | (have := sameT_self t; simp_all; done))
    | (have hk : x.kind < 0 := of_decide_eq_true ‹decide (x.kind < 0) = true›
       have hu : doT t x = t := do_use (Or.inr (Or.inl hk))
       rw [hu] at *
       first
         | (have := t5 _ ‹_›; omega)
         | (rw [sameT_self]; done)
         | (have := sameT_self t; simp_all; done))
    | (have hk : x.kind > 8 := of_decide_eq_true ‹decide (x.kind > 8) = true›
       have hu : doT t x = t := do_use (Or.inr (Or.inr hk))
       rw [hu] at *
       first
         | (have := t5 _ ‹_›; omega)
         | (rw [sameT_self]; done)
         | (have := sameT_self t; simp_all; done))
    | (have hk : x.kind ≠ 0 := by simpa using ‹(x.kind == 0) = false›
       obtain ⟨n1, n2⟩ := do_name (t := t) hk
       simp_all; done)
    | skip
  have hk : x.kind = 0 := by simpa using ‹(x.kind == 0) = true›
  have hz := do_def (t := t) hk
  refine Exists.intro (⟨t.name, t.wmode, (doT t x).spaces, (doT t x).cids, (doT t x).nots, (doT t x).bfs⟩, t) (And.intro (Told.refl _) (And.intro ?_ ?_))
  · rw [hz]
    exact ⟨by omega, by omega, by omega, by omega, fun y hy => by have := t5 y hy; omega⟩
  have hs2 := sameT_self t
  rw [hz]
  (repeat' first | (with_reducible exact trivial) | (with_reducible rfl) | (refine And.intro ?_ ?_) | (refine Need.mk ?_) | exact True.intro | (first | (refine ⟨_, Told.refl _, ?_, ?_⟩) | (refine ⟨⟨_, _⟩, Told.refl _, ?_, ?_⟩) | (refine ⟨⟨_, _, _⟩, Told.refl _, ?_, ?_⟩) | (refine ⟨⟨_, _, _, _⟩, Told.refl _, ?_, ?_⟩) | (refine ⟨⟨_, _, _, _, _⟩, Told.refl _, ?_, ?_⟩) | (refine ⟨(), Told.refl _, ?_, ?_⟩)) | (with_reducible intro _) | (refine fun (_ : Bool) => ?_))
  all_goals first
    | (simp_all; done)
    | skip
end Go.Abs.Sm
