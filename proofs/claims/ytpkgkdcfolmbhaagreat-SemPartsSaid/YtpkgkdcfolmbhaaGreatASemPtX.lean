/- Several texts of this claim, merged (ASemPtX). -/
import Derived.Test.YtpkgkdcfolmbhaaGreatASemXa
set_option linter.all false
set_option maxRecDepth 100000
namespace Go.Abs.Sm
open Go.RowKit Go.Proofs Go.Abs.Tab Go.Abs.Dest Go.Abs.Span Go.Abs.Coll Go.Abs.Hx Go.Abs.Mt Go.Abs.Rc
def SParts : Sp := ⟨List Itm × List Itm, fun (l, m) => fits l ∧ fits m, fun (l, m) => [aX l, aX m], fun _ => .st (.lit true)⟩
theorem all_add {l m : List Itm} {k : Nat} (hk : k < m.length) : allT (l ++ m.take (k + 1)) = doT (allT (l ++ m.take k)) (m.getD k default) := by
  rw [take_nextX hk, ← List.append_assoc]
  unfold allT
  rw [List.foldl_append]
  rfl
theorem told_one {x : Itm} {n : Nat} {el : Nat → List AV} (hn : n = 1) (hel : el 0 = cX x) : subs0 [aX [x]] [.sl 8 n el] := by
  refine ⟨⟨⟨hn⟩, fun i hi => ?_⟩, trivial⟩
  have hi : i < 1 := hi
  obtain rfl : i = 0 := by omega
  show cond (ones (els cX [x] 0)) (subs0 (els cX [x] 0) (el 0)) False
  rw [hel]
  exact (cX_emb x).2.1
def partT (l m : List Itm) : Tbl := ⟨(allT (l ++ m)).name, (allT (l ++ m)).wmode, (mergeT (allT l) (allT m)).spaces, (mergeT (allT l) (allT m)).cids, (mergeT (allT l) (allT m)).nots, (mergeT (allT l) (allT m)).bfs⟩
set_option maxHeartbeats 16000000 in
theorem semParts : SpOK Tryz.prog 5 SParts := fun ⟨l, m⟩ ⟨hfl, hfm⟩ => by
  have hC : COK Tryz.prog (cfg [(9, SAwakeM), (11, SShortL), (12, SOurs), (17, SAllX), (14, SDo), (19, SMerge), (13, STab), (16, SSameT)]) := Ty.ty.cfg ⟨awake09, rshort, ours09, semAll, semDo, semMerge, told09, rsameT, trivial⟩
  have hfl : fits l := hfl
  have hfm : fits m := hfm
  have e2 : sameT (allT (l ++ m)) (partT l m) = true := by
    unfold partT
    rw [← all_parts l m]
    exact sameT_self _
  have e1 := sameT_self (allT (l ++ m))
  ((refine Fn.ofF hC Tryz.func5 Tryz.ntmps5 rfl rfl rfl ?_); (repeat' first | (with_reducible exact trivial) | (with_reducible rfl) | (refine And.intro ?_ ?_) | (refine Need.mk ?_) | exact True.intro | (first | (refine ⟨_, Told.refl _, ?_, ?_⟩) | (refine ⟨⟨_, _⟩, Told.refl _, ?_, ?_⟩) | (refine ⟨⟨_, _, _⟩, Told.refl _, ?_, ?_⟩) | (refine ⟨⟨_, _, _, _⟩, Told.refl _, ?_, ?_⟩) | (refine ⟨⟨_, _, _, _, _⟩, Told.refl _, ?_, ?_⟩) | (refine ⟨(), Told.refl _, ?_, ?_⟩)) | (with_reducible intro _) | (refine fun (_ : Bool) => ?_)))
  all_goals try exact hfl.1
  all_goals try exact (hfl.2 _ ‹_ ∈ l›).1
  all_goals try exact (hfl.2 _ ‹_ ∈ l›).2 _ ‹_›
  all_goals try exact hfm.1
  all_goals try exact (hfm.2 _ ‹_ ∈ m›).1
  all_goals try exact (hfm.2 _ ‹_ ∈ m›).2 _ ‹_›
  all_goals obtain ⟨s1, s2⟩ := short_few (l := l) (by simpa using ‹(!shortL l) = false›)
  all_goals obtain ⟨r1, r2⟩ := short_few (l := m) (by simpa using ‹(!shortL m) = false›)
  all_goals first
    | (show (0 + l.length) * 96 ≤ 140737488355328; omega)
    | (show (0 + l.length + m.length) * 96 ≤ 140737488355328; omega)
    | skip
  have s3 := ents_le (l := l) s2
  have r3 := ents_le (l := m) r2
  have hc2 : cntL (l ++ m) ≤ 480 := by rw [cntL_app]; omega
  have s4 := ents_le (l := l ++ m) hc2
  have hll : (l ++ m).length ≤ 120 := by rw [List.length_append]; omega
  obtain ⟨q1, q2, q3, q4⟩ := lens_all s2
  obtain ⟨p1, p2, p3, p4⟩ := lens_all hc2
  have q5 := all_to (l ++ m)
  have hlm := lens_merge (lens_all s2) (lens_all r2)
  obtain ⟨w1, w2, w3, w4⟩ := lens_all r2
  refine Exists.intro (l ++ m) (And.intro (Told.of (told_two cX_emb l m)) (And.intro ⟨by show (l ++ m).length ≤ 1000000; omega, fun x hx => by have := s4 x hx; omega⟩ ?_))
  (repeat' first | (with_reducible exact trivial) | (with_reducible rfl) | (refine And.intro ?_ ?_) | (refine Need.mk ?_) | exact True.intro | (first | (refine ⟨_, Told.refl _, ?_, ?_⟩) | (refine ⟨⟨_, _⟩, Told.refl _, ?_, ?_⟩) | (refine ⟨⟨_, _, _⟩, Told.refl _, ?_, ?_⟩) | (refine ⟨⟨_, _, _, _⟩, Told.refl _, ?_, ?_⟩) | (refine ⟨⟨_, _, _, _, _⟩, Told.refl _, ?_, ?_⟩) | (refine ⟨(), Told.refl _, ?_, ?_⟩)) | (with_reducible intro _) | (refine fun (_ : Bool) => ?_))
  all_goals first
    | (show (l ++ m).length ≤ 1000000; omega)
    | (show cntL (l ++ m) ≤ 100000; omega)
    | (show l.length ≤ 1000000; omega)
    | (show cntL l ≤ 100000; omega)
    | omega
    | (have := s3 _ ‹_›; omega)
    | skip
  refine AW.loop (I := fun k : Nat => ⟨77, [(0, aX l), (1, aX m), (5, .lit true), (7, .ptr 0 0), (8, .ptr 1 0), (9, .int .i64 k)], [.box 39 (cT (allT (l ++ m))), .box 39 (cT (allT (l ++ m.take k)))]⟩) (fun k => k ≤ m.length) (fun k => m.length - k) 0 (Nat.zero_le _) ?_ ?_
  · have h0 : l ++ m.take 0 = l := by simp
    rw [h0]
    (repeat' first | (with_reducible exact trivial) | (with_reducible rfl) | (refine And.intro ?_ ?_) | (refine Need.mk ?_) | exact True.intro | (first | (refine ⟨_, Told.refl _, ?_, ?_⟩) | (refine ⟨⟨_, _⟩, Told.refl _, ?_, ?_⟩) | (refine ⟨⟨_, _, _⟩, Told.refl _, ?_, ?_⟩) | (refine ⟨⟨_, _, _, _⟩, Told.refl _, ?_, ?_⟩) | (refine ⟨⟨_, _, _, _, _⟩, Told.refl _, ?_, ?_⟩) | (refine ⟨(), Told.refl _, ?_, ?_⟩)) | (with_reducible intro _) | (refine fun (_ : Bool) => ?_))
    all_goals first
      | rfl
      | skip
  · intro k hk
    have hcl : cntL (l ++ m.take k) ≤ 480 := by
      have := cntL_take m k
      rw [cntL_app]
      omega
    obtain ⟨a1, a2, a3, a4⟩ := lens_all hcl
    rcases Nat.lt_or_ge k m.length with hlt | hge
    · have hd : decide ((k : Int) < (m.length : Int)) = true := decide_eq_true (by omega)
      have hw := iw (n := (k : Int) + 1) (by omega) (by omega)
      have hnx := all_add (l := l) hlt
      have hca := cntL_at hlt
      ((refine AW.byF ‹_› ?_); (repeat' first | (with_reducible exact trivial) | (with_reducible rfl) | (refine And.intro ?_ ?_) | (refine Need.mk ?_) | exact True.intro | (first | (refine ⟨_, Told.refl _, ?_, ?_⟩) | (refine ⟨⟨_, _⟩, Told.refl _, ?_, ?_⟩) | (refine ⟨⟨_, _, _⟩, Told.refl _, ?_, ?_⟩) | (refine ⟨⟨_, _, _, _⟩, Told.refl _, ?_, ?_⟩) | (refine ⟨⟨_, _, _, _, _⟩, Told.refl _, ?_, ?_⟩) | (refine ⟨(), Told.refl _, ?_, ?_⟩)) | (with_reducible intro _) | (refine fun (_ : Bool) => ?_)))
      all_goals first | (exact absurd ‹decide ((k : Int) < (m.length : Int)) = false› (by rw [hd]; decide)) | skip
      all_goals first
        | omega
        | (rw [hw]; omega)
        | skip
      refine Exists.intro [m.getD k default] (And.intro (Told.of (told_one ?_ ?_)) (And.intro ⟨by show 1 ≤ 1000000; omega, fun x hx => ?_⟩ ?_))
      · show (IntKind.i64.wrap ((k : Int) + 1) - (k : Int)).toNat = 1
        rw [hw]
        omega
      · show cX (m.getD ((k : Int).toNat + 0) default) = _
        rw [Int.toNat_natCast, Nat.add_zero]
      · obtain rfl := List.mem_singleton.1 hx
        unfold cntX at hca
        omega
      (repeat' first | (with_reducible exact trivial) | (with_reducible rfl) | (refine And.intro ?_ ?_) | (refine Need.mk ?_) | exact True.intro | (first | (refine ⟨_, Told.refl _, ?_, ?_⟩) | (refine ⟨⟨_, _⟩, Told.refl _, ?_, ?_⟩) | (refine ⟨⟨_, _, _⟩, Told.refl _, ?_, ?_⟩) | (refine ⟨⟨_, _, _, _⟩, Told.refl _, ?_, ?_⟩) | (refine ⟨⟨_, _, _, _, _⟩, Told.refl _, ?_, ?_⟩) | (refine ⟨(), Told.refl _, ?_, ?_⟩)) | (with_reducible intro _) | (refine fun (_ : Bool) => ?_))
      any_goals (first | (refine Exists.intro ((k + 1 : Nat)) (And.intro ?_ (And.intro ?_ ?_)); all_goals (repeat' first | (with_reducible exact trivial) | (with_reducible rfl) | (refine And.intro ?_ ?_) | (refine Need.mk ?_) | exact True.intro | (first | (refine ⟨_, Told.refl _, ?_, ?_⟩) | (refine ⟨⟨_, _⟩, Told.refl _, ?_, ?_⟩) | (refine ⟨⟨_, _, _⟩, Told.refl _, ?_, ?_⟩) | (refine ⟨⟨_, _, _, _⟩, Told.refl _, ?_, ?_⟩) | (refine ⟨⟨_, _, _, _, _⟩, Told.refl _, ?_, ?_⟩) | (refine ⟨(), Told.refl _, ?_, ?_⟩)) | (with_reducible intro _) | (refine fun (_ : Bool) => ?_))) | fail)
      all_goals try simp only [Int.toNat_natCast] at *
      all_goals first
        | omega
        | (show cntX (m.getD k default) ≤ 500000; omega)
        | (rw [hw]; rfl)
        | (rw [hnx]; done)
        | (rw [hnx]; rfl)
        | (show (0 : Int) < ((1 : Nat) : Int); omega)
        | skip
    · obtain rfl : k = m.length := by omega
      have hd : decide ((m.length : Int) < (m.length : Int)) = false := decide_eq_false (by omega)
      simp only [List.take_length]
      ((refine AW.byF ‹_› ?_); (repeat' first | (with_reducible exact trivial) | (with_reducible rfl) | (refine And.intro ?_ ?_) | (refine Need.mk ?_) | exact True.intro | (first | (refine ⟨_, Told.refl _, ?_, ?_⟩) | (refine ⟨⟨_, _⟩, Told.refl _, ?_, ?_⟩) | (refine ⟨⟨_, _, _⟩, Told.refl _, ?_, ?_⟩) | (refine ⟨⟨_, _, _, _⟩, Told.refl _, ?_, ?_⟩) | (refine ⟨⟨_, _, _, _, _⟩, Told.refl _, ?_, ?_⟩) | (refine ⟨(), Told.refl _, ?_, ?_⟩)) | (with_reducible intro _) | (refine fun (_ : Bool) => ?_)))
      all_goals first | (exact absurd ‹decide ((m.length : Int) < (m.length : Int)) = true› (by rw [hd]; decide)) | skip
      all_goals first
        | (show l.length ≤ 1000000; omega)
        | (show cntL l ≤ 100000; omega)
        | (show m.length ≤ 1000000; omega)
        | (show cntL m ≤ 100000; omega)
        | (have := s3 _ ‹_›; omega)
        | (have := r3 _ ‹_›; omega)
        | omega
        | (have := q5 _ ‹_›; omega)
        | (exfalso; simp_all; done)
        | skip
      refine Exists.intro (allT (l ++ m), partT l m) (And.intro (Told.refl _) (And.intro ⟨by omega, by omega, by omega, by omega, fun y hy => by have := q5 y hy; omega⟩ ?_))
      (repeat' first | (with_reducible exact trivial) | (with_reducible rfl) | (refine And.intro ?_ ?_) | (refine Need.mk ?_) | exact True.intro | (first | (refine ⟨_, Told.refl _, ?_, ?_⟩) | (refine ⟨⟨_, _⟩, Told.refl _, ?_, ?_⟩) | (refine ⟨⟨_, _, _⟩, Told.refl _, ?_, ?_⟩) | (refine ⟨⟨_, _, _, _⟩, Told.refl _, ?_, ?_⟩) | (refine ⟨⟨_, _, _, _, _⟩, Told.refl _, ?_, ?_⟩) | (refine ⟨(), Told.refl _, ?_, ?_⟩)) | (with_reducible intro _) | (refine fun (_ : Bool) => ?_))
      all_goals first
        | exact e2
        | (simp_all; done)
        | skip
end Go.Abs.Sm
