/- Several texts of this claim, merged (ASemLsX). -/
import Derived.Test.YtpkgkdcfolmbhaaGreatASemXa
import Derived.Test.YtpkgkdcfolmbhaaGreatADestLast
import Derived.Test.YtpkgkdcfolmbhaaGreatASpanLa
set_option linter.all false
set_option maxRecDepth 100000
namespace Go.Abs.Sm
open Go.RowKit Go.Proofs Go.Abs.Tab Go.Abs.Dest Go.Abs.Span Go.Abs.Coll Go.Abs.Hx Go.Abs.Mt Go.Abs.Rc
def SLastX : Sp := ⟨List Itm × Int × Int, fun (l, _) => fits l, fun (l, n, v) => [aX l, aCode n v], fun _ => .st (.lit true)⟩
theorem find_last {α V : Type} [Inhabited α] (E : En α V) (l : List α) (n v : Int) : E.find (E.build l) n v = E.last l n v := by
  rw [E.find_tab (E.build_ok l).1, ← En.last_tab E (E.build_ok l).1, En.last_build]
theorem any_next {l : List Rct} {k : Nat} (hk : k < l.length) (n v : Int) : anyR (l.take (k + 1)) n v = (anyR (l.take k) n v || inR (l.getD k default) n v) := by
  rw [take_nextG hk]
  unfold anyR
  rw [List.any_append]
  simp
theorem find_lenB {l : List Bf} {n v : Int} : ((EB.find l n v).getD []).length ≤ 64 := by
  unfold En.find
  split
  · rename_i hc
    have htab := (EB.canon_iff l).1 hc
    cases hg : EB.get l n v with
    | none => exact Nat.zero_le _
    | some a =>
      obtain ⟨b, hb, ⟨h1, h2, h3⟩, rfl⟩ := Tb.get_mem _ hg
      have r := rngB (htab.1 b hb)
      show (fur b.to (v - b.lo)).length ≤ 64
      rw [fur_len]
      omega
  · exact Nat.zero_le _
set_option maxHeartbeats 32000000 in
theorem semLast : SpOK Tryz.prog 8 SLastX := fun ⟨l, n, v⟩ hf => by
  have hC : COK Tryz.prog (cfg [(9, SAwakeM), (11, SShortL), (12, SOurs), (17, SAllX), (22, SListsX), (26, SFindS), (27, SLastSp), (28, SFind), (29, DLast.SLast), (30, SIn), (31, SSame), (18, SSaneT)]) := Ty.ty.cfg ⟨awake09, rshort, ours09, semAll, semLists, Span.find, lastS, Dest.find, DLast.last, rectIn, refSame, saneTC, trivial⟩
  have hf : fits l := hf
  have hsane := sane_all l
  have g1 : (ES true).find (allT l).cids n v = (ES true).last (listsT l).cids n v := by rw [all_eq]; exact find_last _ _ _ _
  have g2 : (ES false).find (allT l).nots n v = (ES false).last (listsT l).nots n v := by rw [all_eq]; exact find_last _ _ _ _
  have g3 : EB.find (allT l).bfs n v = EB.last (listsT l).bfs n v := by rw [all_eq]; exact find_last _ _ _ _
  have g4 : anyR (allT l).spaces n v = anyR (listsT l).spaces n v := by rw [all_eq]; exact any_canR _ _ _
  have g5 : (allT l).name = (listsT l).name := by rw [all_eq]; rfl
  have g6 : (allT l).wmode = (listsT l).wmode := by rw [all_eq]; rfl
  have g7 : ((EB.find (allT l).bfs n v).getD []).length ≤ 64 := find_lenB
  ((refine Fn.ofF hC Tryz.func8 Tryz.ntmps8 rfl rfl rfl ?_); (repeat' first | (with_reducible exact trivial) | (with_reducible rfl) | (refine And.intro ?_ ?_) | (refine Need.mk ?_) | exact True.intro | (first | (refine ⟨_, Told.refl _, ?_, ?_⟩) | (refine ⟨⟨_, _⟩, Told.refl _, ?_, ?_⟩) | (refine ⟨⟨_, _, _⟩, Told.refl _, ?_, ?_⟩) | (refine ⟨⟨_, _, _, _⟩, Told.refl _, ?_, ?_⟩) | (refine ⟨⟨_, _, _, _, _⟩, Told.refl _, ?_, ?_⟩) | (refine ⟨(), Told.refl _, ?_, ?_⟩)) | (with_reducible intro _) | (refine fun (_ : Bool) => ?_)))
  all_goals try exact hf.1
  all_goals try exact (hf.2 _ ‹_›).1
  all_goals try exact (hf.2 _ ‹_ ∈ l›).2 _ ‹_›
  all_goals obtain ⟨s1, s2⟩ := short_few (l := l) (by simpa using ‹(!shortL l) = false›)
  all_goals have s3 := ents_le (l := l) s2
  all_goals obtain ⟨q1, q2, q3, q4⟩ := lens_all s2
  all_goals obtain ⟨r1, r2, r3, r4⟩ := lists_len l
  all_goals first
    | (show l.length ≤ 1000000; omega)
    | (show cntL l ≤ 100000; omega)
    | (have := s3 _ ‹_›; omega)
    | (show (allT l).cids.length < 4611686018427387904; omega)
    | (show (allT l).nots.length < 4611686018427387904; omega)
    | (show (allT l).bfs.length < 4611686018427387904; omega)
    | (show (listsT l).cids.length < 1000000000; omega)
    | (show (listsT l).nots.length < 1000000000; omega)
    | (show (listsT l).bfs.length < 1000000000; omega)
    | skip
  refine AW.loop (I := fun k : Nat => ⟨165, [(3, .ptr 0 0), (5, .lit true), (6, .ptr 1 0), (7, .ptr 2 0), (8, .int .i64 (((ES true).find (allT l).cids n v).getD 0)), (9, .sb ((ES true).find (allT l).cids n v).isSome), (10, .int .i64 (((ES true).last (listsT l).cids n v).getD 0)), (11, .sb ((ES true).last (listsT l).cids n v).isSome), (12, .int .i64 (((ES false).find (allT l).nots n v).getD 0)), (13, .sb ((ES false).find (allT l).nots n v).isSome), (14, .int .i64 (((ES false).last (listsT l).nots n v).getD 0)), (15, .sb ((ES false).last (listsT l).nots n v).isSome), (16, aI ((EB.find (allT l).bfs n v).getD [])), (17, .sb (EB.find (allT l).bfs n v).isSome), (18, aI ((EB.last (listsT l).bfs n v).getD [])), (19, .sb (EB.last (listsT l).bfs n v).isSome), (20, .sb (anyR ((allT l).spaces.take k) n v)), (21, .lit false), (22, .int .i64 k)], [.box 56 [.int .i64 n, .int .i64 v], .box 39 (cT (allT l)), .box 39 (cT (listsT l))]⟩) (fun k => k ≤ (allT l).spaces.length) (fun k => (allT l).spaces.length - k) 0 (Nat.zero_le _) ?_ ?_
  · (repeat' first | (with_reducible exact trivial) | (with_reducible rfl) | (refine And.intro ?_ ?_) | (refine Need.mk ?_) | exact True.intro | (first | (refine ⟨_, Told.refl _, ?_, ?_⟩) | (refine ⟨⟨_, _⟩, Told.refl _, ?_, ?_⟩) | (refine ⟨⟨_, _, _⟩, Told.refl _, ?_, ?_⟩) | (refine ⟨⟨_, _, _, _⟩, Told.refl _, ?_, ?_⟩) | (refine ⟨⟨_, _, _, _, _⟩, Told.refl _, ?_, ?_⟩) | (refine ⟨(), Told.refl _, ?_, ?_⟩)) | (with_reducible intro _) | (refine fun (_ : Bool) => ?_))
    all_goals first
      | rfl
      | skip
  · intro k hk
    rcases Nat.lt_or_ge k (allT l).spaces.length with hlt | hge
    · have hd : decide ((k : Int) < ((allT l).spaces.length : Int)) = true := decide_eq_true (by omega)
      have hw := iw (n := (k : Int) + 1) (by omega) (by omega)
      have hnx := any_next hlt n v
      ((refine AW.byF ‹_› ?_); (repeat' first | (with_reducible exact trivial) | (with_reducible rfl) | (refine And.intro ?_ ?_) | (refine Need.mk ?_) | exact True.intro | (first | (refine ⟨_, Told.refl _, ?_, ?_⟩) | (refine ⟨⟨_, _⟩, Told.refl _, ?_, ?_⟩) | (refine ⟨⟨_, _, _⟩, Told.refl _, ?_, ?_⟩) | (refine ⟨⟨_, _, _, _⟩, Told.refl _, ?_, ?_⟩) | (refine ⟨⟨_, _, _, _, _⟩, Told.refl _, ?_, ?_⟩) | (refine ⟨(), Told.refl _, ?_, ?_⟩)) | (with_reducible intro _) | (refine fun (_ : Bool) => ?_)))
      all_goals first | (exact absurd ‹decide ((k : Int) < ((allT l).spaces.length : Int)) = false› (by rw [hd]; decide)) | skip
      any_goals (first | (refine Exists.intro ((k + 1 : Nat)) (And.intro ?_ (And.intro ?_ ?_)); all_goals (repeat' first | (with_reducible exact trivial) | (with_reducible rfl) | (refine And.intro ?_ ?_) | (refine Need.mk ?_) | exact True.intro | (first | (refine ⟨_, Told.refl _, ?_, ?_⟩) | (refine ⟨⟨_, _⟩, Told.refl _, ?_, ?_⟩) | (refine ⟨⟨_, _, _⟩, Told.refl _, ?_, ?_⟩) | (refine ⟨⟨_, _, _, _⟩, Told.refl _, ?_, ?_⟩) | (refine ⟨⟨_, _, _, _, _⟩, Told.refl _, ?_, ?_⟩) | (refine ⟨(), Told.refl _, ?_, ?_⟩)) | (with_reducible intro _) | (refine fun (_ : Bool) => ?_))) | fail)
      all_goals try simp only [Int.toNat_natCast] at *
      all_goals first
        | omega
        | (rw [hw]; rfl)
        | (rw [hnx, ‹anyR ((allT l).spaces.take k) n v = true›]; rfl)
        | (rw [hnx, ‹anyR ((allT l).spaces.take k) n v = false›]; rfl)
        | skip
    · obtain rfl : k = (allT l).spaces.length := by omega
      have hd : decide (((allT l).spaces.length : Int) < ((allT l).spaces.length : Int)) = false := decide_eq_false (by omega)
      simp only [List.take_length]
      ((refine AW.byF ‹_› ?_); (repeat' first | (with_reducible exact trivial) | (with_reducible rfl) | (refine And.intro ?_ ?_) | (refine Need.mk ?_) | exact True.intro | (first | (refine ⟨_, Told.refl _, ?_, ?_⟩) | (refine ⟨⟨_, _⟩, Told.refl _, ?_, ?_⟩) | (refine ⟨⟨_, _, _⟩, Told.refl _, ?_, ?_⟩) | (refine ⟨⟨_, _, _, _⟩, Told.refl _, ?_, ?_⟩) | (refine ⟨⟨_, _, _, _, _⟩, Told.refl _, ?_, ?_⟩) | (refine ⟨(), Told.refl _, ?_, ?_⟩)) | (with_reducible intro _) | (refine fun (_ : Bool) => ?_)))
      all_goals first | (exact absurd ‹decide (((allT l).spaces.length : Int) < ((allT l).spaces.length : Int)) = true› (by rw [hd]; decide)) | skip
      refine AW.loop (I := fun k : Nat => ⟨165, [(3, .ptr 0 0), (5, .lit true), (6, .ptr 1 0), (7, .ptr 2 0), (8, .int .i64 (((ES true).find (allT l).cids n v).getD 0)), (9, .sb ((ES true).find (allT l).cids n v).isSome), (10, .int .i64 (((ES true).last (listsT l).cids n v).getD 0)), (11, .sb ((ES true).last (listsT l).cids n v).isSome), (12, .int .i64 (((ES false).find (allT l).nots n v).getD 0)), (13, .sb ((ES false).find (allT l).nots n v).isSome), (14, .int .i64 (((ES false).last (listsT l).nots n v).getD 0)), (15, .sb ((ES false).last (listsT l).nots n v).isSome), (16, aI ((EB.find (allT l).bfs n v).getD [])), (17, .sb (EB.find (allT l).bfs n v).isSome), (18, aI ((EB.last (listsT l).bfs n v).getD [])), (19, .sb (EB.last (listsT l).bfs n v).isSome), (20, .sb (anyR (allT l).spaces n v)), (21, .sb (anyR ((listsT l).spaces.take k) n v)), (23, .int .i64 k)], [.box 56 [.int .i64 n, .int .i64 v], .box 39 (cT (allT l)), .box 39 (cT (listsT l))]⟩) (fun k => k ≤ (listsT l).spaces.length) (fun k => (listsT l).spaces.length - k) 0 (Nat.zero_le _) ?_ ?_
      · (repeat' first | (with_reducible exact trivial) | (with_reducible rfl) | (refine And.intro ?_ ?_) | (refine Need.mk ?_) | exact True.intro | (first | (refine ⟨_, Told.refl _, ?_, ?_⟩) | (refine ⟨⟨_, _⟩, Told.refl _, ?_, ?_⟩) | (refine ⟨⟨_, _, _⟩, Told.refl _, ?_, ?_⟩) | (refine ⟨⟨_, _, _, _⟩, Told.refl _, ?_, ?_⟩) | (refine ⟨⟨_, _, _, _, _⟩, Told.refl _, ?_, ?_⟩) | (refine ⟨(), Told.refl _, ?_, ?_⟩)) | (with_reducible intro _) | (refine fun (_ : Bool) => ?_))
        all_goals first
          | rfl
          | skip
      · intro k hk
        rcases Nat.lt_or_ge k (listsT l).spaces.length with hlt | hge
        · have hd : decide ((k : Int) < ((listsT l).spaces.length : Int)) = true := decide_eq_true (by omega)
          have hw := iw (n := (k : Int) + 1) (by omega) (by omega)
          have hnx := any_next hlt n v
          ((refine AW.byF ‹_› ?_); (repeat' first | (with_reducible exact trivial) | (with_reducible rfl) | (refine And.intro ?_ ?_) | (refine Need.mk ?_) | exact True.intro | (first | (refine ⟨_, Told.refl _, ?_, ?_⟩) | (refine ⟨⟨_, _⟩, Told.refl _, ?_, ?_⟩) | (refine ⟨⟨_, _, _⟩, Told.refl _, ?_, ?_⟩) | (refine ⟨⟨_, _, _, _⟩, Told.refl _, ?_, ?_⟩) | (refine ⟨⟨_, _, _, _, _⟩, Told.refl _, ?_, ?_⟩) | (refine ⟨(), Told.refl _, ?_, ?_⟩)) | (with_reducible intro _) | (refine fun (_ : Bool) => ?_)))
          all_goals first | (exact absurd ‹decide ((k : Int) < ((listsT l).spaces.length : Int)) = false› (by rw [hd]; decide)) | skip
          any_goals (first | (refine Exists.intro ((k + 1 : Nat)) (And.intro ?_ (And.intro ?_ ?_)); all_goals (repeat' first | (with_reducible exact trivial) | (with_reducible rfl) | (refine And.intro ?_ ?_) | (refine Need.mk ?_) | exact True.intro | (first | (refine ⟨_, Told.refl _, ?_, ?_⟩) | (refine ⟨⟨_, _⟩, Told.refl _, ?_, ?_⟩) | (refine ⟨⟨_, _, _⟩, Told.refl _, ?_, ?_⟩) | (refine ⟨⟨_, _, _, _⟩, Told.refl _, ?_, ?_⟩) | (refine ⟨⟨_, _, _, _, _⟩, Told.refl _, ?_, ?_⟩) | (refine ⟨(), Told.refl _, ?_, ?_⟩)) | (with_reducible intro _) | (refine fun (_ : Bool) => ?_))) | fail)
          all_goals try simp only [Int.toNat_natCast] at *
          all_goals first
            | omega
            | (rw [hw]; rfl)
            | (rw [hnx, ‹anyR ((listsT l).spaces.take k) n v = true›]; rfl)
            | (rw [hnx, ‹anyR ((listsT l).spaces.take k) n v = false›]; rfl)
            | skip
        · obtain rfl : k = (listsT l).spaces.length := by omega
          have hd : decide (((listsT l).spaces.length : Int) < ((listsT l).spaces.length : Int)) = false := decide_eq_false (by omega)
          simp only [List.take_length]
          ((refine AW.byF ‹_› ?_); (repeat' first | (with_reducible exact trivial) | (with_reducible rfl) | (refine And.intro ?_ ?_) | (refine Need.mk ?_) | exact True.intro | (first | (refine ⟨_, Told.refl _, ?_, ?_⟩) | (refine ⟨⟨_, _⟩, Told.refl _, ?_, ?_⟩) | (refine ⟨⟨_, _, _⟩, Told.refl _, ?_, ?_⟩) | (refine ⟨⟨_, _, _, _⟩, Told.refl _, ?_, ?_⟩) | (refine ⟨⟨_, _, _, _, _⟩, Told.refl _, ?_, ?_⟩) | (refine ⟨(), Told.refl _, ?_, ?_⟩)) | (with_reducible intro _) | (refine fun (_ : Bool) => ?_)))
          all_goals first | (exact absurd ‹decide (((listsT l).spaces.length : Int) < ((listsT l).spaces.length : Int)) = true› (by rw [hd]; decide)) | skip
          all_goals first
            | omega
            | (show ((EB.find (allT l).bfs n v).getD []).length < 9223372036854775807; omega)
            | (exfalso; simp_all; done)
            | (simp_all; done)
            | skip
end Go.Abs.Sm
