/- Layer 12: a text, sign by sign. -/
import Derived.Test.YtjoplgehefncbaaGreatAMatch
import Derived.Test.YtjoplgehefncbaaGreatANum
set_option linter.all false
set_option maxRecDepth 100000
namespace Go.Abs.Lk
open Go.RowKit Go.Proofs Go.Abs.Tab Go.Abs.Dest Go.Abs.Span Go.Abs.Coll Go.Abs.Hx Go.Abs.Mt
def SUniL : Sp := ⟨Tbl × Int × Int, fun (t, n, v) => t.bfs.length < 4611686018427387904, fun (t, n, v) => [.agg (cT t), aCode n v], fun (t, n, v) => rO (EB.find t.bfs n v)⟩
theorem uniL : SpOK Tryz.prog 10 SUniL := fun ⟨t, n, v⟩ ht => by
  have hC : COK Tryz.prog (cfg [(28, SFind)]) := Ty.ty.cfg ⟨Dest.find, trivial⟩
  ((refine Fn.ofF hC Tryz.func10 Tryz.ntmps10 rfl rfl rfl ?_); (repeat' first | (with_reducible exact trivial) | (with_reducible rfl) | (refine And.intro ?_ ?_) | (refine Need.mk ?_) | exact True.intro | (first | (refine ⟨_, Told.refl _, ?_, ?_⟩) | (refine ⟨⟨_, _⟩, Told.refl _, ?_, ?_⟩) | (refine ⟨⟨_, _, _⟩, Told.refl _, ?_, ?_⟩) | (refine ⟨⟨_, _, _, _⟩, Told.refl _, ?_, ?_⟩) | (refine ⟨⟨_, _, _, _, _⟩, Told.refl _, ?_, ?_⟩) | (refine ⟨(), Told.refl _, ?_, ?_⟩)) | (with_reducible intro _) | (refine fun (_ : Bool) => ?_)))
  exact ht
structure Sg where
  p : Pc
  kind : Int
  cid : Int
  u : List Int
  has : Bool
instance : Inhabited Sg := ⟨⟨default, 0, 0, [], false⟩⟩
def cG (s : Sg) : List AV := [.int .i64 s.p.at_, .int .i64 s.p.n, .sb s.p.full, .int .i64 s.p.cn, .int .i64 s.p.cv, .int .i64 s.kind, .int .i64 s.cid, aI s.u, .sb s.has]
theorem cG_emb : Emb cG 9 := fun x => ⟨rfl, ⟨⟨rfl⟩, ⟨rfl⟩, ⟨rfl⟩, ⟨rfl⟩, ⟨rfl⟩, ⟨rfl⟩, ⟨rfl⟩, ⟨⟨rfl⟩, els_of ci_emb (n := 0) (fun _ _ => rfl)⟩, ⟨rfl⟩, trivial⟩, rfl⟩
abbrev aG (l : List Sg) : AV := aL cG 9 l
def sgOf (t : Tbl) (p : Pc) : Sg := if p.full = true then ⟨p, (numT t p.cn p.cv).2, (numT t p.cn p.cv).1, (EB.find t.bfs p.cn p.cv).getD [], (EB.find t.bfs p.cn p.cv).isSome⟩ else ⟨p, 0, 0, [], false⟩
def sgs (t : Tbl) (s : List Int) : List Sg := (allAt t.spaces s 0).map (sgOf t)
def smallT (t : Tbl) : Prop := t.spaces.length < 1000000000 ∧ t.cids.length < 1000000000 ∧ t.nots.length < 1000000000 ∧ t.bfs.length < 1000000000
def SLook : Sp := ⟨Tbl × List Int, fun (t, s) => smallT t ∧ s.length < 1000000000 ∧ B8 s, fun (t, s) => [.agg (cT t), a8 s], fun (t, s) => .row 63 9 (sgs t s).length (els cG (sgs t s))⟩
theorem getP {l : List Pc} {i : Nat} (h : i < l.length) : l.getD i default = l[i] := by simp [List.getD, h]
theorem map_next {t : Tbl} {L : List Pc} {k : Nat} (hk : k < L.length) : (L.take (k + 1)).map (sgOf t) = (L.take k).map (sgOf t) ++ [sgOf t (L.getD k default)] := by
  rw [List.take_succ_eq_append_getElem hk, List.map_append, getP hk]
  rfl
set_option maxHeartbeats 16000000 in
theorem look : SpOK Tryz.prog 15 SLook := fun ⟨t, s⟩ ⟨ht, hs, h8⟩ => by
  have hC : COK Tryz.prog (cfg [(30, SAll), (7, SNum), (10, SUniL)]) := Ty.ty.cfg ⟨all, num, uniL, trivial⟩
  obtain ⟨t1, t2, t3, t4⟩ := ht
  have hlen := allAt_len (l := t.spaces) (s := s) (s.length - 0) 0 rfl
  have t4' : t.bfs.length < 4611686018427387904 := by omega
  obtain ⟨L, hL⟩ : ∃ L, L = allAt t.spaces s 0 := ⟨_, rfl⟩
  rw [← hL] at hlen
  ((refine Fn.ofF hC Tryz.func15 Tryz.ntmps15 rfl rfl rfl ?_); (repeat' first | (with_reducible exact trivial) | (with_reducible rfl) | (refine And.intro ?_ ?_) | (refine Need.mk ?_) | exact True.intro | (first | (refine ⟨_, Told.refl _, ?_, ?_⟩) | (refine ⟨⟨_, _⟩, Told.refl _, ?_, ?_⟩) | (refine ⟨⟨_, _, _⟩, Told.refl _, ?_, ?_⟩) | (refine ⟨⟨_, _, _, _⟩, Told.refl _, ?_, ?_⟩) | (refine ⟨⟨_, _, _, _, _⟩, Told.refl _, ?_, ?_⟩) | (refine ⟨(), Told.refl _, ?_, ?_⟩)) | (with_reducible intro _) | (refine fun (_ : Bool) => ?_)))
  any_goals first | exact t1 | exact hs | exact h8
  refine AW.loop (I := fun k : Nat => ⟨46, [(2, .ptr 0 0), (5, .own 2), (12, .own 1), (13, .int .i64 L.length), (14, .int .i64 k)], [.box 40 (cT t), .row 61 5 L.length (els cP L), .row 63 9 ((L.take k).map (sgOf t)).length (els cG ((L.take k).map (sgOf t)))]⟩) (fun k => k ≤ L.length) (fun k => L.length - k) 0 (Nat.zero_le _) ?_ ?_
  · clear hlen
    subst hL
    (repeat' first | (with_reducible exact trivial) | (with_reducible rfl) | (refine And.intro ?_ ?_) | (refine Need.mk ?_) | exact True.intro | (first | (refine ⟨_, Told.refl _, ?_, ?_⟩) | (refine ⟨⟨_, _⟩, Told.refl _, ?_, ?_⟩) | (refine ⟨⟨_, _, _⟩, Told.refl _, ?_, ?_⟩) | (refine ⟨⟨_, _, _, _⟩, Told.refl _, ?_, ?_⟩) | (refine ⟨⟨_, _, _, _, _⟩, Told.refl _, ?_, ?_⟩) | (refine ⟨(), Told.refl _, ?_, ?_⟩)) | (with_reducible intro _) | (refine fun (_ : Bool) => ?_))
    all_goals first | rfl
  · intro k hk
    rcases Nat.lt_or_ge k L.length with hlt | hge
    · have hd : decide ((k : Int) < (L.length : Int)) = true := decide_eq_true (by omega)
      have hw := iw (n := (k : Int) + 1) (by omega) (by omega)
      have hnx := map_next (t := t) hlt
      have hml : ((L.take k).map (sgOf t)).length ≤ L.length := by rw [List.length_map, List.length_take]; omega
      ((refine AW.byF ‹_› ?_); (repeat' first | (with_reducible exact trivial) | (with_reducible rfl) | (refine And.intro ?_ ?_) | (refine Need.mk ?_) | exact True.intro | (first | (refine ⟨_, Told.refl _, ?_, ?_⟩) | (refine ⟨⟨_, _⟩, Told.refl _, ?_, ?_⟩) | (refine ⟨⟨_, _, _⟩, Told.refl _, ?_, ?_⟩) | (refine ⟨⟨_, _, _, _⟩, Told.refl _, ?_, ?_⟩) | (refine ⟨⟨_, _, _, _, _⟩, Told.refl _, ?_, ?_⟩) | (refine ⟨(), Told.refl _, ?_, ?_⟩)) | (with_reducible intro _) | (refine fun (_ : Bool) => ?_)))
      all_goals first | (exact absurd ‹decide ((k : Int) < (L.length : Int)) = false› (by rw [hd]; decide)) | skip
      any_goals (refine Exists.intro (k + 1) (And.intro ?_ (And.intro ?_ ?_)); all_goals (repeat' first | (with_reducible exact trivial) | (with_reducible rfl) | (refine And.intro ?_ ?_) | (refine Need.mk ?_) | exact True.intro | (first | (refine ⟨_, Told.refl _, ?_, ?_⟩) | (refine ⟨⟨_, _⟩, Told.refl _, ?_, ?_⟩) | (refine ⟨⟨_, _, _⟩, Told.refl _, ?_, ?_⟩) | (refine ⟨⟨_, _, _, _⟩, Told.refl _, ?_, ?_⟩) | (refine ⟨⟨_, _, _, _, _⟩, Told.refl _, ?_, ?_⟩) | (refine ⟨(), Told.refl _, ?_, ?_⟩)) | (with_reducible intro _) | (refine fun (_ : Bool) => ?_)))
      all_goals try simp only [Int.toNat_natCast] at *
      all_goals first
        | omega
        | exact t4'
        | (show (((L.take k).map (sgOf t)).length + 1) * 88 ≤ _; omega)
        | (rw [hw]; rfl)
        | (rw [hnx, List.length_append]; rfl)
        | (have q := ‹(L.getD k default).full = true›
           have hp : sgOf t (L.getD k default) = ⟨L.getD k default, (numT t (L.getD k default).cn (L.getD k default).cv).2, (numT t (L.getD k default).cn (L.getD k default).cv).1, (EB.find t.bfs (L.getD k default).cn (L.getD k default).cv).getD [], (EB.find t.bfs (L.getD k default).cn (L.getD k default).cv).isSome⟩ := if_pos q
           rename_i z hz
           rw [hnx, hp] at hz ⊢
           refine snoc_sub cG_emb rfl ?_ z hz
           refine ⟨⟨rfl⟩, ⟨rfl⟩, ⟨rfl⟩, ⟨rfl⟩, ⟨rfl⟩, ⟨rfl⟩, ⟨rfl⟩, ?_, ⟨rfl⟩, trivial⟩
           exact ⟨⟨rfl⟩, els_of ci_emb (n := 0) (fun _ _ => rfl)⟩)
        | (have q := ‹(L.getD k default).full = false›
           have hp : sgOf t (L.getD k default) = ⟨L.getD k default, 0, 0, [], false⟩ := if_neg (by rw [q]; decide)
           rename_i z hz
           rw [hnx, hp] at hz ⊢
           refine snoc_sub cG_emb rfl ?_ z hz
           exact ⟨⟨rfl⟩, ⟨rfl⟩, ⟨rfl⟩, ⟨rfl⟩, ⟨rfl⟩, ⟨rfl⟩, ⟨rfl⟩, ⟨rfl⟩, ⟨rfl⟩, trivial⟩)

    · obtain rfl : k = L.length := by omega
      have hd : decide ((L.length : Int) < (L.length : Int)) = false := decide_eq_false (by omega)
      have hr : (L.take L.length).map (sgOf t) = sgs t s := by rw [List.take_length, hL]; rfl
      ((refine AW.byF ‹_› ?_); (repeat' first | (with_reducible exact trivial) | (with_reducible rfl) | (refine And.intro ?_ ?_) | (refine Need.mk ?_) | exact True.intro | (first | (refine ⟨_, Told.refl _, ?_, ?_⟩) | (refine ⟨⟨_, _⟩, Told.refl _, ?_, ?_⟩) | (refine ⟨⟨_, _, _⟩, Told.refl _, ?_, ?_⟩) | (refine ⟨⟨_, _, _, _⟩, Told.refl _, ?_, ?_⟩) | (refine ⟨⟨_, _, _, _, _⟩, Told.refl _, ?_, ?_⟩) | (refine ⟨(), Told.refl _, ?_, ?_⟩)) | (with_reducible intro _) | (refine fun (_ : Bool) => ?_)))
      all_goals first | (exact absurd ‹decide ((L.length : Int) < (L.length : Int)) = true› (by rw [hd]; decide)) | skip
      all_goals rw [hr]
end Go.Abs.Lk
