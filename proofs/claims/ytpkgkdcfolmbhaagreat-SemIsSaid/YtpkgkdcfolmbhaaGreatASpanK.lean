/- span.joined, span.Build. -/
import Derived.Test.YtpkgkdcfolmbhaaGreatASpanJ
import Derived.Test.YtpkgkdcfolmbhaaGreatADestC
set_option linter.all false
set_option maxRecDepth 100000
namespace Go.Abs.Span
open Go.RowKit Go.Proofs Go.Abs.Tab Go.Abs.Rc
open Go.Abs.Dest (cat_snoc')
theorem getD_last {init : List Spn} {q : Spn} : (init ++ [q]).getD init.length default = q := by simp [List.getD]
theorem set_last {init : List Spn} {q r : Spn} : (init ++ [q]).set init.length r = init ++ [r] := by simp
def SJoined : Sp := ⟨List Spn × Bool, fun (t, st) => (ES st).OD t ∧ (∀ x ∈ t, saneS st x = true) ∧ t.length ≤ 1000000000, fun (t, st) => [aS t, .lit st], fun (t, st) => .row 83 4 ((ES st).joined (joinsS st) t).length (els cSp ((ES st).joined (joinsS st) t))⟩
set_option maxHeartbeats 16000000 in
theorem joined : SpOK Tryz.prog 109 SJoined := fun ⟨t, st⟩ ⟨fo, fg, hl⟩ => by
  have hC : COK Tryz.prog (cfg [(85, SJoinsS)]) := Ty.ty.cfg ⟨joins, trivial⟩
  have hl : t.length ≤ 1000000000 := hl
  have fo : (ES st).OD t := fo
  have fg : ∀ x ∈ t, saneS st x = true := fg
  have hbl : (ES st).joined (joinsS st) t = JS st t t.length := by
    unfold JS
    rw [List.take_length]
  ((refine Fn.ofF hC Tryz.func109 Tryz.ntmps109 rfl rfl rfl ?_); (repeat' first | (with_reducible exact trivial) | (with_reducible rfl) | (refine And.intro ?_ ?_) | (refine Need.mk ?_) | exact True.intro | (first | (refine ⟨_, Told.refl _, ?_, ?_⟩) | (refine ⟨⟨_, _⟩, Told.refl _, ?_, ?_⟩) | (refine ⟨⟨_, _, _⟩, Told.refl _, ?_, ?_⟩) | (refine ⟨⟨_, _, _, _⟩, Told.refl _, ?_, ?_⟩) | (refine ⟨⟨_, _, _, _, _⟩, Told.refl _, ?_, ?_⟩) | (refine ⟨(), Told.refl _, ?_, ?_⟩)) | (with_reducible intro _) | (refine fun (_ : Bool) => ?_)))
  refine AW.loop (I := fun j : Nat => ⟨42, [(1, .lit st), (9, aS t), (10, .int .i64 t.length), (11, .int .i64 j), (5, .own 0)], [.row 83 4 (JS st t j).length (els cSp (JS st t j))]⟩) (fun j => j ≤ t.length) (fun j => t.length - j) 0 (Nat.zero_le _) ?_ ?_
  · (repeat' first | (with_reducible exact trivial) | (with_reducible rfl) | (refine And.intro ?_ ?_) | (refine Need.mk ?_) | exact True.intro | (first | (refine ⟨_, Told.refl _, ?_, ?_⟩) | (refine ⟨⟨_, _⟩, Told.refl _, ?_, ?_⟩) | (refine ⟨⟨_, _, _⟩, Told.refl _, ?_, ?_⟩) | (refine ⟨⟨_, _, _, _⟩, Told.refl _, ?_, ?_⟩) | (refine ⟨⟨_, _, _, _, _⟩, Told.refl _, ?_, ?_⟩) | (refine ⟨(), Told.refl _, ?_, ?_⟩)) | (with_reducible intro _) | (refine fun (_ : Bool) => ?_))
    all_goals rfl
  · intro j hj
    have hjl := JS_len st t j
    have hjs := JS_sane fo fg j
    rcases Nat.lt_or_ge j t.length with hlt | hge
    · have hx : saneS st (t.getD (j : Int).toNat default) = true := by
        rw [Int.toNat_natCast, getB hlt]
        exact fg _ (List.getElem_mem _)
      have hd2 : decide ((j : Int) < (t.length : Int)) = true := decide_eq_true (by omega)
      have hw := iw (n := (j : Int) + 1) (by omega) (by omega)
      rcases JS_next (st := st) hlt with ⟨j1, j2⟩ | ⟨init, q, j1, j2⟩
      · rw [j1] at hjl ⊢
        ((refine AW.byF ‹_› ?_); (repeat' first | (with_reducible exact trivial) | (with_reducible rfl) | (refine And.intro ?_ ?_) | (refine Need.mk ?_) | exact True.intro | (first | (refine ⟨_, Told.refl _, ?_, ?_⟩) | (refine ⟨⟨_, _⟩, Told.refl _, ?_, ?_⟩) | (refine ⟨⟨_, _, _⟩, Told.refl _, ?_, ?_⟩) | (refine ⟨⟨_, _, _, _⟩, Told.refl _, ?_, ?_⟩) | (refine ⟨⟨_, _, _, _, _⟩, Told.refl _, ?_, ?_⟩) | (refine ⟨(), Told.refl _, ?_, ?_⟩)) | (with_reducible intro _) | (refine fun (_ : Bool) => ?_)))
        all_goals first | (exact absurd ‹decide ((j : Int) < (t.length : Int)) = false› (by rw [hd2]; decide)) | skip
        all_goals first | (exact absurd ‹decide ((([] : List Spn).length : Int) > 0) = true› (by decide)) | skip
        any_goals (refine Exists.intro (j + 1) (And.intro ?_ (And.intro ?_ ?_)); all_goals (repeat' first | (with_reducible exact trivial) | (with_reducible rfl) | (refine And.intro ?_ ?_) | (refine Need.mk ?_) | exact True.intro | (first | (refine ⟨_, Told.refl _, ?_, ?_⟩) | (refine ⟨⟨_, _⟩, Told.refl _, ?_, ?_⟩) | (refine ⟨⟨_, _, _⟩, Told.refl _, ?_, ?_⟩) | (refine ⟨⟨_, _, _, _⟩, Told.refl _, ?_, ?_⟩) | (refine ⟨⟨_, _, _, _, _⟩, Told.refl _, ?_, ?_⟩) | (refine ⟨(), Told.refl _, ?_, ?_⟩)) | (with_reducible intro _) | (refine fun (_ : Bool) => ?_)))
        all_goals first
          | omega
          | assumption
          | (dsimp only; omega)
          | (rw [hw]; omega)
          | (rw [j2]; rfl)
          | (have hi := ‹_ < (JS st t (j + 1)).length›; rw [j2] at hi ⊢; exact els_of cSp_emb (n := 0) (cat_snoc' (l := []) rfl (fun _ _ => rfl)) _ hi)
          | (exact els_of cSp_emb (n := 0) (fun _ _ => rfl) _ ‹_›)
      · rw [j1] at hjl hjs ⊢
        have hq : saneS st q = true := hjs q (by simp)
        have hlen : (init ++ [q]).length = init.length + 1 := by simp
        have e3 : IntKind.i64.wrap (((init ++ [q]).length : Int) - 1) = ((init.length : Nat) : Int) := by rw [iw (by omega) (by omega)]; omega
        have hgl : (init ++ [q]).getD (IntKind.i64.wrap (((init ++ [q]).length : Int) - 1)).toNat default = q := by rw [e3, Int.toNat_natCast, getD_last]
        have hd3 : decide (((init ++ [q]).length : Int) > 0) = true := decide_eq_true (by omega)
        have hJ1 : joinsS st ((init ++ [q]).getD (IntKind.i64.wrap (((init ++ [q]).length : Int) - 1)).toNat default) (t.getD (j : Int).toNat default) = true → JS st t (j + 1) = init ++ [⟨q.n, q.lo, (t.getD (j : Int).toNat default).hi, q.to⟩] := fun h => by
          rw [hgl] at h
          rw [j2]
          exact if_pos h
        have hJ2 : joinsS st ((init ++ [q]).getD (IntKind.i64.wrap (((init ++ [q]).length : Int) - 1)).toNat default) (t.getD (j : Int).toNat default) = false → JS st t (j + 1) = init ++ [q] ++ [t.getD (j : Int).toNat default] := fun h => by
          rw [hgl] at h
          rw [j2, if_neg (by rw [show t.getD j default = t.getD (j : Int).toNat default from rfl, h]; decide)]
          rfl
        ((refine AW.byF ‹_› ?_); (repeat' first | (with_reducible exact trivial) | (with_reducible rfl) | (refine And.intro ?_ ?_) | (refine Need.mk ?_) | exact True.intro | (first | (refine ⟨_, Told.refl _, ?_, ?_⟩) | (refine ⟨⟨_, _⟩, Told.refl _, ?_, ?_⟩) | (refine ⟨⟨_, _, _⟩, Told.refl _, ?_, ?_⟩) | (refine ⟨⟨_, _, _, _⟩, Told.refl _, ?_, ?_⟩) | (refine ⟨⟨_, _, _, _, _⟩, Told.refl _, ?_, ?_⟩) | (refine ⟨(), Told.refl _, ?_, ?_⟩)) | (with_reducible intro _) | (refine fun (_ : Bool) => ?_)))
        all_goals first | (exact absurd ‹decide ((j : Int) < (t.length : Int)) = false› (by rw [hd2]; decide)) | skip
        all_goals first | (exact absurd ‹decide (((init ++ [q]).length : Int) > 0) = false› (by rw [hd3]; decide)) | skip
        any_goals (refine Exists.intro (j + 1) (And.intro ?_ (And.intro ?_ ?_)); all_goals (repeat' first | (with_reducible exact trivial) | (with_reducible rfl) | (refine And.intro ?_ ?_) | (refine Need.mk ?_) | exact True.intro | (first | (refine ⟨_, Told.refl _, ?_, ?_⟩) | (refine ⟨⟨_, _⟩, Told.refl _, ?_, ?_⟩) | (refine ⟨⟨_, _, _⟩, Told.refl _, ?_, ?_⟩) | (refine ⟨⟨_, _, _, _⟩, Told.refl _, ?_, ?_⟩) | (refine ⟨⟨_, _, _, _, _⟩, Told.refl _, ?_, ?_⟩) | (refine ⟨(), Told.refl _, ?_, ?_⟩)) | (with_reducible intro _) | (refine fun (_ : Bool) => ?_)))
        all_goals first
          | omega
          | assumption
          | (dsimp only; omega)
          | (rw [hw]; omega)
          | (rw [e3]; omega)
          | (rw [hgl]; exact hq)
          | (rw [hJ1 ‹_›, hlen, List.length_append]; rfl)
          | (rw [hJ2 ‹_›]; simp only [List.length_append, List.length_cons, List.length_nil]; done)
          | (have hi := ‹_ < (JS st t (j + 1)).length›; rw [hJ2 ‹_›] at hi ⊢; exact els_of cSp_emb (n := 0) (cat_snoc' rfl (fun _ _ => rfl)) _ hi)
          | (exact els_of cSp_emb (n := 0) (fun _ _ => rfl) _ ‹_›)
          | (have hi := ‹_ < (JS st t (j + 1)).length›
             rw [hJ1 ‹_›] at hi ⊢
             refine els_of cSp_emb (n := 0) (fun i hi => ?_) _ hi
             show putEl (IntKind.i64.wrap (((init ++ [q]).length : Int) - 1)).toNat [.int .i64 ((init ++ [q]).getD (IntKind.i64.wrap (((init ++ [q]).length : Int) - 1)).toNat default).n, .int .i64 ((init ++ [q]).getD (IntKind.i64.wrap (((init ++ [q]).length : Int) - 1)).toNat default).lo, .int .i64 (t.getD (j : Int).toNat default).hi, .int .i64 ((init ++ [q]).getD (IntKind.i64.wrap (((init ++ [q]).length : Int) - 1)).toNat default).to] (els cSp (init ++ [q])) i = _
             rw [hgl, e3, Int.toNat_natCast]
             have h2 := put_set (f := cSp) (l := init ++ [q]) (k := init.length) (x := ⟨q.n, q.lo, (t.getD (j : Int).toNat default).hi, q.to⟩) (by simp) i (by rw [set_last]; exact hi)
             rw [set_last] at h2
             exact h2)
    · obtain rfl : j = t.length := by omega
      have hd2 : decide ((t.length : Int) < (t.length : Int)) = false := decide_eq_false (by omega)
      ((refine AW.byF ‹_› ?_); (repeat' first | (with_reducible exact trivial) | (with_reducible rfl) | (refine And.intro ?_ ?_) | (refine Need.mk ?_) | exact True.intro | (first | (refine ⟨_, Told.refl _, ?_, ?_⟩) | (refine ⟨⟨_, _⟩, Told.refl _, ?_, ?_⟩) | (refine ⟨⟨_, _, _⟩, Told.refl _, ?_, ?_⟩) | (refine ⟨⟨_, _, _, _⟩, Told.refl _, ?_, ?_⟩) | (refine ⟨⟨_, _, _, _, _⟩, Told.refl _, ?_, ?_⟩) | (refine ⟨(), Told.refl _, ?_, ?_⟩)) | (with_reducible intro _) | (refine fun (_ : Bool) => ?_)))
      all_goals first | (exact absurd ‹decide ((t.length : Int) < (t.length : Int)) = true› (by rw [hd2]; decide)) | skip
      all_goals rw [hbl]
def FS (st : Bool) (l : List Spn) (k : Nat) : List Spn := (ES st).fold (l.take k)
theorem FS_next {st : Bool} {l : List Spn} {k : Nat} (hk : k < l.length) : FS st l (k + 1) = if saneS st (l.getD k default) = true then (ES st).over (FS st l k) (l.getD k default) else FS st l k := by
  unfold FS
  rw [List.take_succ_eq_append_getElem hk, (ES st).fold_snoc, getB hk]
  rfl
theorem FS_len (st : Bool) (l : List Spn) (k : Nat) : (FS st l k).length ≤ 2 * l.length := by
  have := ((ES st).fold_ok (l.take k)).2.2.1
  rw [List.length_take] at this
  unfold FS
  omega
def SBuildS : Sp := ⟨List Spn × Bool, fun (l, _) => l.length ≤ 100000000, fun (l, st) => [aS l, .lit st], fun (l, st) => .row 83 4 ((ES st).build l).length (els cSp ((ES st).build l))⟩
set_option maxHeartbeats 16000000 in
theorem buildS : SpOK Tryz.prog 64 SBuildS := fun ⟨l, st⟩ hl => by
  have hC : COK Tryz.prog (cfg [(84, SSaneS), (108, SOverS), (109, SJoined)]) := Ty.ty.cfg ⟨sane, overS, joined, trivial⟩
  have hl : l.length ≤ 100000000 := hl
  ((refine Fn.ofF hC Tryz.func64 Tryz.ntmps64 rfl rfl rfl ?_); (repeat' first | (with_reducible exact trivial) | (with_reducible rfl) | (refine And.intro ?_ ?_) | (refine Need.mk ?_) | exact True.intro | (first | (refine ⟨_, Told.refl _, ?_, ?_⟩) | (refine ⟨⟨_, _⟩, Told.refl _, ?_, ?_⟩) | (refine ⟨⟨_, _, _⟩, Told.refl _, ?_, ?_⟩) | (refine ⟨⟨_, _, _, _⟩, Told.refl _, ?_, ?_⟩) | (refine ⟨⟨_, _, _, _, _⟩, Told.refl _, ?_, ?_⟩) | (refine ⟨(), Told.refl _, ?_, ?_⟩)) | (with_reducible intro _) | (refine fun (_ : Bool) => ?_)))
  refine AW.loop (I := fun k : Nat => ⟨25, [(1, .lit st), (5, .own 0), (8, aS l), (9, .int .i64 l.length), (10, .int .i64 k)], [.row 83 4 (FS st l k).length (els cSp (FS st l k))]⟩) (fun k => k ≤ l.length) (fun k => l.length - k) 0 (Nat.zero_le _) ?_ ?_
  · (repeat' first | (with_reducible exact trivial) | (with_reducible rfl) | (refine And.intro ?_ ?_) | (refine Need.mk ?_) | exact True.intro | (first | (refine ⟨_, Told.refl _, ?_, ?_⟩) | (refine ⟨⟨_, _⟩, Told.refl _, ?_, ?_⟩) | (refine ⟨⟨_, _, _⟩, Told.refl _, ?_, ?_⟩) | (refine ⟨⟨_, _, _, _⟩, Told.refl _, ?_, ?_⟩) | (refine ⟨⟨_, _, _, _, _⟩, Told.refl _, ?_, ?_⟩) | (refine ⟨(), Told.refl _, ?_, ?_⟩)) | (with_reducible intro _) | (refine fun (_ : Bool) => ?_))
    all_goals rfl
  · intro k hk
    have hfl := FS_len st l k
    obtain ⟨fo, fg, _, _⟩ := (ES st).fold_ok (l.take k)
    have fo : (ES st).OD (FS st l k) := fo
    have fg : ∀ x ∈ FS st l k, saneS st x = true := fg
    rcases Nat.lt_or_ge k l.length with hlt | hge
    · have hw := iw (n := (k : Int) + 1) (by omega) (by omega)
      have hnx : FS st l (k + 1) = if saneS st (l.getD (k : Int).toNat default) = true then (ES st).over (FS st l k) (l.getD (k : Int).toNat default) else FS st l k := FS_next hlt
      have hd : decide ((k : Int) < (l.length : Int)) = true := decide_eq_true (by omega)
      have hY : saneS st (l.getD (k : Int).toNat default) = true → FS st l (k + 1) = (ES st).over (FS st l k) (l.getD (k : Int).toNat default) := fun h => by rw [hnx, if_pos h]
      have hN : saneS st (l.getD (k : Int).toNat default) = false → FS st l (k + 1) = FS st l k := fun h => by rw [hnx, if_neg (by rw [h]; decide)]
      clear hnx
      ((refine AW.byF ‹_› ?_); (repeat' first | (with_reducible exact trivial) | (with_reducible rfl) | (refine And.intro ?_ ?_) | (refine Need.mk ?_) | exact True.intro | (first | (refine ⟨_, Told.refl _, ?_, ?_⟩) | (refine ⟨⟨_, _⟩, Told.refl _, ?_, ?_⟩) | (refine ⟨⟨_, _, _⟩, Told.refl _, ?_, ?_⟩) | (refine ⟨⟨_, _, _, _⟩, Told.refl _, ?_, ?_⟩) | (refine ⟨⟨_, _, _, _, _⟩, Told.refl _, ?_, ?_⟩) | (refine ⟨(), Told.refl _, ?_, ?_⟩)) | (with_reducible intro _) | (refine fun (_ : Bool) => ?_)))
      all_goals first | (exact absurd ‹decide ((k : Int) < (l.length : Int)) = false› (by rw [hd]; decide)) | skip
      any_goals (refine Exists.intro (k + 1) (And.intro ?_ (And.intro ?_ ?_)); all_goals (repeat' first | (with_reducible exact trivial) | (with_reducible rfl) | (refine And.intro ?_ ?_) | (refine Need.mk ?_) | exact True.intro | (first | (refine ⟨_, Told.refl _, ?_, ?_⟩) | (refine ⟨⟨_, _⟩, Told.refl _, ?_, ?_⟩) | (refine ⟨⟨_, _, _⟩, Told.refl _, ?_, ?_⟩) | (refine ⟨⟨_, _, _, _⟩, Told.refl _, ?_, ?_⟩) | (refine ⟨⟨_, _, _, _, _⟩, Told.refl _, ?_, ?_⟩) | (refine ⟨(), Told.refl _, ?_, ?_⟩)) | (with_reducible intro _) | (refine fun (_ : Bool) => ?_)))
      all_goals first
        | omega
        | assumption
        | exact fg _ ‹_›
        | (rw [hw]; omega)
        | (rw [hY ‹_›]; done)
        | (rw [hN ‹_›]; done)
        | (have hi := ‹_ < (FS st l (k + 1)).length›; rw [hY ‹_›] at hi ⊢; exact els_of cSp_emb (n := 0) (fun _ _ => rfl) _ hi)
        | (have hi := ‹_ < (FS st l (k + 1)).length›; rw [hN ‹_›] at hi ⊢; exact els_of cSp_emb (n := 0) (fun _ _ => rfl) _ hi)
    · obtain rfl : k = l.length := by omega
      have hd : decide ((l.length : Int) < (l.length : Int)) = false := decide_eq_false (by omega)
      have hbl : (ES st).build l = (ES st).joined (joinsS st) (FS st l l.length) := by
        unfold FS
        rw [List.take_length]
        rfl
      ((refine AW.byF ‹_› ?_); (repeat' first | (with_reducible exact trivial) | (with_reducible rfl) | (refine And.intro ?_ ?_) | (refine Need.mk ?_) | exact True.intro | (first | (refine ⟨_, Told.refl _, ?_, ?_⟩) | (refine ⟨⟨_, _⟩, Told.refl _, ?_, ?_⟩) | (refine ⟨⟨_, _, _⟩, Told.refl _, ?_, ?_⟩) | (refine ⟨⟨_, _, _, _⟩, Told.refl _, ?_, ?_⟩) | (refine ⟨⟨_, _, _, _, _⟩, Told.refl _, ?_, ?_⟩) | (refine ⟨(), Told.refl _, ?_, ?_⟩)) | (with_reducible intro _) | (refine fun (_ : Bool) => ?_)))
      all_goals first | (exact absurd ‹decide ((l.length : Int) < (l.length : Int)) = true› (by rw [hd]; decide)) | skip
      all_goals first
        | exact fo
        | exact fg
        | exact fg _ ‹_›
        | (show (FS st l l.length).length ≤ 1000000000; omega)
        | (rw [hbl]; done)
        | (have hi := ‹_ < ((ES st).build l).length›; rw [hbl] at hi ⊢; exact els_of cSp_emb (n := 0) (fun _ _ => rfl) _ hi)
end Go.Abs.Span
