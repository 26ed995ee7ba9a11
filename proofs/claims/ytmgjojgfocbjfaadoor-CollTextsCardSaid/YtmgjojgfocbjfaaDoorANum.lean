/- Layer 12: a code's number. -/
import Derived.Test.YtmgjojgfocbjfaaDoorATbl
set_option linter.all false
set_option maxRecDepth 100000
namespace Go.Abs.Coll
open Go.RowKit Go.Proofs Go.Abs.Tab Go.Abs.Dest Go.Abs.Span
def SSrc1 : Sp := ⟨Tbl × Int × Int, fun (t, n, v) => t.cids.length < 4611686018427387904, fun (t, n, v) => [aCode n v, .rptr (cT t)], fun (t, n, v) => rI ((ES true).find t.cids n v)⟩
def SSrc2 : Sp := ⟨Tbl × Int × Int, fun (t, n, v) => t.nots.length < 4611686018427387904, fun (t, n, v) => [aCode n v, .rptr (cT t)], fun (t, n, v) => rI ((ES false).find t.nots n v)⟩
set_option maxHeartbeats 4000000 in
theorem src1 : SpOK Tryd.prog 35 SSrc1 := fun ⟨t, n, v⟩ hl => by
  have hC : COK Tryd.prog (cfg [(36, SFindS)]) := Ty.ty.cfg ⟨Span.find, trivial⟩
  ((refine Fn.ofF hC Tryd.func35 Tryd.ntmps35 rfl rfl rfl ?_); (repeat' first | (with_reducible exact trivial) | (with_reducible rfl) | (refine And.intro ?_ ?_) | (refine Need.mk ?_) | exact True.intro | (first | (refine ⟨_, Told.refl _, ?_, ?_⟩) | (refine ⟨⟨_, _⟩, Told.refl _, ?_, ?_⟩) | (refine ⟨⟨_, _, _⟩, Told.refl _, ?_, ?_⟩) | (refine ⟨⟨_, _, _, _⟩, Told.refl _, ?_, ?_⟩) | (refine ⟨⟨_, _, _, _, _⟩, Told.refl _, ?_, ?_⟩) | (refine ⟨(), Told.refl _, ?_, ?_⟩)) | (with_reducible intro _) | (refine fun (_ : Bool) => ?_)))
  exact hl
set_option maxHeartbeats 4000000 in
theorem src2 : SpOK Tryd.prog 37 SSrc2 := fun ⟨t, n, v⟩ hl => by
  have hC : COK Tryd.prog (cfg [(36, SFindS)]) := Ty.ty.cfg ⟨Span.find, trivial⟩
  ((refine Fn.ofF hC Tryd.func37 Tryd.ntmps37 rfl rfl rfl ?_); (repeat' first | (with_reducible exact trivial) | (with_reducible rfl) | (refine And.intro ?_ ?_) | (refine Need.mk ?_) | exact True.intro | (first | (refine ⟨_, Told.refl _, ?_, ?_⟩) | (refine ⟨⟨_, _⟩, Told.refl _, ?_, ?_⟩) | (refine ⟨⟨_, _, _⟩, Told.refl _, ?_, ?_⟩) | (refine ⟨⟨_, _, _, _⟩, Told.refl _, ?_, ?_⟩) | (refine ⟨⟨_, _, _, _, _⟩, Told.refl _, ?_, ?_⟩) | (refine ⟨(), Told.refl _, ?_, ?_⟩)) | (with_reducible intro _) | (refine fun (_ : Bool) => ?_)))
  exact hl
theorem cT_emb : Emb cT 6 := fun x => ⟨rfl, ⟨⟨rfl⟩, ⟨rfl⟩, ⟨⟨rfl⟩, fun _ _ => (cR_emb _).2.1⟩, ⟨⟨rfl⟩, fun _ _ => (cSp_emb _).2.1⟩, ⟨⟨rfl⟩, fun _ _ => (cSp_emb _).2.1⟩, ⟨⟨rfl⟩, fun _ _ => (cBf_emb _).2.1⟩, trivial⟩, rfl⟩
theorem srcEls (t : Tbl) : ∀ i, i < 2 → cond (ones (elt [[.int .i64 1, .fn 35 [.rptr (cT t)]], [.int .i64 2, .fn 37 [.rptr (cT t)]]] i)) (subs0 (elt [[.int .i64 1, .fn 35 [.rptr (cT t)]], [.int .i64 2, .fn 37 [.rptr (cT t)]]] i) (elt [[.int .i64 1, .fn 35 [.rptr (cT t)]], [.int .i64 2, .fn 37 [.rptr (cT t)]]] i)) False := fun i hi => by
  have hc : i = 0 ∨ i = 1 := by omega
  rcases hc with rfl | rfl
  · exact ⟨⟨rfl⟩, ⟨(cT_emb t).2.1, trivial⟩, trivial⟩
  · exact ⟨⟨rfl⟩, ⟨(cT_emb t).2.1, trivial⟩, trivial⟩
def SSrcs : Sp := ⟨Tbl, fun _ => True, fun t => [.agg (cT t)], fun t => .row 68 2 2 (elt [[.int .i64 1, .fn 35 [.rptr (cT t)]], [.int .i64 2, .fn 37 [.rptr (cT t)]]])⟩
set_option maxHeartbeats 4000000 in
theorem srcs : SpOK Tryd.prog 25 SSrcs := fun (t : Tbl) _ => by
  have hC := base
  ((refine Fn.ofF hC Tryd.func25 Tryd.ntmps25 rfl rfl rfl ?_); (repeat' first | (with_reducible exact trivial) | (with_reducible rfl) | (refine And.intro ?_ ?_) | (refine Need.mk ?_) | exact True.intro | (first | (refine ⟨_, Told.refl _, ?_, ?_⟩) | (refine ⟨⟨_, _⟩, Told.refl _, ?_, ?_⟩) | (refine ⟨⟨_, _, _⟩, Told.refl _, ?_, ?_⟩) | (refine ⟨⟨_, _, _, _⟩, Told.refl _, ?_, ?_⟩) | (refine ⟨⟨_, _, _, _, _⟩, Told.refl _, ?_, ?_⟩) | (refine ⟨(), Told.refl _, ?_, ?_⟩)) | (with_reducible intro _) | (refine fun (_ : Bool) => ?_)))
  rename_i i hi
  have hi : i < 2 := hi
  have hc : i = 0 ∨ i = 1 := by omega
  rcases hc with rfl | rfl
  · exact srcEls t 0 (by decide)
  · exact srcEls t 1 (by decide)
/-- A code's number, and where it is from. -/
def numT (t : Tbl) (n v : Int) : Int × Int := match (ES true).find t.cids n v with
  | some x => (x, 1)
  | none => match (ES false).find t.nots n v with
    | some x => (x, 2)
    | none => (0, 0)
def SNum : Sp := ⟨Tbl × Int × Int, fun (t, n, v) => t.cids.length < 4611686018427387904 ∧ t.nots.length < 4611686018427387904, fun (t, n, v) => [.agg (cT t), aCode n v], fun (t, n, v) => .st (.tup [.int .i64 (numT t n v).1, .int .i64 (numT t n v).2])⟩
set_option maxHeartbeats 16000000 in
theorem num : SpOK Tryd.prog 12 SNum := fun ⟨t, n, v⟩ ⟨h1, h2⟩ => by
  have hC : COK Tryd.prog (cfg [(25, SSrcs), (35, SSrc1), (37, SSrc2)]) := Ty.ty.cfg ⟨srcs, src1, src2, trivial⟩
  ((refine Fn.ofF hC Tryd.func12 Tryd.ntmps12 rfl rfl rfl ?_); (repeat' first | (with_reducible exact trivial) | (with_reducible rfl) | (refine And.intro ?_ ?_) | (refine Need.mk ?_) | exact True.intro | (first | (refine ⟨_, Told.refl _, ?_, ?_⟩) | (refine ⟨⟨_, _⟩, Told.refl _, ?_, ?_⟩) | (refine ⟨⟨_, _, _⟩, Told.refl _, ?_, ?_⟩) | (refine ⟨⟨_, _, _, _⟩, Told.refl _, ?_, ?_⟩) | (refine ⟨⟨_, _, _, _, _⟩, Told.refl _, ?_, ?_⟩) | (refine ⟨(), Told.refl _, ?_, ?_⟩)) | (with_reducible intro _) | (refine fun (_ : Bool) => ?_)))
  refine AW.loop (I := fun k : Nat => ⟨29, [(3, .ptr 0 0), (11, .own 1), (12, .int .i64 2), (13, .int .i64 k)], [.box 44 [.int .i64 n, .int .i64 v], .row 68 2 2 (elt [[.int .i64 1, .fn 35 [.rptr (cT t)]], [.int .i64 2, .fn 37 [.rptr (cT t)]]])]⟩) (fun k => k ≤ 2 ∧ (0 < k → (ES true).find t.cids n v = none) ∧ (1 < k → (ES false).find t.nots n v = none)) (fun k => 2 - k) 0 ⟨Nat.zero_le _, fun h => by omega, fun h => by omega⟩ ?_ ?_
  · (repeat' first | (with_reducible exact trivial) | (with_reducible rfl) | (refine And.intro ?_ ?_) | (refine Need.mk ?_) | exact True.intro | (first | (refine ⟨_, Told.refl _, ?_, ?_⟩) | (refine ⟨⟨_, _⟩, Told.refl _, ?_, ?_⟩) | (refine ⟨⟨_, _, _⟩, Told.refl _, ?_, ?_⟩) | (refine ⟨⟨_, _, _, _⟩, Told.refl _, ?_, ?_⟩) | (refine ⟨⟨_, _, _, _, _⟩, Told.refl _, ?_, ?_⟩) | (refine ⟨(), Told.refl _, ?_, ?_⟩)) | (with_reducible intro _) | (refine fun (_ : Bool) => ?_))
    all_goals first | rfl | exact srcEls t _ ‹_›
  · intro k ⟨hk, g1, g2⟩
    have hc : k = 0 ∨ k = 1 ∨ k = 2 := by omega
    rcases hc with rfl | rfl | rfl
    · cases hf : (ES true).find t.cids n v with
      | some x =>
        have hn : numT t n v = (x, 1) := by unfold numT; rw [hf]
        ((refine AW.byF ‹_› ?_); (repeat' first | (with_reducible exact trivial) | (with_reducible rfl) | (refine And.intro ?_ ?_) | (refine Need.mk ?_) | exact True.intro | (first | (refine ⟨_, Told.refl _, ?_, ?_⟩) | (refine ⟨⟨_, _⟩, Told.refl _, ?_, ?_⟩) | (refine ⟨⟨_, _, _⟩, Told.refl _, ?_, ?_⟩) | (refine ⟨⟨_, _, _, _⟩, Told.refl _, ?_, ?_⟩) | (refine ⟨⟨_, _, _, _, _⟩, Told.refl _, ?_, ?_⟩) | (refine ⟨(), Told.refl _, ?_, ?_⟩)) | (with_reducible intro _) | (refine fun (_ : Bool) => ?_)))
        all_goals first | omega | exact h1 | decide | skip
        all_goals first | (exact absurd ‹((ES true).find t.cids n v).isSome = false› (by rw [hf]; simp)) | (exact absurd ‹decide (((0 : Nat) : Int) < 2) = false› (by decide)) | skip
        all_goals (rw [hn]; try first | rfl | (rw [hf]; rfl))
      | none =>
        ((refine AW.byF ‹_› ?_); (repeat' first | (with_reducible exact trivial) | (with_reducible rfl) | (refine And.intro ?_ ?_) | (refine Need.mk ?_) | exact True.intro | (first | (refine ⟨_, Told.refl _, ?_, ?_⟩) | (refine ⟨⟨_, _⟩, Told.refl _, ?_, ?_⟩) | (refine ⟨⟨_, _, _⟩, Told.refl _, ?_, ?_⟩) | (refine ⟨⟨_, _, _, _⟩, Told.refl _, ?_, ?_⟩) | (refine ⟨⟨_, _, _, _, _⟩, Told.refl _, ?_, ?_⟩) | (refine ⟨(), Told.refl _, ?_, ?_⟩)) | (with_reducible intro _) | (refine fun (_ : Bool) => ?_)))
        all_goals first | omega | exact h1 | decide | skip
        all_goals first | (exact absurd ‹((ES true).find t.cids n v).isSome = true› (by rw [hf]; decide)) | (exact absurd ‹decide (((0 : Nat) : Int) < 2) = false› (by decide)) | skip
        any_goals (refine Exists.intro (1) (And.intro ?_ (And.intro ?_ ?_)); all_goals (repeat' first | (with_reducible exact trivial) | (with_reducible rfl) | (refine And.intro ?_ ?_) | (refine Need.mk ?_) | exact True.intro | (first | (refine ⟨_, Told.refl _, ?_, ?_⟩) | (refine ⟨⟨_, _⟩, Told.refl _, ?_, ?_⟩) | (refine ⟨⟨_, _, _⟩, Told.refl _, ?_, ?_⟩) | (refine ⟨⟨_, _, _, _⟩, Told.refl _, ?_, ?_⟩) | (refine ⟨⟨_, _, _, _, _⟩, Told.refl _, ?_, ?_⟩) | (refine ⟨(), Told.refl _, ?_, ?_⟩)) | (with_reducible intro _) | (refine fun (_ : Bool) => ?_)))
        all_goals first
          | rfl
          | exact srcEls t _ ‹_›
          | decide
          | exact fun _ => hf
          | exact fun h => absurd h (by decide)
          | omega
    · have g1 := g1 (by decide)
      cases hf : (ES false).find t.nots n v with
      | some x =>
        have hn : numT t n v = (x, 2) := by unfold numT; rw [g1, hf]
        ((refine AW.byF ‹_› ?_); (repeat' first | (with_reducible exact trivial) | (with_reducible rfl) | (refine And.intro ?_ ?_) | (refine Need.mk ?_) | exact True.intro | (first | (refine ⟨_, Told.refl _, ?_, ?_⟩) | (refine ⟨⟨_, _⟩, Told.refl _, ?_, ?_⟩) | (refine ⟨⟨_, _, _⟩, Told.refl _, ?_, ?_⟩) | (refine ⟨⟨_, _, _, _⟩, Told.refl _, ?_, ?_⟩) | (refine ⟨⟨_, _, _, _, _⟩, Told.refl _, ?_, ?_⟩) | (refine ⟨(), Told.refl _, ?_, ?_⟩)) | (with_reducible intro _) | (refine fun (_ : Bool) => ?_)))
        all_goals first | omega | exact h2 | decide | skip
        all_goals first | (exact absurd ‹((ES false).find t.nots n v).isSome = false› (by rw [hf]; simp)) | (exact absurd ‹decide (((1 : Nat) : Int) < 2) = false› (by decide)) | skip
        all_goals (rw [hn]; try first | rfl | (rw [hf]; rfl))
      | none =>
        ((refine AW.byF ‹_› ?_); (repeat' first | (with_reducible exact trivial) | (with_reducible rfl) | (refine And.intro ?_ ?_) | (refine Need.mk ?_) | exact True.intro | (first | (refine ⟨_, Told.refl _, ?_, ?_⟩) | (refine ⟨⟨_, _⟩, Told.refl _, ?_, ?_⟩) | (refine ⟨⟨_, _, _⟩, Told.refl _, ?_, ?_⟩) | (refine ⟨⟨_, _, _, _⟩, Told.refl _, ?_, ?_⟩) | (refine ⟨⟨_, _, _, _, _⟩, Told.refl _, ?_, ?_⟩) | (refine ⟨(), Told.refl _, ?_, ?_⟩)) | (with_reducible intro _) | (refine fun (_ : Bool) => ?_)))
        all_goals first | omega | exact h2 | decide | skip
        all_goals first | (exact absurd ‹((ES false).find t.nots n v).isSome = true› (by rw [hf]; decide)) | (exact absurd ‹decide (((1 : Nat) : Int) < 2) = false› (by decide)) | skip
        any_goals (refine Exists.intro (2) (And.intro ?_ (And.intro ?_ ?_)); all_goals (repeat' first | (with_reducible exact trivial) | (with_reducible rfl) | (refine And.intro ?_ ?_) | (refine Need.mk ?_) | exact True.intro | (first | (refine ⟨_, Told.refl _, ?_, ?_⟩) | (refine ⟨⟨_, _⟩, Told.refl _, ?_, ?_⟩) | (refine ⟨⟨_, _, _⟩, Told.refl _, ?_, ?_⟩) | (refine ⟨⟨_, _, _, _⟩, Told.refl _, ?_, ?_⟩) | (refine ⟨⟨_, _, _, _, _⟩, Told.refl _, ?_, ?_⟩) | (refine ⟨(), Told.refl _, ?_, ?_⟩)) | (with_reducible intro _) | (refine fun (_ : Bool) => ?_)))
        all_goals first
          | rfl
          | exact srcEls t _ ‹_›
          | decide
          | exact fun _ => hf
          | exact fun _ => g1
          | omega
    · have hn : numT t n v = (0, 0) := by unfold numT; rw [g1 (by decide), g2 (by decide)]
      ((refine AW.byF ‹_› ?_); (repeat' first | (with_reducible exact trivial) | (with_reducible rfl) | (refine And.intro ?_ ?_) | (refine Need.mk ?_) | exact True.intro | (first | (refine ⟨_, Told.refl _, ?_, ?_⟩) | (refine ⟨⟨_, _⟩, Told.refl _, ?_, ?_⟩) | (refine ⟨⟨_, _, _⟩, Told.refl _, ?_, ?_⟩) | (refine ⟨⟨_, _, _, _⟩, Told.refl _, ?_, ?_⟩) | (refine ⟨⟨_, _, _, _, _⟩, Told.refl _, ?_, ?_⟩) | (refine ⟨(), Told.refl _, ?_, ?_⟩)) | (with_reducible intro _) | (refine fun (_ : Bool) => ?_)))
      all_goals first | omega | decide | skip
      all_goals first | (exact absurd ‹decide (((2 : Nat) : Int) < 2) = true› (by decide)) | skip
      all_goals (rw [hn])
end Go.Abs.Coll
