/- Tables of three kinds, and what layer 20 makes of them. -/
import Derived.Test.YtjoplgehefncbaaDoorASpanB
import Derived.Test.YtjoplgehefncbaaDoorADestOrder
set_option linter.all false
set_option maxRecDepth 100000
namespace Go.Abs.Coll
open Go.RowKit Go.Proofs Go.Abs.Tab Go.Abs.Dest Go.Abs.Span
structure Rct where
  n : Int
  lo : Int
  hi : Int
instance : Inhabited Rct := ⟨⟨0, 0, 0⟩⟩
def cR (s : Rct) : List AV := [.int .i64 s.n, .int .i64 s.lo, .int .i64 s.hi]
theorem cR_emb : Emb cR 3 := fun x => ⟨rfl, ⟨⟨rfl⟩, ⟨rfl⟩, ⟨rfl⟩, trivial⟩, rfl⟩
abbrev aR (l : List Rct) : AV := aL cR 3 l
structure Tbl where
  name : ByteArray
  wmode : Int
  spaces : List Rct
  cids : List Spn
  nots : List Spn
  bfs : List Bf
def cT (t : Tbl) : List AV := [.str t.name, .int .i64 t.wmode, aR t.spaces, aS t.cids, aS t.nots, aB t.bfs]
def STab : Sp := ⟨Tbl, fun _ => True, fun t => [.agg (cT t)], fun t => .st (.agg (cT t))⟩
def fewT (t : Tbl) : Bool := decide (t.name.size ≤ 200 ∧ t.spaces.length ≤ 60 ∧ t.cids.length ≤ 60 ∧ t.nots.length ≤ 60) && few t.bfs
theorem fewT_iff (t : Tbl) : fewT t = true ↔ (t.name.size ≤ 200 ∧ t.spaces.length ≤ 60 ∧ t.cids.length ≤ 60 ∧ t.nots.length ≤ 60) ∧ t.bfs.length ≤ 60 ∧ ∀ x ∈ t.bfs, x.to.length ≤ 70 := by
  unfold fewT
  rw [Bool.and_eq_true, decide_eq_true_eq, few_iff]
def SFewT : Sp := ⟨Tbl, fun _ => True, fun t => [.agg (cT t)], fun t => .st (.sb (fewT t))⟩
theorem rfewT : SpOK Tryd.prog 5 SFewT := fun (t : Tbl) _ => by
  have hC : COK Tryd.prog (cfg [(12, SFew)]) := Ty.ty.cfg ⟨rfew, trivial⟩
  ((refine Fn.ofF hC Tryd.func5 Tryd.ntmps5 rfl rfl rfl ?_); (repeat' first | (with_reducible exact trivial) | (with_reducible rfl) | (refine And.intro ?_ ?_) | (refine Need.mk ?_) | exact True.intro | (first | (refine ⟨_, Told.refl _, ?_, ?_⟩) | (refine ⟨⟨_, _⟩, Told.refl _, ?_, ?_⟩) | (refine ⟨⟨_, _, _⟩, Told.refl _, ?_, ?_⟩) | (refine ⟨⟨_, _, _, _⟩, Told.refl _, ?_, ?_⟩) | (refine ⟨⟨_, _, _, _, _⟩, Told.refl _, ?_, ?_⟩) | (refine ⟨(), Told.refl _, ?_, ?_⟩)) | (with_reducible intro _) | (refine fun (_ : Bool) => ?_)))
  all_goals unfold fewT
  all_goals ((try dsimp only at *); (try simp only [decide_eq_true_eq, decide_eq_false_iff_not, beq_iff_eq, bne_iff_ne, beq_eq_false_iff_ne, bne_eq_false_iff_eq, ne_eq, Decidable.not_not, ge_iff_le, gt_iff_lt, Bool.not_eq_true', Bool.not_eq_false', Int.not_lt, Int.not_le, Nat.not_lt, Nat.not_le] at *))
  · rw [decide_eq_true (by omega), Bool.true_and]
  all_goals rw [decide_eq_false (by omega), Bool.false_and]
def SUni : Sp := ⟨Tbl × Int, fun (t, c) => t.bfs.length < 4611686018427387904, fun (t, c) => [.agg (cT t), .int .i64 c], fun (t, c) => rO (EB.find t.bfs 2 c)⟩
end Go.Abs.Coll
