/- Layer 11: a text of bytes, cut into codes. -/
import Derived.Test.YtjoplgehefncbaaDoorAHx
set_option linter.all false
set_option maxRecDepth 100000
namespace Go.Abs.Mt
open Go.RowKit Go.Proofs Go.Abs.Tab Go.Abs.Coll Go.Abs.Hx
theorem getR {l : List Rct} {i : Nat} (h : i < l.length) : l.getD i default = l[i] := by simp [List.getD, h]
def SFull1 : Sp := ⟨Rct × Int × Int, fun _ => True, fun (r, n, v) => [.agg (cR r), .rptr [.int .i64 n, .int .i64 v]], fun (r, n, v) => .st (.sb (inR r n v))⟩
theorem full1 : SpOK Tryd.prog 43 SFull1 := fun ⟨r, n, v⟩ _ => by
  have hC : COK Tryd.prog (cfg [(44, SIn)]) := Ty.ty.cfg ⟨rectIn, trivial⟩
  ((refine Fn.ofF hC Tryd.func43 Tryd.ntmps43 rfl rfl rfl ?_); (repeat' first | (with_reducible exact trivial) | (with_reducible rfl) | (refine And.intro ?_ ?_) | (refine Need.mk ?_) | exact True.intro | (first | (refine ⟨_, Told.refl _, ?_, ?_⟩) | (refine ⟨⟨_, _⟩, Told.refl _, ?_, ?_⟩) | (refine ⟨⟨_, _, _⟩, Told.refl _, ?_, ?_⟩) | (refine ⟨⟨_, _, _, _⟩, Told.refl _, ?_, ?_⟩) | (refine ⟨⟨_, _, _, _, _⟩, Told.refl _, ?_, ?_⟩) | (refine ⟨(), Told.refl _, ?_, ?_⟩)) | (with_reducible intro _) | (refine fun (_ : Bool) => ?_)))
def idx (l : List Rct) (n v : Int) : Int := match l.findIdx? (fun r => inR r n v) with
  | some k => k
  | none => -1
def SIdx : Sp := ⟨List Rct × Int × Int, fun (l, n, v) => l.length < 4611686018427387904, fun (l, n, v) => [aR l, .fn 43 [.rptr [.int .i64 n, .int .i64 v]]], fun (l, n, v) => .st (.int .i64 (idx l n v))⟩
set_option maxHeartbeats 4000000 in
theorem indexF : SpOK Tryd.prog 61 SIdx := fun ⟨l, n, v⟩ hl => by
  have hC : COK Tryd.prog (cfg [(43, SFull1)]) := Ty.ty.cfg ⟨full1, trivial⟩
  have hl : l.length < 4611686018427387904 := hl
  ((refine Fn.ofF hC Tryd.func61 Tryd.ntmps61 rfl rfl rfl ?_); (repeat' first | (with_reducible exact trivial) | (with_reducible rfl) | (refine And.intro ?_ ?_) | (refine Need.mk ?_) | exact True.intro | (first | (refine ⟨_, Told.refl _, ?_, ?_⟩) | (refine ⟨⟨_, _⟩, Told.refl _, ?_, ?_⟩) | (refine ⟨⟨_, _, _⟩, Told.refl _, ?_, ?_⟩) | (refine ⟨⟨_, _, _, _⟩, Told.refl _, ?_, ?_⟩) | (refine ⟨⟨_, _, _, _, _⟩, Told.refl _, ?_, ?_⟩) | (refine ⟨(), Told.refl _, ?_, ?_⟩)) | (with_reducible intro _) | (refine fun (_ : Bool) => ?_)))
  refine AW.loop (I := fun k : Nat => ⟨19, [(0, aR l), (1, .fn 43 [.rptr [.int .i64 n, .int .i64 v]]), (6, aR l), (7, .int .i64 l.length), (8, .int .i64 k)], []⟩) (fun k => k ≤ l.length ∧ ∀ j, j < k → inR (l.getD j default) n v = false) (fun k => l.length - k) 0 ⟨Nat.zero_le _, fun j hj => by omega⟩ ?_ ?_
  · (repeat' first | (with_reducible exact trivial) | (with_reducible rfl) | (refine And.intro ?_ ?_) | (refine Need.mk ?_) | exact True.intro | (first | (refine ⟨_, Told.refl _, ?_, ?_⟩) | (refine ⟨⟨_, _⟩, Told.refl _, ?_, ?_⟩) | (refine ⟨⟨_, _, _⟩, Told.refl _, ?_, ?_⟩) | (refine ⟨⟨_, _, _, _⟩, Told.refl _, ?_, ?_⟩) | (refine ⟨⟨_, _, _, _, _⟩, Told.refl _, ?_, ?_⟩) | (refine ⟨(), Told.refl _, ?_, ?_⟩)) | (with_reducible intro _) | (refine fun (_ : Bool) => ?_))
    all_goals first | rfl
  · intro k ⟨hk, hok⟩
    rcases Nat.lt_or_ge k l.length with hlt | hge
    · have hd : decide ((k : Int) < (l.length : Int)) = true := decide_eq_true (by omega)
      have hw := iw (n := (k : Int) + 1) (by omega) (by omega)
      ((refine AW.byF ‹_› ?_); (repeat' first | (with_reducible exact trivial) | (with_reducible rfl) | (refine And.intro ?_ ?_) | (refine Need.mk ?_) | exact True.intro | (first | (refine ⟨_, Told.refl _, ?_, ?_⟩) | (refine ⟨⟨_, _⟩, Told.refl _, ?_, ?_⟩) | (refine ⟨⟨_, _, _⟩, Told.refl _, ?_, ?_⟩) | (refine ⟨⟨_, _, _, _⟩, Told.refl _, ?_, ?_⟩) | (refine ⟨⟨_, _, _, _, _⟩, Told.refl _, ?_, ?_⟩) | (refine ⟨(), Told.refl _, ?_, ?_⟩)) | (with_reducible intro _) | (refine fun (_ : Bool) => ?_)))
      all_goals first | (exact absurd ‹decide ((k : Int) < (l.length : Int)) = false› (by rw [hd]; decide)) | skip
      all_goals first
        | omega
        | (have q := ‹inR (l.getD (k : Int).toNat default) n v = true›
           rw [Int.toNat_natCast] at q
           have hf : l.findIdx? (fun r => inR r n v) = some k := by
             rw [List.findIdx?_eq_some_iff_getElem]
             refine ⟨hlt, by rw [← getR hlt]; exact q, fun j hj => ?_⟩
             have := hok j hj
             rw [getR (by omega)] at this
             simp [this]
           show (k : Int) = idx l n v
           unfold idx
           rw [hf])
        | skip
      have q := ‹inR (l.getD (k : Int).toNat default) n v = false›
      rw [Int.toNat_natCast] at q
      refine Exists.intro (k + 1) (And.intro ?_ (And.intro ?_ ?_))
      · refine ⟨by omega, fun j hj => ?_⟩
        by_cases e : j = k
        · rw [e]; exact q
        · exact hok j (by omega)
      · omega
      · (repeat' first | (with_reducible exact trivial) | (with_reducible rfl) | (refine And.intro ?_ ?_) | (refine Need.mk ?_) | exact True.intro | (first | (refine ⟨_, Told.refl _, ?_, ?_⟩) | (refine ⟨⟨_, _⟩, Told.refl _, ?_, ?_⟩) | (refine ⟨⟨_, _, _⟩, Told.refl _, ?_, ?_⟩) | (refine ⟨⟨_, _, _, _⟩, Told.refl _, ?_, ?_⟩) | (refine ⟨⟨_, _, _, _, _⟩, Told.refl _, ?_, ?_⟩) | (refine ⟨(), Told.refl _, ?_, ?_⟩)) | (with_reducible intro _) | (refine fun (_ : Bool) => ?_))
        all_goals first | rfl | (rw [hw]; omega)
    · obtain rfl : k = l.length := by omega
      have hd : decide ((l.length : Int) < (l.length : Int)) = false := decide_eq_false (by omega)
      have hf : l.findIdx? (fun r => inR r n v) = none := by
        rw [List.findIdx?_eq_none_iff]
        intro x hx
        obtain ⟨j, hj, rfl⟩ := List.getElem_of_mem hx
        rw [← getR hj]
        exact hok j hj
      ((refine AW.byF ‹_› ?_); (repeat' first | (with_reducible exact trivial) | (with_reducible rfl) | (refine And.intro ?_ ?_) | (refine Need.mk ?_) | exact True.intro | (first | (refine ⟨_, Told.refl _, ?_, ?_⟩) | (refine ⟨⟨_, _⟩, Told.refl _, ?_, ?_⟩) | (refine ⟨⟨_, _, _⟩, Told.refl _, ?_, ?_⟩) | (refine ⟨⟨_, _, _, _⟩, Told.refl _, ?_, ?_⟩) | (refine ⟨⟨_, _, _, _, _⟩, Told.refl _, ?_, ?_⟩) | (refine ⟨(), Told.refl _, ?_, ?_⟩)) | (with_reducible intro _) | (refine fun (_ : Bool) => ?_)))
      all_goals first | (exact absurd ‹decide ((l.length : Int) < (l.length : Int)) = true› (by rw [hd]; decide)) | skip
      all_goals
        show (-1 : Int) = idx l n v
        unfold idx
        rw [hf]
def anyR (l : List Rct) (n v : Int) : Bool := l.any fun r => inR r n v
theorem idx_any (l : List Rct) (n v : Int) : decide (idx l n v ≥ 0) = anyR l n v := by
  unfold idx anyR
  cases hf : l.findIdx? (fun r => inR r n v) with
  | none =>
    rw [List.findIdx?_eq_none_iff] at hf
    symm
    simp only
    rw [decide_eq_false (by omega), List.any_eq_false]
    intro x hx
    rw [hf x hx]
    decide
  | some k =>
    rw [List.findIdx?_eq_some_iff_getElem] at hf
    obtain ⟨h1, h2, _⟩ := hf
    simp only
    rw [decide_eq_true (by omega)]
    symm
    rw [List.any_eq_true]
    exact ⟨_, List.getElem_mem h1, h2⟩
def SCont : Sp := ⟨List Rct × Int × Int, fun (l, n, v) => l.length < 4611686018427387904, fun (l, n, v) => [aR l, .fn 43 [.rptr [.int .i64 n, .int .i64 v]]], fun (l, n, v) => .st (.sb (anyR l n v))⟩
theorem containsF : SpOK Tryd.prog 42 SCont := fun ⟨l, n, v⟩ hl => by
  have hC : COK Tryd.prog (cfg [(61, SIdx)]) := Ty.ty.cfg ⟨indexF, trivial⟩
  have hi := idx_any l n v
  ((refine Fn.ofF hC Tryd.func42 Tryd.ntmps42 rfl rfl rfl ?_); (repeat' first | (with_reducible exact trivial) | (with_reducible rfl) | (refine And.intro ?_ ?_) | (refine Need.mk ?_) | exact True.intro | (first | (refine ⟨_, Told.refl _, ?_, ?_⟩) | (refine ⟨⟨_, _⟩, Told.refl _, ?_, ?_⟩) | (refine ⟨⟨_, _, _⟩, Told.refl _, ?_, ?_⟩) | (refine ⟨⟨_, _, _, _⟩, Told.refl _, ?_, ?_⟩) | (refine ⟨⟨_, _, _, _, _⟩, Told.refl _, ?_, ?_⟩) | (refine ⟨(), Told.refl _, ?_, ?_⟩)) | (with_reducible intro _) | (refine fun (_ : Bool) => ?_)))
  all_goals first
    | exact hl
    | exact hi
   
def fullB (l : List Rct) (b : List Int) : Bool := valOk b && anyR l (valN b) (valV b)
def SFull : Sp := ⟨List Rct × List Int, fun (l, b) => l.length < 4611686018427387904 ∧ b.length < 4611686018427387904 ∧ B8 b, fun (l, b) => [aR l, a8 b], fun (l, b) => .st (.sb (fullB l b))⟩
theorem full : SpOK Tryd.prog 24 SFull := fun ⟨l, b⟩ ⟨h1, h2, h3⟩ => by
  have hC : COK Tryd.prog (cfg [(16, SVal), (42, SCont)]) := Ty.ty.cfg ⟨hexVal, containsF, trivial⟩
  have hf : fullB l b = (valOk b && anyR l (valN b) (valV b)) := rfl
  ((refine Fn.ofF hC Tryd.func24 Tryd.ntmps24 rfl rfl rfl ?_); (repeat' first | (with_reducible exact trivial) | (with_reducible rfl) | (refine And.intro ?_ ?_) | (refine Need.mk ?_) | exact True.intro | (first | (refine ⟨_, Told.refl _, ?_, ?_⟩) | (refine ⟨⟨_, _⟩, Told.refl _, ?_, ?_⟩) | (refine ⟨⟨_, _, _⟩, Told.refl _, ?_, ?_⟩) | (refine ⟨⟨_, _, _, _⟩, Told.refl _, ?_, ?_⟩) | (refine ⟨⟨_, _, _, _, _⟩, Told.refl _, ?_, ?_⟩) | (refine ⟨(), Told.refl _, ?_, ?_⟩)) | (with_reducible intro _) | (refine fun (_ : Bool) => ?_)))
  all_goals first
    | exact h1
    | exact h2
    | exact h3
    | (rw [hf]; simp_all; done)
   
structure Ft where
  b : Int
  n : Int
instance : Inhabited Ft := ⟨⟨0, 0⟩⟩
def cF (x : Ft) : List AV := [.int .i64 x.b, .int .i64 x.n]
theorem cF_emb : Emb cF 2 := fun x => ⟨rfl, ⟨⟨rfl⟩, ⟨rfl⟩, trivial⟩, rfl⟩
abbrev aF (l : List Ft) : AV := aL cF 2 l
def bet (x y : Ft) : Int := orI [cmpI y.b x.b, cmpI x.n y.n]
def SBet : Sp := ⟨Ft × Ft, fun _ => True, fun (x, y) => [.agg (cF x), .agg (cF y)], fun (x, y) => .st (.int .i64 (bet x y))⟩
set_option maxHeartbeats 4000000 in
theorem better : SpOK Tryd.prog 47 SBet := fun ⟨x, y⟩ _ => by
  have hC : COK Tryd.prog (cfg [(58, SCompare), (57, SOr)]) := Ty.ty.cfg ⟨cmpCompare, cmpOr, trivial⟩
  ((refine Fn.ofF hC Tryd.func47 Tryd.ntmps47 rfl rfl rfl ?_); (repeat' first | (with_reducible exact trivial) | (with_reducible rfl) | (refine And.intro ?_ ?_) | (refine Need.mk ?_) | exact True.intro | (first | (refine ⟨_, Told.refl _, ?_, ?_⟩) | (refine ⟨⟨_, _⟩, Told.refl _, ?_, ?_⟩) | (refine ⟨⟨_, _, _⟩, Told.refl _, ?_, ?_⟩) | (refine ⟨⟨_, _, _, _⟩, Told.refl _, ?_, ?_⟩) | (refine ⟨⟨_, _, _, _, _⟩, Told.refl _, ?_, ?_⟩) | (refine ⟨(), Told.refl _, ?_, ?_⟩)) | (with_reducible intro _) | (refine fun (_ : Bool) => ?_)))
  refine Exists.intro [cmpI y.b x.b, cmpI x.n y.n] (And.intro (Told.of (lit_sub ci_emb _)) (And.intro ?_ ?_))
  · show 2 < 9223372036854775807
    omega
  · (repeat' first | (with_reducible exact trivial) | (with_reducible rfl) | (refine And.intro ?_ ?_) | (refine Need.mk ?_) | exact True.intro | (first | (refine ⟨_, Told.refl _, ?_, ?_⟩) | (refine ⟨⟨_, _⟩, Told.refl _, ?_, ?_⟩) | (refine ⟨⟨_, _, _⟩, Told.refl _, ?_, ?_⟩) | (refine ⟨⟨_, _, _, _⟩, Told.refl _, ?_, ?_⟩) | (refine ⟨⟨_, _, _, _, _⟩, Told.refl _, ?_, ?_⟩) | (refine ⟨(), Told.refl _, ?_, ?_⟩)) | (with_reducible intro _) | (refine fun (_ : Bool) => ?_))
    all_goals rfl
/-- The first one that none is ahead of. -/
def minTo (l : List Ft) : Nat → Ft
  | 0 => l.getD 0 default
  | k + 1 => if bet (l.getD (k + 1) default) (minTo l k) < 0 then l.getD (k + 1) default else minTo l k
def minF (l : List Ft) : Ft := minTo l (l.length - 1)
def SMinF : Sp := ⟨List Ft, fun l => 1 ≤ l.length ∧ l.length < 4611686018427387904, fun l => [aF l, .fn 47 []], fun l => .st (.agg (cF (minF l)))⟩
set_option maxHeartbeats 4000000 in
theorem minFunc : SpOK Tryd.prog 46 SMinF := fun (l : List Ft) ⟨h1, hl⟩ => by
  have hC : COK Tryd.prog (cfg [(47, SBet)]) := Ty.ty.cfg ⟨better, trivial⟩
  have hd0 : decide ((l.length : Int) < 1) = false := decide_eq_false (by omega)
  ((refine Fn.ofF hC Tryd.func46 Tryd.ntmps46 rfl rfl rfl ?_); (repeat' first | (with_reducible exact trivial) | (with_reducible rfl) | (refine And.intro ?_ ?_) | (refine Need.mk ?_) | exact True.intro | (first | (refine ⟨_, Told.refl _, ?_, ?_⟩) | (refine ⟨⟨_, _⟩, Told.refl _, ?_, ?_⟩) | (refine ⟨⟨_, _, _⟩, Told.refl _, ?_, ?_⟩) | (refine ⟨⟨_, _, _, _⟩, Told.refl _, ?_, ?_⟩) | (refine ⟨⟨_, _, _, _, _⟩, Told.refl _, ?_, ?_⟩) | (refine ⟨(), Told.refl _, ?_, ?_⟩)) | (with_reducible intro _) | (refine fun (_ : Bool) => ?_)))
  all_goals first | (exact absurd ‹decide ((l.length : Int) < 1) = true› (by rw [hd0]; decide)) | skip
  · omega
  · omega
  refine AW.loop (I := fun k : Nat => ⟨33, [(0, aF l), (1, .fn 47 []), (4, .ptr 0 0), (5, .ptr 1 0), (6, .int .i64 (k + 1))], [.box 83 [.int .i64 0, .int .i64 0], .box 83 (cF (minTo l k))]⟩) (fun k => k + 1 ≤ l.length) (fun k => l.length - k) 0 h1 ?_ ?_
  · (repeat' first | (with_reducible exact trivial) | (with_reducible rfl) | (refine And.intro ?_ ?_) | (refine Need.mk ?_) | exact True.intro | (first | (refine ⟨_, Told.refl _, ?_, ?_⟩) | (refine ⟨⟨_, _⟩, Told.refl _, ?_, ?_⟩) | (refine ⟨⟨_, _, _⟩, Told.refl _, ?_, ?_⟩) | (refine ⟨⟨_, _, _, _⟩, Told.refl _, ?_, ?_⟩) | (refine ⟨⟨_, _, _, _, _⟩, Told.refl _, ?_, ?_⟩) | (refine ⟨(), Told.refl _, ?_, ?_⟩)) | (with_reducible intro _) | (refine fun (_ : Bool) => ?_))
    all_goals first | rfl
  · intro k hk
    rcases Nat.lt_or_ge (k + 1) l.length with hlt | hge
    · have hd : decide ((k : Int) + 1 < (l.length : Int)) = true := decide_eq_true (by omega)
      have hw := iw (n := (k : Int) + 1 + 1) (by omega) (by omega)
      have et : ((k : Int) + 1).toNat = k + 1 := by omega
      ((refine AW.byF ‹_› ?_); (repeat' first | (with_reducible exact trivial) | (with_reducible rfl) | (refine And.intro ?_ ?_) | (refine Need.mk ?_) | exact True.intro | (first | (refine ⟨_, Told.refl _, ?_, ?_⟩) | (refine ⟨⟨_, _⟩, Told.refl _, ?_, ?_⟩) | (refine ⟨⟨_, _, _⟩, Told.refl _, ?_, ?_⟩) | (refine ⟨⟨_, _, _, _⟩, Told.refl _, ?_, ?_⟩) | (refine ⟨⟨_, _, _, _, _⟩, Told.refl _, ?_, ?_⟩) | (refine ⟨(), Told.refl _, ?_, ?_⟩)) | (with_reducible intro _) | (refine fun (_ : Bool) => ?_)))
      all_goals first | (exact absurd ‹decide ((k : Int) + 1 < (l.length : Int)) = false› (by rw [hd]; decide)) | skip
      all_goals try simp only [et] at *
      any_goals (refine Exists.intro (k + 1) (And.intro ?_ (And.intro ?_ ?_)); all_goals (repeat' first | (with_reducible exact trivial) | (with_reducible rfl) | (refine And.intro ?_ ?_) | (refine Need.mk ?_) | exact True.intro | (first | (refine ⟨_, Told.refl _, ?_, ?_⟩) | (refine ⟨⟨_, _⟩, Told.refl _, ?_, ?_⟩) | (refine ⟨⟨_, _, _⟩, Told.refl _, ?_, ?_⟩) | (refine ⟨⟨_, _, _, _⟩, Told.refl _, ?_, ?_⟩) | (refine ⟨⟨_, _, _, _, _⟩, Told.refl _, ?_, ?_⟩) | (refine ⟨(), Told.refl _, ?_, ?_⟩)) | (with_reducible intro _) | (refine fun (_ : Bool) => ?_)))
      all_goals first
        | omega
        | (rw [hw]; rfl)
        | (have q := of_decide_eq_true ‹decide (bet (l.getD (k + 1) default) (minTo l k) < 0) = true›
           show _ = (if bet (l.getD (k + 1) default) (minTo l k) < 0 then l.getD (k + 1) default else minTo l k).b
           rw [if_pos q])
        | (have q := of_decide_eq_true ‹decide (bet (l.getD (k + 1) default) (minTo l k) < 0) = true›
           show _ = (if bet (l.getD (k + 1) default) (minTo l k) < 0 then l.getD (k + 1) default else minTo l k).n
           rw [if_pos q])
        | (have q := of_decide_eq_false ‹decide (bet (l.getD (k + 1) default) (minTo l k) < 0) = false›
           show _ = (if bet (l.getD (k + 1) default) (minTo l k) < 0 then l.getD (k + 1) default else minTo l k).b
           rw [if_neg q])
        | (have q := of_decide_eq_false ‹decide (bet (l.getD (k + 1) default) (minTo l k) < 0) = false›
           show _ = (if bet (l.getD (k + 1) default) (minTo l k) < 0 then l.getD (k + 1) default else minTo l k).n
           rw [if_neg q])
       
    · obtain rfl : k = l.length - 1 := by omega
      have hd : decide (((l.length - 1 : Nat) : Int) + 1 < (l.length : Int)) = false := decide_eq_false (by omega)
      ((refine AW.byF ‹_› ?_); (repeat' first | (with_reducible exact trivial) | (with_reducible rfl) | (refine And.intro ?_ ?_) | (refine Need.mk ?_) | exact True.intro | (first | (refine ⟨_, Told.refl _, ?_, ?_⟩) | (refine ⟨⟨_, _⟩, Told.refl _, ?_, ?_⟩) | (refine ⟨⟨_, _, _⟩, Told.refl _, ?_, ?_⟩) | (refine ⟨⟨_, _, _, _⟩, Told.refl _, ?_, ?_⟩) | (refine ⟨⟨_, _, _, _, _⟩, Told.refl _, ?_, ?_⟩) | (refine ⟨(), Told.refl _, ?_, ?_⟩)) | (with_reducible intro _) | (refine fun (_ : Bool) => ?_)))
      all_goals first | (exact absurd ‹decide (((l.length - 1 : Nat) : Int) + 1 < (l.length : Int)) = true› (by rw [hd]; decide)) | skip
      all_goals first | rfl
def best (l : List Ft) : Ft := if l.length = 0 then ⟨0, 1⟩ else minF l
def SBest : Sp := ⟨List Ft, fun l => l.length < 4611686018427387904, fun l => [aF l], fun l => .st (.agg (cF (best l)))⟩
set_option maxHeartbeats 4000000 in
theorem bestF : SpOK Tryd.prog 27 SBest := fun (l : List Ft) hl => by
  have hC : COK Tryd.prog (cfg [(46, SMinF)]) := Ty.ty.cfg ⟨minFunc, trivial⟩
  have hl : l.length < 4611686018427387904 := hl
  ((refine Fn.ofF hC Tryd.func27 Tryd.ntmps27 rfl rfl rfl ?_); (repeat' first | (with_reducible exact trivial) | (with_reducible rfl) | (refine And.intro ?_ ?_) | (refine Need.mk ?_) | exact True.intro | (first | (refine ⟨_, Told.refl _, ?_, ?_⟩) | (refine ⟨⟨_, _⟩, Told.refl _, ?_, ?_⟩) | (refine ⟨⟨_, _, _⟩, Told.refl _, ?_, ?_⟩) | (refine ⟨⟨_, _, _, _⟩, Told.refl _, ?_, ?_⟩) | (refine ⟨⟨_, _, _, _, _⟩, Told.refl _, ?_, ?_⟩) | (refine ⟨(), Told.refl _, ?_, ?_⟩)) | (with_reducible intro _) | (refine fun (_ : Bool) => ?_)))
  all_goals
    first
      | (have q : l.length = 0 := by
           have := ‹((l.length : Int) == 0) = true›
           rw [beq_iff_eq] at this
           omega
         have e : best l = ⟨0, 1⟩ := if_pos q
         rw [e]
         done)
      | (have q : l.length ≠ 0 := by
           have := ‹((l.length : Int) == 0) = false›
           rw [beq_eq_false_iff_ne] at this
           omega
         have e : best l = minF l := if_neg q
         first
           | (rw [e]; done)
           | omega
           | exact ⟨by omega, hl⟩)
     
def fitsL (l : List Rct) (b : List Int) : List Ft := (l.filter okR).map fun r => ⟨fits r b, r.n⟩
theorem fitsL_next {l : List Rct} {b : List Int} {k : Nat} (hk : k < l.length) : fitsL (l.take (k + 1)) b = if okR (l.getD k default) = true then fitsL (l.take k) b ++ [⟨fits (l.getD k default) b, (l.getD k default).n⟩] else fitsL (l.take k) b := by
  unfold fitsL
  rw [List.take_succ_eq_append_getElem hk, List.filter_append, getR hk, List.map_append]
  cases h : okR l[k]
  · simp [List.filter_cons, h]
  · simp [List.filter_cons, h]
theorem fitsL_len (l : List Rct) (b : List Int) : (fitsL l b).length ≤ l.length := by
  unfold fitsL
  rw [List.length_map]
  exact List.length_filter_le _ _
/-- The shortest code ahead, if there is one. -/
def code (l : List Rct) (b : List Int) : Option Nat := ((List.range (min 4 b.length)).find? fun i => fullB l (b.take (i + 1))).map (· + 1)
def minI (x y : Int) : Int := if y < x then y else x
def nextN (l : List Rct) (b : List Int) : Int := match code l b with
  | some n => n
  | none => minI (best (fitsL l b)).n b.length
def SNext : Sp := ⟨List Rct × List Int, fun (l, b) => l.length < 1000000000 ∧ b.length < 1000000000 ∧ B8 b, fun (l, b) => [aR l, a8 b], fun (l, b) => .st (.tup [.int .i64 (nextN l b), .sb (code l b).isSome])⟩
theorem B8.take {b : List Int} (h : B8 b) (n : Nat) : B8 (b.take n) := fun x hx => h x (List.mem_of_mem_take hx)
theorem B8.drop {b : List Int} (h : B8 b) (n : Nat) : B8 (b.drop n) := fun x hx => h x (List.mem_of_mem_drop hx)
theorem told_take (l : List Rct) (b : List Int) {n m : Nat} {el : Nat → List AV} (hn : n ≤ b.length) (hm : m = n) (hel : ∀ i, el i = els c8 b i) : subs0 [aR l, a8 (b.take n)] [aR l, .sl 1 m el] := by
  refine ⟨⟨⟨rfl⟩, els_of cR_emb (n := 0) (fun _ _ => rfl)⟩, ⟨⟨by rw [List.length_take]; omega⟩, els_of c8_emb (n := 0) (fun i hi => ?_)⟩, trivial⟩
  rw [List.length_take] at hi
  rw [hel]
  show c8 (b.getD i default) = c8 ((b.take n).getD i default)
  simp only [List.getD, List.getElem?_take]
  rw [if_pos (by omega)]
theorem code_some {l : List Rct} {b : List Int} {k : Nat} (hk : k < min 4 b.length) (h : ∀ j, j < k → fullB l (b.take (j + 1)) = false) (hh : fullB l (b.take (k + 1)) = true) : code l b = some (k + 1) := by
  unfold code
  have : (List.range (min 4 b.length)).find? (fun i => fullB l (b.take (i + 1))) = some k := by
    rw [List.find?_range_eq_some]
    exact ⟨hh, List.mem_range.2 hk, fun j hj => by rw [h j hj]; rfl⟩
  rw [this]
  rfl
theorem code_none {l : List Rct} {b : List Int} (h : ∀ j, j < min 4 b.length → fullB l (b.take (j + 1)) = false) : code l b = none := by
  unfold code
  have : (List.range (min 4 b.length)).find? (fun i => fullB l (b.take (i + 1))) = none := by
    rw [List.find?_eq_none]
    intro j hj
    rw [h j (List.mem_range.1 hj)]
    decide
  rw [this]
  rfl
set_option maxHeartbeats 8000000 in
theorem next : SpOK Tryd.prog 15 SNext := fun ⟨l, b⟩ ⟨hl, hb, h8⟩ => by
  have hC : COK Tryd.prog (cfg [(24, SFull), (25, SRS), (26, SFits), (27, SBest)]) := Ty.ty.cfg ⟨full, rectSane, rectFits, bestF, trivial⟩
  have hmin : (if (b.length : Int) < 4 then (b.length : Int) else 4) = ((min 4 b.length : Nat) : Int) := by split <;> omega
  obtain ⟨M, hM⟩ : ∃ M, M = min 4 b.length := ⟨_, rfl⟩
  rw [← hM] at hmin
  have hMb : M ≤ 4 ∧ M ≤ b.length := by omega
  ((refine Fn.ofF hC Tryd.func15 Tryd.ntmps15 rfl rfl rfl ?_); (repeat' first | (with_reducible exact trivial) | (with_reducible rfl) | (refine And.intro ?_ ?_) | (refine Need.mk ?_) | exact True.intro | (first | (refine ⟨_, Told.refl _, ?_, ?_⟩) | (refine ⟨⟨_, _⟩, Told.refl _, ?_, ?_⟩) | (refine ⟨⟨_, _, _⟩, Told.refl _, ?_, ?_⟩) | (refine ⟨⟨_, _, _, _⟩, Told.refl _, ?_, ?_⟩) | (refine ⟨⟨_, _, _, _, _⟩, Told.refl _, ?_, ?_⟩) | (refine ⟨(), Told.refl _, ?_, ?_⟩)) | (with_reducible intro _) | (refine fun (_ : Bool) => ?_)))
  refine AW.loop (I := fun k : Nat => ⟨47, [(0, aR l), (1, a8 b), (6, .int .i64 (k + 1))], []⟩) (fun k => k ≤ M ∧ ∀ j, j < k → fullB l (b.take (j + 1)) = false) (fun k => M - k) 0 ⟨Nat.zero_le _, fun j hj => by omega⟩ ?_ ?_
  · (repeat' first | (with_reducible exact trivial) | (with_reducible rfl) | (refine And.intro ?_ ?_) | (refine Need.mk ?_) | exact True.intro | (first | (refine ⟨_, Told.refl _, ?_, ?_⟩) | (refine ⟨⟨_, _⟩, Told.refl _, ?_, ?_⟩) | (refine ⟨⟨_, _, _⟩, Told.refl _, ?_, ?_⟩) | (refine ⟨⟨_, _, _, _⟩, Told.refl _, ?_, ?_⟩) | (refine ⟨⟨_, _, _, _, _⟩, Told.refl _, ?_, ?_⟩) | (refine ⟨(), Told.refl _, ?_, ?_⟩)) | (with_reducible intro _) | (refine fun (_ : Bool) => ?_))
    all_goals first | rfl
  · intro k ⟨hk, hok⟩
    rcases Nat.lt_or_ge k M with hlt | hge
    · have hd : decide ((k : Int) + 1 ≤ (if (b.length : Int) < 4 then (b.length : Int) else 4)) = true := by rw [hmin]; exact decide_eq_true (by omega)
      have hw := iw (n := (k : Int) + 1 + 1) (by omega) (by omega)
      ((refine AW.byF ‹_› ?_); (repeat' first | (with_reducible exact trivial) | (with_reducible rfl) | (refine And.intro ?_ ?_) | (refine Need.mk ?_) | exact True.intro | (first | (refine ⟨_, Told.refl _, ?_, ?_⟩) | (refine ⟨⟨_, _⟩, Told.refl _, ?_, ?_⟩) | (refine ⟨⟨_, _, _⟩, Told.refl _, ?_, ?_⟩) | (refine ⟨⟨_, _, _, _⟩, Told.refl _, ?_, ?_⟩) | (refine ⟨⟨_, _, _, _, _⟩, Told.refl _, ?_, ?_⟩) | (refine ⟨(), Told.refl _, ?_, ?_⟩)) | (with_reducible intro _) | (refine fun (_ : Bool) => ?_)))
      all_goals first | (exact absurd ‹decide ((k : Int) + 1 ≤ (if (b.length : Int) < 4 then (b.length : Int) else 4)) = false› (by rw [hd]; decide)) | skip
      all_goals first | omega | skip
      refine Exists.intro (l, b.take (k + 1)) (And.intro (Told.of (told_take l b (by omega) (by omega) (fun i => by rw [show (0 : Int).toNat + i = i from Nat.zero_add i]))) (And.intro ?_ ?_))
      · exact ⟨by omega, by rw [List.length_take]; omega, B8.take h8 _⟩
      (repeat' first | (with_reducible exact trivial) | (with_reducible rfl) | (refine And.intro ?_ ?_) | (refine Need.mk ?_) | exact True.intro | (first | (refine ⟨_, Told.refl _, ?_, ?_⟩) | (refine ⟨⟨_, _⟩, Told.refl _, ?_, ?_⟩) | (refine ⟨⟨_, _, _⟩, Told.refl _, ?_, ?_⟩) | (refine ⟨⟨_, _, _, _⟩, Told.refl _, ?_, ?_⟩) | (refine ⟨⟨_, _, _, _, _⟩, Told.refl _, ?_, ?_⟩) | (refine ⟨(), Told.refl _, ?_, ?_⟩)) | (with_reducible intro _) | (refine fun (_ : Bool) => ?_))
      all_goals
        first
          | (have hc := code_some (l := l) (by omega) hok ‹fullB l (b.take (k + 1)) = true›
             first
               | (unfold nextN; rw [hc]; rfl)
               | (rw [hc]; rfl))
          | skip
      have q := ‹fullB l (b.take (k + 1)) = false›
      refine Exists.intro (k + 1) (And.intro ?_ (And.intro ?_ ?_))
      · refine ⟨by omega, fun j hj => ?_⟩
        by_cases e : j = k
        · rw [e]; exact q
        · exact hok j (by omega)
      · omega
      · (repeat' first | (with_reducible exact trivial) | (with_reducible rfl) | (refine And.intro ?_ ?_) | (refine Need.mk ?_) | exact True.intro | (first | (refine ⟨_, Told.refl _, ?_, ?_⟩) | (refine ⟨⟨_, _⟩, Told.refl _, ?_, ?_⟩) | (refine ⟨⟨_, _, _⟩, Told.refl _, ?_, ?_⟩) | (refine ⟨⟨_, _, _, _⟩, Told.refl _, ?_, ?_⟩) | (refine ⟨⟨_, _, _, _, _⟩, Told.refl _, ?_, ?_⟩) | (refine ⟨(), Told.refl _, ?_, ?_⟩)) | (with_reducible intro _) | (refine fun (_ : Bool) => ?_))
        all_goals first | rfl | (rw [hw]; rfl)
    · obtain rfl : k = M := by omega
      have hd : decide ((k : Int) + 1 ≤ (if (b.length : Int) < 4 then (b.length : Int) else 4)) = false := by rw [hmin]; exact decide_eq_false (by omega)
      have hcn := code_none (l := l) (b := b) (by rw [← hM]; exact hok)
      have hfl := fitsL_len l b
      have hn : nextN l b = minI (best (fitsL l b)).n b.length := by unfold nextN; rw [hcn]
      ((refine AW.byF ‹_› ?_); (repeat' first | (with_reducible exact trivial) | (with_reducible rfl) | (refine And.intro ?_ ?_) | (refine Need.mk ?_) | exact True.intro | (first | (refine ⟨_, Told.refl _, ?_, ?_⟩) | (refine ⟨⟨_, _⟩, Told.refl _, ?_, ?_⟩) | (refine ⟨⟨_, _, _⟩, Told.refl _, ?_, ?_⟩) | (refine ⟨⟨_, _, _, _⟩, Told.refl _, ?_, ?_⟩) | (refine ⟨⟨_, _, _, _, _⟩, Told.refl _, ?_, ?_⟩) | (refine ⟨(), Told.refl _, ?_, ?_⟩)) | (with_reducible intro _) | (refine fun (_ : Bool) => ?_)))
      all_goals first | (exact absurd ‹decide ((k : Int) + 1 ≤ (if (b.length : Int) < 4 then (b.length : Int) else 4)) = true› (by rw [hd]; decide)) | skip
      refine AW.loop (I := fun i : Nat => ⟨47, [(0, aR l), (1, a8 b), (7, .own 0), (23, aR l), (24, .int .i64 l.length), (25, .int .i64 i)], [.row 83 2 (fitsL (l.take i) b).length (els cF (fitsL (l.take i) b))]⟩) (fun i => i ≤ l.length) (fun i => l.length - i) 0 (Nat.zero_le _) ?_ ?_
      · (repeat' first | (with_reducible exact trivial) | (with_reducible rfl) | (refine And.intro ?_ ?_) | (refine Need.mk ?_) | exact True.intro | (first | (refine ⟨_, Told.refl _, ?_, ?_⟩) | (refine ⟨⟨_, _⟩, Told.refl _, ?_, ?_⟩) | (refine ⟨⟨_, _, _⟩, Told.refl _, ?_, ?_⟩) | (refine ⟨⟨_, _, _, _⟩, Told.refl _, ?_, ?_⟩) | (refine ⟨⟨_, _, _, _, _⟩, Told.refl _, ?_, ?_⟩) | (refine ⟨(), Told.refl _, ?_, ?_⟩)) | (with_reducible intro _) | (refine fun (_ : Bool) => ?_))
        all_goals first | rfl
      · intro i hi
        rcases Nat.lt_or_ge i l.length with hlt | hge
        · have hd : decide ((i : Int) < (l.length : Int)) = true := decide_eq_true (by omega)
          have hw := iw (n := (i : Int) + 1) (by omega) (by omega)
          have hnx := fitsL_next (b := b) hlt
          have hl2 := fitsL_len (l.take i) b
          rw [List.length_take] at hl2
          ((refine AW.byF ‹_› ?_); (repeat' first | (with_reducible exact trivial) | (with_reducible rfl) | (refine And.intro ?_ ?_) | (refine Need.mk ?_) | exact True.intro | (first | (refine ⟨_, Told.refl _, ?_, ?_⟩) | (refine ⟨⟨_, _⟩, Told.refl _, ?_, ?_⟩) | (refine ⟨⟨_, _, _⟩, Told.refl _, ?_, ?_⟩) | (refine ⟨⟨_, _, _, _⟩, Told.refl _, ?_, ?_⟩) | (refine ⟨⟨_, _, _, _, _⟩, Told.refl _, ?_, ?_⟩) | (refine ⟨(), Told.refl _, ?_, ?_⟩)) | (with_reducible intro _) | (refine fun (_ : Bool) => ?_)))
          all_goals first | (exact absurd ‹decide ((i : Int) < (l.length : Int)) = false› (by rw [hd]; decide)) | skip
          any_goals (refine Exists.intro (i + 1) (And.intro ?_ (And.intro ?_ ?_)); all_goals (repeat' first | (with_reducible exact trivial) | (with_reducible rfl) | (refine And.intro ?_ ?_) | (refine Need.mk ?_) | exact True.intro | (first | (refine ⟨_, Told.refl _, ?_, ?_⟩) | (refine ⟨⟨_, _⟩, Told.refl _, ?_, ?_⟩) | (refine ⟨⟨_, _, _⟩, Told.refl _, ?_, ?_⟩) | (refine ⟨⟨_, _, _, _⟩, Told.refl _, ?_, ?_⟩) | (refine ⟨⟨_, _, _, _, _⟩, Told.refl _, ?_, ?_⟩) | (refine ⟨(), Told.refl _, ?_, ?_⟩)) | (with_reducible intro _) | (refine fun (_ : Bool) => ?_)))
          all_goals try simp only [Int.toNat_natCast] at *
          all_goals first
            | omega
            | (show b.length < _; omega)
            | (show ((fitsL (l.take i) b).length + 1) * 16 ≤ _; omega)
            | (rw [hw]; rfl)
            | (have q := ‹okR (l.getD i default) = true›
               rw [if_pos q] at hnx
               first
                 | (rw [hnx, List.length_append]; rfl)
                 | (rename_i z hz
                    rw [hnx] at hz ⊢
                    exact els_of cF_emb (n := 0) (cat_snoc rfl) z hz))
            | (have q : ¬ okR (l.getD i default) = true := by rw [‹okR (l.getD i default) = false›]; decide
               rw [if_neg q] at hnx
               rw [hnx])
        · obtain rfl : i = l.length := by omega
          have hd : decide ((l.length : Int) < (l.length : Int)) = false := decide_eq_false (by omega)
          rw [List.take_length]
          ((refine AW.byF ‹_› ?_); (repeat' first | (with_reducible exact trivial) | (with_reducible rfl) | (refine And.intro ?_ ?_) | (refine Need.mk ?_) | exact True.intro | (first | (refine ⟨_, Told.refl _, ?_, ?_⟩) | (refine ⟨⟨_, _⟩, Told.refl _, ?_, ?_⟩) | (refine ⟨⟨_, _, _⟩, Told.refl _, ?_, ?_⟩) | (refine ⟨⟨_, _, _, _⟩, Told.refl _, ?_, ?_⟩) | (refine ⟨⟨_, _, _, _, _⟩, Told.refl _, ?_, ?_⟩) | (refine ⟨(), Told.refl _, ?_, ?_⟩)) | (with_reducible intro _) | (refine fun (_ : Bool) => ?_)))
          all_goals first | (exact absurd ‹decide ((l.length : Int) < (l.length : Int)) = true› (by rw [hd]; decide)) | skip
          all_goals first
            | (show (fitsL l b).length < _; omega)
            | exact hn.symm
            | (rw [hcn]; rfl)
theorem minTo_mem {l : List Ft} (h : 1 ≤ l.length) : ∀ k, k < l.length → minTo l k ∈ l
  | 0, hk => by
    have : l.getD 0 default = l[0] := by simp [List.getD, hk]
    show l.getD 0 default ∈ l
    rw [this]
    exact List.getElem_mem hk
  | k + 1, hk => by
    have e : l.getD (k + 1) default = l[k + 1] := by simp [List.getD, hk]
    unfold minTo
    split
    · rw [e]
      exact List.getElem_mem hk
    · exact minTo_mem h k (by omega)
theorem next_rng {l : List Rct} {b : List Int} (hb : 1 ≤ b.length) : 1 ≤ nextN l b ∧ nextN l b ≤ b.length := by
  unfold nextN
  cases hc : code l b with
  | some n =>
    unfold code at hc
    obtain ⟨k, hk, rfl⟩ := Option.map_eq_some_iff.1 hc
    have := List.mem_range.1 (List.mem_of_find?_eq_some hk)
    show 1 ≤ ((k + 1 : Nat) : Int) ∧ ((k + 1 : Nat) : Int) ≤ b.length
    omega
  | none =>
    have h1 : 1 ≤ (best (fitsL l b)).n := by
      unfold best
      split
      · exact Int.le_refl _
      · rename_i h
        have hm := minTo_mem (l := fitsL l b) (by omega) ((fitsL l b).length - 1) (by omega)
        unfold minF
        unfold fitsL at hm
        obtain ⟨r, hr, he⟩ := List.mem_map.1 hm
        have hr := (List.mem_filter.1 hr).2
        have := ok_len hr
        unfold fitsL
        rw [← he]
        exact this.2.2.1
    show 1 ≤ minI _ _ ∧ minI _ _ ≤ _
    unfold minI
    split <;> omega
/-- A piece. -/
structure Pc where
  at_ : Int
  n : Int
  full : Bool
  cn : Int
  cv : Int
instance : Inhabited Pc := ⟨⟨0, 0, false, 0, 0⟩⟩
def cP (p : Pc) : List AV := [.int .i64 p.at_, .int .i64 p.n, .sb p.full, .int .i64 p.cn, .int .i64 p.cv]
theorem cP_emb : Emb cP 5 := fun x => ⟨rfl, ⟨⟨rfl⟩, ⟨rfl⟩, ⟨rfl⟩, ⟨rfl⟩, ⟨rfl⟩, trivial⟩, rfl⟩
def stepN (l : List Rct) (s : List Int) (a : Nat) : Nat := (nextN l (s.drop a)).toNat
def pcAt (l : List Rct) (s : List Int) (a : Nat) : Pc := if (code l (s.drop a)).isSome = true then ⟨a, nextN l (s.drop a), true, valN ((s.drop a).take (stepN l s a)), valV ((s.drop a).take (stepN l s a))⟩ else ⟨a, nextN l (s.drop a), false, 0, 0⟩
def pcs (l : List Rct) (s : List Int) : Nat → Nat → List Pc
  | 0, _ => []
  | f + 1, a => if a < s.length then pcAt l s a :: pcs l s f (a + stepN l s a) else []
def allAt (l : List Rct) (s : List Int) (a : Nat) : List Pc := pcs l s (s.length - a) a
theorem stepN_rng {l : List Rct} {s : List Int} {a : Nat} (h : a < s.length) : 1 ≤ stepN l s a ∧ a + stepN l s a ≤ s.length ∧ ((stepN l s a : Nat) : Int) = nextN l (s.drop a) := by
  have := next_rng (l := l) (b := s.drop a) (by rw [List.length_drop]; omega)
  rw [List.length_drop] at this
  unfold stepN
  omega
theorem pcs_fuel {l : List Rct} {s : List Int} : ∀ (f g a : Nat), s.length - a ≤ f → s.length - a ≤ g → pcs l s f a = pcs l s g a
  | 0, 0, _, _, _ => rfl
  | 0, g + 1, a, h, _ => by
    unfold pcs
    rw [if_neg (by omega)]
  | f + 1, 0, a, _, h => by
    unfold pcs
    rw [if_neg (by omega)]
  | f + 1, g + 1, a, h1, h2 => by
    unfold pcs
    by_cases h : a < s.length
    · rw [if_pos h, if_pos h]
      have := stepN_rng (l := l) h
      rw [pcs_fuel f g (a + stepN l s a) (by omega) (by omega)]
    · rw [if_neg h, if_neg h]
theorem allAt_step {l : List Rct} {s : List Int} {a : Nat} (h : a < s.length) : allAt l s a = pcAt l s a :: allAt l s (a + stepN l s a) := by
  have hr := stepN_rng (l := l) h
  unfold allAt
  obtain ⟨f, hf⟩ : ∃ f, s.length - a = f + 1 := ⟨s.length - a - 1, by omega⟩
  rw [hf]
  show (if a < s.length then _ else _) = _
  rw [if_pos h]
  congr 1
  exact pcs_fuel _ _ _ (by omega) (by omega)
theorem allAt_end {l : List Rct} {s : List Int} {a : Nat} (h : s.length ≤ a) : allAt l s a = [] := by
  unfold allAt
  rw [show s.length - a = 0 by omega]
  rfl
theorem allAt_len {l : List Rct} {s : List Int} : ∀ (f a : Nat), s.length - a = f → (allAt l s a).length ≤ f := by
  intro f
  induction f using Nat.strongRecOn with
  | ind f ih =>
    intro a h
    by_cases q : a < s.length
    · have hr := stepN_rng (l := l) q
      rw [allAt_step q, List.length_cons]
      have := ih (s.length - (a + stepN l s a)) (by omega) _ rfl
      omega
    · rw [allAt_end (by omega)]
      exact Nat.zero_le _
theorem told_drop (l : List Rct) (b : List Int) {a m : Nat} {el : Nat → List AV} (hm : m = b.length - a) (hel : ∀ i, el i = els c8 b (a + i)) : subs0 [aR l, a8 (b.drop a)] [aR l, .sl 1 m el] := by
  refine ⟨⟨⟨rfl⟩, els_of cR_emb (n := 0) (fun _ _ => rfl)⟩, ⟨⟨by rw [List.length_drop]; omega⟩, els_of c8_emb (n := 0) (fun i hi => ?_)⟩, trivial⟩
  rw [hel]
  show c8 (b.getD (a + i) default) = c8 ((b.drop a).getD i default)
  simp only [List.getD, List.getElem?_drop]
theorem told_cut (b : List Int) {a n m : Nat} {el : Nat → List AV} (hn : a + n ≤ b.length) (hm : m = n) (hel : ∀ i, el i = els c8 b (a + i)) : subs0 [a8 ((b.drop a).take n)] [.sl 1 m el] := by
  refine ⟨⟨⟨by rw [List.length_take, List.length_drop]; omega⟩, els_of c8_emb (n := 0) (fun i hi => ?_)⟩, trivial⟩
  rw [List.length_take] at hi
  rw [hel]
  show c8 (b.getD (a + i) default) = c8 (((b.drop a).take n).getD i default)
  simp only [List.getD, List.getElem?_drop, List.getElem?_take]
  rw [if_pos (by omega)]
def SAll : Sp := ⟨List Rct × List Int, fun (l, s) => l.length < 1000000000 ∧ s.length < 1000000000 ∧ B8 s, fun (l, s) => [aR l, a8 s], fun (l, s) => .row 39 5 (allAt l s 0).length (els cP (allAt l s 0))⟩
set_option maxHeartbeats 8000000 in
theorem all : SpOK Tryd.prog 8 SAll := fun ⟨l, s⟩ ⟨hl, hs, h8⟩ => by
  have hC : COK Tryd.prog (cfg [(15, SNext), (16, SVal)]) := Ty.ty.cfg ⟨next, hexVal, trivial⟩
  ((refine Fn.ofF hC Tryd.func8 Tryd.ntmps8 rfl rfl rfl ?_); (repeat' first | (with_reducible exact trivial) | (with_reducible rfl) | (refine And.intro ?_ ?_) | (refine Need.mk ?_) | exact True.intro | (first | (refine ⟨_, Told.refl _, ?_, ?_⟩) | (refine ⟨⟨_, _⟩, Told.refl _, ?_, ?_⟩) | (refine ⟨⟨_, _, _⟩, Told.refl _, ?_, ?_⟩) | (refine ⟨⟨_, _, _, _⟩, Told.refl _, ?_, ?_⟩) | (refine ⟨⟨_, _, _, _, _⟩, Told.refl _, ?_, ?_⟩) | (refine ⟨(), Told.refl _, ?_, ?_⟩)) | (with_reducible intro _) | (refine fun (_ : Bool) => ?_)))
  refine AW.loop (I := fun x : Nat × List Pc => ⟨46, [(0, aR l), (1, a8 s), (5, .own 0), (6, .int .i64 x.1)], [.row 39 5 x.2.length (els cP x.2)]⟩) (fun x => x.1 ≤ s.length ∧ x.2.length ≤ x.1 ∧ allAt l s 0 = x.2 ++ allAt l s x.1) (fun x => s.length - x.1) (0, []) ⟨Nat.zero_le _, Nat.le_refl _, rfl⟩ ?_ ?_
  · (repeat' first | (with_reducible exact trivial) | (with_reducible rfl) | (refine And.intro ?_ ?_) | (refine Need.mk ?_) | exact True.intro | (first | (refine ⟨_, Told.refl _, ?_, ?_⟩) | (refine ⟨⟨_, _⟩, Told.refl _, ?_, ?_⟩) | (refine ⟨⟨_, _, _⟩, Told.refl _, ?_, ?_⟩) | (refine ⟨⟨_, _, _, _⟩, Told.refl _, ?_, ?_⟩) | (refine ⟨⟨_, _, _, _, _⟩, Told.refl _, ?_, ?_⟩) | (refine ⟨(), Told.refl _, ?_, ?_⟩)) | (with_reducible intro _) | (refine fun (_ : Bool) => ?_))
    all_goals first | rfl
  · rintro ⟨a, out⟩ ⟨h1, h2, h3⟩
    dsimp only at h1 h2 h3 ⊢
    rcases Nat.lt_or_ge a s.length with hlt | hge
    · have hd : decide ((a : Int) < (s.length : Int)) = true := decide_eq_true (by omega)
      obtain ⟨r1, r2, r3⟩ := stepN_rng (l := l) hlt
      have hst := allAt_step (l := l) hlt
      ((refine AW.byF ‹_› ?_); (repeat' first | (with_reducible exact trivial) | (with_reducible rfl) | (refine And.intro ?_ ?_) | (refine Need.mk ?_) | exact True.intro | (first | (refine ⟨_, Told.refl _, ?_, ?_⟩) | (refine ⟨⟨_, _⟩, Told.refl _, ?_, ?_⟩) | (refine ⟨⟨_, _, _⟩, Told.refl _, ?_, ?_⟩) | (refine ⟨⟨_, _, _, _⟩, Told.refl _, ?_, ?_⟩) | (refine ⟨⟨_, _, _, _, _⟩, Told.refl _, ?_, ?_⟩) | (refine ⟨(), Told.refl _, ?_, ?_⟩)) | (with_reducible intro _) | (refine fun (_ : Bool) => ?_)))
      all_goals first | (exact absurd ‹decide ((a : Int) < (s.length : Int)) = false› (by rw [hd]; decide)) | skip
      all_goals first | omega | skip
      refine Exists.intro (l, s.drop a) (And.intro (Told.of (told_drop l s (by omega) (fun i => by rw [Int.toNat_natCast]))) (And.intro ?_ ?_))
      · exact ⟨hl, by rw [List.length_drop]; omega, B8.drop h8 _⟩
      have hw := iw (n := (a : Int) + nextN l (s.drop a)) (by omega) (by omega)
      have hp : pcAt l s a = if (code l (s.drop a)).isSome = true then ⟨a, nextN l (s.drop a), true, valN ((s.drop a).take (stepN l s a)), valV ((s.drop a).take (stepN l s a))⟩ else ⟨a, nextN l (s.drop a), false, 0, 0⟩ := rfl
      have h5 : allAt l s 0 = (out ++ [pcAt l s a]) ++ allAt l s (a + stepN l s a) := by rw [h3, hst, List.append_assoc]; rfl
      (repeat' first | (with_reducible exact trivial) | (with_reducible rfl) | (refine And.intro ?_ ?_) | (refine Need.mk ?_) | exact True.intro | (first | (refine ⟨_, Told.refl _, ?_, ?_⟩) | (refine ⟨⟨_, _⟩, Told.refl _, ?_, ?_⟩) | (refine ⟨⟨_, _, _⟩, Told.refl _, ?_, ?_⟩) | (refine ⟨⟨_, _, _, _⟩, Told.refl _, ?_, ?_⟩) | (refine ⟨⟨_, _, _, _, _⟩, Told.refl _, ?_, ?_⟩) | (refine ⟨(), Told.refl _, ?_, ?_⟩)) | (with_reducible intro _) | (refine fun (_ : Bool) => ?_))
      all_goals first | (rw [hw]; omega) | omega | skip
      · have q := ‹(code l (s.drop a)).isSome = true›
        rw [if_pos q] at hp
        refine Exists.intro ((s.drop a).take (stepN l s a)) (And.intro (Told.of (told_cut s r2 (by rw [hw]; omega) (fun i => by rw [Int.toNat_natCast]))) (And.intro ?_ ?_))
        · exact ⟨by rw [List.length_take, List.length_drop]; omega, B8.take (B8.drop h8 _) _⟩
        (repeat' first | (with_reducible exact trivial) | (with_reducible rfl) | (refine And.intro ?_ ?_) | (refine Need.mk ?_) | exact True.intro | (first | (refine ⟨_, Told.refl _, ?_, ?_⟩) | (refine ⟨⟨_, _⟩, Told.refl _, ?_, ?_⟩) | (refine ⟨⟨_, _, _⟩, Told.refl _, ?_, ?_⟩) | (refine ⟨⟨_, _, _, _⟩, Told.refl _, ?_, ?_⟩) | (refine ⟨⟨_, _, _, _, _⟩, Told.refl _, ?_, ?_⟩) | (refine ⟨(), Told.refl _, ?_, ?_⟩)) | (with_reducible intro _) | (refine fun (_ : Bool) => ?_))
        · show (out.length + 1) * 40 ≤ _
          omega
        refine Exists.intro ((a + stepN l s a, out ++ [pcAt l s a]) : Nat × List Pc) (And.intro ?_ (And.intro ?_ ?_))
        · exact ⟨r2, by rw [List.length_append, List.length_singleton]; show out.length + 1 ≤ a + stepN l s a; omega, h5⟩
        · show s.length - (a + stepN l s a) < s.length - a
          omega
        · rw [hp]
          (repeat' first | (with_reducible exact trivial) | (with_reducible rfl) | (refine And.intro ?_ ?_) | (refine Need.mk ?_) | exact True.intro | (first | (refine ⟨_, Told.refl _, ?_, ?_⟩) | (refine ⟨⟨_, _⟩, Told.refl _, ?_, ?_⟩) | (refine ⟨⟨_, _, _⟩, Told.refl _, ?_, ?_⟩) | (refine ⟨⟨_, _, _, _⟩, Told.refl _, ?_, ?_⟩) | (refine ⟨⟨_, _, _, _, _⟩, Told.refl _, ?_, ?_⟩) | (refine ⟨(), Told.refl _, ?_, ?_⟩)) | (with_reducible intro _) | (refine fun (_ : Bool) => ?_))
          all_goals first
            | (rw [List.length_append]; rfl)
            | (rw [hw]; omega)
            | (rename_i z hz; refine snoc_sub cP_emb (l := out) rfl ?_ z hz; refine ⟨?_, ?_, ?_, ?_, ?_, trivial⟩ <;> first | exact ⟨rfl⟩ | exact ⟨q⟩)
      · show (out.length + 1) * 40 ≤ _
        omega
      · have q := ‹(code l (s.drop a)).isSome = false›
        rw [if_neg (by rw [q]; decide)] at hp
        refine Exists.intro ((a + stepN l s a, out ++ [pcAt l s a]) : Nat × List Pc) (And.intro ?_ (And.intro ?_ ?_))
        · exact ⟨r2, by rw [List.length_append, List.length_singleton]; show out.length + 1 ≤ a + stepN l s a; omega, h5⟩
        · show s.length - (a + stepN l s a) < s.length - a
          omega
        · rw [hp]
          (repeat' first | (with_reducible exact trivial) | (with_reducible rfl) | (refine And.intro ?_ ?_) | (refine Need.mk ?_) | exact True.intro | (first | (refine ⟨_, Told.refl _, ?_, ?_⟩) | (refine ⟨⟨_, _⟩, Told.refl _, ?_, ?_⟩) | (refine ⟨⟨_, _, _⟩, Told.refl _, ?_, ?_⟩) | (refine ⟨⟨_, _, _, _⟩, Told.refl _, ?_, ?_⟩) | (refine ⟨⟨_, _, _, _, _⟩, Told.refl _, ?_, ?_⟩) | (refine ⟨(), Told.refl _, ?_, ?_⟩)) | (with_reducible intro _) | (refine fun (_ : Bool) => ?_))
          all_goals first
            | (rw [List.length_append]; rfl)
            | (rw [hw]; omega)
            | (rename_i z hz; refine snoc_sub cP_emb (l := out) rfl ?_ z hz; refine ⟨?_, ?_, ?_, ?_, ?_, trivial⟩ <;> first | exact ⟨rfl⟩ | exact ⟨q⟩)
    · obtain rfl : a = s.length := by omega
      have hd : decide ((s.length : Int) < (s.length : Int)) = false := decide_eq_false (by omega)
      rw [allAt_end (Nat.le_refl _), List.append_nil] at h3
      ((refine AW.byF ‹_› ?_); (repeat' first | (with_reducible exact trivial) | (with_reducible rfl) | (refine And.intro ?_ ?_) | (refine Need.mk ?_) | exact True.intro | (first | (refine ⟨_, Told.refl _, ?_, ?_⟩) | (refine ⟨⟨_, _⟩, Told.refl _, ?_, ?_⟩) | (refine ⟨⟨_, _, _⟩, Told.refl _, ?_, ?_⟩) | (refine ⟨⟨_, _, _, _⟩, Told.refl _, ?_, ?_⟩) | (refine ⟨⟨_, _, _, _, _⟩, Told.refl _, ?_, ?_⟩) | (refine ⟨(), Told.refl _, ?_, ?_⟩)) | (with_reducible intro _) | (refine fun (_ : Bool) => ?_)))
      all_goals first | (exact absurd ‹decide ((s.length : Int) < (s.length : Int)) = true› (by rw [hd]; decide)) | skip
      all_goals rw [h3]
end Go.Abs.Mt
