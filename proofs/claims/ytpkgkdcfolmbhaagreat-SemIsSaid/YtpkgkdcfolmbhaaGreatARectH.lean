/- Codespaces that others hold: the closures of rect.Canon. -/
import Derived.Test.YtpkgkdcfolmbhaaGreatAMatch
set_option linter.all false
set_option maxRecDepth 100000
namespace Go.Abs.Rc
open Go.RowKit Go.Proofs Go.Abs.Tab Go.Abs.Coll Go.Abs.Hx Go.Abs.Mt
def holds (a b : Rct) : Bool := okR b && inR a b.n b.lo && inR a b.n b.hi
def SHolds : Sp := ⟨Rct × Rct, fun _ => True, fun (a, b) => [.agg (cR a), .agg (cR b)], fun (a, b) => .st (.sb (holds a b))⟩
set_option maxHeartbeats 4000000 in
theorem rectHolds : SpOK Tryz.prog 83 SHolds := fun ⟨a, b⟩ _ => by
  have hC : COK Tryz.prog (cfg [(58, SRS), (30, SIn)]) := Ty.ty.cfg ⟨rectSane, rectIn, trivial⟩
  have hf : holds a b = (okR b && inR a b.n b.lo && inR a b.n b.hi) := rfl
  ((refine Fn.ofF hC Tryz.func83 Tryz.ntmps83 rfl rfl rfl ?_); (repeat' first | (with_reducible exact trivial) | (with_reducible rfl) | (refine And.intro ?_ ?_) | (refine Need.mk ?_) | exact True.intro | (first | (refine ⟨_, Told.refl _, ?_, ?_⟩) | (refine ⟨⟨_, _⟩, Told.refl _, ?_, ?_⟩) | (refine ⟨⟨_, _, _⟩, Told.refl _, ?_, ?_⟩) | (refine ⟨⟨_, _, _, _⟩, Told.refl _, ?_, ?_⟩) | (refine ⟨⟨_, _, _, _, _⟩, Told.refl _, ?_, ?_⟩) | (refine ⟨(), Told.refl _, ?_, ?_⟩)) | (with_reducible intro _) | (refine fun (_ : Bool) => ?_)))
  all_goals (rw [hf]; simp_all; done)
def eqR (a b : Rct) : Bool := (a.n == b.n) && ((a.lo == b.lo) && (a.hi == b.hi))
theorem eqR_iff (a b : Rct) : eqR a b = true ↔ a = b := by
  cases a; cases b
  simp [eqR]
/-- Does another one hold it? -/
def oth (o r : Rct) : Bool := !eqR o r && holds o r
def SOth : Sp := ⟨Rct × Rct, fun _ => True, fun (o, r) => [.agg (cR o), .rptr (cR r)], fun (o, r) => .st (.sb (oth o r))⟩
set_option maxHeartbeats 4000000 in
theorem canon11 : SpOK Tryz.prog 82 SOth := fun ⟨o, r⟩ _ => by
  have hC : COK Tryz.prog (cfg [(83, SHolds)]) := Ty.ty.cfg ⟨rectHolds, trivial⟩
  have hf : oth o r = (!eqR o r && holds o r) := rfl
  have he : eqA (cR o) (cR r) = eqR o r := by simp [eqA, cR, eqR]
  ((refine Fn.ofF hC Tryz.func82 Tryz.ntmps82 rfl rfl rfl ?_); (repeat' first | (with_reducible exact trivial) | (with_reducible rfl) | (refine And.intro ?_ ?_) | (refine Need.mk ?_) | exact True.intro | (first | (refine ⟨_, Told.refl _, ?_, ?_⟩) | (refine ⟨⟨_, _⟩, Told.refl _, ?_, ?_⟩) | (refine ⟨⟨_, _, _⟩, Told.refl _, ?_, ?_⟩) | (refine ⟨⟨_, _, _, _⟩, Told.refl _, ?_, ?_⟩) | (refine ⟨⟨_, _, _, _, _⟩, Told.refl _, ?_, ?_⟩) | (refine ⟨(), Told.refl _, ?_, ?_⟩)) | (with_reducible intro _) | (refine fun (_ : Bool) => ?_)))
  all_goals
    first
      | (have q := ‹(!eqA (cR o) (cR r)) = true›
         rw [he] at q
         rw [hf, q, Bool.true_and])
      | (have q := ‹(!eqA (cR o) (cR r)) = false›
         rw [he] at q
         rw [hf, q, Bool.false_and])
def idxP (p : Rct → Bool) (l : List Rct) : Int := match l.findIdx? p with
  | some k => k
  | none => -1
theorem idxP_some {p : Rct → Bool} {l : List Rct} {k : Nat} (hk : k < l.length) (h : ∀ j, j < k → p (l.getD j default) = false) (hh : p (l.getD k default) = true) : idxP p l = k := by
  have hf : l.findIdx? p = some k := by
    rw [List.findIdx?_eq_some_iff_getElem]
    refine ⟨hk, by rw [← getR hk]; exact hh, fun j hj => ?_⟩
    have := h j hj
    rw [getR (by omega)] at this
    simp [this]
  unfold idxP
  rw [hf]
theorem idxP_none {p : Rct → Bool} {l : List Rct} (h : ∀ j, j < l.length → p (l.getD j default) = false) : idxP p l = -1 := by
  have hf : l.findIdx? p = none := by
    rw [List.findIdx?_eq_none_iff]
    intro x hx
    obtain ⟨j, hj, rfl⟩ := List.getElem_of_mem hx
    rw [← getR hj]
    exact h j hj
  unfold idxP
  rw [hf]
theorem idxP_any (p : Rct → Bool) (l : List Rct) : decide (idxP p l ≥ 0) = l.any p := by
  unfold idxP
  cases hf : l.findIdx? p with
  | none =>
    rw [List.findIdx?_eq_none_iff] at hf
    symm
    simp only
    rw [decide_eq_false (by omega), List.any_eq_false]
    intro x hx
    rw [hf x hx]
    decide
  | some k =>
    rw [List.findIdx?_eq_some_iff_getElem] at hf
    obtain ⟨h1, h2, _⟩ := hf
    simp only
    rw [decide_eq_true (by omega)]
    symm
    rw [List.any_eq_true]
    exact ⟨_, List.getElem_mem h1, h2⟩
def SIdxH : Sp := ⟨List Rct × Rct, fun (l, r) => l.length < 4611686018427387904, fun (l, r) => [aR l, .fn 82 [.rptr (cR r)]], fun (l, r) => .st (.int .i64 (idxP (fun o => oth o r) l))⟩
set_option maxHeartbeats 4000000 in
theorem indexH : SpOK Tryz.prog 117 SIdxH := fun ⟨l, r⟩ hl => by
  have hC : COK Tryz.prog (cfg [(82, SOth)]) := Ty.ty.cfg ⟨canon11, trivial⟩
  have hl : l.length < 4611686018427387904 := hl
  ((refine Fn.ofF hC Tryz.func117 Tryz.ntmps117 rfl rfl rfl ?_); (repeat' first | (with_reducible exact trivial) | (with_reducible rfl) | (refine And.intro ?_ ?_) | (refine Need.mk ?_) | exact True.intro | (first | (refine ⟨_, Told.refl _, ?_, ?_⟩) | (refine ⟨⟨_, _⟩, Told.refl _, ?_, ?_⟩) | (refine ⟨⟨_, _, _⟩, Told.refl _, ?_, ?_⟩) | (refine ⟨⟨_, _, _, _⟩, Told.refl _, ?_, ?_⟩) | (refine ⟨⟨_, _, _, _, _⟩, Told.refl _, ?_, ?_⟩) | (refine ⟨(), Told.refl _, ?_, ?_⟩)) | (with_reducible intro _) | (refine fun (_ : Bool) => ?_)))
  refine AW.loop (I := fun k : Nat => ⟨19, [(0, aR l), (1, .fn 82 [.rptr (cR r)]), (6, aR l), (7, .int .i64 l.length), (8, .int .i64 k)], []⟩) (fun k => k ≤ l.length ∧ ∀ j, j < k → oth (l.getD j default) r = false) (fun k => l.length - k) 0 ⟨Nat.zero_le _, fun j hj => by omega⟩ ?_ ?_
  · (repeat' first | (with_reducible exact trivial) | (with_reducible rfl) | (refine And.intro ?_ ?_) | (refine Need.mk ?_) | exact True.intro | (first | (refine ⟨_, Told.refl _, ?_, ?_⟩) | (refine ⟨⟨_, _⟩, Told.refl _, ?_, ?_⟩) | (refine ⟨⟨_, _, _⟩, Told.refl _, ?_, ?_⟩) | (refine ⟨⟨_, _, _, _⟩, Told.refl _, ?_, ?_⟩) | (refine ⟨⟨_, _, _, _, _⟩, Told.refl _, ?_, ?_⟩) | (refine ⟨(), Told.refl _, ?_, ?_⟩)) | (with_reducible intro _) | (refine fun (_ : Bool) => ?_))
    all_goals rfl
  · intro k ⟨hk, hok⟩
    rcases Nat.lt_or_ge k l.length with hlt | hge
    · have hd : decide ((k : Int) < (l.length : Int)) = true := decide_eq_true (by omega)
      have hw := iw (n := (k : Int) + 1) (by omega) (by omega)
      ((refine AW.byF ‹_› ?_); (repeat' first | (with_reducible exact trivial) | (with_reducible rfl) | (refine And.intro ?_ ?_) | (refine Need.mk ?_) | exact True.intro | (first | (refine ⟨_, Told.refl _, ?_, ?_⟩) | (refine ⟨⟨_, _⟩, Told.refl _, ?_, ?_⟩) | (refine ⟨⟨_, _, _⟩, Told.refl _, ?_, ?_⟩) | (refine ⟨⟨_, _, _, _⟩, Told.refl _, ?_, ?_⟩) | (refine ⟨⟨_, _, _, _, _⟩, Told.refl _, ?_, ?_⟩) | (refine ⟨(), Told.refl _, ?_, ?_⟩)) | (with_reducible intro _) | (refine fun (_ : Bool) => ?_)))
      all_goals first | (exact absurd ‹decide ((k : Int) < (l.length : Int)) = false› (by rw [hd]; decide)) | skip
      all_goals first
        | omega
        | (have q := ‹oth (l.getD (k : Int).toNat default) r = true›
           rw [Int.toNat_natCast] at q
           exact (idxP_some (p := fun o => oth o r) hlt hok q).symm)
        | skip
      have q := ‹oth (l.getD (k : Int).toNat default) r = false›
      rw [Int.toNat_natCast] at q
      refine Exists.intro (k + 1) (And.intro ?_ (And.intro ?_ ?_))
      · refine ⟨by omega, fun j hj => ?_⟩
        by_cases e : j = k
        · rw [e]; exact q
        · exact hok j (by omega)
      · omega
      · (repeat' first | (with_reducible exact trivial) | (with_reducible rfl) | (refine And.intro ?_ ?_) | (refine Need.mk ?_) | exact True.intro | (first | (refine ⟨_, Told.refl _, ?_, ?_⟩) | (refine ⟨⟨_, _⟩, Told.refl _, ?_, ?_⟩) | (refine ⟨⟨_, _, _⟩, Told.refl _, ?_, ?_⟩) | (refine ⟨⟨_, _, _, _⟩, Told.refl _, ?_, ?_⟩) | (refine ⟨⟨_, _, _, _, _⟩, Told.refl _, ?_, ?_⟩) | (refine ⟨(), Told.refl _, ?_, ?_⟩)) | (with_reducible intro _) | (refine fun (_ : Bool) => ?_))
        all_goals first | rfl | (rw [hw]; omega)
    · obtain rfl : k = l.length := by omega
      have hd : decide ((l.length : Int) < (l.length : Int)) = false := decide_eq_false (by omega)
      have hn := idxP_none (p := fun o => oth o r) hok
      ((refine AW.byF ‹_› ?_); (repeat' first | (with_reducible exact trivial) | (with_reducible rfl) | (refine And.intro ?_ ?_) | (refine Need.mk ?_) | exact True.intro | (first | (refine ⟨_, Told.refl _, ?_, ?_⟩) | (refine ⟨⟨_, _⟩, Told.refl _, ?_, ?_⟩) | (refine ⟨⟨_, _, _⟩, Told.refl _, ?_, ?_⟩) | (refine ⟨⟨_, _, _, _⟩, Told.refl _, ?_, ?_⟩) | (refine ⟨⟨_, _, _, _, _⟩, Told.refl _, ?_, ?_⟩) | (refine ⟨(), Told.refl _, ?_, ?_⟩)) | (with_reducible intro _) | (refine fun (_ : Bool) => ?_)))
      all_goals first | (exact absurd ‹decide ((l.length : Int) < (l.length : Int)) = true› (by rw [hd]; decide)) | skip
      all_goals exact hn.symm
def SContH : Sp := ⟨List Rct × Rct, fun (l, r) => l.length < 4611686018427387904, fun (l, r) => [aR l, .fn 82 [.rptr (cR r)]], fun (l, r) => .st (.sb (l.any fun o => oth o r))⟩
theorem containsH : SpOK Tryz.prog 81 SContH := fun ⟨l, r⟩ hl => by
  have hC : COK Tryz.prog (cfg [(117, SIdxH)]) := Ty.ty.cfg ⟨indexH, trivial⟩
  have hi := idxP_any (fun o => oth o r) l
  ((refine Fn.ofF hC Tryz.func81 Tryz.ntmps81 rfl rfl rfl ?_); (repeat' first | (with_reducible exact trivial) | (with_reducible rfl) | (refine And.intro ?_ ?_) | (refine Need.mk ?_) | exact True.intro | (first | (refine ⟨_, Told.refl _, ?_, ?_⟩) | (refine ⟨⟨_, _⟩, Told.refl _, ?_, ?_⟩) | (refine ⟨⟨_, _, _⟩, Told.refl _, ?_, ?_⟩) | (refine ⟨⟨_, _, _, _⟩, Told.refl _, ?_, ?_⟩) | (refine ⟨⟨_, _, _, _, _⟩, Told.refl _, ?_, ?_⟩) | (refine ⟨(), Told.refl _, ?_, ?_⟩)) | (with_reducible intro _) | (refine fun (_ : Bool) => ?_)))
  all_goals first
    | exact hl
    | exact hi
/-- Is it held? -/
def held (l : List Rct) (r : Rct) : Bool := l.any fun o => oth o r
def SHeld : Sp := ⟨Rct × List Rct, fun (r, l) => l.length < 4611686018427387904, fun (r, l) => [.agg (cR r), .rptr [aR l]], fun (r, l) => .st (.sb (held l r))⟩
theorem canon1 : SpOK Tryz.prog 80 SHeld := fun ⟨r, l⟩ hl => by
  have hC : COK Tryz.prog (cfg [(81, SContH)]) := Ty.ty.cfg ⟨containsH, trivial⟩
  ((refine Fn.ofF hC Tryz.func80 Tryz.ntmps80 rfl rfl rfl ?_); (repeat' first | (with_reducible exact trivial) | (with_reducible rfl) | (refine And.intro ?_ ?_) | (refine Need.mk ?_) | exact True.intro | (first | (refine ⟨_, Told.refl _, ?_, ?_⟩) | (refine ⟨⟨_, _⟩, Told.refl _, ?_, ?_⟩) | (refine ⟨⟨_, _, _⟩, Told.refl _, ?_, ?_⟩) | (refine ⟨⟨_, _, _, _⟩, Told.refl _, ?_, ?_⟩) | (refine ⟨⟨_, _, _, _, _⟩, Told.refl _, ?_, ?_⟩) | (refine ⟨(), Told.refl _, ?_, ?_⟩)) | (with_reducible intro _) | (refine fun (_ : Bool) => ?_)))
  all_goals first
    | exact hl
    | rfl
def SIdxC : Sp := ⟨List Rct × List Rct, fun (l, a) => l.length < 4611686018427387904 ∧ a.length < 4611686018427387904, fun (l, a) => [aR l, .fn 80 [.rptr [aR a]]], fun (l, a) => .st (.int .i64 (idxP (held a) l))⟩
set_option maxHeartbeats 4000000 in
theorem indexC : SpOK Tryz.prog 117 SIdxC := fun ⟨l, a⟩ ⟨hl, ha⟩ => by
  have hC : COK Tryz.prog (cfg [(80, SHeld)]) := Ty.ty.cfg ⟨canon1, trivial⟩
  have hel : ∀ i, i < a.length → cond (ones (els cR a i)) (subs0 (els cR a i) (els cR a i)) False := els_of cR_emb (n := 0) (fun _ _ => rfl)
  ((refine Fn.ofF hC Tryz.func117 Tryz.ntmps117 rfl rfl rfl ?_); (repeat' first | (with_reducible exact trivial) | (with_reducible rfl) | (refine And.intro ?_ ?_) | (refine Need.mk ?_) | exact True.intro | (first | (refine ⟨_, Told.refl _, ?_, ?_⟩) | (refine ⟨⟨_, _⟩, Told.refl _, ?_, ?_⟩) | (refine ⟨⟨_, _, _⟩, Told.refl _, ?_, ?_⟩) | (refine ⟨⟨_, _, _, _⟩, Told.refl _, ?_, ?_⟩) | (refine ⟨⟨_, _, _, _, _⟩, Told.refl _, ?_, ?_⟩) | (refine ⟨(), Told.refl _, ?_, ?_⟩)) | (with_reducible intro _) | (refine fun (_ : Bool) => ?_)))
  refine AW.loop (I := fun k : Nat => ⟨19, [(0, aR l), (1, .fn 80 [.rptr [aR a]]), (6, aR l), (7, .int .i64 l.length), (8, .int .i64 k)], []⟩) (fun k => k ≤ l.length ∧ ∀ j, j < k → held a (l.getD j default) = false) (fun k => l.length - k) 0 ⟨Nat.zero_le _, fun j hj => by omega⟩ ?_ ?_
  · (repeat' first | (with_reducible exact trivial) | (with_reducible rfl) | (refine And.intro ?_ ?_) | (refine Need.mk ?_) | exact True.intro | (first | (refine ⟨_, Told.refl _, ?_, ?_⟩) | (refine ⟨⟨_, _⟩, Told.refl _, ?_, ?_⟩) | (refine ⟨⟨_, _, _⟩, Told.refl _, ?_, ?_⟩) | (refine ⟨⟨_, _, _, _⟩, Told.refl _, ?_, ?_⟩) | (refine ⟨⟨_, _, _, _, _⟩, Told.refl _, ?_, ?_⟩) | (refine ⟨(), Told.refl _, ?_, ?_⟩)) | (with_reducible intro _) | (refine fun (_ : Bool) => ?_))
    all_goals rfl
  · intro k ⟨hk, hok⟩
    rcases Nat.lt_or_ge k l.length with hlt | hge
    · have hd : decide ((k : Int) < (l.length : Int)) = true := decide_eq_true (by omega)
      have hw := iw (n := (k : Int) + 1) (by omega) (by omega)
      ((refine AW.byF ‹_› ?_); (repeat' first | (with_reducible exact trivial) | (with_reducible rfl) | (refine And.intro ?_ ?_) | (refine Need.mk ?_) | exact True.intro | (first | (refine ⟨_, Told.refl _, ?_, ?_⟩) | (refine ⟨⟨_, _⟩, Told.refl _, ?_, ?_⟩) | (refine ⟨⟨_, _, _⟩, Told.refl _, ?_, ?_⟩) | (refine ⟨⟨_, _, _, _⟩, Told.refl _, ?_, ?_⟩) | (refine ⟨⟨_, _, _, _, _⟩, Told.refl _, ?_, ?_⟩) | (refine ⟨(), Told.refl _, ?_, ?_⟩)) | (with_reducible intro _) | (refine fun (_ : Bool) => ?_)))
      all_goals first | (exact absurd ‹decide ((k : Int) < (l.length : Int)) = false› (by rw [hd]; decide)) | skip
      all_goals first
        | omega
        | exact ha
        | (have q := ‹held a (l.getD (k : Int).toNat default) = true›
           rw [Int.toNat_natCast] at q
           exact (idxP_some (p := held a) hlt hok q).symm)
        | skip
      have q := ‹held a (l.getD (k : Int).toNat default) = false›
      rw [Int.toNat_natCast] at q
      refine Exists.intro (k + 1) (And.intro ?_ (And.intro ?_ ?_))
      · refine ⟨by omega, fun j hj => ?_⟩
        by_cases e : j = k
        · rw [e]; exact q
        · exact hok j (by omega)
      · omega
      · (repeat' first | (with_reducible exact trivial) | (with_reducible rfl) | (refine And.intro ?_ ?_) | (refine Need.mk ?_) | exact True.intro | (first | (refine ⟨_, Told.refl _, ?_, ?_⟩) | (refine ⟨⟨_, _⟩, Told.refl _, ?_, ?_⟩) | (refine ⟨⟨_, _, _⟩, Told.refl _, ?_, ?_⟩) | (refine ⟨⟨_, _, _, _⟩, Told.refl _, ?_, ?_⟩) | (refine ⟨⟨_, _, _, _, _⟩, Told.refl _, ?_, ?_⟩) | (refine ⟨(), Told.refl _, ?_, ?_⟩)) | (with_reducible intro _) | (refine fun (_ : Bool) => ?_))
        all_goals first | rfl | (rw [hw]; omega)
    · obtain rfl : k = l.length := by omega
      have hd : decide ((l.length : Int) < (l.length : Int)) = false := decide_eq_false (by omega)
      have hn := idxP_none (p := held a) hok
      ((refine AW.byF ‹_› ?_); (repeat' first | (with_reducible exact trivial) | (with_reducible rfl) | (refine And.intro ?_ ?_) | (refine Need.mk ?_) | exact True.intro | (first | (refine ⟨_, Told.refl _, ?_, ?_⟩) | (refine ⟨⟨_, _⟩, Told.refl _, ?_, ?_⟩) | (refine ⟨⟨_, _, _⟩, Told.refl _, ?_, ?_⟩) | (refine ⟨⟨_, _, _, _⟩, Told.refl _, ?_, ?_⟩) | (refine ⟨⟨_, _, _, _, _⟩, Told.refl _, ?_, ?_⟩) | (refine ⟨(), Told.refl _, ?_, ?_⟩)) | (with_reducible intro _) | (refine fun (_ : Bool) => ?_)))
      all_goals first | (exact absurd ‹decide ((l.length : Int) < (l.length : Int)) = true› (by rw [hd]; decide)) | skip
      all_goals exact hn.symm
end Go.Abs.Rc
