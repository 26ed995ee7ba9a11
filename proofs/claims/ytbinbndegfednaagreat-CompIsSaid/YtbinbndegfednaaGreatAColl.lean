/- Layer 20: entries, back, how many, identities. -/
import Derived.Test.YtbinbndegfednaaGreatATbl
set_option linter.all false
set_option maxRecDepth 100000
namespace Go.Abs.Coll
open Go.RowKit Go.Proofs Go.Abs.Tab Go.Abs.Dest Go.Abs.Span
/-- Those of numbers. -/
def two (l : List Bf) : List Bf := l.filter fun b => b.n == 2
def ents (l : List Bf) : List Bf := if EB.canon l = true then two l else []
theorem two_next {l : List Bf} {k : Nat} (hk : k < l.length) : two (l.take (k + 1)) = if (l.getD k default).n = 2 then two (l.take k) ++ [l.getD k default] else two (l.take k) := by
  unfold two
  rw [List.take_succ_eq_append_getElem hk, List.filter_append, getB hk]
  by_cases h : l[k].n = 2
  · rw [if_pos h]
    simp [List.filter_cons, h]
  · rw [if_neg h]
    simp [List.filter_cons, h]
theorem two_len (l : List Bf) : (two l).length ≤ l.length := List.length_filter_le _ _
def SEnts : Sp := ⟨Tbl, fun t => t.bfs.length ≤ 1000000, fun t => [.agg (cT t)], fun t => .row 74 4 (ents t.bfs).length (els cBf (ents t.bfs))⟩
/-- How many codes there are. -/
def cnt : List Bf → Int
  | [] => 0
  | b :: l => (b.hi - b.lo + 1) + cnt l
theorem cnt_snoc (l : List Bf) (b : Bf) : cnt (l ++ [b]) = cnt l + (b.hi - b.lo + 1) := by
  induction l with
  | nil => simp [cnt]
  | cons x l ih => simp only [List.cons_append, cnt, ih]; omega
theorem ents_sane {l : List Bf} : ∀ x ∈ ents l, sane x = true ∧ x.n = 2 ∧ x ∈ l := by
  intro x hx
  unfold ents at hx
  split at hx
  · rename_i hc
    obtain ⟨h1, h2⟩ := List.mem_filter.1 hx
    exact ⟨((EB.canon_iff l).1 hc).1 x h1, by simpa using h2, h1⟩
  · cases hx
theorem ents_len (l : List Bf) : (ents l).length ≤ l.length := by
  unfold ents
  split
  · exact two_len l
  · exact Nat.zero_le _
theorem cnt_rng {l : List Bf} (h : ∀ x ∈ l, sane x = true) : 0 ≤ cnt l ∧ cnt l ≤ 65536 * l.length := by
  induction l with
  | nil => exact ⟨Int.le_refl _, Int.le_refl _⟩
  | cons x l ih =>
    have i := ih (fun y hy => h y (List.mem_cons_of_mem _ hy))
    have r := rngB (h x List.mem_cons_self)
    simp only [cnt, List.length_cons]
    omega
def SCnt : Sp := ⟨Tbl, fun t => t.bfs.length ≤ 1000000, fun t => [.agg (cT t)], fun t => .st (.int .i64 (cnt (ents t.bfs)))⟩
/-- The table by which codes are their numbers. -/
def modeT (w : Int) : Int := if (if 1 < w then 1 else w) > 0 then (if 1 < w then 1 else w) else 0
def nameH : ByteArray := ⟨#[73, 100, 101, 110, 116, 105, 116, 121, 45, 72]⟩
def nameV : ByteArray := ⟨#[73, 100, 101, 110, 116, 105, 116, 121, 45, 86]⟩
def identT (w : Int) : Tbl := ⟨if modeT w = 0 then nameH else nameV, modeT w, [⟨2, 0, 65535⟩], [⟨2, 0, 65535, 0⟩], [], []⟩
theorem modeT_rng (w : Int) : modeT w = 0 ∨ modeT w = 1 := by
  unfold modeT
  repeat' split
  all_goals omega
def SIdent : Sp := ⟨Int, fun _ => True, fun w => [.int .i64 w], fun w => .st (.agg (cT (identT w)))⟩
set_option maxHeartbeats 4000000 in
theorem ident : SpOK Tryz.prog 30 SIdent := fun (w : Int) _ => by
  have hC := base
  have e1 : IntKind.i64.wrap (((2 : Nat) : Int) - 1) = 1 := by decide
  have hraw : (if (if IntKind.i64.wrap (((2 : Nat) : Int) - 1) < w then IntKind.i64.wrap (((2 : Nat) : Int) - 1) else w) > 0 then (if IntKind.i64.wrap (((2 : Nat) : Int) - 1) < w then IntKind.i64.wrap (((2 : Nat) : Int) - 1) else w) else 0) = modeT w := by rw [e1]; rfl
  have hr := modeT_rng w
  ((refine Fn.ofF hC Tryz.func30 Tryz.ntmps30 rfl rfl rfl ?_); (repeat' first | (with_reducible exact trivial) | (with_reducible rfl) | (refine And.intro ?_ ?_) | (refine Need.mk ?_) | exact True.intro | (first | (refine ⟨_, Told.refl _, ?_, ?_⟩) | (refine ⟨⟨_, _⟩, Told.refl _, ?_, ?_⟩) | (refine ⟨⟨_, _, _⟩, Told.refl _, ?_, ?_⟩) | (refine ⟨⟨_, _, _, _⟩, Told.refl _, ?_, ?_⟩) | (refine ⟨⟨_, _, _, _, _⟩, Told.refl _, ?_, ?_⟩) | (refine ⟨(), Told.refl _, ?_, ?_⟩)) | (with_reducible intro _) | (refine fun (_ : Bool) => ?_)))
  · rw [hraw]
    omega
  · rw [hraw]
    omega
  · simp only [hraw]
    have hi : identT w = ⟨if modeT w = 0 then nameH else nameV, modeT w, [⟨2, 0, 65535⟩], [⟨2, 0, 65535, 0⟩], [], []⟩ := rfl
    rcases hr with h | h
    · rw [h] at hi ⊢
      (repeat' first | (with_reducible exact trivial) | (with_reducible rfl) | (refine And.intro ?_ ?_) | (refine Need.mk ?_) | exact True.intro | (first | (refine ⟨_, Told.refl _, ?_, ?_⟩) | (refine ⟨⟨_, _⟩, Told.refl _, ?_, ?_⟩) | (refine ⟨⟨_, _, _⟩, Told.refl _, ?_, ?_⟩) | (refine ⟨⟨_, _, _, _⟩, Told.refl _, ?_, ?_⟩) | (refine ⟨⟨_, _, _, _, _⟩, Told.refl _, ?_, ?_⟩) | (refine ⟨(), Told.refl _, ?_, ?_⟩)) | (with_reducible intro _) | (refine fun (_ : Bool) => ?_))
      all_goals rw [hi]
      all_goals first
        | rfl
        | exact els_of cR_emb (n := 0) (elt_list [(⟨2, 0, 65535⟩ : Rct)]) _ ‹_›
        | exact els_of cSp_emb (n := 0) (elt_list [(⟨2, 0, 65535, 0⟩ : Spn)]) _ ‹_›
    · rw [h] at hi ⊢
      (repeat' first | (with_reducible exact trivial) | (with_reducible rfl) | (refine And.intro ?_ ?_) | (refine Need.mk ?_) | exact True.intro | (first | (refine ⟨_, Told.refl _, ?_, ?_⟩) | (refine ⟨⟨_, _⟩, Told.refl _, ?_, ?_⟩) | (refine ⟨⟨_, _, _⟩, Told.refl _, ?_, ?_⟩) | (refine ⟨⟨_, _, _, _⟩, Told.refl _, ?_, ?_⟩) | (refine ⟨⟨_, _, _, _, _⟩, Told.refl _, ?_, ?_⟩) | (refine ⟨(), Told.refl _, ?_, ?_⟩)) | (with_reducible intro _) | (refine fun (_ : Bool) => ?_))
      all_goals rw [hi]
      all_goals first
        | rfl
        | exact els_of cR_emb (n := 0) (elt_list [(⟨2, 0, 65535⟩ : Rct)]) _ ‹_›
        | exact els_of cSp_emb (n := 0) (elt_list [(⟨2, 0, 65535, 0⟩ : Spn)]) _ ‹_›
/-- Does one lead to some units? -/
def hit (u : List Int) (b : Bf) : Bool := decide (b.to.length = u.length ∧ (∀ j, j < u.length - 1 → b.to.getD j default = u.getD j default) ∧ lastI b.to ≤ lastI u ∧ lastI u - lastI b.to ≤ b.hi - b.lo)
theorem hit_iff (u : List Int) (b : Bf) : hit u b = true ↔ (b.to.length = u.length ∧ (∀ j, j < u.length - 1 → b.to.getD j default = u.getD j default) ∧ lastI b.to ≤ lastI u ∧ lastI u - lastI b.to ≤ b.hi - b.lo) := decide_eq_true_iff
def backE (l : List Bf) (u : List Int) : Option Int := (l.find? (hit u)).map fun b => b.lo + (lastI u - lastI b.to)
theorem backE_none {l : List Bf} {u : List Int} (h : ∀ j, j < l.length → hit u (l.getD j default) = false) : backE l u = none := by
  unfold backE
  rw [List.find?_eq_none.2]
  · rfl
  · intro x hx
    obtain ⟨j, hj, rfl⟩ := List.getElem_of_mem hx
    have := h j hj
    rw [getB hj] at this
    rw [this]
    decide
theorem backE_some {l : List Bf} {u : List Int} {k : Nat} (hk : k < l.length) (h : ∀ j, j < k → hit u (l.getD j default) = false) (hh : hit u (l.getD k default) = true) : backE l u = some ((l.getD k default).lo + (lastI u - lastI (l.getD k default).to)) := by
  unfold backE
  have : l.find? (hit u) = some (l.getD k default) := by
    rw [List.find?_eq_some_iff_append]
    refine ⟨hh, l.take k, l.drop (k + 1), ?_, fun x hx => ?_⟩
    · rw [getB hk, List.getElem_cons_drop, List.take_append_drop]
    · obtain ⟨j, hj, rfl⟩ := List.getElem_of_mem hx
      rw [List.length_take] at hj
      have := h j (by omega)
      rw [getB (by omega)] at this
      rw [List.getElem_take, this]
      rfl
  rw [this]
  rfl
def SBack : Sp := ⟨Tbl × List Int, fun (t, u) => t.bfs.length ≤ 1000000 ∧ u.length < 4611686018427387904 ∧ ∀ x ∈ u, -9223372036854775808 ≤ x ∧ x ≤ 9223372036854775807, fun (t, u) => [.agg (cT t), aI u], fun (t, u) => rI (backE (ents t.bfs) u)⟩
end Go.Abs.Coll
