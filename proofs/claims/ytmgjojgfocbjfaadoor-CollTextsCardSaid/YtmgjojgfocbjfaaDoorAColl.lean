/- Layer 20: entries, back, how many, identities. -/
import Derived.Test.YtmgjojgfocbjfaaDoorATbl
set_option linter.all false
set_option maxRecDepth 100000
namespace Go.Abs.Coll
open Go.RowKit Go.Proofs Go.Abs.Tab Go.Abs.Dest Go.Abs.Span
/-- Those of numbers. -/
def two (l : List Bf) : List Bf := l.filter fun b => b.n == 2
def ents (l : List Bf) : List Bf := if EB.canon l = true then two l else []
theorem two_next {l : List Bf} {k : Nat} (hk : k < l.length) : two (l.take (k + 1)) = if (l.getD k default).n = 2 then two (l.take k) ++ [l.getD k default] else two (l.take k) := by
  unfold two
  rw [List.take_succ_eq_append_getElem hk, List.filter_append, getB hk]
  by_cases h : l[k].n = 2
  · rw [if_pos h]
    simp [List.filter_cons, h]
  · rw [if_neg h]
    simp [List.filter_cons, h]
theorem two_len (l : List Bf) : (two l).length ≤ l.length := List.length_filter_le _ _
def SEnts : Sp := ⟨Tbl, fun t => t.bfs.length ≤ 1000000, fun t => [.agg (cT t)], fun t => .row 46 4 (ents t.bfs).length (els cBf (ents t.bfs))⟩
set_option maxHeartbeats 4000000 in
theorem entries : SpOK Tryd.prog 26 SEnts := fun (t : Tbl) hl => by
  have hC : COK Tryd.prog (cfg [(27, SCanon)]) := Ty.ty.cfg ⟨canonB, trivial⟩
  have hl : t.bfs.length ≤ 1000000 := hl
  ((refine Fn.ofF hC Tryd.func26 Tryd.ntmps26 rfl rfl rfl ?_); (repeat' first | (with_reducible exact trivial) | (with_reducible rfl) | (refine And.intro ?_ ?_) | (refine Need.mk ?_) | exact True.intro | (first | (refine ⟨_, Told.refl _, ?_, ?_⟩) | (refine ⟨⟨_, _⟩, Told.refl _, ?_, ?_⟩) | (refine ⟨⟨_, _, _⟩, Told.refl _, ?_, ?_⟩) | (refine ⟨⟨_, _, _, _⟩, Told.refl _, ?_, ?_⟩) | (refine ⟨⟨_, _, _, _, _⟩, Told.refl _, ?_, ?_⟩) | (refine ⟨(), Told.refl _, ?_, ?_⟩)) | (with_reducible intro _) | (refine fun (_ : Bool) => ?_)))
  · show t.bfs.length < _
    omega
  · rename_i h
    unfold ents
    rw [if_neg (by simpa using h)]
    rfl
  · rename_i h
    have hc : EB.canon t.bfs = true := by simpa using h
    refine AW.loop (I := fun k : Nat => ⟨26, [(3, .own 0), (11, aB t.bfs), (12, .int .i64 t.bfs.length), (13, .int .i64 k)], [.row 46 4 (two (t.bfs.take k)).length (els cBf (two (t.bfs.take k)))]⟩) (fun k => k ≤ t.bfs.length) (fun k => t.bfs.length - k) 0 (Nat.zero_le _) ?_ ?_
    · (repeat' first | (with_reducible exact trivial) | (with_reducible rfl) | (refine And.intro ?_ ?_) | (refine Need.mk ?_) | exact True.intro | (first | (refine ⟨_, Told.refl _, ?_, ?_⟩) | (refine ⟨⟨_, _⟩, Told.refl _, ?_, ?_⟩) | (refine ⟨⟨_, _, _⟩, Told.refl _, ?_, ?_⟩) | (refine ⟨⟨_, _, _, _⟩, Told.refl _, ?_, ?_⟩) | (refine ⟨⟨_, _, _, _, _⟩, Told.refl _, ?_, ?_⟩) | (refine ⟨(), Told.refl _, ?_, ?_⟩)) | (with_reducible intro _) | (refine fun (_ : Bool) => ?_))
      all_goals rfl
    · intro k hk
      rcases Nat.lt_or_ge k t.bfs.length with hlt | hge
      · have hd : decide ((k : Int) < (t.bfs.length : Int)) = true := decide_eq_true (by omega)
        have hw := iw (n := (k : Int) + 1) (by omega) (by omega)
        have hnx := two_next hlt
        have h2 := two_len (t.bfs.take k)
        have h3 : (t.bfs.take k).length ≤ t.bfs.length := by rw [List.length_take]; omega
        ((refine AW.byF ‹_› ?_); (repeat' first | (with_reducible exact trivial) | (with_reducible rfl) | (refine And.intro ?_ ?_) | (refine Need.mk ?_) | exact True.intro | (first | (refine ⟨_, Told.refl _, ?_, ?_⟩) | (refine ⟨⟨_, _⟩, Told.refl _, ?_, ?_⟩) | (refine ⟨⟨_, _, _⟩, Told.refl _, ?_, ?_⟩) | (refine ⟨⟨_, _, _, _⟩, Told.refl _, ?_, ?_⟩) | (refine ⟨⟨_, _, _, _, _⟩, Told.refl _, ?_, ?_⟩) | (refine ⟨(), Told.refl _, ?_, ?_⟩)) | (with_reducible intro _) | (refine fun (_ : Bool) => ?_)))
        all_goals first | (exact absurd ‹decide ((k : Int) < (t.bfs.length : Int)) = false› (by rw [hd]; decide)) | skip
        any_goals (refine Exists.intro (k + 1) (And.intro ?_ (And.intro ?_ ?_)); all_goals (repeat' first | (with_reducible exact trivial) | (with_reducible rfl) | (refine And.intro ?_ ?_) | (refine Need.mk ?_) | exact True.intro | (first | (refine ⟨_, Told.refl _, ?_, ?_⟩) | (refine ⟨⟨_, _⟩, Told.refl _, ?_, ?_⟩) | (refine ⟨⟨_, _, _⟩, Told.refl _, ?_, ?_⟩) | (refine ⟨⟨_, _, _, _⟩, Told.refl _, ?_, ?_⟩) | (refine ⟨⟨_, _, _, _, _⟩, Told.refl _, ?_, ?_⟩) | (refine ⟨(), Told.refl _, ?_, ?_⟩)) | (with_reducible intro _) | (refine fun (_ : Bool) => ?_)))
        all_goals first
          | omega
          | (dsimp only; omega)
          | (rw [hw]; omega)
          | (have q : (t.bfs.getD k default).n = 2 := by simpa using ‹((t.bfs.getD (k : Int).toNat default).n == 2) = true›
             rw [if_pos q] at hnx
             first
               | (rw [hnx, List.length_append]; rfl)
               | (have hi := ‹_ < (two (t.bfs.take (k + 1))).length›
                  rw [hnx] at hi ⊢
                  exact els_of cBf_emb (n := 0) (cat_snoc' rfl (fun _ _ => rfl)) _ hi))
          | (have q : ¬ (t.bfs.getD k default).n = 2 := by simpa using ‹((t.bfs.getD (k : Int).toNat default).n == 2) = false›
             rw [if_neg q] at hnx
             rw [hnx])
      · obtain rfl : k = t.bfs.length := by omega
        have hd : decide ((t.bfs.length : Int) < (t.bfs.length : Int)) = false := decide_eq_false (by omega)
        have hr : ents t.bfs = two (t.bfs.take t.bfs.length) := by
          unfold ents
          rw [if_pos hc, List.take_length]
        ((refine AW.byF ‹_› ?_); (repeat' first | (with_reducible exact trivial) | (with_reducible rfl) | (refine And.intro ?_ ?_) | (refine Need.mk ?_) | exact True.intro | (first | (refine ⟨_, Told.refl _, ?_, ?_⟩) | (refine ⟨⟨_, _⟩, Told.refl _, ?_, ?_⟩) | (refine ⟨⟨_, _, _⟩, Told.refl _, ?_, ?_⟩) | (refine ⟨⟨_, _, _, _⟩, Told.refl _, ?_, ?_⟩) | (refine ⟨⟨_, _, _, _, _⟩, Told.refl _, ?_, ?_⟩) | (refine ⟨(), Told.refl _, ?_, ?_⟩)) | (with_reducible intro _) | (refine fun (_ : Bool) => ?_)))
        all_goals first | (exact absurd ‹decide ((t.bfs.length : Int) < (t.bfs.length : Int)) = true› (by rw [hd]; decide)) | skip
        all_goals rw [hr]
/-- How many codes there are. -/
def cnt : List Bf → Int
  | [] => 0
  | b :: l => (b.hi - b.lo + 1) + cnt l
theorem cnt_snoc (l : List Bf) (b : Bf) : cnt (l ++ [b]) = cnt l + (b.hi - b.lo + 1) := by
  induction l with
  | nil => simp [cnt]
  | cons x l ih => simp only [List.cons_append, cnt, ih]; omega
theorem ents_sane {l : List Bf} : ∀ x ∈ ents l, sane x = true ∧ x.n = 2 ∧ x ∈ l := by
  intro x hx
  unfold ents at hx
  split at hx
  · rename_i hc
    obtain ⟨h1, h2⟩ := List.mem_filter.1 hx
    exact ⟨((EB.canon_iff l).1 hc).1 x h1, by simpa using h2, h1⟩
  · cases hx
theorem ents_len (l : List Bf) : (ents l).length ≤ l.length := by
  unfold ents
  split
  · exact two_len l
  · exact Nat.zero_le _
theorem cnt_rng {l : List Bf} (h : ∀ x ∈ l, sane x = true) : 0 ≤ cnt l ∧ cnt l ≤ 65536 * l.length := by
  induction l with
  | nil => exact ⟨Int.le_refl _, Int.le_refl _⟩
  | cons x l ih =>
    have i := ih (fun y hy => h y (List.mem_cons_of_mem _ hy))
    have r := rngB (h x List.mem_cons_self)
    simp only [cnt, List.length_cons]
    omega
def SCnt : Sp := ⟨Tbl, fun t => t.bfs.length ≤ 1000000, fun t => [.agg (cT t)], fun t => .st (.int .i64 (cnt (ents t.bfs)))⟩
set_option maxHeartbeats 4000000 in
theorem count : SpOK Tryd.prog 15 SCnt := fun (t : Tbl) hl => by
  have hC : COK Tryd.prog (cfg [(26, SEnts)]) := Ty.ty.cfg ⟨entries, trivial⟩
  have hl : t.bfs.length ≤ 1000000 := hl
  have hel := ents_len t.bfs
  have hes := ents_sane (l := t.bfs)
  ((refine Fn.ofF hC Tryd.func15 Tryd.ntmps15 rfl rfl rfl ?_); (repeat' first | (with_reducible exact trivial) | (with_reducible rfl) | (refine And.intro ?_ ?_) | (refine Need.mk ?_) | exact True.intro | (first | (refine ⟨_, Told.refl _, ?_, ?_⟩) | (refine ⟨⟨_, _⟩, Told.refl _, ?_, ?_⟩) | (refine ⟨⟨_, _, _⟩, Told.refl _, ?_, ?_⟩) | (refine ⟨⟨_, _, _, _⟩, Told.refl _, ?_, ?_⟩) | (refine ⟨⟨_, _, _, _, _⟩, Told.refl _, ?_, ?_⟩) | (refine ⟨(), Told.refl _, ?_, ?_⟩)) | (with_reducible intro _) | (refine fun (_ : Bool) => ?_)))
  · exact hl
  refine AW.loop (I := fun k : Nat => ⟨23, [(3, .int .i64 (cnt ((ents t.bfs).take k))), (7, .own 0), (8, .int .i64 (ents t.bfs).length), (9, .int .i64 k)], [.row 46 4 (ents t.bfs).length (els cBf (ents t.bfs))]⟩) (fun k => k ≤ (ents t.bfs).length) (fun k => (ents t.bfs).length - k) 0 (Nat.zero_le _) ?_ ?_
  · (repeat' first | (with_reducible exact trivial) | (with_reducible rfl) | (refine And.intro ?_ ?_) | (refine Need.mk ?_) | exact True.intro | (first | (refine ⟨_, Told.refl _, ?_, ?_⟩) | (refine ⟨⟨_, _⟩, Told.refl _, ?_, ?_⟩) | (refine ⟨⟨_, _, _⟩, Told.refl _, ?_, ?_⟩) | (refine ⟨⟨_, _, _, _⟩, Told.refl _, ?_, ?_⟩) | (refine ⟨⟨_, _, _, _, _⟩, Told.refl _, ?_, ?_⟩) | (refine ⟨(), Told.refl _, ?_, ?_⟩)) | (with_reducible intro _) | (refine fun (_ : Bool) => ?_))
    all_goals rfl
  · intro k hk
    rcases Nat.lt_or_ge k (ents t.bfs).length with hlt | hge
    · have hd : decide ((k : Int) < ((ents t.bfs).length : Int)) = true := decide_eq_true (by omega)
      have hw := iw (n := (k : Int) + 1) (by omega) (by omega)
      have hx := (hes _ (getMem hlt)).1
      have r := rngB hx
      have hc := cnt_rng (l := (ents t.bfs).take k) (fun x hx => (hes x (List.mem_of_mem_take hx)).1)
      have hcl : ((ents t.bfs).take k).length ≤ 1000000 := by rw [List.length_take]; omega
      have hnx : cnt ((ents t.bfs).take (k + 1)) = cnt ((ents t.bfs).take k) + (((ents t.bfs).getD k default).hi - ((ents t.bfs).getD k default).lo + 1) := by
        rw [List.take_succ_eq_append_getElem hlt, cnt_snoc, getB hlt]
      ((refine AW.byF ‹_› ?_); (repeat' first | (with_reducible exact trivial) | (with_reducible rfl) | (refine And.intro ?_ ?_) | (refine Need.mk ?_) | exact True.intro | (first | (refine ⟨_, Told.refl _, ?_, ?_⟩) | (refine ⟨⟨_, _⟩, Told.refl _, ?_, ?_⟩) | (refine ⟨⟨_, _, _⟩, Told.refl _, ?_, ?_⟩) | (refine ⟨⟨_, _, _, _⟩, Told.refl _, ?_, ?_⟩) | (refine ⟨⟨_, _, _, _, _⟩, Told.refl _, ?_, ?_⟩) | (refine ⟨(), Told.refl _, ?_, ?_⟩)) | (with_reducible intro _) | (refine fun (_ : Bool) => ?_)))
      all_goals first | (exact absurd ‹decide ((k : Int) < ((ents t.bfs).length : Int)) = false› (by rw [hd]; decide)) | skip
      any_goals (refine Exists.intro (k + 1) (And.intro ?_ (And.intro ?_ ?_)); all_goals (repeat' first | (with_reducible exact trivial) | (with_reducible rfl) | (refine And.intro ?_ ?_) | (refine Need.mk ?_) | exact True.intro | (first | (refine ⟨_, Told.refl _, ?_, ?_⟩) | (refine ⟨⟨_, _⟩, Told.refl _, ?_, ?_⟩) | (refine ⟨⟨_, _, _⟩, Told.refl _, ?_, ?_⟩) | (refine ⟨⟨_, _, _, _⟩, Told.refl _, ?_, ?_⟩) | (refine ⟨⟨_, _, _, _, _⟩, Told.refl _, ?_, ?_⟩) | (refine ⟨(), Told.refl _, ?_, ?_⟩)) | (with_reducible intro _) | (refine fun (_ : Bool) => ?_)))
      all_goals try simp only [Int.toNat_natCast] at *
      all_goals first
        | omega
        | (rw [hw]; omega)
        | (rw [hnx, iw (n := ((ents t.bfs).getD k default).hi - ((ents t.bfs).getD k default).lo) (by omega) (by omega), iw (n := ((ents t.bfs).getD k default).hi - ((ents t.bfs).getD k default).lo + 1) (by omega) (by omega), iw (by omega) (by omega)])
    · obtain rfl : k = (ents t.bfs).length := by omega
      have hd : decide (((ents t.bfs).length : Int) < ((ents t.bfs).length : Int)) = false := decide_eq_false (by omega)
      ((refine AW.byF ‹_› ?_); (repeat' first | (with_reducible exact trivial) | (with_reducible rfl) | (refine And.intro ?_ ?_) | (refine Need.mk ?_) | exact True.intro | (first | (refine ⟨_, Told.refl _, ?_, ?_⟩) | (refine ⟨⟨_, _⟩, Told.refl _, ?_, ?_⟩) | (refine ⟨⟨_, _, _⟩, Told.refl _, ?_, ?_⟩) | (refine ⟨⟨_, _, _, _⟩, Told.refl _, ?_, ?_⟩) | (refine ⟨⟨_, _, _, _, _⟩, Told.refl _, ?_, ?_⟩) | (refine ⟨(), Told.refl _, ?_, ?_⟩)) | (with_reducible intro _) | (refine fun (_ : Bool) => ?_)))
      all_goals first | (exact absurd ‹decide (((ents t.bfs).length : Int) < ((ents t.bfs).length : Int)) = true› (by rw [hd]; decide)) | skip
      all_goals rw [List.take_length]
/-- The table by which codes are their numbers. -/
def modeT (w : Int) : Int := if (if 1 < w then 1 else w) > 0 then (if 1 < w then 1 else w) else 0
def nameH : ByteArray := ⟨#[73, 100, 101, 110, 116, 105, 116, 121, 45, 72]⟩
def nameV : ByteArray := ⟨#[73, 100, 101, 110, 116, 105, 116, 121, 45, 86]⟩
def identT (w : Int) : Tbl := ⟨if modeT w = 0 then nameH else nameV, modeT w, [⟨2, 0, 65535⟩], [⟨2, 0, 65535, 0⟩], [], []⟩
theorem modeT_rng (w : Int) : modeT w = 0 ∨ modeT w = 1 := by
  unfold modeT
  repeat' split
  all_goals omega
def SIdent : Sp := ⟨Int, fun _ => True, fun w => [.int .i64 w], fun w => .st (.agg (cT (identT w)))⟩
set_option maxHeartbeats 4000000 in
theorem ident : SpOK Tryd.prog 13 SIdent := fun (w : Int) _ => by
  have hC := base
  have e1 : IntKind.i64.wrap (((2 : Nat) : Int) - 1) = 1 := by decide
  have hraw : (if (if IntKind.i64.wrap (((2 : Nat) : Int) - 1) < w then IntKind.i64.wrap (((2 : Nat) : Int) - 1) else w) > 0 then (if IntKind.i64.wrap (((2 : Nat) : Int) - 1) < w then IntKind.i64.wrap (((2 : Nat) : Int) - 1) else w) else 0) = modeT w := by rw [e1]; rfl
  have hr := modeT_rng w
  ((refine Fn.ofF hC Tryd.func13 Tryd.ntmps13 rfl rfl rfl ?_); (repeat' first | (with_reducible exact trivial) | (with_reducible rfl) | (refine And.intro ?_ ?_) | (refine Need.mk ?_) | exact True.intro | (first | (refine ⟨_, Told.refl _, ?_, ?_⟩) | (refine ⟨⟨_, _⟩, Told.refl _, ?_, ?_⟩) | (refine ⟨⟨_, _, _⟩, Told.refl _, ?_, ?_⟩) | (refine ⟨⟨_, _, _, _⟩, Told.refl _, ?_, ?_⟩) | (refine ⟨⟨_, _, _, _, _⟩, Told.refl _, ?_, ?_⟩) | (refine ⟨(), Told.refl _, ?_, ?_⟩)) | (with_reducible intro _) | (refine fun (_ : Bool) => ?_)))
  · rw [hraw]
    omega
  · rw [hraw]
    omega
  · simp only [hraw]
    have hi : identT w = ⟨if modeT w = 0 then nameH else nameV, modeT w, [⟨2, 0, 65535⟩], [⟨2, 0, 65535, 0⟩], [], []⟩ := rfl
    rcases hr with h | h
    · rw [h] at hi ⊢
      (repeat' first | (with_reducible exact trivial) | (with_reducible rfl) | (refine And.intro ?_ ?_) | (refine Need.mk ?_) | exact True.intro | (first | (refine ⟨_, Told.refl _, ?_, ?_⟩) | (refine ⟨⟨_, _⟩, Told.refl _, ?_, ?_⟩) | (refine ⟨⟨_, _, _⟩, Told.refl _, ?_, ?_⟩) | (refine ⟨⟨_, _, _, _⟩, Told.refl _, ?_, ?_⟩) | (refine ⟨⟨_, _, _, _, _⟩, Told.refl _, ?_, ?_⟩) | (refine ⟨(), Told.refl _, ?_, ?_⟩)) | (with_reducible intro _) | (refine fun (_ : Bool) => ?_))
      all_goals rw [hi]
      all_goals first
        | rfl
        | exact els_of cR_emb (n := 0) (elt_list [(⟨2, 0, 65535⟩ : Rct)]) _ ‹_›
        | exact els_of cSp_emb (n := 0) (elt_list [(⟨2, 0, 65535, 0⟩ : Spn)]) _ ‹_›
    · rw [h] at hi ⊢
      (repeat' first | (with_reducible exact trivial) | (with_reducible rfl) | (refine And.intro ?_ ?_) | (refine Need.mk ?_) | exact True.intro | (first | (refine ⟨_, Told.refl _, ?_, ?_⟩) | (refine ⟨⟨_, _⟩, Told.refl _, ?_, ?_⟩) | (refine ⟨⟨_, _, _⟩, Told.refl _, ?_, ?_⟩) | (refine ⟨⟨_, _, _, _⟩, Told.refl _, ?_, ?_⟩) | (refine ⟨⟨_, _, _, _, _⟩, Told.refl _, ?_, ?_⟩) | (refine ⟨(), Told.refl _, ?_, ?_⟩)) | (with_reducible intro _) | (refine fun (_ : Bool) => ?_))
      all_goals rw [hi]
      all_goals first
        | rfl
        | exact els_of cR_emb (n := 0) (elt_list [(⟨2, 0, 65535⟩ : Rct)]) _ ‹_›
        | exact els_of cSp_emb (n := 0) (elt_list [(⟨2, 0, 65535, 0⟩ : Spn)]) _ ‹_›
/-- Does one lead to some units? -/
def hit (u : List Int) (b : Bf) : Bool := decide (b.to.length = u.length ∧ (∀ j, j < u.length - 1 → b.to.getD j default = u.getD j default) ∧ lastI b.to ≤ lastI u ∧ lastI u - lastI b.to ≤ b.hi - b.lo)
theorem hit_iff (u : List Int) (b : Bf) : hit u b = true ↔ (b.to.length = u.length ∧ (∀ j, j < u.length - 1 → b.to.getD j default = u.getD j default) ∧ lastI b.to ≤ lastI u ∧ lastI u - lastI b.to ≤ b.hi - b.lo) := decide_eq_true_iff
def backE (l : List Bf) (u : List Int) : Option Int := (l.find? (hit u)).map fun b => b.lo + (lastI u - lastI b.to)
theorem backE_none {l : List Bf} {u : List Int} (h : ∀ j, j < l.length → hit u (l.getD j default) = false) : backE l u = none := by
  unfold backE
  rw [List.find?_eq_none.2]
  · rfl
  · intro x hx
    obtain ⟨j, hj, rfl⟩ := List.getElem_of_mem hx
    have := h j hj
    rw [getB hj] at this
    rw [this]
    decide
theorem backE_some {l : List Bf} {u : List Int} {k : Nat} (hk : k < l.length) (h : ∀ j, j < k → hit u (l.getD j default) = false) (hh : hit u (l.getD k default) = true) : backE l u = some ((l.getD k default).lo + (lastI u - lastI (l.getD k default).to)) := by
  unfold backE
  have : l.find? (hit u) = some (l.getD k default) := by
    rw [List.find?_eq_some_iff_append]
    refine ⟨hh, l.take k, l.drop (k + 1), ?_, fun x hx => ?_⟩
    · rw [getB hk, List.getElem_cons_drop, List.take_append_drop]
    · obtain ⟨j, hj, rfl⟩ := List.getElem_of_mem hx
      rw [List.length_take] at hj
      have := h j (by omega)
      rw [getB (by omega)] at this
      rw [List.getElem_take, this]
      rfl
  rw [this]
  rfl
def SBack : Sp := ⟨Tbl × List Int, fun (t, u) => t.bfs.length ≤ 1000000 ∧ u.length < 4611686018427387904 ∧ ∀ x ∈ u, -9223372036854775808 ≤ x ∧ x ≤ 9223372036854775807, fun (t, u) => [.agg (cT t), aI u], fun (t, u) => rI (backE (ents t.bfs) u)⟩
set_option maxHeartbeats 16000000 in
theorem back : SpOK Tryd.prog 14 SBack := fun ⟨t, u⟩ ⟨hl, hul, hu⟩ => by
  have hC : COK Tryd.prog (cfg [(26, SEnts)]) := Ty.ty.cfg ⟨entries, trivial⟩
  have hel := ents_len t.bfs
  have hes := ents_sane (l := t.bfs)
  obtain ⟨E, hE⟩ : ∃ E, E = ents t.bfs := ⟨_, rfl⟩
  have ew := iw (n := (u.length : Int) - 1) (by omega) (by omega)
  ((refine Fn.ofF hC Tryd.func14 Tryd.ntmps14 rfl rfl rfl ?_); (repeat' first | (with_reducible exact trivial) | (with_reducible rfl) | (refine And.intro ?_ ?_) | (refine Need.mk ?_) | exact True.intro | (first | (refine ⟨_, Told.refl _, ?_, ?_⟩) | (refine ⟨⟨_, _⟩, Told.refl _, ?_, ?_⟩) | (refine ⟨⟨_, _, _⟩, Told.refl _, ?_, ?_⟩) | (refine ⟨⟨_, _, _, _⟩, Told.refl _, ?_, ?_⟩) | (refine ⟨⟨_, _, _, _, _⟩, Told.refl _, ?_, ?_⟩) | (refine ⟨(), Told.refl _, ?_, ?_⟩)) | (with_reducible intro _) | (refine fun (_ : Bool) => ?_)))
  refine AW.straight ?_
  ((refine AW.byF ‹_› ?_); (repeat' first | (with_reducible exact trivial) | (with_reducible rfl) | (refine And.intro ?_ ?_) | (refine Need.mk ?_) | exact True.intro | (first | (refine ⟨_, Told.refl _, ?_, ?_⟩) | (refine ⟨⟨_, _⟩, Told.refl _, ?_, ?_⟩) | (refine ⟨⟨_, _, _⟩, Told.refl _, ?_, ?_⟩) | (refine ⟨⟨_, _, _, _⟩, Told.refl _, ?_, ?_⟩) | (refine ⟨⟨_, _, _, _, _⟩, Told.refl _, ?_, ?_⟩) | (refine ⟨(), Told.refl _, ?_, ?_⟩)) | (with_reducible intro _) | (refine fun (_ : Bool) => ?_)))
  · exact hl
  refine AW.loop (I := fun k : Nat => ⟨86, [(1, aI u), (6, .int .i64 ((u.length : Int) - 1)), (15, .own 0), (16, .int .i64 E.length), (17, .int .i64 k)], [.row 46 4 E.length (els cBf E)]⟩) (fun k => k ≤ E.length ∧ ∀ j, j < k → hit u (E.getD j default) = false) (fun k => E.length - k) 0 ⟨Nat.zero_le _, fun j hj => by omega⟩ ?_ ?_
  · clear hel hes
    subst hE
    (repeat' first | (with_reducible exact trivial) | (with_reducible rfl) | (refine And.intro ?_ ?_) | (refine Need.mk ?_) | exact True.intro | (first | (refine ⟨_, Told.refl _, ?_, ?_⟩) | (refine ⟨⟨_, _⟩, Told.refl _, ?_, ?_⟩) | (refine ⟨⟨_, _, _⟩, Told.refl _, ?_, ?_⟩) | (refine ⟨⟨_, _, _, _⟩, Told.refl _, ?_, ?_⟩) | (refine ⟨⟨_, _, _, _, _⟩, Told.refl _, ?_, ?_⟩) | (refine ⟨(), Told.refl _, ?_, ?_⟩)) | (with_reducible intro _) | (refine fun (_ : Bool) => ?_))
    all_goals first | rfl | exact ew
  · intro k ⟨hk, hno⟩
    rw [← hE] at hel hes
    rcases Nat.lt_or_ge k E.length with hlt | hge
    · have hd : decide ((k : Int) < (E.length : Int)) = true := decide_eq_true (by omega)
      have hw := iw (n := (k : Int) + 1) (by omega) (by omega)
      obtain ⟨b, hb⟩ : ∃ b, b = E.getD k default := ⟨_, rfl⟩
      have hbs : sane b = true := by rw [hb]; exact (hes _ (getMem hlt)).1
      have r := rngB hbs
      have hnext : hit u b = false → ∀ j, j < k + 1 → hit u (E.getD j default) = false := fun h => by
        intro j hj
        by_cases e : j = k
        · rw [e, ← hb]; exact h
        · exact hno j (by omega)
      ((refine AW.byF ‹_› ?_); (repeat' first | (with_reducible exact trivial) | (with_reducible rfl) | (refine And.intro ?_ ?_) | (refine Need.mk ?_) | exact True.intro | (first | (refine ⟨_, Told.refl _, ?_, ?_⟩) | (refine ⟨⟨_, _⟩, Told.refl _, ?_, ?_⟩) | (refine ⟨⟨_, _, _⟩, Told.refl _, ?_, ?_⟩) | (refine ⟨⟨_, _, _, _⟩, Told.refl _, ?_, ?_⟩) | (refine ⟨⟨_, _, _, _, _⟩, Told.refl _, ?_, ?_⟩) | (refine ⟨(), Told.refl _, ?_, ?_⟩)) | (with_reducible intro _) | (refine fun (_ : Bool) => ?_)))
      all_goals first | (exact absurd ‹decide ((k : Int) < (E.length : Int)) = false› (by rw [hd]; decide)) | skip
      · omega
      · omega
      · have q := ‹(((E.getD (k : Int).toNat default).to.length : Int) != (u.length : Int)) = true›
        rw [Int.toNat_natCast, ← hb] at q
        have q : b.to.length ≠ u.length := fun e => by rw [e] at q; simp at q
        refine Exists.intro (k + 1) (And.intro ?_ (And.intro ?_ ?_))
        · exact ⟨by omega, hnext (by rw [← Bool.not_eq_true, hit_iff]; exact fun h => q h.1)⟩
        · omega
        · (repeat' first | (with_reducible exact trivial) | (with_reducible rfl) | (refine And.intro ?_ ?_) | (refine Need.mk ?_) | exact True.intro | (first | (refine ⟨_, Told.refl _, ?_, ?_⟩) | (refine ⟨⟨_, _⟩, Told.refl _, ?_, ?_⟩) | (refine ⟨⟨_, _, _⟩, Told.refl _, ?_, ?_⟩) | (refine ⟨⟨_, _, _, _⟩, Told.refl _, ?_, ?_⟩) | (refine ⟨⟨_, _, _, _, _⟩, Told.refl _, ?_, ?_⟩) | (refine ⟨(), Told.refl _, ?_, ?_⟩)) | (with_reducible intro _) | (refine fun (_ : Bool) => ?_))
          all_goals first | rfl | (rw [hw]; omega)
      all_goals
        have q := ‹(((E.getD (k : Int).toNat default).to.length : Int) != (u.length : Int)) = false›
        rw [Int.toNat_natCast, ← hb] at q
        have q : b.to.length = u.length := by simp only [bne_eq_false_iff_eq] at q; omega
      · omega
      · omega
      · rw [Int.toNat_natCast, ← hb]
        omega
      refine AW.loop (I := fun i : Nat => ⟨86, [(1, aI u), (6, .int .i64 ((u.length : Int) - 1)), (8, .ptr 1 0), (15, .own 0), (16, .int .i64 E.length), (17, .int .i64 k), (30, .sl 1 ((u.length : Int) - 1).toNat (fun i => els ci b.to ((0 : Int).toNat + i))), (31, .int .i64 ((u.length : Int) - 1).toNat), (32, .int .i64 i)], [.row 46 4 E.length (els cBf E), .box 46 (cBf b)]⟩) (fun i => i ≤ u.length - 1 ∧ ∀ j, j < i → b.to.getD j default = u.getD j default) (fun i => u.length - 1 - i) 0 ⟨Nat.zero_le _, fun j hj => by omega⟩ ?_ ?_
      · rw [hb]
        (repeat' first | (with_reducible exact trivial) | (with_reducible rfl) | (refine And.intro ?_ ?_) | (refine Need.mk ?_) | exact True.intro | (first | (refine ⟨_, Told.refl _, ?_, ?_⟩) | (refine ⟨⟨_, _⟩, Told.refl _, ?_, ?_⟩) | (refine ⟨⟨_, _, _⟩, Told.refl _, ?_, ?_⟩) | (refine ⟨⟨_, _, _, _⟩, Told.refl _, ?_, ?_⟩) | (refine ⟨⟨_, _, _, _, _⟩, Told.refl _, ?_, ?_⟩) | (refine ⟨(), Told.refl _, ?_, ?_⟩)) | (with_reducible intro _) | (refine fun (_ : Bool) => ?_))
        all_goals first | rfl | (rw [Int.sub_zero]; done)
      · intro i ⟨hi, heq⟩
        have hw2 := iw (n := (i : Int) + 1) (by omega) (by omega)
        have en : ((u.length : Int) - 1).toNat = u.length - 1 := by omega
        have ez : ∀ i : Nat, (0 : Int).toNat + (i : Int).toNat = i := fun i => by simp
        rcases Nat.lt_or_ge i (u.length - 1) with hlt2 | hge2
        · have hd2 : decide ((i : Int) < (((u.length : Int) - 1).toNat : Int)) = true := decide_eq_true (by omega)
          ((refine AW.byF ‹_› ?_); (repeat' first | (with_reducible exact trivial) | (with_reducible rfl) | (refine And.intro ?_ ?_) | (refine Need.mk ?_) | exact True.intro | (first | (refine ⟨_, Told.refl _, ?_, ?_⟩) | (refine ⟨⟨_, _⟩, Told.refl _, ?_, ?_⟩) | (refine ⟨⟨_, _, _⟩, Told.refl _, ?_, ?_⟩) | (refine ⟨⟨_, _, _, _⟩, Told.refl _, ?_, ?_⟩) | (refine ⟨⟨_, _, _, _, _⟩, Told.refl _, ?_, ?_⟩) | (refine ⟨(), Told.refl _, ?_, ?_⟩)) | (with_reducible intro _) | (refine fun (_ : Bool) => ?_)))
          all_goals first | (exact absurd ‹decide ((i : Int) < (((u.length : Int) - 1).toNat : Int)) = false› (by rw [hd2]; decide)) | skip
          all_goals first | omega | skip
          · have q2 := ‹(b.to.getD ((0 : Int).toNat + (i : Int).toNat) default != u.getD (i : Int).toNat default) = true›
            rw [ez, Int.toNat_natCast] at q2
            have q2 : b.to.getD i default ≠ u.getD i default := fun e => by rw [e] at q2; simp at q2
            refine Exists.intro (k + 1) (And.intro ?_ (And.intro ?_ ?_))
            · exact ⟨by omega, hnext (by rw [← Bool.not_eq_true, hit_iff]; exact fun h => q2 (h.2.1 i hlt2))⟩
            · omega
            · (repeat' first | (with_reducible exact trivial) | (with_reducible rfl) | (refine And.intro ?_ ?_) | (refine Need.mk ?_) | exact True.intro | (first | (refine ⟨_, Told.refl _, ?_, ?_⟩) | (refine ⟨⟨_, _⟩, Told.refl _, ?_, ?_⟩) | (refine ⟨⟨_, _, _⟩, Told.refl _, ?_, ?_⟩) | (refine ⟨⟨_, _, _, _⟩, Told.refl _, ?_, ?_⟩) | (refine ⟨⟨_, _, _, _, _⟩, Told.refl _, ?_, ?_⟩) | (refine ⟨(), Told.refl _, ?_, ?_⟩)) | (with_reducible intro _) | (refine fun (_ : Bool) => ?_))
              all_goals first | rfl | (rw [hw]; omega)
          · have q2 := ‹(b.to.getD ((0 : Int).toNat + (i : Int).toNat) default != u.getD (i : Int).toNat default) = false›
            rw [ez, Int.toNat_natCast] at q2
            have q2 : b.to.getD i default = u.getD i default := by simpa using q2
            refine Exists.intro (i + 1) (And.intro ?_ (And.intro ?_ ?_))
            · refine ⟨by omega, fun j hj => ?_⟩
              by_cases e : j = i
              · rw [e]; exact q2
              · exact heq j (by omega)
            · omega
            · (repeat' first | (with_reducible exact trivial) | (with_reducible rfl) | (refine And.intro ?_ ?_) | (refine Need.mk ?_) | exact True.intro | (first | (refine ⟨_, Told.refl _, ?_, ?_⟩) | (refine ⟨⟨_, _⟩, Told.refl _, ?_, ?_⟩) | (refine ⟨⟨_, _, _⟩, Told.refl _, ?_, ?_⟩) | (refine ⟨⟨_, _, _, _⟩, Told.refl _, ?_, ?_⟩) | (refine ⟨⟨_, _, _, _, _⟩, Told.refl _, ?_, ?_⟩) | (refine ⟨(), Told.refl _, ?_, ?_⟩)) | (with_reducible intro _) | (refine fun (_ : Bool) => ?_))
              all_goals first | rfl | (rw [hw2]; omega)
        · obtain rfl : i = u.length - 1 := by omega
          have hd2 : decide (((u.length - 1 : Nat) : Int) < (((u.length : Int) - 1).toNat : Int)) = false := decide_eq_false (by omega)
          have eu : u.getD ((u.length : Int) - 1).toNat default = lastI u := by rw [en]; rfl
          have eb : b.to.getD ((u.length : Int) - 1).toNat default = lastI b.to := by rw [en, ← q]; rfl
          have hub := hu (lastI u) (lastI_mem (by omega))
          ((refine AW.byF ‹_› ?_); (repeat' first | (with_reducible exact trivial) | (with_reducible rfl) | (refine And.intro ?_ ?_) | (refine Need.mk ?_) | exact True.intro | (first | (refine ⟨_, Told.refl _, ?_, ?_⟩) | (refine ⟨⟨_, _⟩, Told.refl _, ?_, ?_⟩) | (refine ⟨⟨_, _, _⟩, Told.refl _, ?_, ?_⟩) | (refine ⟨⟨_, _, _, _⟩, Told.refl _, ?_, ?_⟩) | (refine ⟨⟨_, _, _, _, _⟩, Told.refl _, ?_, ?_⟩) | (refine ⟨(), Told.refl _, ?_, ?_⟩)) | (with_reducible intro _) | (refine fun (_ : Bool) => ?_)))
          all_goals first | (exact absurd ‹decide (((u.length - 1 : Nat) : Int) < (((u.length : Int) - 1).toNat : Int)) = true› (by rw [hd2]; decide)) | skip
          all_goals first | omega | skip
          all_goals try simp only [eu, eb] at *
          · have q2 := of_decide_eq_true ‹decide (lastI u < lastI b.to) = true›
            refine Exists.intro (k + 1) (And.intro ?_ (And.intro ?_ ?_))
            · exact ⟨by omega, hnext (by rw [← Bool.not_eq_true, hit_iff]; exact fun h => by have := h.2.2.1; omega)⟩
            · omega
            · (repeat' first | (with_reducible exact trivial) | (with_reducible rfl) | (refine And.intro ?_ ?_) | (refine Need.mk ?_) | exact True.intro | (first | (refine ⟨_, Told.refl _, ?_, ?_⟩) | (refine ⟨⟨_, _⟩, Told.refl _, ?_, ?_⟩) | (refine ⟨⟨_, _, _⟩, Told.refl _, ?_, ?_⟩) | (refine ⟨⟨_, _, _, _⟩, Told.refl _, ?_, ?_⟩) | (refine ⟨⟨_, _, _, _, _⟩, Told.refl _, ?_, ?_⟩) | (refine ⟨(), Told.refl _, ?_, ?_⟩)) | (with_reducible intro _) | (refine fun (_ : Bool) => ?_))
              all_goals first | rfl | (rw [hw]; omega)
          all_goals first | omega | skip
          all_goals
            have q2 := of_decide_eq_false ‹decide (lastI u < lastI b.to) = false›
            have w1 := iw (n := lastI u - lastI b.to) (by omega) (by omega)
            have w2 := iw (n := b.hi - b.lo) (by omega) (by omega)
          · have q3 := of_decide_eq_true ‹decide (IntKind.i64.wrap (lastI u - lastI b.to) > IntKind.i64.wrap (b.hi - b.lo)) = true›
            rw [w1, w2] at q3
            refine Exists.intro (k + 1) (And.intro ?_ (And.intro ?_ ?_))
            · exact ⟨by omega, hnext (by rw [← Bool.not_eq_true, hit_iff]; exact fun h => by have := h.2.2.2; omega)⟩
            · omega
            · (repeat' first | (with_reducible exact trivial) | (with_reducible rfl) | (refine And.intro ?_ ?_) | (refine Need.mk ?_) | exact True.intro | (first | (refine ⟨_, Told.refl _, ?_, ?_⟩) | (refine ⟨⟨_, _⟩, Told.refl _, ?_, ?_⟩) | (refine ⟨⟨_, _, _⟩, Told.refl _, ?_, ?_⟩) | (refine ⟨⟨_, _, _, _⟩, Told.refl _, ?_, ?_⟩) | (refine ⟨⟨_, _, _, _, _⟩, Told.refl _, ?_, ?_⟩) | (refine ⟨(), Told.refl _, ?_, ?_⟩)) | (with_reducible intro _) | (refine fun (_ : Bool) => ?_))
              all_goals first | rfl | (rw [hw]; omega)
          all_goals first | omega | skip
          all_goals
            have q3 := of_decide_eq_false ‹decide (IntKind.i64.wrap (lastI u - lastI b.to) > IntKind.i64.wrap (b.hi - b.lo)) = false›
            rw [w1, w2] at q3
            have hh : hit u b = true := (hit_iff u b).2 ⟨q, heq, by omega, by omega⟩
            have hB := backE_some hlt hno (by rw [← hb]; exact hh)
            rw [← hb] at hB
            rw [← hE, hB]
          · rw [iw (n := b.lo + lastI u) (by omega) (by omega), iw (by omega) (by omega)]
            show b.lo + lastI u - lastI b.to = b.lo + (lastI u - lastI b.to)
            omega
          · rfl
    · obtain rfl : k = E.length := by omega
      have hd : decide ((E.length : Int) < (E.length : Int)) = false := decide_eq_false (by omega)
      ((refine AW.byF ‹_› ?_); (repeat' first | (with_reducible exact trivial) | (with_reducible rfl) | (refine And.intro ?_ ?_) | (refine Need.mk ?_) | exact True.intro | (first | (refine ⟨_, Told.refl _, ?_, ?_⟩) | (refine ⟨⟨_, _⟩, Told.refl _, ?_, ?_⟩) | (refine ⟨⟨_, _, _⟩, Told.refl _, ?_, ?_⟩) | (refine ⟨⟨_, _, _, _⟩, Told.refl _, ?_, ?_⟩) | (refine ⟨⟨_, _, _, _, _⟩, Told.refl _, ?_, ?_⟩) | (refine ⟨(), Told.refl _, ?_, ?_⟩)) | (with_reducible intro _) | (refine fun (_ : Bool) => ?_)))
      all_goals first | (exact absurd ‹decide ((E.length : Int) < (E.length : Int)) = true› (by rw [hd]; decide)) | skip
      all_goals (rw [← hE, backE_none hno]; rfl)
end Go.Abs.Coll
