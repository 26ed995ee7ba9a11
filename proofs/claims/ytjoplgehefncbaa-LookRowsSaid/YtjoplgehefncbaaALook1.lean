/- Layer 12: the laws' words; LookKinds. -/
import Derived.Test.YtjoplgehefncbaaALookT
set_option linter.all false
set_option maxRecDepth 100000
namespace Go.Abs.Lk
open Go.RowKit Go.Proofs Go.Abs.Tab Go.Abs.Dest Go.Abs.Span Go.Abs.Coll Go.Abs.Hx Go.Abs.Mt Go.Abs.Utf Go.Abs.Txt
theorem aL_refl {α : Type} [Inhabited α] {f : α → List AV} {sz : Nat} (hf : Emb f sz) (l : List α) : sub0 (aL f sz l) (aL f sz l) := by
  show cond (Nat.beq sz sz) _ False
  rw [Nat.beq_refl]
  exact ⟨⟨rfl⟩, els_of hf (n := 0) (fun _ _ => rfl)⟩
theorem aL_lit {α : Type} [Inhabited α] {f : α → List AV} {sz : Nat} (hf : Emb f sz) (l : List α) : sub0 (aL f sz l) (.sl sz l.length (elt (l.map f))) := (lit_sub hf l).1
set_option maxHeartbeats 4000000 in
theorem table12 : SpOK Try.prog 9 STab := fun (t : Tbl) _ => by
  have hC := base
  ((refine Fn.ofF hC Try.func9 Try.ntmps9 rfl rfl rfl ?_); (repeat' first | (with_reducible exact trivial) | (with_reducible rfl) | (refine And.intro ?_ ?_) | (refine Need.mk ?_) | exact True.intro | (first | (refine ⟨_, Told.refl _, ?_, ?_⟩) | (refine ⟨⟨_, _⟩, Told.refl _, ?_, ?_⟩) | (refine ⟨⟨_, _, _⟩, Told.refl _, ?_, ?_⟩) | (refine ⟨⟨_, _, _, _⟩, Told.refl _, ?_, ?_⟩) | (refine ⟨⟨_, _, _, _, _⟩, Told.refl _, ?_, ?_⟩) | (refine ⟨(), Told.refl _, ?_, ?_⟩)) | (with_reducible intro _) | (refine fun (_ : Bool) => ?_)))
def SAwakeL : Sp := ⟨Unit, fun _ => True, fun _ => [], fun _ => .st (.lit true)⟩
def tL : Tbl := ⟨ByteArray.empty, 0, [⟨1, 0, 255⟩], [⟨1, 65, 66, 7⟩], [], [⟨1, 65, 65, [913]⟩]⟩
def SLookA (L : List Sg) : Sp := ⟨Unit, fun _ => True, fun _ => [.agg (cT tL), a8 [65, 66]], fun _ => .row 40 9 L.length (els cG L)⟩
set_option maxHeartbeats 16000000 in
theorem awake12 : SpOK Try.prog 6 SAwakeL := fun _ _ => by
  obtain ⟨L, hL⟩ : ∃ L, L = sgs tL [65, 66] := ⟨_, rfl⟩
  have hA : SpOK Try.prog 8 (SLookA L) := fun _ _ => by
    have := look (tL, [65, 66]) ⟨⟨by decide, by decide, by decide, by decide⟩, by decide, fun x hx => by
      simp only [List.mem_cons, List.not_mem_nil, or_false] at hx
      rcases hx with rfl | rfl <;> decide⟩
    rw [hL]
    exact this
  have hC : COK Try.prog (cfg [(8, SLookA L), (10, STxtS)]) := Ty.ty.cfg ⟨hA, lookText, trivial⟩
  have h0 : (sgs tL [65, 66]).length = 2 := by decide +kernel
  have h1 : ((sgs tL [65, 66]).getD 0 default).has = true := by decide +kernel
  have h2 : ((sgs tL [65, 66]).getD 0 default).cid = 7 := by decide +kernel
  have h3 : ((sgs tL [65, 66]).getD 0 default).kind = 1 := by decide +kernel
  have h4 : ((sgs tL [65, 66]).getD 1 default).has = false := by decide +kernel
  have h5 : ((sgs tL [65, 66]).getD 1 default).cid = 8 := by decide +kernel
  have h6 : (txtS 63 (sgs tL [65, 66]) == (⟨#[206, 145, 63]⟩ : ByteArray)) = true := by decide +kernel
  have h7 : ∀ s ∈ sgs tL [65, 66], s.u.length ≤ 1000000 := by decide +kernel
  rw [beq_toListBytes] at h6
  rw [← hL] at h0 h1 h2 h3 h4 h5 h6 h7
  ((refine Fn.ofF hC Try.func6 Try.ntmps6 rfl rfl rfl ?_); (repeat' first | (with_reducible exact trivial) | (with_reducible rfl) | (refine And.intro ?_ ?_) | (refine Need.mk ?_) | exact True.intro | (first | (refine ⟨_, Told.refl _, ?_, ?_⟩) | (refine ⟨⟨_, _⟩, Told.refl _, ?_, ?_⟩) | (refine ⟨⟨_, _, _⟩, Told.refl _, ?_, ?_⟩) | (refine ⟨⟨_, _, _, _⟩, Told.refl _, ?_, ?_⟩) | (refine ⟨⟨_, _, _, _, _⟩, Told.refl _, ?_, ?_⟩) | (refine ⟨(), Told.refl _, ?_, ?_⟩)) | (with_reducible intro _) | (refine fun (_ : Bool) => ?_)))
  refine Exists.intro () (And.intro (Told.of ?_) (And.intro ?_ ?_))
  · refine ⟨⟨⟨rfl⟩, ⟨rfl⟩, aL_lit cR_emb [⟨1, 0, 255⟩], aL_lit cSp_emb [⟨1, 65, 66, 7⟩], ⟨rfl⟩, ⟨⟨rfl⟩, fun i hi => ?_⟩, trivial⟩, aL_lit c8_emb [65, 66], trivial⟩
    have hi : i < 1 := hi
    obtain rfl : i = 0 := by omega
    exact ⟨⟨rfl⟩, ⟨rfl⟩, ⟨rfl⟩, aL_lit ci_emb [913], trivial⟩
  · trivial
  (repeat' first | (with_reducible exact trivial) | (with_reducible rfl) | (refine And.intro ?_ ?_) | (refine Need.mk ?_) | exact True.intro | (first | (refine ⟨_, Told.refl _, ?_, ?_⟩) | (refine ⟨⟨_, _⟩, Told.refl _, ?_, ?_⟩) | (refine ⟨⟨_, _, _⟩, Told.refl _, ?_, ?_⟩) | (refine ⟨⟨_, _, _, _⟩, Told.refl _, ?_, ?_⟩) | (refine ⟨⟨_, _, _, _, _⟩, Told.refl _, ?_, ?_⟩) | (refine ⟨(), Told.refl _, ?_, ?_⟩)) | (with_reducible intro _) | (refine fun (_ : Bool) => ?_))
  all_goals first
    | omega
    | exact h7 _ ‹_›
    | exact h6
    | (exact absurd ‹((L.length : Int) == 2) = false› (by rw [h0]; decide))
    | (exact absurd ‹(L.getD (Int.toNat 0) default).has = false› (by rw [show (L.getD (Int.toNat 0) default).has = true from h1]; decide))
    | (exact absurd ‹((L.getD (Int.toNat 0) default).cid == 7) = false› (by rw [show (L.getD (Int.toNat 0) default).cid = 7 from h2]; decide))
    | (exact absurd ‹((L.getD (Int.toNat 0) default).kind == 1) = false› (by rw [show (L.getD (Int.toNat 0) default).kind = 1 from h3]; decide))
    | (exact absurd ‹(!(L.getD (Int.toNat 1) default).has) = false› (by rw [show (L.getD (Int.toNat 1) default).has = false from h4]; decide))
    | (exact absurd ‹((L.getD (Int.toNat 1) default).cid == 8) = false› (by rw [show (L.getD (Int.toNat 1) default).cid = 8 from h5]; decide))
theorem findS_nil (st : Bool) (n v : Int) : (ES st).find [] n v = none := by
  unfold En.find
  split <;> rfl
def SKinds : Sp := ⟨Tbl × Int × Int, fun _ => True, fun (t, n, v) => [.agg (cT t), aCode n v], fun _ => .st (.lit true)⟩
set_option maxHeartbeats 16000000 in
theorem lookKinds : SpOK Try.prog 4 SKinds := fun ⟨t, n, v⟩ _ => by
  have hC : COK Try.prog (cfg [(6, SAwakeL), (7, SFewT), (9, STab), (11, SNum)]) := Ty.ty.cfg ⟨awake12, rfewT, table12, num, trivial⟩
  have hf : (!fewT t) = false → t.cids.length ≤ 60 ∧ t.nots.length ≤ 60 := fun h => by
    have := (fewT_iff t).1 (by simpa using h)
    exact ⟨this.1.2.2.1, this.1.2.2.2⟩
  ((refine Fn.ofF hC Try.func4 Try.ntmps4 rfl rfl rfl ?_); (repeat' first | (with_reducible exact trivial) | (with_reducible rfl) | (refine And.intro ?_ ?_) | (refine Need.mk ?_) | exact True.intro | (first | (refine ⟨_, Told.refl _, ?_, ?_⟩) | (refine ⟨⟨_, _⟩, Told.refl _, ?_, ?_⟩) | (refine ⟨⟨_, _, _⟩, Told.refl _, ?_, ?_⟩) | (refine ⟨⟨_, _, _, _⟩, Told.refl _, ?_, ?_⟩) | (refine ⟨⟨_, _, _, _, _⟩, Told.refl _, ?_, ?_⟩) | (refine ⟨(), Told.refl _, ?_, ?_⟩)) | (with_reducible intro _) | (refine fun (_ : Bool) => ?_)))
  all_goals have hf := hf ‹_›
  · omega
  · omega
  obtain ⟨X, hX⟩ : ∃ X, X = numT t n v := ⟨_, rfl⟩
  obtain ⟨Y, hY⟩ : ∃ Y, Y = numT ⟨t.name, t.wmode, t.spaces, t.cids, [], t.bfs⟩ n v := ⟨_, rfl⟩
  obtain ⟨Z, hZ⟩ : ∃ Z, Z = numT ⟨t.name, t.wmode, t.spaces, [], t.nots, t.bfs⟩ n v := ⟨_, rfl⟩
  obtain ⟨W, hW⟩ : ∃ W, W = numT ⟨ByteArray.empty, 0, [], [], [], []⟩ n v := ⟨_, rfl⟩
  have law : (W.1 = 0 ∧ W.2 = 0) ∧ Y.2 ≠ 2 ∧ Z.2 ≠ 1 ∧ (X.2 = 0 → X.1 = 0) ∧ (Y.2 = 1 → X.2 = 1 ∧ X.1 = Y.1) ∧ (Y.2 ≠ 1 → X.2 = Z.2 ∧ X.1 = Z.1) := by
    rw [hX, hY, hZ, hW]
    unfold numT
    simp only [findS_nil]
    cases h1 : (ES true).find t.cids n v <;> cases h2 : (ES false).find t.nots n v <;> simp
  refine Exists.intro (⟨t.name, t.wmode, t.spaces, t.cids, [], t.bfs⟩, n, v) (And.intro (Told.of ?_) (And.intro ?_ ?_))
  · exact ⟨⟨⟨rfl⟩, ⟨rfl⟩, aL_refl cR_emb _, aL_refl cSp_emb _, ⟨rfl⟩, aL_refl cBf_emb _, trivial⟩, ⟨⟨rfl⟩, ⟨rfl⟩, trivial⟩, trivial⟩
  · exact ⟨by show t.cids.length < _; omega, by show 0 < 4611686018427387904; omega⟩
  (repeat' first | (with_reducible exact trivial) | (with_reducible rfl) | (refine And.intro ?_ ?_) | (refine Need.mk ?_) | exact True.intro | (first | (refine ⟨_, Told.refl _, ?_, ?_⟩) | (refine ⟨⟨_, _⟩, Told.refl _, ?_, ?_⟩) | (refine ⟨⟨_, _, _⟩, Told.refl _, ?_, ?_⟩) | (refine ⟨⟨_, _, _, _⟩, Told.refl _, ?_, ?_⟩) | (refine ⟨⟨_, _, _, _, _⟩, Told.refl _, ?_, ?_⟩) | (refine ⟨(), Told.refl _, ?_, ?_⟩)) | (with_reducible intro _) | (refine fun (_ : Bool) => ?_))
  refine Exists.intro (⟨t.name, t.wmode, t.spaces, [], t.nots, t.bfs⟩, n, v) (And.intro (Told.of ?_) (And.intro ?_ ?_))
  · exact ⟨⟨⟨rfl⟩, ⟨rfl⟩, aL_refl cR_emb _, ⟨rfl⟩, aL_refl cSp_emb _, aL_refl cBf_emb _, trivial⟩, ⟨⟨rfl⟩, ⟨rfl⟩, trivial⟩, trivial⟩
  · exact ⟨by show 0 < 4611686018427387904; omega, by show t.nots.length < _; omega⟩
  (repeat' first | (with_reducible exact trivial) | (with_reducible rfl) | (refine And.intro ?_ ?_) | (refine Need.mk ?_) | exact True.intro | (first | (refine ⟨_, Told.refl _, ?_, ?_⟩) | (refine ⟨⟨_, _⟩, Told.refl _, ?_, ?_⟩) | (refine ⟨⟨_, _, _⟩, Told.refl _, ?_, ?_⟩) | (refine ⟨⟨_, _, _, _⟩, Told.refl _, ?_, ?_⟩) | (refine ⟨⟨_, _, _, _, _⟩, Told.refl _, ?_, ?_⟩) | (refine ⟨(), Told.refl _, ?_, ?_⟩)) | (with_reducible intro _) | (refine fun (_ : Bool) => ?_))
  refine Exists.intro (⟨ByteArray.empty, 0, [], [], [], []⟩, n, v) (And.intro (Told.of ?_) (And.intro ?_ ?_))
  · exact ⟨⟨⟨rfl⟩, ⟨rfl⟩, ⟨rfl⟩, ⟨rfl⟩, ⟨rfl⟩, ⟨rfl⟩, trivial⟩, ⟨⟨rfl⟩, ⟨rfl⟩, trivial⟩, trivial⟩
  · exact ⟨by decide, by decide⟩
  rw [← hX]
  (repeat' first | (with_reducible exact trivial) | (with_reducible rfl) | (refine And.intro ?_ ?_) | (refine Need.mk ?_) | exact True.intro | (first | (refine ⟨_, Told.refl _, ?_, ?_⟩) | (refine ⟨⟨_, _⟩, Told.refl _, ?_, ?_⟩) | (refine ⟨⟨_, _, _⟩, Told.refl _, ?_, ?_⟩) | (refine ⟨⟨_, _, _, _⟩, Told.refl _, ?_, ?_⟩) | (refine ⟨⟨_, _, _, _, _⟩, Told.refl _, ?_, ?_⟩) | (refine ⟨(), Told.refl _, ?_, ?_⟩)) | (with_reducible intro _) | (refine fun (_ : Bool) => ?_))
  all_goals
    (simp only [← hY, ← hZ, ← hW, beq_iff_eq, beq_eq_false_iff_ne, bne_iff_ne, bne_eq_false_iff_eq, ne_eq, Decidable.not_not] at *)
    first
      | omega
      | (exfalso; omega)
end Go.Abs.Lk
