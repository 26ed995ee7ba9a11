/- Several texts of this claim, merged (ASemIsX). -/
import Derived.Test.YtpkgkdcfolmbhaaGreatARefX
import Derived.Test.YtpkgkdcfolmbhaaGreatASemXa
set_option linter.all false
set_option maxRecDepth 100000
namespace Go.Abs.Sm
open Go.RowKit Go.Proofs Go.Abs.Tab Go.Abs.Dest Go.Abs.Span Go.Abs.Coll Go.Abs.Hx Go.Abs.Mt Go.Abs.Rc
set_option maxHeartbeats 4000000 in
theorem rsane09 : SpOK Tryz.prog 25 SSaneT := fun (t : Tbl) ⟨h1, h2, h3, h4⟩ => by
  have hC : COK Tryz.prog (cfg [(47, SCanR), (35, SSameR), (48, SCanonS), (49, SCanon)]) := Ty.ty.cfg ⟨rcanonR, rsameR, rcanonS, rcanon, trivial⟩
  have hl := canR_len t.spaces
  ((refine Fn.ofF hC Tryz.func25 Tryz.ntmps25 rfl rfl rfl ?_); (repeat' first | (with_reducible exact trivial) | (with_reducible rfl) | (refine And.intro ?_ ?_) | (refine Need.mk ?_) | exact True.intro | (first | (refine ⟨_, Told.refl _, ?_, ?_⟩) | (refine ⟨⟨_, _⟩, Told.refl _, ?_, ?_⟩) | (refine ⟨⟨_, _, _⟩, Told.refl _, ?_, ?_⟩) | (refine ⟨⟨_, _, _, _⟩, Told.refl _, ?_, ?_⟩) | (refine ⟨⟨_, _, _, _, _⟩, Told.refl _, ?_, ?_⟩) | (refine ⟨(), Told.refl _, ?_, ?_⟩)) | (with_reducible intro _) | (refine fun (_ : Bool) => ?_)))
  any_goals exact h1
  any_goals exact h2
  any_goals exact h3
  any_goals exact h4
  any_goals (show (canR t.spaces).length < 9223372036854775807; omega)
  all_goals unfold saneT
  all_goals simp_all
set_option maxHeartbeats 8000000 in
theorem rbfs : SpOK Tryz.prog 93 SBfsOf := fun (e : Ent) hl => by
  have hC := base
  have hl : e.l.length ≤ 1000000 := hl
  by_cases h0 : e.l.length = 0
  · show Fn _ _ _ (.row 73 4 (bfsE e).length (els cBf (bfsE e)))
    rw [show bfsE e = [⟨e.ln, e.lv, e.hv, e.u⟩] from if_pos h0]
    have hd : ((e.l.length : Int) == 0) = true := by rw [beq_iff_eq]; omega
    ((refine Fn.ofF hC Tryz.func93 Tryz.ntmps93 rfl rfl rfl ?_); (repeat' first | (with_reducible exact trivial) | (with_reducible rfl) | (refine And.intro ?_ ?_) | (refine Need.mk ?_) | exact True.intro | (first | (refine ⟨_, Told.refl _, ?_, ?_⟩) | (refine ⟨⟨_, _⟩, Told.refl _, ?_, ?_⟩) | (refine ⟨⟨_, _, _⟩, Told.refl _, ?_, ?_⟩) | (refine ⟨⟨_, _, _, _⟩, Told.refl _, ?_, ?_⟩) | (refine ⟨⟨_, _, _, _, _⟩, Told.refl _, ?_, ?_⟩) | (refine ⟨(), Told.refl _, ?_, ?_⟩)) | (with_reducible intro _) | (refine fun (_ : Bool) => ?_)))
    all_goals first
      | rfl
      | (exfalso; simp_all; done)
      | (rename_i i hi
         exact els_of cBf_emb (l := [(⟨e.ln, e.lv, e.hv, e.u⟩ : Bf)]) (n := 0) (elt_list [(⟨e.ln, e.lv, e.hv, e.u⟩ : Bf)]) i hi)
      | (exact absurd ‹((e.l.length : Int) == 0) = false› (by rw [hd]; decide))
  · show Fn _ _ _ (.row 73 4 (bfsE e).length (els cBf (bfsE e)))
    rw [show bfsE e = bfN e e.l.length from if_neg h0]
    have hd : ((e.l.length : Int) == 0) = false := by rw [beq_eq_false_iff_ne]; omega
    ((refine Fn.ofF hC Tryz.func93 Tryz.ntmps93 rfl rfl rfl ?_); (repeat' first | (with_reducible exact trivial) | (with_reducible rfl) | (refine And.intro ?_ ?_) | (refine Need.mk ?_) | exact True.intro | (first | (refine ⟨_, Told.refl _, ?_, ?_⟩) | (refine ⟨⟨_, _⟩, Told.refl _, ?_, ?_⟩) | (refine ⟨⟨_, _, _⟩, Told.refl _, ?_, ?_⟩) | (refine ⟨⟨_, _, _, _⟩, Told.refl _, ?_, ?_⟩) | (refine ⟨⟨_, _, _, _, _⟩, Told.refl _, ?_, ?_⟩) | (refine ⟨(), Told.refl _, ?_, ?_⟩)) | (with_reducible intro _) | (refine fun (_ : Bool) => ?_)))
    all_goals first | (exact absurd ‹((e.l.length : Int) == 0) = true› (by rw [hd]; decide)) | skip
    refine AW.loop (I := fun k : Nat => ⟨52, [(1, .ptr 0 0), (3, .own 1), (4, .int .i64 k)], [.box 71 (cE e), .row 73 4 (bfN e k).length (els cBf (bfN e k))]⟩) (fun k => k ≤ e.l.length) (fun k => e.l.length - k) 0 (Nat.zero_le _) ?_ ?_
    · (repeat' first | (with_reducible exact trivial) | (with_reducible rfl) | (refine And.intro ?_ ?_) | (refine Need.mk ?_) | exact True.intro | (first | (refine ⟨_, Told.refl _, ?_, ?_⟩) | (refine ⟨⟨_, _⟩, Told.refl _, ?_, ?_⟩) | (refine ⟨⟨_, _, _⟩, Told.refl _, ?_, ?_⟩) | (refine ⟨⟨_, _, _, _⟩, Told.refl _, ?_, ?_⟩) | (refine ⟨⟨_, _, _, _, _⟩, Told.refl _, ?_, ?_⟩) | (refine ⟨(), Told.refl _, ?_, ?_⟩)) | (with_reducible intro _) | (refine fun (_ : Bool) => ?_))
      all_goals rfl
    · intro k hk
      have hml := bfN_len e k
      rcases Nat.lt_or_ge k e.l.length with hlt | hge
      · have hd : decide ((k : Int) < (e.l.length : Int)) = true := decide_eq_true (by omega)
        have hw := iw (n := (k : Int) + 1) (by omega) (by omega)
        have hnx := bfN_next e k
        ((refine AW.byF ‹_› ?_); (repeat' first | (with_reducible exact trivial) | (with_reducible rfl) | (refine And.intro ?_ ?_) | (refine Need.mk ?_) | exact True.intro | (first | (refine ⟨_, Told.refl _, ?_, ?_⟩) | (refine ⟨⟨_, _⟩, Told.refl _, ?_, ?_⟩) | (refine ⟨⟨_, _, _⟩, Told.refl _, ?_, ?_⟩) | (refine ⟨⟨_, _, _, _⟩, Told.refl _, ?_, ?_⟩) | (refine ⟨⟨_, _, _, _, _⟩, Told.refl _, ?_, ?_⟩) | (refine ⟨(), Told.refl _, ?_, ?_⟩)) | (with_reducible intro _) | (refine fun (_ : Bool) => ?_)))
        all_goals first | (exact absurd ‹decide ((k : Int) < (e.l.length : Int)) = false› (by rw [hd]; decide)) | skip
        any_goals (refine Exists.intro ((k + 1 : Nat)) (And.intro ?_ (And.intro ?_ ?_)); all_goals (repeat' first | (with_reducible exact trivial) | (with_reducible rfl) | (refine And.intro ?_ ?_) | (refine Need.mk ?_) | exact True.intro | (first | (refine ⟨_, Told.refl _, ?_, ?_⟩) | (refine ⟨⟨_, _⟩, Told.refl _, ?_, ?_⟩) | (refine ⟨⟨_, _, _⟩, Told.refl _, ?_, ?_⟩) | (refine ⟨⟨_, _, _, _⟩, Told.refl _, ?_, ?_⟩) | (refine ⟨⟨_, _, _, _, _⟩, Told.refl _, ?_, ?_⟩) | (refine ⟨(), Told.refl _, ?_, ?_⟩)) | (with_reducible intro _) | (refine fun (_ : Bool) => ?_)))
        all_goals try simp only [Int.toNat_natCast] at *
        all_goals first
          | omega
          | (rw [hw]; rfl)
          | (rw [hnx, List.length_append]; rfl)
          | (rename_i z hz
             rw [hnx] at hz ⊢
             exact els_of cBf_emb (n := 0) (cat_snoc rfl) z hz)
      · obtain rfl : k = e.l.length := by omega
        have hd : decide ((e.l.length : Int) < (e.l.length : Int)) = false := decide_eq_false (by omega)
        ((refine AW.byF ‹_› ?_); (repeat' first | (with_reducible exact trivial) | (with_reducible rfl) | (refine And.intro ?_ ?_) | (refine Need.mk ?_) | exact True.intro | (first | (refine ⟨_, Told.refl _, ?_, ?_⟩) | (refine ⟨⟨_, _⟩, Told.refl _, ?_, ?_⟩) | (refine ⟨⟨_, _, _⟩, Told.refl _, ?_, ?_⟩) | (refine ⟨⟨_, _, _, _⟩, Told.refl _, ?_, ?_⟩) | (refine ⟨⟨_, _, _, _, _⟩, Told.refl _, ?_, ?_⟩) | (refine ⟨(), Told.refl _, ?_, ?_⟩)) | (with_reducible intro _) | (refine fun (_ : Bool) => ?_)))
        all_goals first | (exact absurd ‹decide ((e.l.length : Int) < (e.l.length : Int)) = true› (by rw [hd]; decide)) | skip
/-! ### What an item lists, so far -/
def spK (t : Tbl) (x : Itm) (k : Nat) : List Rct := t.spaces ++ (if x.kind = 2 then (x.ents.take k).map rectE else [])
def ciK (t : Tbl) (x : Itm) (k : Nat) : List Spn := t.cids ++ (if x.kind = 3 ∨ x.kind = 4 then (x.ents.take k).map spanE else [])
def noK (t : Tbl) (x : Itm) (k : Nat) : List Spn := t.nots ++ (if x.kind = 5 ∨ x.kind = 6 then (x.ents.take k).map spanE else [])
def bfKK (t : Tbl) (x : Itm) (k : Nat) : List Bf := t.bfs ++ (if x.kind = 7 ∨ x.kind = 8 then (x.ents.take k).flatMap bfsE else [])
theorem sp0 (t : Tbl) (x : Itm) : spK t x 0 = t.spaces := by unfold spK; split <;> simp
theorem ci0 (t : Tbl) (x : Itm) : ciK t x 0 = t.cids := by unfold ciK; split <;> simp
theorem no0 (t : Tbl) (x : Itm) : noK t x 0 = t.nots := by unfold noK; split <;> simp
theorem bf0 (t : Tbl) (x : Itm) : bfKK t x 0 = t.bfs := by unfold bfKK; split <;> simp
theorem spE (t : Tbl) (x : Itm) : spK t x x.ents.length = (listT t x).spaces := by unfold spK listT rectsX; rw [List.take_length]
theorem ciE (t : Tbl) (x : Itm) : ciK t x x.ents.length = (listT t x).cids := by unfold ciK listT cidsX; rw [List.take_length]
theorem noE (t : Tbl) (x : Itm) : noK t x x.ents.length = (listT t x).nots := by unfold noK listT notsX; rw [List.take_length]
theorem bfE (t : Tbl) (x : Itm) : bfKK t x x.ents.length = (listT t x).bfs := by unfold bfKK listT bfsX; rw [List.take_length]
theorem spY {t : Tbl} {x : Itm} {k : Nat} (hk : k < x.ents.length) (h : x.kind = 2) : spK t x (k + 1) = spK t x k ++ [rectE (x.ents.getD k default)] := by
  unfold spK
  rw [if_pos h, if_pos h, take_nextG hk, List.map_append, List.append_assoc]
  rfl
theorem ciY {t : Tbl} {x : Itm} {k : Nat} (hk : k < x.ents.length) (h : x.kind = 3 ∨ x.kind = 4) : ciK t x (k + 1) = ciK t x k ++ [spanE (x.ents.getD k default)] := by
  unfold ciK
  rw [if_pos h, if_pos h, take_nextG hk, List.map_append, List.append_assoc]
  rfl
theorem noY {t : Tbl} {x : Itm} {k : Nat} (hk : k < x.ents.length) (h : x.kind = 5 ∨ x.kind = 6) : noK t x (k + 1) = noK t x k ++ [spanE (x.ents.getD k default)] := by
  unfold noK
  rw [if_pos h, if_pos h, take_nextG hk, List.map_append, List.append_assoc]
  rfl
theorem bfY {t : Tbl} {x : Itm} {k : Nat} (hk : k < x.ents.length) (h : x.kind = 7 ∨ x.kind = 8) : bfKK t x (k + 1) = bfKK t x k ++ bfsE (x.ents.getD k default) := by
  unfold bfKK
  rw [if_pos h, if_pos h, take_nextG hk, List.flatMap_append, List.append_assoc]
  simp
theorem spNo {t : Tbl} {x : Itm} (k m : Nat) (h : ¬ x.kind = 2) : spK t x k = spK t x m := by unfold spK; rw [if_neg h, if_neg h]
theorem ciNo {t : Tbl} {x : Itm} (k m : Nat) (h : ¬ (x.kind = 3 ∨ x.kind = 4)) : ciK t x k = ciK t x m := by unfold ciK; rw [if_neg h, if_neg h]
theorem noNo {t : Tbl} {x : Itm} (k m : Nat) (h : ¬ (x.kind = 5 ∨ x.kind = 6)) : noK t x k = noK t x m := by unfold noK; rw [if_neg h, if_neg h]
theorem bfNo {t : Tbl} {x : Itm} (k m : Nat) (h : ¬ (x.kind = 7 ∨ x.kind = 8)) : bfKK t x k = bfKK t x m := by unfold bfKK; rw [if_neg h, if_neg h]
theorem spL (t : Tbl) (x : Itm) (k : Nat) : (spK t x k).length ≤ t.spaces.length + x.ents.length := by
  unfold spK
  rw [List.length_append]
  split
  · rw [List.length_map, List.length_take]; omega
  · simp
theorem ciL (t : Tbl) (x : Itm) (k : Nat) : (ciK t x k).length ≤ t.cids.length + x.ents.length := by
  unfold ciK
  rw [List.length_append]
  split
  · rw [List.length_map, List.length_take]; omega
  · simp
theorem noL (t : Tbl) (x : Itm) (k : Nat) : (noK t x k).length ≤ t.nots.length + x.ents.length := by
  unfold noK
  rw [List.length_append]
  split
  · rw [List.length_map, List.length_take]; omega
  · simp
theorem flatB (l : List Ent) (k : Nat) : ((l.take k).flatMap bfsE).length ≤ (l.flatMap bfsE).length := by
  have h : (l.take k).flatMap bfsE ++ (l.drop k).flatMap bfsE = l.flatMap bfsE := by rw [← List.flatMap_append, List.take_append_drop]
  rw [← h, List.length_append]
  omega
theorem bfL (t : Tbl) (x : Itm) (k : Nat) : (bfKK t x k).length ≤ t.bfs.length + (x.ents.flatMap bfsE).length := by
  unfold bfKK
  rw [List.length_append]
  have := flatB x.ents k
  split
  · omega
  · simp
theorem entL {x : Itm} {k : Nat} (hk : k < x.ents.length) : (x.ents.getD k default).l.length ≤ (x.ents.flatMap bfsE).length := by
  have h1 := bfsE_len (x.ents.getD k default)
  have h2 : (bfsE (x.ents.getD k default)).length ≤ (x.ents.flatMap bfsE).length := by
    have e : (x.ents.take (k + 1)).flatMap bfsE = (x.ents.take k).flatMap bfsE ++ bfsE (x.ents.getD k default) := by
      rw [take_nextG hk, List.flatMap_append]
      simp
    have := flatB x.ents (k + 1)
    rw [e, List.length_append] at this
    omega
  split at h1 <;> omega
theorem entB {x : Itm} {k : Nat} (hk : k < x.ents.length) : (bfsE (x.ents.getD k default)).length ≤ (x.ents.flatMap bfsE).length := by
  have e : (x.ents.take (k + 1)).flatMap bfsE = (x.ents.take k).flatMap bfsE ++ bfsE (x.ents.getD k default) := by
    rw [take_nextG hk, List.flatMap_append]
    simp
  have := flatB x.ents (k + 1)
  rw [e, List.length_append] at this
  omega
theorem nameY {n : ByteArray} {x : Itm} (h0 : x.kind = 0) (h1 : x.name = nameK) (h2 : x.tk = 2) : x.ts = nameX n x := by unfold nameX; rw [if_pos ⟨h0, h1, h2⟩]
theorem nameN {n : ByteArray} {x : Itm} (h : ¬ (x.kind = 0 ∧ x.name = nameK ∧ x.tk = 2)) : n = nameX n x := by unfold nameX; rw [if_neg (fun q => h ⟨q.1, q.2.1, q.2.2⟩)]
theorem modeY {n : Int} {x : Itm} (h0 : x.kind = 0) (h1 : x.name = modeK) (h2 : x.tk = 1) (h3 : x.tn = 0 ∨ x.tn = 1) : x.tn = modeX n x := by unfold modeX; rw [if_pos ⟨h0, h1, h2, h3⟩]
theorem modeN {n : Int} {x : Itm} (h : ¬ (x.kind = 0 ∧ x.name = modeK ∧ x.tk = 1 ∧ (x.tn = 0 ∨ x.tn = 1))) : n = modeX n x := by unfold modeX; rw [if_neg (fun q => h ⟨q.1, q.2.1, q.2.2.1, q.2.2.2⟩)]

theorem modeN2 {n : Int} {x : Itm} (h0 : (x.tn == 0) = false) (h1 : (x.tn == 1) = false) : n = modeX n x := modeN fun q => by
  rcases q.2.2.2 with r | r
  · exact absurd (beq_iff_eq.2 r) (by rw [h0]; decide)
  · exact absurd (beq_iff_eq.2 r) (by rw [h1]; decide)
theorem aw_into {P : Program} {T : World → Prop} {c : Code} {Q : Exit → ASt → Prop} {st st' : ASt} (h : Into st st') (k : AW P T c Q st') : AW P T c Q st := fun G a w hs => k G a w (into_ok h hs)
theorem cutAW {P : Program} {T : World → Prop} {c : Code} {Q : Exit → ASt → Prop} {st : ASt} {R : Prop} (h : AW P T c Q st → R) (k : AW P T c Q st) : R := h k
theorem cat00 {α : Type} {f : α → List AV} [Inhabited α] (l : List α) (i : Nat) : catEl 0 (elt []) (els f l) i = els f l i := by
  unfold catEl
  rfl
set_option maxHeartbeats 32000000 in
theorem rlist : SpOK Tryz.prog 46 SList := fun ⟨t, x⟩ ⟨⟨h1, h2, h3, h4⟩, h5, h6⟩ => by
  have hC : COK Tryz.prog (cfg [(93, SBfsOf)]) := Ty.ty.cfg ⟨rbfs, trivial⟩
  have h1 : t.spaces.length ≤ 1000000 := h1
  have h2 : t.cids.length ≤ 1000000 := h2
  have h3 : t.nots.length ≤ 1000000 := h3
  have h4 : t.bfs.length ≤ 1000000 := h4
  have h5 : x.ents.length ≤ 1000000 := h5
  have h6 : (x.ents.flatMap bfsE).length ≤ 1000000 := h6
  have q1 : (x.name.toList == nameK.toList) = true ↔ x.name = nameK := str_eq _ _
  have q2 : (x.name.toList == modeK.toList) = true ↔ x.name = modeK := str_eq _ _
  have q3 : (x.name.toList == nameK.toList) = false ↔ x.name ≠ nameK := str_ne _ _
  have q4 : (x.name.toList == modeK.toList) = false ↔ x.name ≠ modeK := str_ne _ _
  have q5 : nameK ≠ modeK := fun e => absurd (congrArg ByteArray.size e) (by decide)
  show Fn _ _ _ (.st (.agg (cT (listT t x))))
  apply cutAW (P := Tryz.prog) (T := fun _ => True) (st := (⟨147, [(2, .ptr 0 0), (3, .ptr 1 0), (4, .ptr 2 0), (5, .own 3), (6, .own 4), (7, .own 5), (8, .own 6), (9, .int .i64 ((0 : Nat) : Int))], [.box 26 [.str (nameX t.name x), .int .i64 (modeX t.wmode x), aR t.spaces, aS t.cids, aS t.nots, aB t.bfs], .box 51 (cX x), .box 26 (cT T0), .row 64 3 (spK t x 0).length (els cR (spK t x 0)), .row 83 4 (ciK t x 0).length (els cSp (ciK t x 0)), .row 83 4 (noK t x 0).length (els cSp (noK t x 0)), .row 73 4 (bfKK t x 0).length (els cBf (bfKK t x 0))]⟩))
  · intro key
    ((refine Fn.ofF hC Tryz.func46 Tryz.ntmps46 rfl rfl rfl ?_); (repeat' first | (with_reducible exact trivial) | (with_reducible rfl) | (refine And.intro ?_ ?_) | (refine Need.mk ?_) | exact True.intro | (first | (refine ⟨_, Told.refl _, ?_, ?_⟩) | (refine ⟨⟨_, _⟩, Told.refl _, ?_, ?_⟩) | (refine ⟨⟨_, _, _⟩, Told.refl _, ?_, ?_⟩) | (refine ⟨⟨_, _, _, _⟩, Told.refl _, ?_, ?_⟩) | (refine ⟨⟨_, _, _, _, _⟩, Told.refl _, ?_, ?_⟩) | (refine ⟨(), Told.refl _, ?_, ?_⟩)) | (with_reducible intro _) | (refine fun (_ : Bool) => ?_)))
    all_goals first
      | exact absurd ((q1.1 ‹_›).symm.trans (q2.1 ‹_›)) q5
      | exact absurd ‹(x.kind == 0) = true› (by rw [‹(x.kind == 0) = false›]; decide)
      | (show (0 + t.spaces.length) * 24 ≤ 140737488355328; omega)
      | (show (0 + t.cids.length) * 32 ≤ 140737488355328; omega)
      | (show (0 + t.nots.length) * 32 ≤ 140737488355328; omega)
      | (show (0 + t.bfs.length) * 48 ≤ 140737488355328; omega)
      | skip
    all_goals
      (refine aw_into ?_ key
       clear key
       (repeat' first | (with_reducible exact trivial) | (with_reducible rfl) | (refine And.intro ?_ ?_) | (refine Need.mk ?_) | exact True.intro | (first | (refine ⟨_, Told.refl _, ?_, ?_⟩) | (refine ⟨⟨_, _⟩, Told.refl _, ?_, ?_⟩) | (refine ⟨⟨_, _, _⟩, Told.refl _, ?_, ?_⟩) | (refine ⟨⟨_, _, _, _⟩, Told.refl _, ?_, ?_⟩) | (refine ⟨⟨_, _, _, _, _⟩, Told.refl _, ?_, ?_⟩) | (refine ⟨(), Told.refl _, ?_, ?_⟩)) | (with_reducible intro _) | (refine fun (_ : Bool) => ?_))
       all_goals first
         | with_reducible rfl
         | exact nameY (by simpa using ‹(x.kind == 0) = true›) (q1.1 ‹_›) (by simpa using ‹(x.tk == 2) = true›)
         | exact modeY (by simpa using ‹(x.kind == 0) = true›) (q2.1 ‹_›) (by simpa using ‹(x.tk == 1) = true›) (Or.inl (by simpa using ‹(x.tn == 0) = true›))
         | exact modeY (by simpa using ‹(x.kind == 0) = true›) (q2.1 ‹_›) (by simpa using ‹(x.tk == 1) = true›) (Or.inr (by simpa using ‹(x.tn == 1) = true›))
         | exact nameN (fun q => absurd (beq_iff_eq.2 q.1) (by rw [‹(x.kind == 0) = false›]; decide))
         | exact nameN (fun q => absurd (beq_iff_eq.2 q.2.2) (by rw [‹(x.tk == 2) = false›]; decide))
         | exact nameN (fun q => q3.1 ‹_› q.2.1)
         | exact modeN (fun q => absurd (beq_iff_eq.2 q.1) (by rw [‹(x.kind == 0) = false›]; decide))
         | exact modeN (fun q => absurd (beq_iff_eq.2 q.2.2.1) (by rw [‹(x.tk == 1) = false›]; decide))
         | exact modeN2 ‹(x.tn == 0) = false› ‹(x.tn == 1) = false›
         | exact modeN (fun q => q4.1 ‹_› q.2.1)
         | (unfold T0; rfl)
         | exact (rfl : (0 : Int) = ((0 : Nat) : Int))
         | (rw [sp0, Nat.zero_add]; done)
         | (rw [sp0, Nat.sub_zero]; done)
         | (rw [ci0, Nat.zero_add]; done)
         | (rw [ci0, Nat.sub_zero]; done)
         | (rw [no0, Nat.zero_add]; done)
         | (rw [no0, Nat.sub_zero]; done)
         | (rw [bf0, Nat.zero_add]; done)
         | (rw [bf0, Nat.sub_zero]; done)
         | (rename_i z hz; rw [sp0] at hz ⊢; rw [cat00]; exact els_of cR_emb (n := 0) (fun _ _ => rfl) z hz)
         | (rename_i z hz; rw [ci0] at hz ⊢; rw [cat00]; exact els_of cSp_emb (n := 0) (fun _ _ => rfl) z hz)
         | (rename_i z hz; rw [no0] at hz ⊢; rw [cat00]; exact els_of cSp_emb (n := 0) (fun _ _ => rfl) z hz)
         | (rename_i z hz; rw [bf0] at hz ⊢; rw [cat00]; exact els_of cBf_emb (n := 0) (fun _ _ => rfl) z hz)
         | skip)
  · refine AW.loop (I := fun k : Nat => ⟨147, [(2, .ptr 0 0), (3, .ptr 1 0), (4, .ptr 2 0), (5, .own 3), (6, .own 4), (7, .own 5), (8, .own 6), (9, .int .i64 k)], [.box 26 [.str (nameX t.name x), .int .i64 (modeX t.wmode x), aR t.spaces, aS t.cids, aS t.nots, aB t.bfs], .box 51 (cX x), .box 26 (cT T0), .row 64 3 (spK t x k).length (els cR (spK t x k)), .row 83 4 (ciK t x k).length (els cSp (ciK t x k)), .row 83 4 (noK t x k).length (els cSp (noK t x k)), .row 73 4 (bfKK t x k).length (els cBf (bfKK t x k))]⟩) (fun k => k ≤ x.ents.length) (fun k => x.ents.length - k) 0 (Nat.zero_le _) ?_ ?_
    · (repeat' first | (with_reducible exact trivial) | (with_reducible rfl) | (refine And.intro ?_ ?_) | (refine Need.mk ?_) | exact True.intro | (first | (refine ⟨_, Told.refl _, ?_, ?_⟩) | (refine ⟨⟨_, _⟩, Told.refl _, ?_, ?_⟩) | (refine ⟨⟨_, _, _⟩, Told.refl _, ?_, ?_⟩) | (refine ⟨⟨_, _, _, _⟩, Told.refl _, ?_, ?_⟩) | (refine ⟨⟨_, _, _, _, _⟩, Told.refl _, ?_, ?_⟩) | (refine ⟨(), Told.refl _, ?_, ?_⟩)) | (with_reducible intro _) | (refine fun (_ : Bool) => ?_))
      all_goals first
        | with_reducible rfl
        | rfl
    · intro k hk
      have l1 := spL t x k
      have l2 := ciL t x k
      have l3 := noL t x k
      have l4 := bfL t x k
      rcases Nat.lt_or_ge k x.ents.length with hlt | hge
      · have hd : decide ((k : Int) < (x.ents.length : Int)) = true := decide_eq_true (by omega)
        have hw := iw (n := (k : Int) + 1) (by omega) (by omega)
        have l5 := entL hlt
        have l7 := entB hlt
        have l6 := flatB x.ents (k + 1)
        ((refine AW.byF ‹_› ?_); (repeat' first | (with_reducible exact trivial) | (with_reducible rfl) | (refine And.intro ?_ ?_) | (refine Need.mk ?_) | exact True.intro | (first | (refine ⟨_, Told.refl _, ?_, ?_⟩) | (refine ⟨⟨_, _⟩, Told.refl _, ?_, ?_⟩) | (refine ⟨⟨_, _, _⟩, Told.refl _, ?_, ?_⟩) | (refine ⟨⟨_, _, _, _⟩, Told.refl _, ?_, ?_⟩) | (refine ⟨⟨_, _, _, _, _⟩, Told.refl _, ?_, ?_⟩) | (refine ⟨(), Told.refl _, ?_, ?_⟩)) | (with_reducible intro _) | (refine fun (_ : Bool) => ?_)))
        all_goals first | (exact absurd ‹decide ((k : Int) < (x.ents.length : Int)) = false› (by rw [hd]; decide)) | skip
        any_goals (first | (refine Exists.intro ((k + 1 : Nat)) (And.intro ?_ (And.intro ?_ ?_)); all_goals (repeat' first | (with_reducible exact trivial) | (with_reducible rfl) | (refine And.intro ?_ ?_) | (refine Need.mk ?_) | exact True.intro | (first | (refine ⟨_, Told.refl _, ?_, ?_⟩) | (refine ⟨⟨_, _⟩, Told.refl _, ?_, ?_⟩) | (refine ⟨⟨_, _, _⟩, Told.refl _, ?_, ?_⟩) | (refine ⟨⟨_, _, _, _⟩, Told.refl _, ?_, ?_⟩) | (refine ⟨⟨_, _, _, _, _⟩, Told.refl _, ?_, ?_⟩) | (refine ⟨(), Told.refl _, ?_, ?_⟩)) | (with_reducible intro _) | (refine fun (_ : Bool) => ?_))) | fail)
        all_goals try simp only [Int.toNat_natCast] at *
        all_goals first
          | omega
          | (rw [hw]; rfl)
          | (show (x.ents.getD k default).l.length ≤ 1000000; omega)
          | (have hK : x.kind = 2 := by simpa using ‹(x.kind == 2) = true›
             have e1 := spY (t := t) hlt hK
             have e2 := ciNo (t := t) (x := x) (k + 1) k (by omega)
             have e3 := noNo (t := t) (x := x) (k + 1) k (by omega)
             have e4 := bfNo (t := t) (x := x) (k + 1) k (by omega)
             first
               | (rw [e1, List.length_append]; first | done | rfl)
               | (rename_i z hz; rw [e1] at hz ⊢; exact els_of cR_emb (n := 0) (cat_snoc rfl) z hz)
               | (simp only [e1, e2, e3, e4]; done))
          | (have hK : x.kind = 3 := by simpa using ‹(x.kind == 3) = true›
             have e1 := spNo (t := t) (x := x) (k + 1) k (by omega)
             have e2 := ciY (t := t) hlt (Or.inl hK)
             have e3 := noNo (t := t) (x := x) (k + 1) k (by omega)
             have e4 := bfNo (t := t) (x := x) (k + 1) k (by omega)
             first
               | (rw [e2, List.length_append]; first | done | rfl)
               | (rename_i z hz; rw [e2] at hz ⊢; exact els_of cSp_emb (n := 0) (cat_snoc rfl) z hz)
               | (simp only [e1, e2, e3, e4]; done))
          | (have hK : x.kind = 4 := by simpa using ‹(x.kind == 4) = true›
             have e1 := spNo (t := t) (x := x) (k + 1) k (by omega)
             have e2 := ciY (t := t) hlt (Or.inr hK)
             have e3 := noNo (t := t) (x := x) (k + 1) k (by omega)
             have e4 := bfNo (t := t) (x := x) (k + 1) k (by omega)
             first
               | (rw [e2, List.length_append]; first | done | rfl)
               | (rename_i z hz; rw [e2] at hz ⊢; exact els_of cSp_emb (n := 0) (cat_snoc rfl) z hz)
               | (simp only [e1, e2, e3, e4]; done))
          | (have hK : x.kind = 5 := by simpa using ‹(x.kind == 5) = true›
             have e1 := spNo (t := t) (x := x) (k + 1) k (by omega)
             have e2 := ciNo (t := t) (x := x) (k + 1) k (by omega)
             have e3 := noY (t := t) hlt (Or.inl hK)
             have e4 := bfNo (t := t) (x := x) (k + 1) k (by omega)
             first
               | (rw [e3, List.length_append]; first | done | rfl)
               | (rename_i z hz; rw [e3] at hz ⊢; exact els_of cSp_emb (n := 0) (cat_snoc rfl) z hz)
               | (simp only [e1, e2, e3, e4]; done))
          | (have hK : x.kind = 6 := by simpa using ‹(x.kind == 6) = true›
             have e1 := spNo (t := t) (x := x) (k + 1) k (by omega)
             have e2 := ciNo (t := t) (x := x) (k + 1) k (by omega)
             have e3 := noY (t := t) hlt (Or.inr hK)
             have e4 := bfNo (t := t) (x := x) (k + 1) k (by omega)
             first
               | (rw [e3, List.length_append]; first | done | rfl)
               | (rename_i z hz; rw [e3] at hz ⊢; exact els_of cSp_emb (n := 0) (cat_snoc rfl) z hz)
               | (simp only [e1, e2, e3, e4]; done))
          | (have hK : x.kind = 7 := by simpa using ‹(x.kind == 7) = true›
             have e1 := spNo (t := t) (x := x) (k + 1) k (by omega)
             have e2 := ciNo (t := t) (x := x) (k + 1) k (by omega)
             have e3 := noNo (t := t) (x := x) (k + 1) k (by omega)
             have e4 := bfY (t := t) hlt (Or.inl hK)
             first
               | (rw [e4, List.length_append]; first | done | rfl)
               | (rename_i z hz; rw [e4] at hz ⊢; exact els_of cBf_emb (n := 0) (cat_app rfl) z hz)
               | (simp only [e1, e2, e3, e4]; done))
          | (have hK : x.kind = 8 := by simpa using ‹(x.kind == 8) = true›
             have e1 := spNo (t := t) (x := x) (k + 1) k (by omega)
             have e2 := ciNo (t := t) (x := x) (k + 1) k (by omega)
             have e3 := noNo (t := t) (x := x) (k + 1) k (by omega)
             have e4 := bfY (t := t) hlt (Or.inr hK)
             first
               | (rw [e4, List.length_append]; first | done | rfl)
               | (rename_i z hz; rw [e4] at hz ⊢; exact els_of cBf_emb (n := 0) (cat_app rfl) z hz)
               | (simp only [e1, e2, e3, e4]; done))
          | (have n2 : x.kind ≠ 2 := by simpa using ‹(x.kind == 2) = false›
             have n3 : x.kind ≠ 3 := by simpa using ‹(x.kind == 3) = false›
             have n4 : x.kind ≠ 4 := by simpa using ‹(x.kind == 4) = false›
             have n5 : x.kind ≠ 5 := by simpa using ‹(x.kind == 5) = false›
             have n6 : x.kind ≠ 6 := by simpa using ‹(x.kind == 6) = false›
             have n7 : x.kind ≠ 7 := by simpa using ‹(x.kind == 7) = false›
             have n8 : x.kind ≠ 8 := by simpa using ‹(x.kind == 8) = false›
             have e1 := spNo (t := t) (x := x) (k + 1) k (by omega)
             have e2 := ciNo (t := t) (x := x) (k + 1) k (by omega)
             have e3 := noNo (t := t) (x := x) (k + 1) k (by omega)
             have e4 := bfNo (t := t) (x := x) (k + 1) k (by omega)
             first
               | (simp only [e1, e2, e3, e4]; done))
          | skip
      · obtain rfl : k = x.ents.length := by omega
        have hd : decide ((x.ents.length : Int) < (x.ents.length : Int)) = false := decide_eq_false (by omega)
        rw [spE, ciE, noE, bfE]
        ((refine AW.byF ‹_› ?_); (repeat' first | (with_reducible exact trivial) | (with_reducible rfl) | (refine And.intro ?_ ?_) | (refine Need.mk ?_) | exact True.intro | (first | (refine ⟨_, Told.refl _, ?_, ?_⟩) | (refine ⟨⟨_, _⟩, Told.refl _, ?_, ?_⟩) | (refine ⟨⟨_, _, _⟩, Told.refl _, ?_, ?_⟩) | (refine ⟨⟨_, _, _, _⟩, Told.refl _, ?_, ?_⟩) | (refine ⟨⟨_, _, _, _, _⟩, Told.refl _, ?_, ?_⟩) | (refine ⟨(), Told.refl _, ?_, ?_⟩)) | (with_reducible intro _) | (refine fun (_ : Bool) => ?_)))
        all_goals first | (exact absurd ‹decide ((x.ents.length : Int) < (x.ents.length : Int)) = true› (by rw [hd]; decide)) | skip
        all_goals first
          | exact (rfl : nameX t.name x = (listT t x).name)
          | exact (rfl : modeX t.wmode x = (listT t x).wmode)
          | rfl
end Go.Abs.Sm
set_option maxRecDepth 100000
namespace Go.Abs.Sm
open Go.RowKit Go.Proofs Go.Abs.Tab Go.Abs.Dest Go.Abs.Span Go.Abs.Coll Go.Abs.Hx Go.Abs.Mt Go.Abs.Rc
theorem rbC : COK Tryz.prog (cfg [(47, SCanR), (91, SBuildRS), (92, SBuildR)]) := Ty.ty.cfg ⟨rcanonR, rbuildS, Dest.rbuild, trivial⟩
set_option maxHeartbeats 16000000 in
theorem rbuilt : SpOK Tryz.prog 45 SBuilt := fun ⟨t, k⟩ h => by
  have hC := rbC
  obtain ⟨h1, h2, h3, h4⟩ : few6 t := h
  show Fn _ _ _ (.st (.agg (cT (builtT t k))))
  have hk : (k = 2 ∨ k = 3 ∨ k = 4 ∨ k = 5 ∨ k = 6 ∨ k = 7 ∨ k = 8) ∨ (k ≠ 2 ∧ k ≠ 3 ∧ k ≠ 4 ∧ k ≠ 5 ∧ k ≠ 6 ∧ k ≠ 7 ∧ k ≠ 8) := by omega
  rcases hk with (hk | hk | hk | hk | hk | hk | hk) | ⟨k2, k3, k4, k5, k6, k7, k8⟩
  · rw [show builtT t k = ⟨t.name, t.wmode, canR t.spaces, t.cids, t.nots, t.bfs⟩ by unfold builtT; simp [hk]]
    ((refine Fn.ofF hC Tryz.func45 Tryz.ntmps45 rfl rfl rfl ?_); (repeat' first | (with_reducible exact trivial) | (with_reducible rfl) | (refine And.intro ?_ ?_) | (refine Need.mk ?_) | exact True.intro | (first | (refine ⟨_, Told.refl _, ?_, ?_⟩) | (refine ⟨⟨_, _⟩, Told.refl _, ?_, ?_⟩) | (refine ⟨⟨_, _, _⟩, Told.refl _, ?_, ?_⟩) | (refine ⟨⟨_, _, _, _⟩, Told.refl _, ?_, ?_⟩) | (refine ⟨⟨_, _, _, _, _⟩, Told.refl _, ?_, ?_⟩) | (refine ⟨(), Told.refl _, ?_, ?_⟩)) | (with_reducible intro _) | (refine fun (_ : Bool) => ?_)))
    all_goals first
      | rfl
      | (exfalso; simp only [beq_iff_eq, beq_eq_false_iff_ne, ne_eq] at *; omega)
      | exact h1
      | (show t.cids.length ≤ 10000000; omega)
      | (show t.nots.length ≤ 10000000; omega)
      | (show t.bfs.length ≤ 10000000; omega)
  · rw [show builtT t k = ⟨t.name, t.wmode, t.spaces, (ES true).build t.cids, t.nots, t.bfs⟩ by unfold builtT; simp [hk]]
    ((refine Fn.ofF hC Tryz.func45 Tryz.ntmps45 rfl rfl rfl ?_); (repeat' first | (with_reducible exact trivial) | (with_reducible rfl) | (refine And.intro ?_ ?_) | (refine Need.mk ?_) | exact True.intro | (first | (refine ⟨_, Told.refl _, ?_, ?_⟩) | (refine ⟨⟨_, _⟩, Told.refl _, ?_, ?_⟩) | (refine ⟨⟨_, _, _⟩, Told.refl _, ?_, ?_⟩) | (refine ⟨⟨_, _, _, _⟩, Told.refl _, ?_, ?_⟩) | (refine ⟨⟨_, _, _, _, _⟩, Told.refl _, ?_, ?_⟩) | (refine ⟨(), Told.refl _, ?_, ?_⟩)) | (with_reducible intro _) | (refine fun (_ : Bool) => ?_)))
    all_goals first
      | rfl
      | (exfalso; simp only [beq_iff_eq, beq_eq_false_iff_ne, ne_eq] at *; omega)
      | exact h1
      | (show t.cids.length ≤ 10000000; omega)
      | (show t.nots.length ≤ 10000000; omega)
      | (show t.bfs.length ≤ 10000000; omega)
  · rw [show builtT t k = ⟨t.name, t.wmode, t.spaces, (ES true).build t.cids, t.nots, t.bfs⟩ by unfold builtT; simp [hk]]
    ((refine Fn.ofF hC Tryz.func45 Tryz.ntmps45 rfl rfl rfl ?_); (repeat' first | (with_reducible exact trivial) | (with_reducible rfl) | (refine And.intro ?_ ?_) | (refine Need.mk ?_) | exact True.intro | (first | (refine ⟨_, Told.refl _, ?_, ?_⟩) | (refine ⟨⟨_, _⟩, Told.refl _, ?_, ?_⟩) | (refine ⟨⟨_, _, _⟩, Told.refl _, ?_, ?_⟩) | (refine ⟨⟨_, _, _, _⟩, Told.refl _, ?_, ?_⟩) | (refine ⟨⟨_, _, _, _, _⟩, Told.refl _, ?_, ?_⟩) | (refine ⟨(), Told.refl _, ?_, ?_⟩)) | (with_reducible intro _) | (refine fun (_ : Bool) => ?_)))
    all_goals first
      | rfl
      | (exfalso; simp only [beq_iff_eq, beq_eq_false_iff_ne, ne_eq] at *; omega)
      | exact h1
      | (show t.cids.length ≤ 10000000; omega)
      | (show t.nots.length ≤ 10000000; omega)
      | (show t.bfs.length ≤ 10000000; omega)
  · rw [show builtT t k = ⟨t.name, t.wmode, t.spaces, t.cids, (ES false).build t.nots, t.bfs⟩ by unfold builtT; simp [hk]]
    ((refine Fn.ofF hC Tryz.func45 Tryz.ntmps45 rfl rfl rfl ?_); (repeat' first | (with_reducible exact trivial) | (with_reducible rfl) | (refine And.intro ?_ ?_) | (refine Need.mk ?_) | exact True.intro | (first | (refine ⟨_, Told.refl _, ?_, ?_⟩) | (refine ⟨⟨_, _⟩, Told.refl _, ?_, ?_⟩) | (refine ⟨⟨_, _, _⟩, Told.refl _, ?_, ?_⟩) | (refine ⟨⟨_, _, _, _⟩, Told.refl _, ?_, ?_⟩) | (refine ⟨⟨_, _, _, _, _⟩, Told.refl _, ?_, ?_⟩) | (refine ⟨(), Told.refl _, ?_, ?_⟩)) | (with_reducible intro _) | (refine fun (_ : Bool) => ?_)))
    all_goals first
      | rfl
      | (exfalso; simp only [beq_iff_eq, beq_eq_false_iff_ne, ne_eq] at *; omega)
      | exact h1
      | (show t.cids.length ≤ 10000000; omega)
      | (show t.nots.length ≤ 10000000; omega)
      | (show t.bfs.length ≤ 10000000; omega)
  · rw [show builtT t k = ⟨t.name, t.wmode, t.spaces, t.cids, (ES false).build t.nots, t.bfs⟩ by unfold builtT; simp [hk]]
    ((refine Fn.ofF hC Tryz.func45 Tryz.ntmps45 rfl rfl rfl ?_); (repeat' first | (with_reducible exact trivial) | (with_reducible rfl) | (refine And.intro ?_ ?_) | (refine Need.mk ?_) | exact True.intro | (first | (refine ⟨_, Told.refl _, ?_, ?_⟩) | (refine ⟨⟨_, _⟩, Told.refl _, ?_, ?_⟩) | (refine ⟨⟨_, _, _⟩, Told.refl _, ?_, ?_⟩) | (refine ⟨⟨_, _, _, _⟩, Told.refl _, ?_, ?_⟩) | (refine ⟨⟨_, _, _, _, _⟩, Told.refl _, ?_, ?_⟩) | (refine ⟨(), Told.refl _, ?_, ?_⟩)) | (with_reducible intro _) | (refine fun (_ : Bool) => ?_)))
    all_goals first
      | rfl
      | (exfalso; simp only [beq_iff_eq, beq_eq_false_iff_ne, ne_eq] at *; omega)
      | exact h1
      | (show t.cids.length ≤ 10000000; omega)
      | (show t.nots.length ≤ 10000000; omega)
      | (show t.bfs.length ≤ 10000000; omega)
  · rw [show builtT t k = ⟨t.name, t.wmode, t.spaces, t.cids, t.nots, EB.build t.bfs⟩ by unfold builtT; simp [hk]]
    ((refine Fn.ofF hC Tryz.func45 Tryz.ntmps45 rfl rfl rfl ?_); (repeat' first | (with_reducible exact trivial) | (with_reducible rfl) | (refine And.intro ?_ ?_) | (refine Need.mk ?_) | exact True.intro | (first | (refine ⟨_, Told.refl _, ?_, ?_⟩) | (refine ⟨⟨_, _⟩, Told.refl _, ?_, ?_⟩) | (refine ⟨⟨_, _, _⟩, Told.refl _, ?_, ?_⟩) | (refine ⟨⟨_, _, _, _⟩, Told.refl _, ?_, ?_⟩) | (refine ⟨⟨_, _, _, _, _⟩, Told.refl _, ?_, ?_⟩) | (refine ⟨(), Told.refl _, ?_, ?_⟩)) | (with_reducible intro _) | (refine fun (_ : Bool) => ?_)))
    all_goals first
      | rfl
      | (exfalso; simp only [beq_iff_eq, beq_eq_false_iff_ne, ne_eq] at *; omega)
      | exact h1
      | (show t.cids.length ≤ 10000000; omega)
      | (show t.nots.length ≤ 10000000; omega)
      | (show t.bfs.length ≤ 10000000; omega)
  · rw [show builtT t k = ⟨t.name, t.wmode, t.spaces, t.cids, t.nots, EB.build t.bfs⟩ by unfold builtT; simp [hk]]
    ((refine Fn.ofF hC Tryz.func45 Tryz.ntmps45 rfl rfl rfl ?_); (repeat' first | (with_reducible exact trivial) | (with_reducible rfl) | (refine And.intro ?_ ?_) | (refine Need.mk ?_) | exact True.intro | (first | (refine ⟨_, Told.refl _, ?_, ?_⟩) | (refine ⟨⟨_, _⟩, Told.refl _, ?_, ?_⟩) | (refine ⟨⟨_, _, _⟩, Told.refl _, ?_, ?_⟩) | (refine ⟨⟨_, _, _, _⟩, Told.refl _, ?_, ?_⟩) | (refine ⟨⟨_, _, _, _, _⟩, Told.refl _, ?_, ?_⟩) | (refine ⟨(), Told.refl _, ?_, ?_⟩)) | (with_reducible intro _) | (refine fun (_ : Bool) => ?_)))
    all_goals first
      | rfl
      | (exfalso; simp only [beq_iff_eq, beq_eq_false_iff_ne, ne_eq] at *; omega)
      | exact h1
      | (show t.cids.length ≤ 10000000; omega)
      | (show t.nots.length ≤ 10000000; omega)
      | (show t.bfs.length ≤ 10000000; omega)
  · rw [show builtT t k = t by unfold builtT; simp [k2, k3, k4, k5, k6, k7, k8]]
    ((refine Fn.ofF hC Tryz.func45 Tryz.ntmps45 rfl rfl rfl ?_); (repeat' first | (with_reducible exact trivial) | (with_reducible rfl) | (refine And.intro ?_ ?_) | (refine Need.mk ?_) | exact True.intro | (first | (refine ⟨_, Told.refl _, ?_, ?_⟩) | (refine ⟨⟨_, _⟩, Told.refl _, ?_, ?_⟩) | (refine ⟨⟨_, _, _⟩, Told.refl _, ?_, ?_⟩) | (refine ⟨⟨_, _, _, _⟩, Told.refl _, ?_, ?_⟩) | (refine ⟨⟨_, _, _, _, _⟩, Told.refl _, ?_, ?_⟩) | (refine ⟨(), Told.refl _, ?_, ?_⟩)) | (with_reducible intro _) | (refine fun (_ : Bool) => ?_)))
    all_goals first
      | rfl
      | (exfalso; simp only [beq_iff_eq, beq_eq_false_iff_ne, ne_eq] at *; omega)
set_option maxHeartbeats 8000000 in
theorem rdo : SpOK Tryz.prog 20 SDo := fun ⟨t, x⟩ ⟨h, hx⟩ => by
  have hC : COK Tryz.prog (cfg [(46, SList), (45, SBuilt)]) := Ty.ty.cfg ⟨rlist, rbuilt, trivial⟩
  have hl := list_few t x 500000 500000 h hx
  have hx : cntX x ≤ 500000 := hx
  unfold cntX at hx
  obtain ⟨a1, a2, a3, a4⟩ : few5 t := h
  obtain ⟨b1, b2, b3, b4⟩ := hl
  show Fn _ _ _ (.st (.agg (cT (builtT (listT t x) x.kind))))
  ((refine Fn.ofF hC Tryz.func20 Tryz.ntmps20 rfl rfl rfl ?_); (repeat' first | (with_reducible exact trivial) | (with_reducible rfl) | (refine And.intro ?_ ?_) | (refine Need.mk ?_) | exact True.intro | (first | (refine ⟨_, Told.refl _, ?_, ?_⟩) | (refine ⟨⟨_, _⟩, Told.refl _, ?_, ?_⟩) | (refine ⟨⟨_, _, _⟩, Told.refl _, ?_, ?_⟩) | (refine ⟨⟨_, _, _, _⟩, Told.refl _, ?_, ?_⟩) | (refine ⟨⟨_, _, _, _, _⟩, Told.refl _, ?_, ?_⟩) | (refine ⟨(), Told.refl _, ?_, ?_⟩)) | (with_reducible intro _) | (refine fun (_ : Bool) => ?_)))
  all_goals first
    | rfl
    | omega
    | exact b1
    | exact b2
    | exact b3
    | exact b4
    | (show x.ents.length ≤ 1000000; omega)
    | (show (x.ents.flatMap bfsE).length ≤ 1000000; omega)
set_option maxHeartbeats 8000000 in
theorem rall : SpOK Tryz.prog 21 SAllX := fun (l : List Itm) ⟨h1, h2⟩ => by
  have hC : COK Tryz.prog (cfg [(20, SDo)]) := Ty.ty.cfg ⟨rdo, trivial⟩
  ((refine Fn.ofF hC Tryz.func21 Tryz.ntmps21 rfl rfl rfl ?_); (repeat' first | (with_reducible exact trivial) | (with_reducible rfl) | (refine And.intro ?_ ?_) | (refine Need.mk ?_) | exact True.intro | (first | (refine ⟨_, Told.refl _, ?_, ?_⟩) | (refine ⟨⟨_, _⟩, Told.refl _, ?_, ?_⟩) | (refine ⟨⟨_, _, _⟩, Told.refl _, ?_, ?_⟩) | (refine ⟨⟨_, _, _, _⟩, Told.refl _, ?_, ?_⟩) | (refine ⟨⟨_, _, _, _, _⟩, Told.refl _, ?_, ?_⟩) | (refine ⟨(), Told.refl _, ?_, ?_⟩)) | (with_reducible intro _) | (refine fun (_ : Bool) => ?_)))
  refine AW.loop (I := fun k : Nat => ⟨19, [(0, aX l), (2, .ptr 0 0), (3, .ptr 1 0), (4, .int .i64 k)], [.box 26 (cT T0), .box 26 (cT (allT (l.take k)))]⟩) (fun k => k ≤ l.length) (fun k => l.length - k) 0 (Nat.zero_le _) ?_ ?_
  · (repeat' first | (with_reducible exact trivial) | (with_reducible rfl) | (refine And.intro ?_ ?_) | (refine Need.mk ?_) | exact True.intro | (first | (refine ⟨_, Told.refl _, ?_, ?_⟩) | (refine ⟨⟨_, _⟩, Told.refl _, ?_, ?_⟩) | (refine ⟨⟨_, _, _⟩, Told.refl _, ?_, ?_⟩) | (refine ⟨⟨_, _, _, _⟩, Told.refl _, ?_, ?_⟩) | (refine ⟨⟨_, _, _, _, _⟩, Told.refl _, ?_, ?_⟩) | (refine ⟨(), Told.refl _, ?_, ?_⟩)) | (with_reducible intro _) | (refine fun (_ : Bool) => ?_))
    all_goals first
      | rfl
      | (rename_i z hz; exact absurd hz (Nat.not_lt_zero z))
  · intro k hk
    rcases Nat.lt_or_ge k l.length with hlt | hge
    · have hd : decide ((k : Int) < (l.length : Int)) = true := decide_eq_true (by omega)
      have hw := iw (n := (k : Int) + 1) (by omega) (by omega)
      have hnx := all_next hlt
      have hal := all_len (l.take k)
      have hct := cntL_take l k
      have hca := cntL_at hlt
      obtain ⟨a1, a2, a3, a4⟩ := hal
      have hc1 : (l.getD k default).ents.length ≤ 1000000 := by unfold cntX at hca; omega
      have hc2 : ((l.getD k default).ents.flatMap bfsE).length ≤ 1000000 := by unfold cntX at hca; omega
      ((refine AW.byF ‹_› ?_); (repeat' first | (with_reducible exact trivial) | (with_reducible rfl) | (refine And.intro ?_ ?_) | (refine Need.mk ?_) | exact True.intro | (first | (refine ⟨_, Told.refl _, ?_, ?_⟩) | (refine ⟨⟨_, _⟩, Told.refl _, ?_, ?_⟩) | (refine ⟨⟨_, _, _⟩, Told.refl _, ?_, ?_⟩) | (refine ⟨⟨_, _, _, _⟩, Told.refl _, ?_, ?_⟩) | (refine ⟨⟨_, _, _, _, _⟩, Told.refl _, ?_, ?_⟩) | (refine ⟨(), Told.refl _, ?_, ?_⟩)) | (with_reducible intro _) | (refine fun (_ : Bool) => ?_)))
      all_goals first | (exact absurd ‹decide ((k : Int) < (l.length : Int)) = false› (by rw [hd]; decide)) | skip
      any_goals (first | (refine Exists.intro ((k + 1 : Nat)) (And.intro ?_ (And.intro ?_ ?_)); all_goals (repeat' first | (with_reducible exact trivial) | (with_reducible rfl) | (refine And.intro ?_ ?_) | (refine Need.mk ?_) | exact True.intro | (first | (refine ⟨_, Told.refl _, ?_, ?_⟩) | (refine ⟨⟨_, _⟩, Told.refl _, ?_, ?_⟩) | (refine ⟨⟨_, _, _⟩, Told.refl _, ?_, ?_⟩) | (refine ⟨⟨_, _, _, _⟩, Told.refl _, ?_, ?_⟩) | (refine ⟨⟨_, _, _, _, _⟩, Told.refl _, ?_, ?_⟩) | (refine ⟨(), Told.refl _, ?_, ?_⟩)) | (with_reducible intro _) | (refine fun (_ : Bool) => ?_))) | fail)
      all_goals try simp only [Int.toNat_natCast] at *
      all_goals first
        | omega
        | exact hc1
        | exact hc2
        | (show cntX (l.getD k default) ≤ 500000; omega)
        | (rw [hw]; rfl)
        | (rw [hnx]; done)
        | (rw [hnx]; rfl)
    · obtain rfl : k = l.length := by omega
      have hd : decide ((l.length : Int) < (l.length : Int)) = false := decide_eq_false (by omega)
      ((refine AW.byF ‹_› ?_); (repeat' first | (with_reducible exact trivial) | (with_reducible rfl) | (refine And.intro ?_ ?_) | (refine Need.mk ?_) | exact True.intro | (first | (refine ⟨_, Told.refl _, ?_, ?_⟩) | (refine ⟨⟨_, _⟩, Told.refl _, ?_, ?_⟩) | (refine ⟨⟨_, _, _⟩, Told.refl _, ?_, ?_⟩) | (refine ⟨⟨_, _, _, _⟩, Told.refl _, ?_, ?_⟩) | (refine ⟨⟨_, _, _, _, _⟩, Told.refl _, ?_, ?_⟩) | (refine ⟨(), Told.refl _, ?_, ?_⟩)) | (with_reducible intro _) | (refine fun (_ : Bool) => ?_)))
      all_goals first | (exact absurd ‹decide ((l.length : Int) < (l.length : Int)) = true› (by rw [hd]; decide)) | skip
      all_goals rw [List.take_length]
      all_goals try rfl
set_option maxHeartbeats 8000000 in
theorem rlists : SpOK Tryz.prog 23 SListsX := fun (l : List Itm) ⟨h1, h2⟩ => by
  have hC : COK Tryz.prog (cfg [(46, SList)]) := Ty.ty.cfg ⟨rlist, trivial⟩
  ((refine Fn.ofF hC Tryz.func23 Tryz.ntmps23 rfl rfl rfl ?_); (repeat' first | (with_reducible exact trivial) | (with_reducible rfl) | (refine And.intro ?_ ?_) | (refine Need.mk ?_) | exact True.intro | (first | (refine ⟨_, Told.refl _, ?_, ?_⟩) | (refine ⟨⟨_, _⟩, Told.refl _, ?_, ?_⟩) | (refine ⟨⟨_, _, _⟩, Told.refl _, ?_, ?_⟩) | (refine ⟨⟨_, _, _, _⟩, Told.refl _, ?_, ?_⟩) | (refine ⟨⟨_, _, _, _, _⟩, Told.refl _, ?_, ?_⟩) | (refine ⟨(), Told.refl _, ?_, ?_⟩)) | (with_reducible intro _) | (refine fun (_ : Bool) => ?_)))
  refine AW.loop (I := fun k : Nat => ⟨19, [(0, aX l), (2, .ptr 0 0), (3, .ptr 1 0), (4, .int .i64 k)], [.box 26 (cT T0), .box 26 (cT (listsT (l.take k)))]⟩) (fun k => k ≤ l.length) (fun k => l.length - k) 0 (Nat.zero_le _) ?_ ?_
  · (repeat' first | (with_reducible exact trivial) | (with_reducible rfl) | (refine And.intro ?_ ?_) | (refine Need.mk ?_) | exact True.intro | (first | (refine ⟨_, Told.refl _, ?_, ?_⟩) | (refine ⟨⟨_, _⟩, Told.refl _, ?_, ?_⟩) | (refine ⟨⟨_, _, _⟩, Told.refl _, ?_, ?_⟩) | (refine ⟨⟨_, _, _, _⟩, Told.refl _, ?_, ?_⟩) | (refine ⟨⟨_, _, _, _, _⟩, Told.refl _, ?_, ?_⟩) | (refine ⟨(), Told.refl _, ?_, ?_⟩)) | (with_reducible intro _) | (refine fun (_ : Bool) => ?_))
    all_goals first
      | rfl
      | (rename_i z hz; exact absurd hz (Nat.not_lt_zero z))
  · intro k hk
    rcases Nat.lt_or_ge k l.length with hlt | hge
    · have hd : decide ((k : Int) < (l.length : Int)) = true := decide_eq_true (by omega)
      have hw := iw (n := (k : Int) + 1) (by omega) (by omega)
      have hnx := lists_next hlt
      have hal := lists_len (l.take k)
      have hct := cntL_take l k
      have hca := cntL_at hlt
      obtain ⟨a1, a2, a3, a4⟩ := hal
      have hc1 : (l.getD k default).ents.length ≤ 1000000 := by unfold cntX at hca; omega
      have hc2 : ((l.getD k default).ents.flatMap bfsE).length ≤ 1000000 := by unfold cntX at hca; omega
      ((refine AW.byF ‹_› ?_); (repeat' first | (with_reducible exact trivial) | (with_reducible rfl) | (refine And.intro ?_ ?_) | (refine Need.mk ?_) | exact True.intro | (first | (refine ⟨_, Told.refl _, ?_, ?_⟩) | (refine ⟨⟨_, _⟩, Told.refl _, ?_, ?_⟩) | (refine ⟨⟨_, _, _⟩, Told.refl _, ?_, ?_⟩) | (refine ⟨⟨_, _, _, _⟩, Told.refl _, ?_, ?_⟩) | (refine ⟨⟨_, _, _, _, _⟩, Told.refl _, ?_, ?_⟩) | (refine ⟨(), Told.refl _, ?_, ?_⟩)) | (with_reducible intro _) | (refine fun (_ : Bool) => ?_)))
      all_goals first | (exact absurd ‹decide ((k : Int) < (l.length : Int)) = false› (by rw [hd]; decide)) | skip
      any_goals (first | (refine Exists.intro ((k + 1 : Nat)) (And.intro ?_ (And.intro ?_ ?_)); all_goals (repeat' first | (with_reducible exact trivial) | (with_reducible rfl) | (refine And.intro ?_ ?_) | (refine Need.mk ?_) | exact True.intro | (first | (refine ⟨_, Told.refl _, ?_, ?_⟩) | (refine ⟨⟨_, _⟩, Told.refl _, ?_, ?_⟩) | (refine ⟨⟨_, _, _⟩, Told.refl _, ?_, ?_⟩) | (refine ⟨⟨_, _, _, _⟩, Told.refl _, ?_, ?_⟩) | (refine ⟨⟨_, _, _, _, _⟩, Told.refl _, ?_, ?_⟩) | (refine ⟨(), Told.refl _, ?_, ?_⟩)) | (with_reducible intro _) | (refine fun (_ : Bool) => ?_))) | fail)
      all_goals try simp only [Int.toNat_natCast] at *
      all_goals first
        | omega
        | exact hc1
        | exact hc2
        | (show cntX (l.getD k default) ≤ 500000; omega)
        | (rw [hw]; rfl)
        | (rw [hnx]; done)
        | (rw [hnx]; rfl)
    · obtain rfl : k = l.length := by omega
      have hd : decide ((l.length : Int) < (l.length : Int)) = false := decide_eq_false (by omega)
      ((refine AW.byF ‹_› ?_); (repeat' first | (with_reducible exact trivial) | (with_reducible rfl) | (refine And.intro ?_ ?_) | (refine Need.mk ?_) | exact True.intro | (first | (refine ⟨_, Told.refl _, ?_, ?_⟩) | (refine ⟨⟨_, _⟩, Told.refl _, ?_, ?_⟩) | (refine ⟨⟨_, _, _⟩, Told.refl _, ?_, ?_⟩) | (refine ⟨⟨_, _, _, _⟩, Told.refl _, ?_, ?_⟩) | (refine ⟨⟨_, _, _, _, _⟩, Told.refl _, ?_, ?_⟩) | (refine ⟨(), Told.refl _, ?_, ?_⟩)) | (with_reducible intro _) | (refine fun (_ : Bool) => ?_)))
      all_goals first | (exact absurd ‹decide ((l.length : Int) < (l.length : Int)) = true› (by rw [hd]; decide)) | skip
      all_goals rw [List.take_length]
      all_goals try rfl
/-! ### Merged -/
def kindsR : List Int := [2, 3, 4, 5, 6, 7, 8]
def midR (t u : Tbl) (k : Nat) : Tbl := (kindsR.take k).foldl builtT (catT t u)
theorem midR0 (t u : Tbl) : midR t u 0 = catT t u := rfl
theorem midR7 (t u : Tbl) : midR t u 7 = mergeT t u := by
  unfold midR mergeT kindsR catT
  simp [builtT, En.build_idem]
theorem kindsR_at {k : Nat} (hk : k < 7) : kindsR.getD k default = (k : Int) + 2 := by
  rcases (by omega : k = 0 ∨ k = 1 ∨ k = 2 ∨ k = 3 ∨ k = 4 ∨ k = 5 ∨ k = 6) with rfl | rfl | rfl | rfl | rfl | rfl | rfl <;> rfl
theorem midR_next (t u : Tbl) {k : Nat} (hk : k < 7) : midR t u (k + 1) = builtT (midR t u k) ((k : Int) + 2) := by
  unfold midR
  rw [take_nextG (l := kindsR) hk, List.foldl_append, kindsR_at hk]
  rfl
theorem lens_midR {t u : Tbl} {n : Nat} (h : lens t n) (h' : lens u n) : ∀ k, k ≤ 7 → lens (midR t u k) (2 * n * 2 ^ k)
  | 0, _ => by
    obtain ⟨a, b, c, d⟩ := h
    obtain ⟨a', b', c', d'⟩ := h'
    rw [midR0]
    unfold catT
    refine ⟨?_, ?_, ?_, ?_⟩
    all_goals dsimp only
    all_goals rw [List.length_append]
    all_goals omega
  | k + 1, hk => by
    have q := lens_built (lens_midR h h' k (by omega)) ((k : Int) + 2)
    rw [← midR_next t u (k := k) (by omega)] at q
    have e : 2 * n * 2 ^ (k + 1) = 2 * (2 * n * 2 ^ k) := by rw [Nat.pow_succ, ← Nat.mul_assoc, Nat.mul_comm (2 * n * 2 ^ k) 2]
    rw [e]
    exact q
theorem midR_few {t u : Tbl} (h : lens t 3000) (h' : lens u 3000) {k : Nat} (hk : k ≤ 7) : few6 (midR t u k) := by
  obtain ⟨a, b, c, d⟩ := lens_midR h h' k hk
  have e : 2 * 3000 * 2 ^ k ≤ 1000000 := by
    have : 2 ^ k ≤ 2 ^ 7 := Nat.pow_le_pow_right (by decide) hk
    omega
  exact ⟨by omega, by omega, by omega, by omega⟩
def SMergeR : Sp := ⟨Tbl × Tbl, fun (t, u) => lens t 3000 ∧ lens u 3000, fun (t, u) => [.agg (cT t), .agg (cT u)], fun (t, u) => .st (.agg (cT (mergeT t u)))⟩
set_option maxHeartbeats 16000000 in
theorem rmerge : SpOK Tryz.prog 24 SMergeR := fun ⟨t, u⟩ ⟨h, h'⟩ => by
  have hC : COK Tryz.prog (cfg [(45, SBuilt)]) := Ty.ty.cfg ⟨rbuilt, trivial⟩
  have h : lens t 3000 := h
  have h' : lens u 3000 := h'
  obtain ⟨a1, a2, a3, a4⟩ := id h
  obtain ⟨b1, b2, b3, b4⟩ := id h'
  ((refine Fn.ofF hC Tryz.func24 Tryz.ntmps24 rfl rfl rfl ?_); (repeat' first | (with_reducible exact trivial) | (with_reducible rfl) | (refine And.intro ?_ ?_) | (refine Need.mk ?_) | exact True.intro | (first | (refine ⟨_, Told.refl _, ?_, ?_⟩) | (refine ⟨⟨_, _⟩, Told.refl _, ?_, ?_⟩) | (refine ⟨⟨_, _, _⟩, Told.refl _, ?_, ?_⟩) | (refine ⟨⟨_, _, _, _⟩, Told.refl _, ?_, ?_⟩) | (refine ⟨⟨_, _, _, _, _⟩, Told.refl _, ?_, ?_⟩) | (refine ⟨(), Told.refl _, ?_, ?_⟩)) | (with_reducible intro _) | (refine fun (_ : Bool) => ?_)))
  all_goals first
    | (show (0 + t.spaces.length) * 24 ≤ 140737488355328; omega)
    | (show (0 + t.cids.length) * 32 ≤ 140737488355328; omega)
    | (show (0 + t.nots.length) * 32 ≤ 140737488355328; omega)
    | (show (0 + t.bfs.length) * 48 ≤ 140737488355328; omega)
    | (show (0 + t.spaces.length + u.spaces.length) * 24 ≤ 140737488355328; omega)
    | (show (0 + t.cids.length + u.cids.length) * 32 ≤ 140737488355328; omega)
    | (show (0 + t.nots.length + u.nots.length) * 32 ≤ 140737488355328; omega)
    | (show (0 + t.bfs.length + u.bfs.length) * 48 ≤ 140737488355328; omega)
    | skip
  refine AW.loop (I := fun k : Nat => ⟨60, [(2, .ptr 0 0), (3, .ptr 1 0), (4, .ptr 2 0), (9, .ptr 3 0), (10, .int .i64 ((k : Int) + 2))], [.box 26 (cT t), .box 26 (cT u), .box 26 (cT T0), .box 26 (cT (midR t u k))]⟩) (fun k => k ≤ 7) (fun k => 7 - k) 0 (Nat.zero_le _) ?_ ?_
  · (repeat' first | (with_reducible exact trivial) | (with_reducible rfl) | (refine And.intro ?_ ?_) | (refine Need.mk ?_) | exact True.intro | (first | (refine ⟨_, Told.refl _, ?_, ?_⟩) | (refine ⟨⟨_, _⟩, Told.refl _, ?_, ?_⟩) | (refine ⟨⟨_, _, _⟩, Told.refl _, ?_, ?_⟩) | (refine ⟨⟨_, _, _, _⟩, Told.refl _, ?_, ?_⟩) | (refine ⟨⟨_, _, _, _, _⟩, Told.refl _, ?_, ?_⟩) | (refine ⟨(), Told.refl _, ?_, ?_⟩)) | (with_reducible intro _) | (refine fun (_ : Bool) => ?_))
    all_goals first
      | with_reducible rfl
      | (unfold T0; rfl)
      | exact (rfl : t.name = (midR t u 0).name)
      | exact (rfl : t.wmode = (midR t u 0).wmode)
      | exact (rfl : (2 : Int) = ((0 : Nat) : Int) + 2)
      | (show 0 + t.spaces.length + u.spaces.length = (t.spaces ++ u.spaces).length; rw [List.length_append]; omega)
      | (show 0 + t.cids.length + u.cids.length = (t.cids ++ u.cids).length; rw [List.length_append]; omega)
      | (show 0 + t.nots.length + u.nots.length = (t.nots ++ u.nots).length; rw [List.length_append]; omega)
      | (show 0 + t.bfs.length + u.bfs.length = (t.bfs ++ u.bfs).length; rw [List.length_append]; omega)
      | (rename_i z hz; exact els_of cR_emb (l := t.spaces ++ u.spaces) (n := 0) (cat_app' (n := 0 + t.spaces.length) (Nat.zero_add _) (fun i _ => cat00 t.spaces i) (fun _ _ => rfl)) z hz)
      | (rename_i z hz; exact els_of cSp_emb (l := t.cids ++ u.cids) (n := 0) (cat_app' (n := 0 + t.cids.length) (Nat.zero_add _) (fun i _ => cat00 t.cids i) (fun _ _ => rfl)) z hz)
      | (rename_i z hz; exact els_of cSp_emb (l := t.nots ++ u.nots) (n := 0) (cat_app' (n := 0 + t.nots.length) (Nat.zero_add _) (fun i _ => cat00 t.nots i) (fun _ _ => rfl)) z hz)
      | (rename_i z hz; exact els_of cBf_emb (l := t.bfs ++ u.bfs) (n := 0) (cat_app' (n := 0 + t.bfs.length) (Nat.zero_add _) (fun i _ => cat00 t.bfs i) (fun _ _ => rfl)) z hz)
  · intro k hk
    rcases Nat.lt_or_ge k 7 with hlt | hge
    · have hd : decide ((k : Int) + 2 ≤ 8) = true := decide_eq_true (by omega)
      have hw := iw (n := (k : Int) + 2 + 1) (by omega) (by omega)
      have hnx := midR_next t u hlt
      have hfw := midR_few h h' hk
      obtain ⟨f1, f2, f3, f4⟩ := hfw
      ((refine AW.byF ‹_› ?_); (repeat' first | (with_reducible exact trivial) | (with_reducible rfl) | (refine And.intro ?_ ?_) | (refine Need.mk ?_) | exact True.intro | (first | (refine ⟨_, Told.refl _, ?_, ?_⟩) | (refine ⟨⟨_, _⟩, Told.refl _, ?_, ?_⟩) | (refine ⟨⟨_, _, _⟩, Told.refl _, ?_, ?_⟩) | (refine ⟨⟨_, _, _, _⟩, Told.refl _, ?_, ?_⟩) | (refine ⟨⟨_, _, _, _, _⟩, Told.refl _, ?_, ?_⟩) | (refine ⟨(), Told.refl _, ?_, ?_⟩)) | (with_reducible intro _) | (refine fun (_ : Bool) => ?_)))
      all_goals first | (exact absurd ‹decide ((k : Int) + 2 ≤ 8) = false› (by rw [hd]; decide)) | skip
      any_goals (first | (refine Exists.intro ((k + 1 : Nat)) (And.intro ?_ (And.intro ?_ ?_)); all_goals (repeat' first | (with_reducible exact trivial) | (with_reducible rfl) | (refine And.intro ?_ ?_) | (refine Need.mk ?_) | exact True.intro | (first | (refine ⟨_, Told.refl _, ?_, ?_⟩) | (refine ⟨⟨_, _⟩, Told.refl _, ?_, ?_⟩) | (refine ⟨⟨_, _, _⟩, Told.refl _, ?_, ?_⟩) | (refine ⟨⟨_, _, _, _⟩, Told.refl _, ?_, ?_⟩) | (refine ⟨⟨_, _, _, _, _⟩, Told.refl _, ?_, ?_⟩) | (refine ⟨(), Told.refl _, ?_, ?_⟩)) | (with_reducible intro _) | (refine fun (_ : Bool) => ?_))) | fail)
      all_goals first
        | omega
        | exact f1
        | exact f2
        | exact f3
        | exact f4
        | (rw [hw]; omega)
        | (rw [hnx]; done)
        | (rw [hnx]; rfl)
    · obtain rfl : k = 7 := by omega
      have hd : decide (((7 : Nat) : Int) + 2 ≤ 8) = false := decide_eq_false (by omega)
      ((refine AW.byF ‹_› ?_); (repeat' first | (with_reducible exact trivial) | (with_reducible rfl) | (refine And.intro ?_ ?_) | (refine Need.mk ?_) | exact True.intro | (first | (refine ⟨_, Told.refl _, ?_, ?_⟩) | (refine ⟨⟨_, _⟩, Told.refl _, ?_, ?_⟩) | (refine ⟨⟨_, _, _⟩, Told.refl _, ?_, ?_⟩) | (refine ⟨⟨_, _, _, _⟩, Told.refl _, ?_, ?_⟩) | (refine ⟨⟨_, _, _, _, _⟩, Told.refl _, ?_, ?_⟩) | (refine ⟨(), Told.refl _, ?_, ?_⟩)) | (with_reducible intro _) | (refine fun (_ : Bool) => ?_)))
      all_goals first | (exact absurd ‹decide (((7 : Nat) : Int) + 2 ≤ 8) = true› (by rw [hd]; decide)) | skip
      all_goals rw [midR7]
      all_goals try rfl
end Go.Abs.Sm
set_option maxRecDepth 100000
namespace Go.Abs.Sm
open Go.RowKit Go.Proofs Go.Abs.Tab Go.Abs.Dest Go.Abs.Span Go.Abs.Coll Go.Abs.Hx Go.Abs.Mt Go.Abs.Rc
def fitsU (l : List Itm) : Prop := ∀ x ∈ l, ∀ e ∈ x.ents, e.u.length < 9223372036854775807 ∧ ∀ y ∈ e.l, y.length < 9223372036854775807
theorem bfsE_to {e : Ent} (h : e.u.length < 9223372036854775807 ∧ ∀ y ∈ e.l, y.length < 9223372036854775807) : ∀ b ∈ bfsE e, b.to.length < 9223372036854775807 := by
  intro b hb
  unfold bfsE at hb
  split at hb
  · obtain rfl := List.mem_singleton.1 hb
    exact h.1
  · obtain ⟨k, hk, rfl⟩ := List.mem_map.1 hb
    have hk := List.mem_range.1 hk
    show (e.l.getD k default).length < _
    have : e.l.getD k default = e.l[k] := by simp [List.getD, hk]
    rw [this]
    exact h.2 _ (List.getElem_mem hk)
theorem lists_to {l : List Itm} (h : fitsU l) : ∀ b ∈ (listsT l).bfs, b.to.length < 9223372036854775807 := by
  rw [lists_eq]
  intro b hb
  obtain ⟨x, hx, hb⟩ := List.mem_flatMap.1 hb
  unfold bfsX at hb
  split at hb
  · obtain ⟨e, he, hb⟩ := List.mem_flatMap.1 hb
    exact bfsE_to (h x hx e he) b hb
  · cases hb
theorem do_to {t : Tbl} (ht : ∀ b ∈ t.bfs, b.to.length ≤ 70) (x : Itm) : ∀ b ∈ (doT t x).bfs, b.to.length ≤ 70 := by
  intro b hb
  by_cases hk : x.kind = 7 ∨ x.kind = 8
  · have e : (doT t x).bfs = EB.build (listT t x).bfs := if_pos hk
    rw [e] at hb
    have h := (EB.build_ok (listT t x).bfs).1.1 b hb
    have r := rngB h
    omega
  · have e : (doT t x).bfs = (listT t x).bfs := if_neg hk
    have e2 : (listT t x).bfs = t.bfs := by
      unfold listT bfsX
      simp [hk]
    rw [e, e2] at hb
    exact ht b hb
def SSemIs : Sp := ⟨List Itm × Tbl × Tbl, fun (l, _) => fits l ∧ fitsU l, fun (l, t, u) => [aX l, .agg (cT t), .agg (cT u)], fun _ => .st (.lit true)⟩
set_option maxHeartbeats 32000000 in
theorem semIs : SpOK Tryz.prog 7 SSemIs := fun ⟨l, t, u⟩ ⟨hf, hfu⟩ => by
  have hC : COK Tryz.prog (cfg [(9, SAwakeM), (10, SFewT), (11, SShortL), (12, SOurs), (14, SDo), (20, SDo), (17, SAllX), (21, SAllX), (22, SListsX), (23, SListsX), (19, SMerge), (24, SMergeR), (18, SSaneT), (25, SSaneT), (15, STab), (13, STab), (16, SSameT)]) := Ty.ty.cfg ⟨awake09, rfewT, rshort, ours09, semDo, rdo, semAll, rall, semLists, rlists, semMerge, rmerge, saneTC, rsane09, table09, told09, rsameT, trivial⟩
  have hf : fits l := hf
  have hfu : fitsU l := hfu
  have e0 : Int.toNat 0 = 0 := rfl
  have z1 := sameT_self (doT t (l.getD 0 default))
  have z2 := sameT_self (allT l)
  have z3 := sameT_self (listsT l)
  have z4 := sameT_self (mergeT t u)
  ((refine Fn.ofF hC Tryz.func7 Tryz.ntmps7 rfl rfl rfl ?_); (repeat' first | (with_reducible exact trivial) | (with_reducible rfl) | (refine And.intro ?_ ?_) | (refine Need.mk ?_) | exact True.intro | (first | (refine ⟨_, Told.refl _, ?_, ?_⟩) | (refine ⟨⟨_, _⟩, Told.refl _, ?_, ?_⟩) | (refine ⟨⟨_, _, _⟩, Told.refl _, ?_, ?_⟩) | (refine ⟨⟨_, _, _, _⟩, Told.refl _, ?_, ?_⟩) | (refine ⟨⟨_, _, _, _, _⟩, Told.refl _, ?_, ?_⟩) | (refine ⟨(), Told.refl _, ?_, ?_⟩)) | (with_reducible intro _) | (refine fun (_ : Bool) => ?_)))
  all_goals try exact hf.1
  all_goals try exact (hf.2 _ ‹_›).1
  all_goals try exact (hf.2 _ ‹_ ∈ l›).2 _ ‹_›
  all_goals obtain ⟨s1, s2⟩ := short_few (l := l) (by simpa using ‹(!shortL l) = false›)
  all_goals have s3 := ents_le (l := l) s2
  all_goals obtain ⟨⟨_, t1, t2, t3⟩, t4, t5⟩ := (fewT_iff t).1 (by simpa using ‹(!fewT t) = false›)
  all_goals obtain ⟨⟨_, u1, u2, u3⟩, u4, u5⟩ := (fewT_iff u).1 (by simpa using ‹(!fewT u) = false›)
  all_goals have lt : lens t 60 := ⟨t1, t2, t3, t4⟩
  all_goals have lu : lens u 60 := ⟨u1, u2, u3, u4⟩
  all_goals obtain ⟨m1, m2, m3, m4⟩ := lens_merge lt lu
  all_goals obtain ⟨q1, q2, q3, q4⟩ := lens_all s2
  all_goals obtain ⟨r1, r2, r3, r4⟩ := lists_len l
  all_goals first
    | (show l.length ≤ 1000000; omega)
    | (show cntL l ≤ 100000; omega)
    | omega
    | (have := s3 _ ‹_›; omega)
    | (have := all_to l _ ‹_›; omega)
    | exact lists_to hfu _ ‹_›
    | (have := merge_to t u _ ‹_›; omega)
    | (have hl0 : 0 < l.length := by
         have q := of_decide_eq_true ‹decide ((l.length : Int) > 0) = true›
         omega
       have hca := cntL_at hl0
       have hd : lens (doT t (l.getD 0 default)) (2 * (60 + 240)) := lens_built (list_few t (l.getD 0 default) 60 240 ⟨t1, t2, t3, t4⟩ (by omega)) (l.getD 0 default).kind
       obtain ⟨d1, d2, d3, d4⟩ := hd
       first
         | (show cntX (l.getD 0 default) ≤ 500000; omega)
         | (show (doT t (l.getD 0 default)).spaces.length < 9223372036854775807; omega)
         | (show (doT t (l.getD 0 default)).cids.length < 9223372036854775807; omega)
         | (show (doT t (l.getD 0 default)).nots.length < 9223372036854775807; omega)
         | (show (doT t (l.getD 0 default)).bfs.length < 9223372036854775807; omega)
         | (have := do_to t5 (l.getD 0 default) _ ‹_›; omega))
    | (exfalso; rw [e0] at *; simp_all; done)
    | (rw [e0] at *; simp_all; done)
    | skip
def wfIz (l : List Int) : Prop := (l.length ≤ maxLen ∧ l.length * 8 ≤ reachBytes) ∧ ∀ x ∈ l, wfI x
def wfEz (e : Ent) : Prop := (wfI e.ln ∧ wfI e.lv) ∧ (wfI e.hn ∧ wfI e.hv) ∧ wfI e.to ∧ wfIz e.u ∧ ((e.l.length ≤ maxLen ∧ e.l.length * 24 ≤ reachBytes) ∧ ∀ x ∈ e.l, wfIz x)
def wfXz (x : Itm) : Prop := wfI x.kind ∧ wfI x.at_ ∧ x.name.size ≤ maxLen ∧ (wfI x.tk ∧ wfI x.ta ∧ wfI x.tn ∧ x.ts.size ≤ maxLen) ∧ ((x.ents.length ≤ maxLen ∧ x.ents.length * 88 ≤ reachBytes) ∧ ∀ e ∈ x.ents, wfEz e)
theorem opIntsZ : OpZ Tryz.prog 59 (fun l : List Int => [aI l]) wfIz := OpZ.slice Tryz.underlying59 (by kernel_rfl) (by kernel_rfl) ci_emb (OpA.z opInt)
theorem opLLz : OpZ Tryz.prog 67 (fun l : List (List Int) => [aL cU 1 l]) (fun l => (l.length ≤ maxLen ∧ l.length * 24 ≤ reachBytes) ∧ ∀ x ∈ l, wfIz x) := OpZ.slice Tryz.underlying67 (by kernel_rfl) (by kernel_rfl) cU_emb opIntsZ
theorem opEntZ : OpZ Tryz.prog 71 cE wfEz :=
  OpZ.iso (OpZ.struct (n := 2 + (2 + (1 + (1 + 1)))) Tryz.underlying71 (OpZF.cons opCode.z rfl (by kernel_rfl) (OpZF.cons opCode.z rfl (by kernel_rfl) (OpZF.cons opInt.z rfl (by kernel_rfl) (OpZF.cons opIntsZ rfl (by kernel_rfl) (OpZF.one opLLz rfl (by kernel_rfl)))))) (by kernel_rfl)) (fun a => ⟨a.1.1, a.1.2, a.2.1.1, a.2.1.2, a.2.2.1, a.2.2.2.1, a.2.2.2.2⟩) (fun _ => rfl) (fun _ h => h)
theorem opEntsZ : OpZ Tryz.prog 49 (fun l : List Ent => [aE l]) (fun l => (l.length ≤ maxLen ∧ l.length * 88 ≤ reachBytes) ∧ ∀ x ∈ l, wfEz x) := OpZ.slice Tryz.underlying49 (by kernel_rfl) (by kernel_rfl) cE_emb opEntZ
theorem opItmZ : OpZ Tryz.prog 51 cX wfXz :=
  OpZ.iso (OpZ.struct (n := 1 + (1 + (1 + (4 + 1)))) Tryz.underlying51 (OpZF.cons opInt.z rfl (by kernel_rfl) (OpZF.cons opInt.z rfl (by kernel_rfl) (OpZF.cons opStr.z rfl (by kernel_rfl) (OpZF.cons opTok rfl (by kernel_rfl) (OpZF.one opEntsZ rfl (by kernel_rfl)))))) (by kernel_rfl)) (fun a => ⟨a.1, a.2.1, a.2.2.1, a.2.2.2.1.1, a.2.2.2.1.2.1, a.2.2.2.1.2.2.1, a.2.2.2.1.2.2.2, a.2.2.2.2⟩) (fun _ => rfl) (fun _ h => h)
theorem opItmsZ : OpZ Tryz.prog 27 (fun l : List Itm => [aX l]) (fun l => (l.length ≤ maxLen ∧ l.length * 96 ≤ reachBytes) ∧ ∀ x ∈ l, wfXz x) := OpZ.slice Tryz.underlying27 (by kernel_rfl) (by kernel_rfl) cX_emb opItmZ
theorem fitsZ_of {l : List Itm} (h : (l.length ≤ maxLen ∧ l.length * 96 ≤ reachBytes) ∧ ∀ x ∈ l, wfXz x) : fits l ∧ fitsU l := by
  have hr : reachBytes = 140737488351232 := rfl
  obtain ⟨⟨_, h1⟩, h2⟩ := h
  refine ⟨⟨by omega, fun x hx => ?_⟩, fun x hx e he => ?_⟩
  · obtain ⟨_, _, _, _, ⟨_, h3⟩, h4⟩ := h2 x hx
    refine ⟨by omega, fun e he => ?_⟩
    obtain ⟨_, _, _, _, ⟨_, h5⟩, _⟩ := h4 e he
    omega
  · obtain ⟨_, _, _, _, _, h4⟩ := h2 x hx
    obtain ⟨_, _, _, ⟨⟨_, h5⟩, _⟩, _, h6⟩ := h4 e he
    refine ⟨by omega, fun y hy => ?_⟩
    obtain ⟨⟨_, h7⟩, _⟩ := h6 y hy
    omega
end Go.Abs.Sm
