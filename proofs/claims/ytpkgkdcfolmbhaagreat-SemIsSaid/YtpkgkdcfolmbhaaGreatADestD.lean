/- dest: the table of a list. -/
import Derived.Test.YtpkgkdcfolmbhaaGreatADestC
set_option linter.all false
set_option maxRecDepth 100000
namespace Go.Abs.Dest
open Go.RowKit Go.Proofs Go.Abs.Tab
/-- The entries of the first k, in order. -/
def F (l : List Bf) (k : Nat) : List Bf := EB.fold (l.take k)
theorem F_next {l : List Bf} {k : Nat} (hk : k < l.length) : F l (k + 1) = if sane (l.getD k default) = true then EB.over (F l k) (l.getD k default) else F l k := by
  unfold F
  rw [List.take_succ_eq_append_getElem hk, EB.fold_snoc, getB hk]
  rfl
theorem F_len (l : List Bf) (k : Nat) : (F l k).length ≤ 2 * l.length := by
  have := (EB.fold_ok (l.take k)).2.2.1
  rw [List.length_take] at this
  unfold F
  omega
abbrev J (t : List Bf) (j : Nat) : List Bf := EB.joined EB.jb (t.take j)
theorem J_sane {t : List Bf} (ho : EB.OD t) (hg : ∀ x ∈ t, sane x = true) (j : Nat) : ∀ x ∈ J t j, sane x = true := by
  have ho2 : EB.OD (t.take j) := by
    have := ho
    rw [← List.take_append_drop j t] at this
    exact (Tb.OD_append EB.toTb).1 this |>.1
  exact (Tb.joined_ok EB.toTb EB.jb (fun x => EB.sane x = true) EB.ext (fun p s hp hs => EB.jb_iff p s hp hs) ho2 (fun x hx => hg x (List.mem_of_mem_take hx))).2.2.2.1
theorem J_len (t : List Bf) (j : Nat) : (J t j).length ≤ t.length := by
  have := Tb.joined_len EB.toTb EB.jb (t.take j)
  rw [List.length_take] at this
  unfold J
  omega
theorem J_next {t : List Bf} {j : Nat} (hj : j < t.length) : (J t j = [] ∧ J t (j + 1) = [t.getD j default]) ∨ ∃ init q, J t j = init ++ [q] ∧ J t (j + 1) = if joins q (t.getD j default) = true then init ++ [⟨q.n, q.lo, (t.getD j default).hi, q.to⟩] else init ++ [q] ++ [t.getD j default] := by
  unfold J
  rw [List.take_succ_eq_append_getElem hj, getB hj]
  exact Tb.joined_snoc EB.toTb EB.jb t[j] (t.take j)
theorem getD_last {init : List Bf} {q : Bf} : (init ++ [q]).getD init.length default = q := by simp [List.getD]
theorem set_last {init : List Bf} {q r : Bf} : (init ++ [q]).set init.length r = init ++ [r] := by simp
def SBuild : Sp := ⟨List Bf, fun l => l.length ≤ 100000000, fun l => [aB l], fun l => .row 73 4 (EB.build l).length (els cBf (EB.build l))⟩
set_option maxHeartbeats 16000000 in
theorem build : SpOK Tryz.prog 67 SBuild := fun (l : List Bf) hl => by
  have hC : COK Tryz.prog (cfg [(86, SBSane), (110, SOver), (87, SJoins)]) := Ty.ty.cfg ⟨saneB, over, joinsB, trivial⟩
  have hl : l.length ≤ 100000000 := hl
  ((refine Fn.ofF hC Tryz.func67 Tryz.ntmps67 rfl rfl rfl ?_); (repeat' first | (with_reducible exact trivial) | (with_reducible rfl) | (refine And.intro ?_ ?_) | (refine Need.mk ?_) | exact True.intro | (first | (refine ⟨_, Told.refl _, ?_, ?_⟩) | (refine ⟨⟨_, _⟩, Told.refl _, ?_, ?_⟩) | (refine ⟨⟨_, _, _⟩, Told.refl _, ?_, ?_⟩) | (refine ⟨⟨_, _, _, _⟩, Told.refl _, ?_, ?_⟩) | (refine ⟨⟨_, _, _, _, _⟩, Told.refl _, ?_, ?_⟩) | (refine ⟨(), Told.refl _, ?_, ?_⟩)) | (with_reducible intro _) | (refine fun (_ : Bool) => ?_)))
  refine AW.loop (I := fun k : Nat => ⟨54, [(3, .own 0), (10, aB l), (11, .int .i64 l.length), (12, .int .i64 k)], [.row 73 4 (F l k).length (els cBf (F l k))]⟩) (fun k => k ≤ l.length) (fun k => l.length - k) 0 (Nat.zero_le _) ?_ ?_
  · (repeat' first | (with_reducible exact trivial) | (with_reducible rfl) | (refine And.intro ?_ ?_) | (refine Need.mk ?_) | exact True.intro | (first | (refine ⟨_, Told.refl _, ?_, ?_⟩) | (refine ⟨⟨_, _⟩, Told.refl _, ?_, ?_⟩) | (refine ⟨⟨_, _, _⟩, Told.refl _, ?_, ?_⟩) | (refine ⟨⟨_, _, _, _⟩, Told.refl _, ?_, ?_⟩) | (refine ⟨⟨_, _, _, _, _⟩, Told.refl _, ?_, ?_⟩) | (refine ⟨(), Told.refl _, ?_, ?_⟩)) | (with_reducible intro _) | (refine fun (_ : Bool) => ?_))
    all_goals rfl
  · intro k hk
    have hfl := F_len l k
    obtain ⟨fo, fg, _, _⟩ := EB.fold_ok (l.take k)
    have fo : EB.OD (F l k) := fo
    have fg : ∀ x ∈ F l k, sane x = true := fg
    rcases Nat.lt_or_ge k l.length with hlt | hge
    · have hw := iw (n := (k : Int) + 1) (by omega) (by omega)
      have hnx : F l (k + 1) = if sane (l.getD (k : Int).toNat default) = true then EB.over (F l k) (l.getD (k : Int).toNat default) else F l k := F_next hlt
      have hd : decide ((k : Int) < (l.length : Int)) = true := decide_eq_true (by omega)
      have hY : sane (l.getD (k : Int).toNat default) = true → F l (k + 1) = EB.over (F l k) (l.getD (k : Int).toNat default) := fun h => by rw [hnx, if_pos h]
      have hN : sane (l.getD (k : Int).toNat default) = false → F l (k + 1) = F l k := fun h => by rw [hnx, if_neg (by rw [h]; decide)]
      clear hnx
      ((refine AW.byF ‹_› ?_); (repeat' first | (with_reducible exact trivial) | (with_reducible rfl) | (refine And.intro ?_ ?_) | (refine Need.mk ?_) | exact True.intro | (first | (refine ⟨_, Told.refl _, ?_, ?_⟩) | (refine ⟨⟨_, _⟩, Told.refl _, ?_, ?_⟩) | (refine ⟨⟨_, _, _⟩, Told.refl _, ?_, ?_⟩) | (refine ⟨⟨_, _, _, _⟩, Told.refl _, ?_, ?_⟩) | (refine ⟨⟨_, _, _, _, _⟩, Told.refl _, ?_, ?_⟩) | (refine ⟨(), Told.refl _, ?_, ?_⟩)) | (with_reducible intro _) | (refine fun (_ : Bool) => ?_)))
      all_goals first | (exact absurd ‹decide ((k : Int) < (l.length : Int)) = false› (by rw [hd]; decide)) | skip
      any_goals (refine Exists.intro (k + 1) (And.intro ?_ (And.intro ?_ ?_)); all_goals (repeat' first | (with_reducible exact trivial) | (with_reducible rfl) | (refine And.intro ?_ ?_) | (refine Need.mk ?_) | exact True.intro | (first | (refine ⟨_, Told.refl _, ?_, ?_⟩) | (refine ⟨⟨_, _⟩, Told.refl _, ?_, ?_⟩) | (refine ⟨⟨_, _, _⟩, Told.refl _, ?_, ?_⟩) | (refine ⟨⟨_, _, _, _⟩, Told.refl _, ?_, ?_⟩) | (refine ⟨⟨_, _, _, _, _⟩, Told.refl _, ?_, ?_⟩) | (refine ⟨(), Told.refl _, ?_, ?_⟩)) | (with_reducible intro _) | (refine fun (_ : Bool) => ?_)))
      all_goals first
        | omega
        | assumption
        | exact fg _ ‹_›
        | (rw [hw]; omega)
        | (rw [hY ‹_›]; done)
        | (rw [hN ‹_›]; done)
        | (have hi := ‹_ < (F l (k + 1)).length›; rw [hY ‹_›] at hi ⊢; exact els_of cBf_emb (n := 0) (fun _ _ => rfl) _ hi)
        | (have hi := ‹_ < (F l (k + 1)).length›; rw [hN ‹_›] at hi ⊢; exact els_of cBf_emb (n := 0) (fun _ _ => rfl) _ hi)
    · obtain rfl : k = l.length := by omega
      have hd : decide ((l.length : Int) < (l.length : Int)) = false := decide_eq_false (by omega)
      have hbl : EB.build l = J (F l l.length) (F l l.length).length := by
        unfold J F
        rw [List.take_length, List.take_length]
        rfl
      ((refine AW.byF ‹_› ?_); (repeat' first | (with_reducible exact trivial) | (with_reducible rfl) | (refine And.intro ?_ ?_) | (refine Need.mk ?_) | exact True.intro | (first | (refine ⟨_, Told.refl _, ?_, ?_⟩) | (refine ⟨⟨_, _⟩, Told.refl _, ?_, ?_⟩) | (refine ⟨⟨_, _, _⟩, Told.refl _, ?_, ?_⟩) | (refine ⟨⟨_, _, _, _⟩, Told.refl _, ?_, ?_⟩) | (refine ⟨⟨_, _, _, _, _⟩, Told.refl _, ?_, ?_⟩) | (refine ⟨(), Told.refl _, ?_, ?_⟩)) | (with_reducible intro _) | (refine fun (_ : Bool) => ?_)))
      all_goals first | (exact absurd ‹decide ((l.length : Int) < (l.length : Int)) = true› (by rw [hd]; decide)) | skip
      refine AW.loop (I := fun j : Nat => ⟨54, [(22, .own 0), (23, .int .i64 (F l l.length).length), (24, .int .i64 j), (6, .own 1)], [.row 73 4 (F l l.length).length (els cBf (F l l.length)), .row 73 4 (J (F l l.length) j).length (els cBf (J (F l l.length) j))]⟩) (fun j => j ≤ (F l l.length).length) (fun j => (F l l.length).length - j) 0 (Nat.zero_le _) ?_ ?_
      · (repeat' first | (with_reducible exact trivial) | (with_reducible rfl) | (refine And.intro ?_ ?_) | (refine Need.mk ?_) | exact True.intro | (first | (refine ⟨_, Told.refl _, ?_, ?_⟩) | (refine ⟨⟨_, _⟩, Told.refl _, ?_, ?_⟩) | (refine ⟨⟨_, _, _⟩, Told.refl _, ?_, ?_⟩) | (refine ⟨⟨_, _, _, _⟩, Told.refl _, ?_, ?_⟩) | (refine ⟨⟨_, _, _, _, _⟩, Told.refl _, ?_, ?_⟩) | (refine ⟨(), Told.refl _, ?_, ?_⟩)) | (with_reducible intro _) | (refine fun (_ : Bool) => ?_))
        all_goals rfl
      · intro j hj
        have hjl := J_len (F l l.length) j
        have hjs := J_sane fo fg j
        rcases Nat.lt_or_ge j (F l l.length).length with hlt | hge
        · have hx : sane ((F l l.length).getD (j : Int).toNat default) = true := by
            rw [Int.toNat_natCast, getB hlt]
            exact fg _ (List.getElem_mem _)
          have hd2 : decide ((j : Int) < ((F l l.length).length : Int)) = true := decide_eq_true (by omega)
          have hw := iw (n := (j : Int) + 1) (by omega) (by omega)
          rcases J_next hlt with ⟨j1, j2⟩ | ⟨init, q, j1, j2⟩
          · rw [j1] at hjl ⊢
            ((refine AW.byF ‹_› ?_); (repeat' first | (with_reducible exact trivial) | (with_reducible rfl) | (refine And.intro ?_ ?_) | (refine Need.mk ?_) | exact True.intro | (first | (refine ⟨_, Told.refl _, ?_, ?_⟩) | (refine ⟨⟨_, _⟩, Told.refl _, ?_, ?_⟩) | (refine ⟨⟨_, _, _⟩, Told.refl _, ?_, ?_⟩) | (refine ⟨⟨_, _, _, _⟩, Told.refl _, ?_, ?_⟩) | (refine ⟨⟨_, _, _, _, _⟩, Told.refl _, ?_, ?_⟩) | (refine ⟨(), Told.refl _, ?_, ?_⟩)) | (with_reducible intro _) | (refine fun (_ : Bool) => ?_)))
            all_goals first | (exact absurd ‹decide ((j : Int) < ((F l l.length).length : Int)) = false› (by rw [hd2]; decide)) | skip
            all_goals first | (exact absurd ‹decide ((([] : List Bf).length : Int) > 0) = true› (by decide)) | skip
            any_goals (refine Exists.intro (j + 1) (And.intro ?_ (And.intro ?_ ?_)); all_goals (repeat' first | (with_reducible exact trivial) | (with_reducible rfl) | (refine And.intro ?_ ?_) | (refine Need.mk ?_) | exact True.intro | (first | (refine ⟨_, Told.refl _, ?_, ?_⟩) | (refine ⟨⟨_, _⟩, Told.refl _, ?_, ?_⟩) | (refine ⟨⟨_, _, _⟩, Told.refl _, ?_, ?_⟩) | (refine ⟨⟨_, _, _, _⟩, Told.refl _, ?_, ?_⟩) | (refine ⟨⟨_, _, _, _, _⟩, Told.refl _, ?_, ?_⟩) | (refine ⟨(), Told.refl _, ?_, ?_⟩)) | (with_reducible intro _) | (refine fun (_ : Bool) => ?_)))
            all_goals first
              | omega
              | assumption
              | (dsimp only; omega)
              | (rw [hw]; omega)
              | (rw [j2]; rfl)
              | (have hi := ‹_ < (J (F l l.length) (j + 1)).length›; rw [j2] at hi ⊢; exact els_of cBf_emb (n := 0) (cat_snoc' (l := []) rfl (fun _ _ => rfl)) _ hi)
              | (exact els_of cBf_emb (n := 0) (fun _ _ => rfl) _ ‹_›)
          · rw [j1] at hjl hjs ⊢
            have hq : sane q = true := hjs q (by simp)
            have hlen : (init ++ [q]).length = init.length + 1 := by simp
            have e3 : IntKind.i64.wrap (((init ++ [q]).length : Int) - 1) = ((init.length : Nat) : Int) := by rw [iw (by omega) (by omega)]; omega
            have hgl : (init ++ [q]).getD (IntKind.i64.wrap (((init ++ [q]).length : Int) - 1)).toNat default = q := by rw [e3, Int.toNat_natCast, getD_last]
            have hd3 : decide (((init ++ [q]).length : Int) > 0) = true := decide_eq_true (by omega)
            have hJ1 : joins ((init ++ [q]).getD (IntKind.i64.wrap (((init ++ [q]).length : Int) - 1)).toNat default) ((F l l.length).getD (j : Int).toNat default) = true → J (F l l.length) (j + 1) = init ++ [⟨q.n, q.lo, ((F l l.length).getD (j : Int).toNat default).hi, q.to⟩] := fun h => by
              rw [hgl] at h
              rw [j2]
              exact if_pos h
            have hJ2 : joins ((init ++ [q]).getD (IntKind.i64.wrap (((init ++ [q]).length : Int) - 1)).toNat default) ((F l l.length).getD (j : Int).toNat default) = false → J (F l l.length) (j + 1) = init ++ [q] ++ [(F l l.length).getD (j : Int).toNat default] := fun h => by
              rw [hgl] at h
              rw [j2, if_neg (by rw [show (F l l.length).getD j default = (F l l.length).getD (j : Int).toNat default from rfl, h]; decide)]
              rfl
            ((refine AW.byF ‹_› ?_); (repeat' first | (with_reducible exact trivial) | (with_reducible rfl) | (refine And.intro ?_ ?_) | (refine Need.mk ?_) | exact True.intro | (first | (refine ⟨_, Told.refl _, ?_, ?_⟩) | (refine ⟨⟨_, _⟩, Told.refl _, ?_, ?_⟩) | (refine ⟨⟨_, _, _⟩, Told.refl _, ?_, ?_⟩) | (refine ⟨⟨_, _, _, _⟩, Told.refl _, ?_, ?_⟩) | (refine ⟨⟨_, _, _, _, _⟩, Told.refl _, ?_, ?_⟩) | (refine ⟨(), Told.refl _, ?_, ?_⟩)) | (with_reducible intro _) | (refine fun (_ : Bool) => ?_)))
            all_goals first | (exact absurd ‹decide ((j : Int) < ((F l l.length).length : Int)) = false› (by rw [hd2]; decide)) | skip
            all_goals first | (exact absurd ‹decide (((init ++ [q]).length : Int) > 0) = false› (by rw [hd3]; decide)) | skip
            any_goals (refine Exists.intro (j + 1) (And.intro ?_ (And.intro ?_ ?_)); all_goals (repeat' first | (with_reducible exact trivial) | (with_reducible rfl) | (refine And.intro ?_ ?_) | (refine Need.mk ?_) | exact True.intro | (first | (refine ⟨_, Told.refl _, ?_, ?_⟩) | (refine ⟨⟨_, _⟩, Told.refl _, ?_, ?_⟩) | (refine ⟨⟨_, _, _⟩, Told.refl _, ?_, ?_⟩) | (refine ⟨⟨_, _, _, _⟩, Told.refl _, ?_, ?_⟩) | (refine ⟨⟨_, _, _, _, _⟩, Told.refl _, ?_, ?_⟩) | (refine ⟨(), Told.refl _, ?_, ?_⟩)) | (with_reducible intro _) | (refine fun (_ : Bool) => ?_)))
            all_goals first
              | omega
              | assumption
              | (dsimp only; omega)
              | (rw [hw]; omega)
              | (rw [e3]; omega)
              | (rw [hgl]; exact hq)
              | (rw [hJ1 ‹_›, hlen, List.length_append]; rfl)
              | (rw [hJ2 ‹_›]; simp only [List.length_append, List.length_cons, List.length_nil]; done)
              | (have hi := ‹_ < (J (F l l.length) (j + 1)).length›; rw [hJ2 ‹_›] at hi ⊢; exact els_of cBf_emb (n := 0) (cat_snoc' rfl (fun _ _ => rfl)) _ hi)
              | (exact els_of cBf_emb (n := 0) (fun _ _ => rfl) _ ‹_›)
              | (have hi := ‹_ < (J (F l l.length) (j + 1)).length›
                 rw [hJ1 ‹_›] at hi ⊢
                 refine els_of cBf_emb (n := 0) (fun i hi => ?_) _ hi
                 show putEl (IntKind.i64.wrap (((init ++ [q]).length : Int) - 1)).toNat [.int .i64 ((init ++ [q]).getD (IntKind.i64.wrap (((init ++ [q]).length : Int) - 1)).toNat default).n, .int .i64 ((init ++ [q]).getD (IntKind.i64.wrap (((init ++ [q]).length : Int) - 1)).toNat default).lo, .int .i64 ((F l l.length).getD (j : Int).toNat default).hi, aI ((init ++ [q]).getD (IntKind.i64.wrap (((init ++ [q]).length : Int) - 1)).toNat default).to] (els cBf (init ++ [q])) i = _
                 rw [hgl, e3, Int.toNat_natCast]
                 have h2 := put_set (f := cBf) (l := init ++ [q]) (k := init.length) (x := ⟨q.n, q.lo, ((F l l.length).getD (j : Int).toNat default).hi, q.to⟩) (by simp) i (by rw [set_last]; exact hi)
                 rw [set_last] at h2
                 exact h2)
        · obtain rfl : j = (F l l.length).length := by omega
          have hd2 : decide (((F l l.length).length : Int) < ((F l l.length).length : Int)) = false := decide_eq_false (by omega)
          ((refine AW.byF ‹_› ?_); (repeat' first | (with_reducible exact trivial) | (with_reducible rfl) | (refine And.intro ?_ ?_) | (refine Need.mk ?_) | exact True.intro | (first | (refine ⟨_, Told.refl _, ?_, ?_⟩) | (refine ⟨⟨_, _⟩, Told.refl _, ?_, ?_⟩) | (refine ⟨⟨_, _, _⟩, Told.refl _, ?_, ?_⟩) | (refine ⟨⟨_, _, _, _⟩, Told.refl _, ?_, ?_⟩) | (refine ⟨⟨_, _, _, _, _⟩, Told.refl _, ?_, ?_⟩) | (refine ⟨(), Told.refl _, ?_, ?_⟩)) | (with_reducible intro _) | (refine fun (_ : Bool) => ?_)))
          all_goals first | (exact absurd ‹decide (((F l l.length).length : Int) < ((F l l.length).length : Int)) = true› (by rw [hd2]; decide)) | skip
          all_goals rw [hbl]
end Go.Abs.Dest
