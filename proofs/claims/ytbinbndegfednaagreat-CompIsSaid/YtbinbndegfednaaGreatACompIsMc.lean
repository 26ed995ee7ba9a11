/- Several texts of this claim, merged (ACompIsMc). -/
import Derived.Test.YtbinbndegfednaaGreatACompIsMa
import Derived.Test.YtbinbndegfednaaGreatACompIsMb
set_option linter.all false
set_option maxRecDepth 100000
namespace Go.Abs.Cp
open Go.RowKit Go.Proofs Go.Abs.Tab Go.Abs.Dest Go.Abs.Span Go.Abs.Coll Go.Abs.Hx Go.Abs.Mt Go.Abs.Lk Go.Abs.Rc Go.Abs.Utf Go.Abs.Txt
set_option maxHeartbeats 4000000 in
theorem rsaneT : SpOK Tryz.prog 32 SSaneT := fun (t : Tbl) ⟨h1, h2, h3, h4⟩ => by
  have hC : COK Tryz.prog (cfg [(57, SCanR), (56, SSameR), (58, SCanonS), (59, SCanon)]) := Ty.ty.cfg ⟨rcanonR, rsameR, rcanonS, rcanon, trivial⟩
  have hl := canR_len t.spaces
  ((refine Fn.ofF hC Tryz.func32 Tryz.ntmps32 rfl rfl rfl ?_); (repeat' first | (with_reducible exact trivial) | (with_reducible rfl) | (refine And.intro ?_ ?_) | (refine Need.mk ?_) | exact True.intro | (first | (refine ⟨_, Told.refl _, ?_, ?_⟩) | (refine ⟨⟨_, _⟩, Told.refl _, ?_, ?_⟩) | (refine ⟨⟨_, _, _⟩, Told.refl _, ?_, ?_⟩) | (refine ⟨⟨_, _, _, _⟩, Told.refl _, ?_, ?_⟩) | (refine ⟨⟨_, _, _, _, _⟩, Told.refl _, ?_, ?_⟩) | (refine ⟨(), Told.refl _, ?_, ?_⟩)) | (with_reducible intro _) | (refine fun (_ : Bool) => ?_)))
  any_goals exact h1
  any_goals exact h2
  any_goals exact h3
  any_goals exact h4
  any_goals (show (canR t.spaces).length < 9223372036854775807; omega)
  all_goals unfold saneT
  all_goals simp_all
set_option maxHeartbeats 4000000 in
theorem rsaneF : SpOK Tryz.prog 12 SSaneF := fun (f : Fnt) ⟨⟨a1, a2, a3, a4⟩, ⟨b1, b2, b3, b4⟩, ⟨c1, c2, c3, c4⟩⟩ => by
  have hC : COK Tryz.prog (cfg [(32, SSaneT)]) := Ty.ty.cfg ⟨rsaneT, trivial⟩
  ((refine Fn.ofF hC Tryz.func12 Tryz.ntmps12 rfl rfl rfl ?_); (repeat' first | (with_reducible exact trivial) | (with_reducible rfl) | (refine And.intro ?_ ?_) | (refine Need.mk ?_) | exact True.intro | (first | (refine ⟨_, Told.refl _, ?_, ?_⟩) | (refine ⟨⟨_, _⟩, Told.refl _, ?_, ?_⟩) | (refine ⟨⟨_, _, _⟩, Told.refl _, ?_, ?_⟩) | (refine ⟨⟨_, _, _, _⟩, Told.refl _, ?_, ?_⟩) | (refine ⟨⟨_, _, _, _, _⟩, Told.refl _, ?_, ?_⟩) | (refine ⟨(), Told.refl _, ?_, ?_⟩)) | (with_reducible intro _) | (refine fun (_ : Bool) => ?_)))
  any_goals omega
  all_goals unfold saneF
  all_goals simp_all
def STold : Sp := ⟨Fnt × Sg, fun (f, _) => small f.uni ∧ small f.coll, fun (f, x) => [.agg (cFn f), .agg (cG x)], fun (f, x) => .st (.tup [.str (firstT x (tls f)).1, .int .i64 (firstT x (tls f)).2])⟩
set_option maxHeartbeats 16000000 in
theorem rtold : SpOK Tryz.prog 38 STold := fun ⟨f, x⟩ ⟨hu, hc⟩ => by
  have hC : COK Tryz.prog (cfg [(62, SUniL), (65, SDec), (37, STextZ), (66, SCText)]) := Ty.ty.cfg ⟨runiL, rdec16, rtext, rctext, trivial⟩
  have hu : f.uni.bfs.length < 4611686018427387904 := by have := hu.2.2.2; omega
  have hc : f.coll.bfs.length < 4611686018427387904 := by have := hc.2.2.2; omega
  have hfl := find_opt f.uni.bfs x.p.cn x.p.cv
  have hdl := decU_len ((EB.find f.uni.bfs x.p.cn x.p.cv).getD [])
  ((refine Fn.ofF hC Tryz.func38 Tryz.ntmps38 rfl rfl rfl ?_); (repeat' first | (with_reducible exact trivial) | (with_reducible rfl) | (refine And.intro ?_ ?_) | (refine Need.mk ?_) | exact True.intro | (first | (refine ⟨_, Told.refl _, ?_, ?_⟩) | (refine ⟨⟨_, _⟩, Told.refl _, ?_, ?_⟩) | (refine ⟨⟨_, _, _⟩, Told.refl _, ?_, ?_⟩) | (refine ⟨⟨_, _, _, _⟩, Told.refl _, ?_, ?_⟩) | (refine ⟨⟨_, _, _, _, _⟩, Told.refl _, ?_, ?_⟩) | (refine ⟨(), Told.refl _, ?_, ?_⟩)) | (with_reducible intro _) | (refine fun (_ : Bool) => ?_)))
  any_goals (first | (refine Exists.intro [65533] (And.intro (Told.of (lit_sub ci_emb [65533])) (And.intro (by show 1 ≤ 1000000000; decide) ?_)); (repeat' first | (with_reducible exact trivial) | (with_reducible rfl) | (refine And.intro ?_ ?_) | (refine Need.mk ?_) | exact True.intro | (first | (refine ⟨_, Told.refl _, ?_, ?_⟩) | (refine ⟨⟨_, _⟩, Told.refl _, ?_, ?_⟩) | (refine ⟨⟨_, _, _⟩, Told.refl _, ?_, ?_⟩) | (refine ⟨⟨_, _, _, _⟩, Told.refl _, ?_, ?_⟩) | (refine ⟨⟨_, _, _, _, _⟩, Told.refl _, ?_, ?_⟩) | (refine ⟨(), Told.refl _, ?_, ?_⟩)) | (with_reducible intro _) | (refine fun (_ : Bool) => ?_))) | fail)
  all_goals first
    | exact hu
    | exact hc
    | (show (decU _).length ≤ 1000000000; omega)
    | (show ((EB.find f.uni.bfs x.p.cn x.p.cv).getD []).length ≤ 1000000000; omega)
    | skip
  all_goals
    cases hA : EB.find f.uni.bfs x.p.cn x.p.cv <;> cases hB : EB.find f.coll.bfs 2 x.cid
  all_goals first
    | (simp_all [tls, firstT, tellO, fromT, txtO]; done)
end Go.Abs.Cp
set_option maxRecDepth 100000
namespace Go.Abs.Cp
open Go.RowKit Go.Proofs Go.Abs.Tab Go.Abs.Dest Go.Abs.Span Go.Abs.Coll Go.Abs.Hx Go.Abs.Mt Go.Abs.Lk Go.Abs.Rc Go.Abs.Utf Go.Abs.Txt
theorem firstT_end (f : Fnt) (x : Sg) : firstT x ((tls f).drop ((tls f).length - 1)) = (encB [65533], 0) := by
  have e : ∃ A, tls f = A ++ [.n] := ⟨_, by unfold tls; rw [← List.append_assoc]⟩
  obtain ⟨A, hA⟩ := e
  rw [hA, List.length_append, List.length_singleton, Nat.add_sub_cancel, List.drop_left]
  rfl
theorem charT_full {f : Fnt} {x : Sg} (h : x.p.full = true) : charT (tls f) x = ⟨x.p, x.cid, (firstT x (tls f)).2, (firstT x (tls f)).1⟩ := by
  unfold charT
  rw [if_pos h]
theorem charT_bare {f : Fnt} {x : Sg} (h : x.p.full = false) (h2 : x.cid = 0) : charT (tls f) x = ⟨x.p, 0, 0, encB [65533]⟩ := by
  unfold charT
  rw [if_neg (by rw [h]; decide), firstT_end, h2]
theorem sgs_bare {t : Tbl} {s : List Int} {k : Nat} (hk : k < (sgs t s).length) (h : ((sgs t s).getD k default).p.full = false) : ((sgs t s).getD k default).cid = 0 := by
  rw [getG hk] at h ⊢
  have hm := List.getElem_mem hk
  obtain ⟨p, _, hp⟩ := List.mem_map.1 hm
  rw [← hp] at h ⊢
  unfold sgOf at h ⊢
  split
  · rename_i q
    rw [if_pos q] at h
    have h : p.full = false := h
    rw [h] at q
    cases q
  · rfl
def SAllR21 : Sp := ⟨Fnt × List Int, fun (f, s) => (small f.enc ∧ small f.uni ∧ small f.coll) ∧ s.length ≤ 1000000 ∧ B8 s, fun (f, s) => [.agg (cFn f), a8 s], fun (f, s) => .row 77 8 (chars f s).length (els cH (chars f s))⟩
set_option maxHeartbeats 16000000 in
theorem rallF : SpOK Tryz.prog 16 SAllR21 := fun ⟨f, s⟩ ⟨⟨h1, h2, h3⟩, hl, h8⟩ => by
  have hC : COK Tryz.prog (cfg [(12, SSaneF), (36, SLookR), (37, STextZ), (38, STold)]) := Ty.ty.cfg ⟨rsaneF, rlook, rtext, rtold, trivial⟩
  have hp : small f.uni ∧ small f.coll := ⟨h2, h3⟩
  obtain ⟨a1, a2, a3, a4⟩ := h1
  obtain ⟨b1, b2, b3, b4⟩ := h2
  obtain ⟨c1, c2, c3, c4⟩ := h3
  have hsm : smallT f.enc := ⟨by omega, by omega, by omega, by omega⟩
  have hsl := sgs_len f.enc s
  ((refine Fn.ofF hC Tryz.func16 Tryz.ntmps16 rfl rfl rfl ?_); (repeat' first | (with_reducible exact trivial) | (with_reducible rfl) | (refine And.intro ?_ ?_) | (refine Need.mk ?_) | exact True.intro | (first | (refine ⟨_, Told.refl _, ?_, ?_⟩) | (refine ⟨⟨_, _⟩, Told.refl _, ?_, ?_⟩) | (refine ⟨⟨_, _, _⟩, Told.refl _, ?_, ?_⟩) | (refine ⟨⟨_, _, _, _⟩, Told.refl _, ?_, ?_⟩) | (refine ⟨⟨_, _, _, _, _⟩, Told.refl _, ?_, ?_⟩) | (refine ⟨(), Told.refl _, ?_, ?_⟩)) | (with_reducible intro _) | (refine fun (_ : Bool) => ?_)))
  all_goals first | omega | exact hsm | exact h8 | skip
  · have e : chars f s = [] := if_neg (by simpa using ‹(!saneF f) = true›)
    rw [e]
    rfl
  have hs : saneF f = true := by simpa using ‹(!saneF f) = false›
  have e : chars f s = (sgs f.enc s).map (charT (tls f)) := if_pos hs
  refine AW.loop (I := fun k : Nat => ⟨65, [(2, .ptr 0 0), (5, .own 1), (6, .own 2), (7, .int .i64 k)], [.box 28 (cFn f), .row 88 9 (sgs f.enc s).length (els cG (sgs f.enc s)), .row 77 8 (((sgs f.enc s).take k).map (charT (tls f))).length (els cH (((sgs f.enc s).take k).map (charT (tls f))))]⟩) (fun k => k ≤ (sgs f.enc s).length) (fun k => (sgs f.enc s).length - k) 0 (Nat.zero_le _) ?_ ?_
  · (repeat' first | (with_reducible exact trivial) | (with_reducible rfl) | (refine And.intro ?_ ?_) | (refine Need.mk ?_) | exact True.intro | (first | (refine ⟨_, Told.refl _, ?_, ?_⟩) | (refine ⟨⟨_, _⟩, Told.refl _, ?_, ?_⟩) | (refine ⟨⟨_, _, _⟩, Told.refl _, ?_, ?_⟩) | (refine ⟨⟨_, _, _, _⟩, Told.refl _, ?_, ?_⟩) | (refine ⟨⟨_, _, _, _, _⟩, Told.refl _, ?_, ?_⟩) | (refine ⟨(), Told.refl _, ?_, ?_⟩)) | (with_reducible intro _) | (refine fun (_ : Bool) => ?_))
    all_goals first | rfl
  · intro k hk
    rcases Nat.lt_or_ge k (sgs f.enc s).length with hlt | hge
    · have hd : decide ((k : Int) < ((sgs f.enc s).length : Int)) = true := decide_eq_true (by omega)
      have hw := iw (n := (k : Int) + 1) (by omega) (by omega)
      have hnx := map_nextC (f := charT (tls f)) hlt
      have hml : (((sgs f.enc s).take k).map (charT (tls f))).length ≤ (sgs f.enc s).length := by rw [List.length_map, List.length_take]; omega
      have hbr := sgs_bare hlt
      ((refine AW.byF ‹_› ?_); (repeat' first | (with_reducible exact trivial) | (with_reducible rfl) | (refine And.intro ?_ ?_) | (refine Need.mk ?_) | exact True.intro | (first | (refine ⟨_, Told.refl _, ?_, ?_⟩) | (refine ⟨⟨_, _⟩, Told.refl _, ?_, ?_⟩) | (refine ⟨⟨_, _, _⟩, Told.refl _, ?_, ?_⟩) | (refine ⟨⟨_, _, _, _⟩, Told.refl _, ?_, ?_⟩) | (refine ⟨⟨_, _, _, _, _⟩, Told.refl _, ?_, ?_⟩) | (refine ⟨(), Told.refl _, ?_, ?_⟩)) | (with_reducible intro _) | (refine fun (_ : Bool) => ?_)))
      all_goals first | (exact absurd ‹decide ((k : Int) < ((sgs f.enc s).length : Int)) = false› (by rw [hd]; decide)) | skip
      any_goals (first | (refine Exists.intro [65533] (And.intro (Told.of (lit_sub ci_emb [65533])) (And.intro (by show 1 ≤ 1000000000; decide) ?_)); (repeat' first | (with_reducible exact trivial) | (with_reducible rfl) | (refine And.intro ?_ ?_) | (refine Need.mk ?_) | exact True.intro | (first | (refine ⟨_, Told.refl _, ?_, ?_⟩) | (refine ⟨⟨_, _⟩, Told.refl _, ?_, ?_⟩) | (refine ⟨⟨_, _, _⟩, Told.refl _, ?_, ?_⟩) | (refine ⟨⟨_, _, _, _⟩, Told.refl _, ?_, ?_⟩) | (refine ⟨⟨_, _, _, _, _⟩, Told.refl _, ?_, ?_⟩) | (refine ⟨(), Told.refl _, ?_, ?_⟩)) | (with_reducible intro _) | (refine fun (_ : Bool) => ?_))) | fail)
      any_goals (first | (refine Exists.intro ((k + 1 : Nat)) (And.intro ?_ (And.intro ?_ ?_)); all_goals (repeat' first | (with_reducible exact trivial) | (with_reducible rfl) | (refine And.intro ?_ ?_) | (refine Need.mk ?_) | exact True.intro | (first | (refine ⟨_, Told.refl _, ?_, ?_⟩) | (refine ⟨⟨_, _⟩, Told.refl _, ?_, ?_⟩) | (refine ⟨⟨_, _, _⟩, Told.refl _, ?_, ?_⟩) | (refine ⟨⟨_, _, _, _⟩, Told.refl _, ?_, ?_⟩) | (refine ⟨⟨_, _, _, _, _⟩, Told.refl _, ?_, ?_⟩) | (refine ⟨(), Told.refl _, ?_, ?_⟩)) | (with_reducible intro _) | (refine fun (_ : Bool) => ?_))) | fail)
      all_goals try simp only [Int.toNat_natCast] at *
      all_goals first
        | omega
        | exact hp
        | (show ((((sgs f.enc s).take k).map (charT (tls f))).length + 1) * 80 ≤ _; omega)
        | (rw [hw]; rfl)
        | (rw [hnx, List.length_append]; rfl)
        | (have q := ‹((sgs f.enc s).getD k default).p.full = true›
           rename_i z hz
           rw [hnx, charT_full q] at hz ⊢
           refine snoc_sub cH_emb rfl ?_ z hz
           refine ⟨⟨rfl⟩, ⟨rfl⟩, ⟨?_⟩, ⟨rfl⟩, ⟨rfl⟩, ⟨rfl⟩, ⟨rfl⟩, ⟨rfl⟩, trivial⟩
           first | rfl | exact q | exact q.symm)
        | (have q := ‹((sgs f.enc s).getD k default).p.full = false›
           rename_i z hz
           rw [hnx, charT_bare q (hbr q)] at hz ⊢
           refine snoc_sub cH_emb rfl ?_ z hz
           refine ⟨⟨rfl⟩, ⟨rfl⟩, ⟨?_⟩, ⟨rfl⟩, ⟨rfl⟩, ⟨rfl⟩, ⟨rfl⟩, ⟨rfl⟩, trivial⟩
           first | rfl | exact q | exact q.symm)
    · obtain rfl : k = (sgs f.enc s).length := by omega
      have hd : decide (((sgs f.enc s).length : Int) < ((sgs f.enc s).length : Int)) = false := decide_eq_false (by omega)
      ((refine AW.byF ‹_› ?_); (repeat' first | (with_reducible exact trivial) | (with_reducible rfl) | (refine And.intro ?_ ?_) | (refine Need.mk ?_) | exact True.intro | (first | (refine ⟨_, Told.refl _, ?_, ?_⟩) | (refine ⟨⟨_, _⟩, Told.refl _, ?_, ?_⟩) | (refine ⟨⟨_, _, _⟩, Told.refl _, ?_, ?_⟩) | (refine ⟨⟨_, _, _, _⟩, Told.refl _, ?_, ?_⟩) | (refine ⟨⟨_, _, _, _, _⟩, Told.refl _, ?_, ?_⟩) | (refine ⟨(), Told.refl _, ?_, ?_⟩)) | (with_reducible intro _) | (refine fun (_ : Bool) => ?_)))
      all_goals first | (exact absurd ‹decide (((sgs f.enc s).length : Int) < ((sgs f.enc s).length : Int)) = true› (by rw [hd]; decide)) | skip
      all_goals rw [e, List.take_length]
set_option maxHeartbeats 16000000 in
theorem rcidsF : SpOK Tryz.prog 21 SCidsF := fun ⟨f, s⟩ ⟨⟨⟨a1, a2, a3, a4⟩, ⟨b1, b2, b3, b4⟩, ⟨c1, c2, c3, c4⟩⟩, hl, h8⟩ => by
  have hC : COK Tryz.prog (cfg [(16, SAllR21)]) := Ty.ty.cfg ⟨rallF, trivial⟩
  have hcl := chars_len f s
  ((refine Fn.ofF hC Tryz.func21 Tryz.ntmps21 rfl rfl rfl ?_); (repeat' first | (with_reducible exact trivial) | (with_reducible rfl) | (refine And.intro ?_ ?_) | (refine Need.mk ?_) | exact True.intro | (first | (refine ⟨_, Told.refl _, ?_, ?_⟩) | (refine ⟨⟨_, _⟩, Told.refl _, ?_, ?_⟩) | (refine ⟨⟨_, _, _⟩, Told.refl _, ?_, ?_⟩) | (refine ⟨⟨_, _, _, _⟩, Told.refl _, ?_, ?_⟩) | (refine ⟨⟨_, _, _, _, _⟩, Told.refl _, ?_, ?_⟩) | (refine ⟨(), Told.refl _, ?_, ?_⟩)) | (with_reducible intro _) | (refine fun (_ : Bool) => ?_)))
  all_goals first | omega | exact h8 | skip
  refine AW.loop (I := fun k : Nat => ⟨26, [(5, .own 0), (6, .own 1), (7, .int .i64 k)], [.row 77 8 (chars f s).length (els cH (chars f s)), .row 3 1 (((chars f s).take k).map Chr.cid).length (els ci (((chars f s).take k).map Chr.cid))]⟩) (fun k => k ≤ (chars f s).length) (fun k => (chars f s).length - k) 0 (Nat.zero_le _) ?_ ?_
  · (repeat' first | (with_reducible exact trivial) | (with_reducible rfl) | (refine And.intro ?_ ?_) | (refine Need.mk ?_) | exact True.intro | (first | (refine ⟨_, Told.refl _, ?_, ?_⟩) | (refine ⟨⟨_, _⟩, Told.refl _, ?_, ?_⟩) | (refine ⟨⟨_, _, _⟩, Told.refl _, ?_, ?_⟩) | (refine ⟨⟨_, _, _, _⟩, Told.refl _, ?_, ?_⟩) | (refine ⟨⟨_, _, _, _, _⟩, Told.refl _, ?_, ?_⟩) | (refine ⟨(), Told.refl _, ?_, ?_⟩)) | (with_reducible intro _) | (refine fun (_ : Bool) => ?_))
    all_goals first | rfl
  · intro k hk
    rcases Nat.lt_or_ge k (chars f s).length with hlt | hge
    · have hd : decide ((k : Int) < ((chars f s).length : Int)) = true := decide_eq_true (by omega)
      have hw := iw (n := (k : Int) + 1) (by omega) (by omega)
      have hnx := cid_next hlt
      have hml : (((chars f s).take k).map Chr.cid).length ≤ (chars f s).length := by rw [List.length_map, List.length_take]; omega
      ((refine AW.byF ‹_› ?_); (repeat' first | (with_reducible exact trivial) | (with_reducible rfl) | (refine And.intro ?_ ?_) | (refine Need.mk ?_) | exact True.intro | (first | (refine ⟨_, Told.refl _, ?_, ?_⟩) | (refine ⟨⟨_, _⟩, Told.refl _, ?_, ?_⟩) | (refine ⟨⟨_, _, _⟩, Told.refl _, ?_, ?_⟩) | (refine ⟨⟨_, _, _, _⟩, Told.refl _, ?_, ?_⟩) | (refine ⟨⟨_, _, _, _, _⟩, Told.refl _, ?_, ?_⟩) | (refine ⟨(), Told.refl _, ?_, ?_⟩)) | (with_reducible intro _) | (refine fun (_ : Bool) => ?_)))
      all_goals first | (exact absurd ‹decide ((k : Int) < ((chars f s).length : Int)) = false› (by rw [hd]; decide)) | skip
      any_goals (first | (refine Exists.intro ((k + 1 : Nat)) (And.intro ?_ (And.intro ?_ ?_)); all_goals (repeat' first | (with_reducible exact trivial) | (with_reducible rfl) | (refine And.intro ?_ ?_) | (refine Need.mk ?_) | exact True.intro | (first | (refine ⟨_, Told.refl _, ?_, ?_⟩) | (refine ⟨⟨_, _⟩, Told.refl _, ?_, ?_⟩) | (refine ⟨⟨_, _, _⟩, Told.refl _, ?_, ?_⟩) | (refine ⟨⟨_, _, _, _⟩, Told.refl _, ?_, ?_⟩) | (refine ⟨⟨_, _, _, _, _⟩, Told.refl _, ?_, ?_⟩) | (refine ⟨(), Told.refl _, ?_, ?_⟩)) | (with_reducible intro _) | (refine fun (_ : Bool) => ?_))) | fail)
      all_goals try simp only [Int.toNat_natCast] at *
      all_goals first
        | omega
        | (show ((((chars f s).take k).map Chr.cid).length + 1) * 8 ≤ _; omega)
        | (rw [hw]; rfl)
        | (rw [hnx, List.length_append]; rfl)
        | (rename_i z hz
           rw [hnx] at hz ⊢
           exact els_of ci_emb (n := 0) (cat_snoc rfl) z hz)
    · obtain rfl : k = (chars f s).length := by omega
      have hd : decide (((chars f s).length : Int) < ((chars f s).length : Int)) = false := decide_eq_false (by omega)
      ((refine AW.byF ‹_› ?_); (repeat' first | (with_reducible exact trivial) | (with_reducible rfl) | (refine And.intro ?_ ?_) | (refine Need.mk ?_) | exact True.intro | (first | (refine ⟨_, Told.refl _, ?_, ?_⟩) | (refine ⟨⟨_, _⟩, Told.refl _, ?_, ?_⟩) | (refine ⟨⟨_, _, _⟩, Told.refl _, ?_, ?_⟩) | (refine ⟨⟨_, _, _, _⟩, Told.refl _, ?_, ?_⟩) | (refine ⟨⟨_, _, _, _, _⟩, Told.refl _, ?_, ?_⟩) | (refine ⟨(), Told.refl _, ?_, ?_⟩)) | (with_reducible intro _) | (refine fun (_ : Bool) => ?_)))
      all_goals first | (exact absurd ‹decide (((chars f s).length : Int) < ((chars f s).length : Int)) = true› (by rw [hd]; decide)) | skip
      all_goals rw [List.take_length]
set_option maxHeartbeats 16000000 in
theorem rtextF : SpOK Tryz.prog 18 STextF := fun ⟨f, s⟩ ⟨⟨⟨⟨a1, a2, a3, a4⟩, ⟨b1, b2, b3, b4⟩, ⟨c1, c2, c3, c4⟩⟩, hl, h8⟩, ht⟩ => by
  have hC : COK Tryz.prog (cfg [(16, SAllR21)]) := Ty.ty.cfg ⟨rallF, trivial⟩
  have hcl := chars_len f s
  have hl : s.length ≤ 1000000 := hl
  ((refine Fn.ofF hC Tryz.func18 Tryz.ntmps18 rfl rfl rfl ?_); (repeat' first | (with_reducible exact trivial) | (with_reducible rfl) | (refine And.intro ?_ ?_) | (refine Need.mk ?_) | exact True.intro | (first | (refine ⟨_, Told.refl _, ?_, ?_⟩) | (refine ⟨⟨_, _⟩, Told.refl _, ?_, ?_⟩) | (refine ⟨⟨_, _, _⟩, Told.refl _, ?_, ?_⟩) | (refine ⟨⟨_, _, _, _⟩, Told.refl _, ?_, ?_⟩) | (refine ⟨⟨_, _, _, _, _⟩, Told.refl _, ?_, ?_⟩) | (refine ⟨(), Told.refl _, ?_, ?_⟩)) | (with_reducible intro _) | (refine fun (_ : Bool) => ?_)))
  all_goals first | omega | exact h8 | skip
  refine AW.loop (I := fun k : Nat => ⟨25, [(5, .own 0), (6, .str (txtT ((chars f s).take k))), (7, .int .i64 k)], [.row 77 8 (chars f s).length (els cH (chars f s))]⟩) (fun k => k ≤ (chars f s).length) (fun k => (chars f s).length - k) 0 (Nat.zero_le _) ?_ ?_
  · (repeat' first | (with_reducible exact trivial) | (with_reducible rfl) | (refine And.intro ?_ ?_) | (refine Need.mk ?_) | exact True.intro | (first | (refine ⟨_, Told.refl _, ?_, ?_⟩) | (refine ⟨⟨_, _⟩, Told.refl _, ?_, ?_⟩) | (refine ⟨⟨_, _, _⟩, Told.refl _, ?_, ?_⟩) | (refine ⟨⟨_, _, _, _⟩, Told.refl _, ?_, ?_⟩) | (refine ⟨⟨_, _, _, _, _⟩, Told.refl _, ?_, ?_⟩) | (refine ⟨(), Told.refl _, ?_, ?_⟩)) | (with_reducible intro _) | (refine fun (_ : Bool) => ?_))
    all_goals first | rfl
  · intro k hk
    rcases Nat.lt_or_ge k (chars f s).length with hlt | hge
    · have hd : decide ((k : Int) < ((chars f s).length : Int)) = true := decide_eq_true (by omega)
      have hw := iw (n := (k : Int) + 1) (by omega) (by omega)
      have hnx := txtT_next hlt
      have hsz := txtT_size ((chars f s).take k) (fun c hc => ht c (List.mem_of_mem_take hc))
      have hgt := ht ((chars f s).getD k default) (by rw [getH hlt]; exact List.getElem_mem hlt)
      have hln : ((chars f s).take k).length ≤ 1000000 := by rw [List.length_take]; omega
      ((refine AW.byF ‹_› ?_); (repeat' first | (with_reducible exact trivial) | (with_reducible rfl) | (refine And.intro ?_ ?_) | (refine Need.mk ?_) | exact True.intro | (first | (refine ⟨_, Told.refl _, ?_, ?_⟩) | (refine ⟨⟨_, _⟩, Told.refl _, ?_, ?_⟩) | (refine ⟨⟨_, _, _⟩, Told.refl _, ?_, ?_⟩) | (refine ⟨⟨_, _, _, _⟩, Told.refl _, ?_, ?_⟩) | (refine ⟨⟨_, _, _, _, _⟩, Told.refl _, ?_, ?_⟩) | (refine ⟨(), Told.refl _, ?_, ?_⟩)) | (with_reducible intro _) | (refine fun (_ : Bool) => ?_)))
      all_goals first | (exact absurd ‹decide ((k : Int) < ((chars f s).length : Int)) = false› (by rw [hd]; decide)) | skip
      any_goals (first | (refine Exists.intro ((k + 1 : Nat)) (And.intro ?_ (And.intro ?_ ?_)); all_goals (repeat' first | (with_reducible exact trivial) | (with_reducible rfl) | (refine And.intro ?_ ?_) | (refine Need.mk ?_) | exact True.intro | (first | (refine ⟨_, Told.refl _, ?_, ?_⟩) | (refine ⟨⟨_, _⟩, Told.refl _, ?_, ?_⟩) | (refine ⟨⟨_, _, _⟩, Told.refl _, ?_, ?_⟩) | (refine ⟨⟨_, _, _, _⟩, Told.refl _, ?_, ?_⟩) | (refine ⟨⟨_, _, _, _, _⟩, Told.refl _, ?_, ?_⟩) | (refine ⟨(), Told.refl _, ?_, ?_⟩)) | (with_reducible intro _) | (refine fun (_ : Bool) => ?_))) | fail)
      all_goals try simp only [Int.toNat_natCast] at *
      all_goals first
        | omega
        | (rw [hw]; rfl)
        | (rw [hnx]; done)
    · obtain rfl : k = (chars f s).length := by omega
      have hd : decide (((chars f s).length : Int) < ((chars f s).length : Int)) = false := decide_eq_false (by omega)
      ((refine AW.byF ‹_› ?_); (repeat' first | (with_reducible exact trivial) | (with_reducible rfl) | (refine And.intro ?_ ?_) | (refine Need.mk ?_) | exact True.intro | (first | (refine ⟨_, Told.refl _, ?_, ?_⟩) | (refine ⟨⟨_, _⟩, Told.refl _, ?_, ?_⟩) | (refine ⟨⟨_, _, _⟩, Told.refl _, ?_, ?_⟩) | (refine ⟨⟨_, _, _, _⟩, Told.refl _, ?_, ?_⟩) | (refine ⟨⟨_, _, _, _, _⟩, Told.refl _, ?_, ?_⟩) | (refine ⟨(), Told.refl _, ?_, ?_⟩)) | (with_reducible intro _) | (refine fun (_ : Bool) => ?_)))
      all_goals first | (exact absurd ‹decide (((chars f s).length : Int) < ((chars f s).length : Int)) = true› (by rw [hd]; decide)) | skip
      all_goals rw [List.take_length]
end Go.Abs.Cp
set_option maxRecDepth 100000
namespace Go.Abs.Cp
open Go.RowKit Go.Proofs Go.Abs.Tab Go.Abs.Dest Go.Abs.Span Go.Abs.Coll Go.Abs.Hx Go.Abs.Mt Go.Abs.Lk Go.Abs.Rc Go.Abs.Utf Go.Abs.Txt
theorem eqF_cons {P : Program} {d : Nat} {xs ys : Array Value} {f : Field} {fs : List Field} {w : World} {a b : Value} {r : Bool} (hn : f.name ≠ "_") (pa : (part f.type xs f.offset).run P w = .ok a w) (pb : (part f.type ys f.offset).run P w = .ok b w) (hr : (Op.equalIn d f.type a b).run P w = .ok r w) : (Op.eqFields d xs ys (f :: fs)).run P w = if r = true then (Op.eqFields d xs ys fs).run P w else .ok false w := by
  simp only [Op.eqFields, Sem.run_bind, Sem.run_ite]
  rw [if_pos hn, pa]
  simp only [Result.andThen_ok, pb, hr]
  cases r <;> simp
theorem seq75d (d : Nat) (a0 a1 a3 a4 b0 b1 b3 b4 : Int) (a2 b2 : Bool) (w : World) : (Op.equalIn (d + 4) 75 (.agg #[.int .i64 a0, .int .i64 a1, .bool a2, .int .i64 a3, .int .i64 a4]) (.agg #[.int .i64 b0, .int .i64 b1, .bool b2, .int .i64 b3, .int .i64 b4])).run Tryz.prog w = .ok (eqV [.int .i64 a0, .int .i64 a1, .bool a2, .int .i64 a3, .int .i64 a4] [.int .i64 b0, .int .i64 b1, .bool b2, .int .i64 b3, .int .i64 b4]) w := by
  go_simp
  simp only [eqV]
  repeat' split
  all_goals simp_all
theorem four_ifs (p q r s : Bool) (w : World) : (if p = true then (if q = true then (if r = true then (if s = true then Result.ok true w else Result.ok false w) else Result.ok false w) else Result.ok false w) else Result.ok false w) = Result.ok (p && (q && (r && s))) w := by
  cases p <;> cases q <;> cases r <;> cases s <;> rfl
theorem seq77d (d : Nat) (a0 a1 a3 a4 a5 a6 b0 b1 b3 b4 b5 b6 : Int) (a2 b2 : Bool) (a7 b7 : ByteArray) (w : World) : (Op.equalIn (d + 5) 77 (.agg #[.int .i64 a0, .int .i64 a1, .bool a2, .int .i64 a3, .int .i64 a4, .int .i64 a5, .int .i64 a6, .string a7]) (.agg #[.int .i64 b0, .int .i64 b1, .bool b2, .int .i64 b3, .int .i64 b4, .int .i64 b5, .int .i64 b6, .string b7])).run Tryz.prog w = .ok (eqV [.int .i64 a0, .int .i64 a1, .bool a2, .int .i64 a3, .int .i64 a4, .int .i64 a5, .int .i64 a6, .string a7] [.int .i64 b0, .int .i64 b1, .bool b2, .int .i64 b3, .int .i64 b4, .int .i64 b5, .int .i64 b6, .string b7]) w := by
  have ht : Tryz.prog.underlying 77 = some (.struct (Tryz.prog.fieldsOf 77)) := by kernel_rfl
  have hp : Tryz.prog.stoodInHeld 77 = false := by kernel_rfl
  have h : (Tryz.prog.fieldsOf 77).toList.map (fun f => (f.name, f.type, f.offset)) = [("P", 75, 0), ("Cid", 3, 5), ("From", 3, 6), ("Text", 9, 7)] := by kernel_rfl
  rw [run_equalIn_struct w (d + 4) 77 _ _ ht hp]
  obtain ⟨f0, l0, e0, g0, h⟩ := List.map_eq_cons_iff.1 h
  obtain ⟨f1, l1, e1, g1, h⟩ := List.map_eq_cons_iff.1 h
  obtain ⟨f2, l2, e2, g2, h⟩ := List.map_eq_cons_iff.1 h
  obtain ⟨f3, l3, e3, g3, h⟩ := List.map_eq_cons_iff.1 h
  obtain rfl := List.map_eq_nil_iff.1 h
  injection g0 with n0 g0
  injection g0 with t0 o0
  injection g1 with n1 g1
  injection g1 with t1 o1
  injection g2 with n2 g2
  injection g2 with t2 o2
  injection g3 with n3 g3
  injection g3 with t3 o3
  rw [e0, e1, e2, e3]
  rw [eqF_cons (a := .agg #[.int .i64 a0, .int .i64 a1, .bool a2, .int .i64 a3, .int .i64 a4]) (b := .agg #[.int .i64 b0, .int .i64 b1, .bool b2, .int .i64 b3, .int .i64 b4]) (by rw [n0]; decide) (by rw [t0, o0]; go_simp) (by rw [t0, o0]; go_simp) (by rw [t0]; exact seq75d d _ _ _ _ _ _ _ _ _ _ w)]
  rw [eqF_cons (a := .int .i64 a5) (b := .int .i64 b5) (r := a5 == b5) (by rw [n1]; decide) (by rw [t1, o1]; go_simp) (by rw [t1, o1]; go_simp) (by rw [t1]; exact run_equalIn_int w _ 3 _ .i64 _ _ (by kernel_rfl))]
  rw [eqF_cons (a := .int .i64 a6) (b := .int .i64 b6) (r := a6 == b6) (by rw [n2]; decide) (by rw [t2, o2]; go_simp) (by rw [t2, o2]; go_simp) (by rw [t2]; exact run_equalIn_int w _ 3 _ .i64 _ _ (by kernel_rfl))]
  rw [eqF_cons (a := .string a7) (b := .string b7) (r := a7.toList == b7.toList) (by rw [n3]; decide) (by rw [t3, o3]; go_simp) (by rw [t3, o3]; go_simp) (by rw [t3]; go_simp)]
  simp only [Op.eqFields, Sem.run_pure]
  have e : eqV [.int .i64 a0, .int .i64 a1, .bool a2, .int .i64 a3, .int .i64 a4, .int .i64 a5, .int .i64 a6, .string a7] [.int .i64 b0, .int .i64 b1, .bool b2, .int .i64 b3, .int .i64 b4, .int .i64 b5, .int .i64 b6, .string b7] = (eqV [.int .i64 a0, .int .i64 a1, .bool a2, .int .i64 a3, .int .i64 a4] [.int .i64 b0, .int .i64 b1, .bool b2, .int .i64 b3, .int .i64 b4] && ((a5 == b5) && ((a6 == b6) && (a7.toList == b7.toList)))) := by
    simp only [eqV, Bool.and_assoc, Bool.and_true, Bool.true_and]
  rw [e]
  exact four_ifs _ _ _ _ w
def ksC : List EK := [.i .i64, .i .i64, .b, .i .i64, .i .i64, .i .i64, .i .i64, .s]
theorem fits_i {k : IntKind} {ks : List EK} {xs : List Value} (h : fitsK (.i k :: ks) xs) : ∃ n ys, xs = .int k n :: ys ∧ fitsK ks ys := by
  cases xs with
  | nil => exact h.elim
  | cons v ys =>
    obtain ⟨⟨n, rfl⟩, h⟩ := h
    exact ⟨n, ys, rfl, h⟩
theorem fits_b {ks : List EK} {xs : List Value} (h : fitsK (.b :: ks) xs) : ∃ n ys, xs = .bool n :: ys ∧ fitsK ks ys := by
  cases xs with
  | nil => exact h.elim
  | cons v ys =>
    obtain ⟨⟨n, rfl⟩, h⟩ := h
    exact ⟨n, ys, rfl, h⟩
theorem fits_s {ks : List EK} {xs : List Value} (h : fitsK (.s :: ks) xs) : ∃ n ys, xs = .string n :: ys ∧ fitsK ks ys := by
  cases xs with
  | nil => exact h.elim
  | cons v ys =>
    obtain ⟨⟨n, rfl⟩, h⟩ := h
    exact ⟨n, ys, rfl, h⟩
theorem fits_nil {xs : List Value} (h : fitsK [] xs) : xs = [] := by
  cases xs with
  | nil => rfl
  | cons v ys => exact h.elim
theorem seqC : SeqOK Tryz.prog 77 ksC := by
  refine ⟨Tryz.eqGuardType77, fun xs ys hx hy w => ?_⟩
  unfold ksC at hx hy
  obtain ⟨a0, as0, rfl, hx0⟩ := fits_i hx
  obtain ⟨a1, as1, rfl, hx1⟩ := fits_i hx0
  obtain ⟨a2, as2, rfl, hx2⟩ := fits_b hx1
  obtain ⟨a3, as3, rfl, hx3⟩ := fits_i hx2
  obtain ⟨a4, as4, rfl, hx4⟩ := fits_i hx3
  obtain ⟨a5, as5, rfl, hx5⟩ := fits_i hx4
  obtain ⟨a6, as6, rfl, hx6⟩ := fits_i hx5
  obtain ⟨a7, as7, rfl, hx7⟩ := fits_s hx6
  obtain rfl := fits_nil hx7
  obtain ⟨b0, bs0, rfl, hy0⟩ := fits_i hy
  obtain ⟨b1, bs1, rfl, hy1⟩ := fits_i hy0
  obtain ⟨b2, bs2, rfl, hy2⟩ := fits_b hy1
  obtain ⟨b3, bs3, rfl, hy3⟩ := fits_i hy2
  obtain ⟨b4, bs4, rfl, hy4⟩ := fits_i hy3
  obtain ⟨b5, bs5, rfl, hy5⟩ := fits_i hy4
  obtain ⟨b6, bs6, rfl, hy6⟩ := fits_i hy5
  obtain ⟨b7, bs7, rfl, hy7⟩ := fits_s hy6
  obtain rfl := fits_nil hy7
  rw [show (10000 : Nat) = 9995 + 5 from rfl]
  exact seq77d 9995 _ _ _ _ _ _ _ _ _ _ _ _ _ _ _ _ w
def QC : List (TypeId × List EK) := (77, ksC) :: Ty.Q
theorem tyC : Ty Tryz.prog Ty.T QC := ⟨⟨seqC, Ty.ty.sq⟩, Ty.ty.ok, Ty.ty.chk, Ty.ty.mixed⟩
def SSameC : Sp := ⟨List Chr, fun a => a.length ≤ 1000000, fun a => [aH a, aH a], fun _ => .st (.lit true)⟩
set_option maxHeartbeats 4000000 in
theorem rsameC : SpOK Tryz.prog 13 SSameC := fun (a : List Chr) ha => by
  have hC : COK Tryz.prog ⟨Ty.T, tblL [], fun _ => none, qlook QC, fun _ _ => none, fun _ => none, fun _ _ _ => False⟩ := tyC.cfg trivial
  have ha : a.length ≤ 1000000 := ha
  ((refine Fn.ofF hC Tryz.func13 Tryz.ntmps13 rfl rfl rfl ?_); (repeat' first | (with_reducible exact trivial) | (with_reducible rfl) | (refine And.intro ?_ ?_) | (refine Need.mk ?_) | exact True.intro | (first | (refine ⟨_, Told.refl _, ?_, ?_⟩) | (refine ⟨⟨_, _⟩, Told.refl _, ?_, ?_⟩) | (refine ⟨⟨_, _, _⟩, Told.refl _, ?_, ?_⟩) | (refine ⟨⟨_, _, _, _⟩, Told.refl _, ?_, ?_⟩) | (refine ⟨⟨_, _, _, _, _⟩, Told.refl _, ?_, ?_⟩) | (refine ⟨(), Told.refl _, ?_, ?_⟩)) | (with_reducible intro _) | (refine fun (_ : Bool) => ?_)))
  · exfalso
    have q := ‹((a.length : Int) != (a.length : Int)) = true›
    simp at q
  refine AW.loop (I := fun k : Nat => ⟨26, [(0, aH a), (1, aH a), (5, .int .i64 k)], []⟩) (fun k => k ≤ a.length) (fun k => a.length - k) 0 (Nat.zero_le _) ?_ ?_
  · (repeat' first | (with_reducible exact trivial) | (with_reducible rfl) | (refine And.intro ?_ ?_) | (refine Need.mk ?_) | exact True.intro | (first | (refine ⟨_, Told.refl _, ?_, ?_⟩) | (refine ⟨⟨_, _⟩, Told.refl _, ?_, ?_⟩) | (refine ⟨⟨_, _, _⟩, Told.refl _, ?_, ?_⟩) | (refine ⟨⟨_, _, _, _⟩, Told.refl _, ?_, ?_⟩) | (refine ⟨⟨_, _, _, _, _⟩, Told.refl _, ?_, ?_⟩) | (refine ⟨(), Told.refl _, ?_, ?_⟩)) | (with_reducible intro _) | (refine fun (_ : Bool) => ?_))
    all_goals rfl
  · intro k hk
    rcases Nat.lt_or_ge k a.length with hlt | hge
    · have hd : decide ((k : Int) < (a.length : Int)) = true := decide_eq_true (by omega)
      have hw := iw (n := (k : Int) + 1) (by omega) (by omega)
      ((refine AW.byF ‹_› ?_); (repeat' first | (with_reducible exact trivial) | (with_reducible rfl) | (refine And.intro ?_ ?_) | (refine Need.mk ?_) | exact True.intro | (first | (refine ⟨_, Told.refl _, ?_, ?_⟩) | (refine ⟨⟨_, _⟩, Told.refl _, ?_, ?_⟩) | (refine ⟨⟨_, _, _⟩, Told.refl _, ?_, ?_⟩) | (refine ⟨⟨_, _, _, _⟩, Told.refl _, ?_, ?_⟩) | (refine ⟨⟨_, _, _, _, _⟩, Told.refl _, ?_, ?_⟩) | (refine ⟨(), Told.refl _, ?_, ?_⟩)) | (with_reducible intro _) | (refine fun (_ : Bool) => ?_)))
      all_goals first | (exact absurd ‹decide ((k : Int) < (a.length : Int)) = false› (by rw [hd]; decide)) | skip
      any_goals (first | (refine Exists.intro ((k + 1 : Nat)) (And.intro ?_ (And.intro ?_ ?_)); all_goals (repeat' first | (with_reducible exact trivial) | (with_reducible rfl) | (refine And.intro ?_ ?_) | (refine Need.mk ?_) | exact True.intro | (first | (refine ⟨_, Told.refl _, ?_, ?_⟩) | (refine ⟨⟨_, _⟩, Told.refl _, ?_, ?_⟩) | (refine ⟨⟨_, _, _⟩, Told.refl _, ?_, ?_⟩) | (refine ⟨⟨_, _, _, _⟩, Told.refl _, ?_, ?_⟩) | (refine ⟨⟨_, _, _, _, _⟩, Told.refl _, ?_, ?_⟩) | (refine ⟨(), Told.refl _, ?_, ?_⟩)) | (with_reducible intro _) | (refine fun (_ : Bool) => ?_))) | fail)
      all_goals try simp only [Int.toNat_natCast] at *
      all_goals first
        | omega
        | (rw [hw]; rfl)
        | (exfalso; simp [eqA, bval] at *; done)
    · obtain rfl : k = a.length := by omega
      have hd : decide ((a.length : Int) < (a.length : Int)) = false := decide_eq_false (by omega)
      ((refine AW.byF ‹_› ?_); (repeat' first | (with_reducible exact trivial) | (with_reducible rfl) | (refine And.intro ?_ ?_) | (refine Need.mk ?_) | exact True.intro | (first | (refine ⟨_, Told.refl _, ?_, ?_⟩) | (refine ⟨⟨_, _⟩, Told.refl _, ?_, ?_⟩) | (refine ⟨⟨_, _, _⟩, Told.refl _, ?_, ?_⟩) | (refine ⟨⟨_, _, _, _⟩, Told.refl _, ?_, ?_⟩) | (refine ⟨⟨_, _, _, _, _⟩, Told.refl _, ?_, ?_⟩) | (refine ⟨(), Told.refl _, ?_, ?_⟩)) | (with_reducible intro _) | (refine fun (_ : Bool) => ?_)))
      all_goals first | (exact absurd ‹decide ((a.length : Int) < (a.length : Int)) = true› (by rw [hd]; decide)) | skip
def SChars : Sp := ⟨List Chr, fun L => L.length ≤ 1000000, fun L => [aH L], fun L => .row 77 8 L.length (els cH L)⟩
theorem take_nextH {L : List Chr} {k : Nat} (hk : k < L.length) : L.take (k + 1) = L.take k ++ [L.getD k default] := by
  rw [List.take_succ_eq_append_getElem hk, getH hk]
set_option maxHeartbeats 16000000 in
theorem charsL : SpOK Tryz.prog 14 SChars := fun (L : List Chr) hl => by
  have hC := base
  have hl : L.length ≤ 1000000 := hl
  ((refine Fn.ofF hC Tryz.func14 Tryz.ntmps14 rfl rfl rfl ?_); (repeat' first | (with_reducible exact trivial) | (with_reducible rfl) | (refine And.intro ?_ ?_) | (refine Need.mk ?_) | exact True.intro | (first | (refine ⟨_, Told.refl _, ?_, ?_⟩) | (refine ⟨⟨_, _⟩, Told.refl _, ?_, ?_⟩) | (refine ⟨⟨_, _, _⟩, Told.refl _, ?_, ?_⟩) | (refine ⟨⟨_, _, _, _⟩, Told.refl _, ?_, ?_⟩) | (refine ⟨⟨_, _, _, _, _⟩, Told.refl _, ?_, ?_⟩) | (refine ⟨(), Told.refl _, ?_, ?_⟩)) | (with_reducible intro _) | (refine fun (_ : Bool) => ?_)))
  refine AW.loop (I := fun k : Nat => ⟨46, [(0, aH L), (3, .own 0), (4, .int .i64 k)], [.row 77 8 (L.take k).length (els cH (L.take k))]⟩) (fun k => k ≤ L.length) (fun k => L.length - k) 0 (Nat.zero_le _) ?_ ?_
  · (repeat' first | (with_reducible exact trivial) | (with_reducible rfl) | (refine And.intro ?_ ?_) | (refine Need.mk ?_) | exact True.intro | (first | (refine ⟨_, Told.refl _, ?_, ?_⟩) | (refine ⟨⟨_, _⟩, Told.refl _, ?_, ?_⟩) | (refine ⟨⟨_, _, _⟩, Told.refl _, ?_, ?_⟩) | (refine ⟨⟨_, _, _, _⟩, Told.refl _, ?_, ?_⟩) | (refine ⟨⟨_, _, _, _, _⟩, Told.refl _, ?_, ?_⟩) | (refine ⟨(), Told.refl _, ?_, ?_⟩)) | (with_reducible intro _) | (refine fun (_ : Bool) => ?_))
    all_goals first | rfl
  · intro k hk
    rcases Nat.lt_or_ge k L.length with hlt | hge
    · have hd : decide ((k : Int) < (L.length : Int)) = true := decide_eq_true (by omega)
      have hw := iw (n := (k : Int) + 1) (by omega) (by omega)
      have hnx := take_nextH hlt
      have hml : (L.take k).length ≤ L.length := by rw [List.length_take]; omega
      ((refine AW.byF ‹_› ?_); (repeat' first | (with_reducible exact trivial) | (with_reducible rfl) | (refine And.intro ?_ ?_) | (refine Need.mk ?_) | exact True.intro | (first | (refine ⟨_, Told.refl _, ?_, ?_⟩) | (refine ⟨⟨_, _⟩, Told.refl _, ?_, ?_⟩) | (refine ⟨⟨_, _, _⟩, Told.refl _, ?_, ?_⟩) | (refine ⟨⟨_, _, _, _⟩, Told.refl _, ?_, ?_⟩) | (refine ⟨⟨_, _, _, _, _⟩, Told.refl _, ?_, ?_⟩) | (refine ⟨(), Told.refl _, ?_, ?_⟩)) | (with_reducible intro _) | (refine fun (_ : Bool) => ?_)))
      all_goals first | (exact absurd ‹decide ((k : Int) < (L.length : Int)) = false› (by rw [hd]; decide)) | skip
      any_goals (first | (refine Exists.intro ((k + 1 : Nat)) (And.intro ?_ (And.intro ?_ ?_)); all_goals (repeat' first | (with_reducible exact trivial) | (with_reducible rfl) | (refine And.intro ?_ ?_) | (refine Need.mk ?_) | exact True.intro | (first | (refine ⟨_, Told.refl _, ?_, ?_⟩) | (refine ⟨⟨_, _⟩, Told.refl _, ?_, ?_⟩) | (refine ⟨⟨_, _, _⟩, Told.refl _, ?_, ?_⟩) | (refine ⟨⟨_, _, _, _⟩, Told.refl _, ?_, ?_⟩) | (refine ⟨⟨_, _, _, _, _⟩, Told.refl _, ?_, ?_⟩) | (refine ⟨(), Told.refl _, ?_, ?_⟩)) | (with_reducible intro _) | (refine fun (_ : Bool) => ?_))) | fail)
      all_goals try simp only [Int.toNat_natCast] at *
      all_goals first
        | omega
        | (show ((L.take k).length + 1) * 80 ≤ _; omega)
        | (rw [hw]; rfl)
        | (rw [hnx, List.length_append]; rfl)
        | (rename_i z hz
           rw [hnx] at hz ⊢
           exact els_of cH_emb (n := 0) (cat_snoc rfl) z hz)
    · obtain rfl : k = L.length := by omega
      have hd : decide ((L.length : Int) < (L.length : Int)) = false := decide_eq_false (by omega)
      ((refine AW.byF ‹_› ?_); (repeat' first | (with_reducible exact trivial) | (with_reducible rfl) | (refine And.intro ?_ ?_) | (refine Need.mk ?_) | exact True.intro | (first | (refine ⟨_, Told.refl _, ?_, ?_⟩) | (refine ⟨⟨_, _⟩, Told.refl _, ?_, ?_⟩) | (refine ⟨⟨_, _, _⟩, Told.refl _, ?_, ?_⟩) | (refine ⟨⟨_, _, _, _⟩, Told.refl _, ?_, ?_⟩) | (refine ⟨⟨_, _, _, _, _⟩, Told.refl _, ?_, ?_⟩) | (refine ⟨(), Told.refl _, ?_, ?_⟩)) | (with_reducible intro _) | (refine fun (_ : Bool) => ?_)))
      all_goals first | (exact absurd ‹decide ((L.length : Int) < (L.length : Int)) = true› (by rw [hd]; decide)) | skip
      all_goals rw [List.take_length]
end Go.Abs.Cp
set_option maxRecDepth 100000
namespace Go.Abs.Cp
open Go.RowKit Go.Proofs Go.Abs.Tab Go.Abs.Dest Go.Abs.Span Go.Abs.Coll Go.Abs.Hx Go.Abs.Mt Go.Abs.Lk Go.Abs.Rc Go.Abs.Utf Go.Abs.Txt
set_option maxHeartbeats 16000000 in
theorem compIs : SpOK Tryz.prog 3 SLawF := fun ⟨f, s⟩ h8 => by
  have hC : COK Tryz.prog (cfg [(8, SAwakeP), (9, SFewF), (11, SComps), (10, SSaneF), (12, SSaneF), (15, SAllF), (14, SChars), (16, SAllR21), (13, SSameC), (17, STextF), (18, STextF), (20, SCidsF), (21, SCidsF), (19, SSame)]) := Ty.ty.cfg ⟨awake21, fewFC, comps, saneFC, rsaneF, compAll, charsL, rallF, rsameC, compText, rtextF, compCids, rcidsF, refSame, trivial⟩
  have h8 : B8 s := h8
  have hcl := chars_len f s
  have hsh := chars_short f s
  ((refine Fn.ofF hC Tryz.func3 Tryz.ntmps3 rfl rfl rfl ?_); (repeat' first | (with_reducible exact trivial) | (with_reducible rfl) | (refine And.intro ?_ ?_) | (refine Need.mk ?_) | exact True.intro | (first | (refine ⟨_, Told.refl _, ?_, ?_⟩) | (refine ⟨⟨_, _⟩, Told.refl _, ?_, ?_⟩) | (refine ⟨⟨_, _, _⟩, Told.refl _, ?_, ?_⟩) | (refine ⟨⟨_, _, _, _⟩, Told.refl _, ?_, ?_⟩) | (refine ⟨⟨_, _, _, _, _⟩, Told.refl _, ?_, ?_⟩) | (refine ⟨(), Told.refl _, ?_, ?_⟩)) | (with_reducible intro _) | (refine fun (_ : Bool) => ?_)))
  all_goals
    have hsm := fewF_sm ‹_›
    have hul := of_decide_eq_false ‹decide ((s.length : Int) > 100) = false›
    obtain ⟨⟨a1, a2, a3, a4⟩, ⟨b1, b2, b3, b4⟩, ⟨c1, c2, c3, c4⟩⟩ := hsm
  all_goals first
    | omega
    | exact h8
    | exact hsh _ ‹_›
    | exact hsh
    | (show (chars f s).length ≤ 1000000; omega)
    | (show ((chars f s).map Chr.cid).length < 9223372036854775807; rw [List.length_map]; omega)
    | (simp at *; done)
    | (simp_all; done)
end Go.Abs.Cp
