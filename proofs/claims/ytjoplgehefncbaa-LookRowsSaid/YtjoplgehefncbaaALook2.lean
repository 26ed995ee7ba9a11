/- LookModes, LookRows by the engine. -/
import Derived.Test.YtjoplgehefncbaaALook1
set_option linter.all false
set_option maxRecDepth 100000
namespace Go.Abs.Lk
open Go.RowKit Go.Proofs Go.Abs.Tab Go.Abs.Dest Go.Abs.Span Go.Abs.Coll Go.Abs.Hx Go.Abs.Mt Go.Abs.Utf Go.Abs.Txt
theorem getG {l : List Sg} {i : Nat} (h : i < l.length) : l.getD i default = l[i] := by simp [List.getD, h]
theorem find_short {l : List Bf} {n v : Int} {a : List Int} (h : EB.find l n v = some a) : a.length ≤ 64 := by
  have hc : EB.canon l = true := by
    unfold En.find at h
    split at h
    · assumption
    · cases h
  have htab := (EB.canon_iff l).1 hc
  rw [EB.find_tab htab] at h
  obtain ⟨b, hb, ⟨h1, h2, h3⟩, rfl⟩ := Tb.get_mem _ h
  have r := rngB (htab.1 b hb)
  show (fur b.to (v - b.lo)).length ≤ 64
  rw [fur_len]
  omega
theorem sg_short (t : Tbl) (s : List Int) : ∀ x ∈ sgs t s, x.u.length ≤ 64 := by
  intro x hx
  obtain ⟨p, _, rfl⟩ := List.mem_map.1 hx
  unfold sgOf
  split
  · show ((EB.find t.bfs p.cn p.cv).getD []).length ≤ 64
    cases h : EB.find t.bfs p.cn p.cv with
    | none => exact Nat.zero_le _
    | some a => exact find_short h
  · exact Nat.zero_le _
theorem sgs_len (t : Tbl) (s : List Int) : (sgs t s).length ≤ s.length := by
  unfold sgs
  rw [List.length_map]
  exact allAt_len _ 0 rfl
theorem few_small {t : Tbl} (h : (!fewT t) = false) : smallT t := by
  have := (fewT_iff t).1 (by simpa using h)
  exact ⟨by omega, by omega, by omega, by omega⟩
theorem sgs_mode (t : Tbl) (name : ByteArray) (mode : Int) (s : List Int) : sgs ⟨name, mode, t.spaces, t.cids, t.nots, t.bfs⟩ s = sgs t s := rfl
def SModes : Sp := ⟨Tbl × List Int × ByteArray × Int, fun (t, s, nm, md) => B8 s, fun (t, s, nm, md) => [.agg (cT t), a8 s, .str nm, .int .i64 md], fun _ => .st (.lit true)⟩
set_option maxHeartbeats 16000000 in
theorem lookModes : SpOK Try.prog 5 SModes := fun ⟨t, s, nm, md⟩ h8 => by
  have hC : COK Try.prog (cfg [(6, SAwakeL), (7, SFewT), (9, STab), (8, SLook), (10, STxtS)]) := Ty.ty.cfg ⟨awake12, rfewT, table12, look, lookText, trivial⟩
  have h8 : B8 s := h8
  have hsh := sg_short t s
  have hln := sgs_len t s
  ((refine Fn.ofF hC Try.func5 Try.ntmps5 rfl rfl rfl ?_); (repeat' first | (with_reducible exact trivial) | (with_reducible rfl) | (refine And.intro ?_ ?_) | (refine Need.mk ?_) | exact True.intro | (first | (refine ⟨_, Told.refl _, ?_, ?_⟩) | (refine ⟨⟨_, _⟩, Told.refl _, ?_, ?_⟩) | (refine ⟨⟨_, _, _⟩, Told.refl _, ?_, ?_⟩) | (refine ⟨⟨_, _, _, _⟩, Told.refl _, ?_, ?_⟩) | (refine ⟨⟨_, _, _, _, _⟩, Told.refl _, ?_, ?_⟩) | (refine ⟨(), Told.refl _, ?_, ?_⟩)) | (with_reducible intro _) | (refine fun (_ : Bool) => ?_)))
  all_goals
    obtain ⟨t1, t2, t3, t4⟩ := few_small ‹(!fewT t) = false›
    have hsl := of_decide_eq_false ‹decide ((s.length : Int) > 100) = false›
  any_goals first | omega | exact h8
  obtain ⟨L, hL⟩ : ∃ L, L = sgs t s := ⟨_, rfl⟩
  refine Exists.intro (⟨nm, md, t.spaces, t.cids, t.nots, t.bfs⟩, s) (And.intro (Told.of ?_) (And.intro ?_ ?_))
  · exact ⟨⟨⟨rfl⟩, ⟨rfl⟩, aL_refl cR_emb _, aL_refl cSp_emb _, aL_refl cSp_emb _, aL_refl cBf_emb _, trivial⟩, aL_refl c8_emb _, trivial⟩
  · exact ⟨⟨t1, t2, t3, t4⟩, by show s.length < _; omega, h8⟩
  have e0 := sgs_mode t nm md s
  (repeat' first | (with_reducible exact trivial) | (with_reducible rfl) | (refine And.intro ?_ ?_) | (refine Need.mk ?_) | exact True.intro | (first | (refine ⟨_, Told.refl _, ?_, ?_⟩) | (refine ⟨⟨_, _⟩, Told.refl _, ?_, ?_⟩) | (refine ⟨⟨_, _, _⟩, Told.refl _, ?_, ?_⟩) | (refine ⟨⟨_, _, _, _⟩, Told.refl _, ?_, ?_⟩) | (refine ⟨⟨_, _, _, _, _⟩, Told.refl _, ?_, ?_⟩) | (refine ⟨(), Told.refl _, ?_, ?_⟩)) | (with_reducible intro _) | (refine fun (_ : Bool) => ?_))
  · exact absurd ‹(((sgs t s).length : Int) != _) = true› (by rw [e0]; simp)
  rw [← hL] at hsh hln
  refine AW.loop (I := fun k : Nat => ⟨111, [(9, .lit true), (11, .own 0), (12, .own 1), (13, .int .i64 k)], [.row 40 9 L.length (els cG L), .row 40 9 L.length (els cG L)]⟩) (fun k => k ≤ L.length) (fun k => L.length - k) 0 (Nat.zero_le _) ?_ ?_
  · clear hsh hln
    subst hL
    (repeat' first | (with_reducible exact trivial) | (with_reducible rfl) | (refine And.intro ?_ ?_) | (refine Need.mk ?_) | exact True.intro | (first | (refine ⟨_, Told.refl _, ?_, ?_⟩) | (refine ⟨⟨_, _⟩, Told.refl _, ?_, ?_⟩) | (refine ⟨⟨_, _, _⟩, Told.refl _, ?_, ?_⟩) | (refine ⟨⟨_, _, _, _⟩, Told.refl _, ?_, ?_⟩) | (refine ⟨⟨_, _, _, _, _⟩, Told.refl _, ?_, ?_⟩) | (refine ⟨(), Told.refl _, ?_, ?_⟩)) | (with_reducible intro _) | (refine fun (_ : Bool) => ?_))
    all_goals first | rfl | trace_state
  · intro k hk
    rcases Nat.lt_or_ge k L.length with hlt | hge
    · have hd : decide ((k : Int) < (L.length : Int)) = true := decide_eq_true (by omega)
      have hw := iw (n := (k : Int) + 1) (by omega) (by omega)
      ((refine AW.byF ‹_› ?_); (repeat' first | (with_reducible exact trivial) | (with_reducible rfl) | (refine And.intro ?_ ?_) | (refine Need.mk ?_) | exact True.intro | (first | (refine ⟨_, Told.refl _, ?_, ?_⟩) | (refine ⟨⟨_, _⟩, Told.refl _, ?_, ?_⟩) | (refine ⟨⟨_, _, _⟩, Told.refl _, ?_, ?_⟩) | (refine ⟨⟨_, _, _, _⟩, Told.refl _, ?_, ?_⟩) | (refine ⟨⟨_, _, _, _, _⟩, Told.refl _, ?_, ?_⟩) | (refine ⟨(), Told.refl _, ?_, ?_⟩)) | (with_reducible intro _) | (refine fun (_ : Bool) => ?_)))
      all_goals first | (exact absurd ‹decide ((k : Int) < (L.length : Int)) = false› (by rw [hd]; decide)) | skip
      any_goals (refine Exists.intro (k + 1) (And.intro ?_ (And.intro ?_ ?_)); all_goals (repeat' first | (with_reducible exact trivial) | (with_reducible rfl) | (refine And.intro ?_ ?_) | (refine Need.mk ?_) | exact True.intro | (first | (refine ⟨_, Told.refl _, ?_, ?_⟩) | (refine ⟨⟨_, _⟩, Told.refl _, ?_, ?_⟩) | (refine ⟨⟨_, _, _⟩, Told.refl _, ?_, ?_⟩) | (refine ⟨⟨_, _, _, _⟩, Told.refl _, ?_, ?_⟩) | (refine ⟨⟨_, _, _, _, _⟩, Told.refl _, ?_, ?_⟩) | (refine ⟨(), Told.refl _, ?_, ?_⟩)) | (with_reducible intro _) | (refine fun (_ : Bool) => ?_)))
      all_goals first
        | omega
        | (rw [hw]; rfl)
        | (exfalso; simp [eqA, bval] at *; done)
        | trace_state
    · obtain rfl : k = L.length := by omega
      have hd : decide ((L.length : Int) < (L.length : Int)) = false := decide_eq_false (by omega)
      ((refine AW.byF ‹_› ?_); (repeat' first | (with_reducible exact trivial) | (with_reducible rfl) | (refine And.intro ?_ ?_) | (refine Need.mk ?_) | exact True.intro | (first | (refine ⟨_, Told.refl _, ?_, ?_⟩) | (refine ⟨⟨_, _⟩, Told.refl _, ?_, ?_⟩) | (refine ⟨⟨_, _, _⟩, Told.refl _, ?_, ?_⟩) | (refine ⟨⟨_, _, _, _⟩, Told.refl _, ?_, ?_⟩) | (refine ⟨⟨_, _, _, _, _⟩, Told.refl _, ?_, ?_⟩) | (refine ⟨(), Told.refl _, ?_, ?_⟩)) | (with_reducible intro _) | (refine fun (_ : Bool) => ?_)))
      all_goals first | (exact absurd ‹decide ((L.length : Int) < (L.length : Int)) = true› (by rw [hd]; decide)) | skip
      all_goals first
        | omega
        | (have := hsh _ ‹_›; omega)
        | (simp; done)
        | trace_state
end Go.Abs.Lk
