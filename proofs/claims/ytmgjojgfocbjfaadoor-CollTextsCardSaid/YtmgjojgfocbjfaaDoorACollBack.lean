/- CollBack by the engine. -/
import Derived.Test.YtmgjojgfocbjfaaDoorAColl
import Derived.Test.YtmgjojgfocbjfaaDoorANum
set_option linter.all false
set_option maxRecDepth 100000
namespace Go.Abs.Coll
open Go.RowKit Go.Proofs Go.Abs.Tab Go.Abs.Dest Go.Abs.Span
def SAwakeC : Sp := ⟨Unit, fun _ => True, fun _ => [], fun _ => .st (.lit true)⟩
def tA : Tbl := ⟨ByteArray.empty, 0, [], [], [], [⟨2, 5, 9, [65]⟩]⟩
set_option maxHeartbeats 16000000 in
theorem awake : SpOK Tryd.prog 4 SAwakeC := fun _ _ => by
  have hC : COK Tryd.prog (cfg [(13, SIdent), (12, SNum), (14, SBack), (15, SCnt)]) := Ty.ty.cfg ⟨ident, num, back, count, trivial⟩
  have hn : numT (identT 0) 2 4660 = (4660, 1) := by decide +kernel
  have hb : backE (ents tA.bfs) [66] = some 6 := by decide +kernel
  have hc : cnt (ents tA.bfs) = 5 := by decide +kernel
  have lit : subs0 (cT tA) [.str ByteArray.empty, .int .i64 0, .nil, .nil, .nil, .sl 4 1 (elt [[.int .i64 2, .int .i64 5, .int .i64 9, .sl 1 1 (elt [[.int .i64 65]])]])] := by
    refine ⟨⟨rfl⟩, ⟨rfl⟩, ⟨rfl⟩, ⟨rfl⟩, ⟨rfl⟩, ⟨⟨rfl⟩, fun i hi => ?_⟩, trivial⟩
    have hi : i < 1 := hi
    obtain rfl : i = 0 := by omega
    exact ⟨⟨rfl⟩, ⟨rfl⟩, ⟨rfl⟩, (lit_sub ci_emb [65]).1, trivial⟩
  ((refine Fn.ofF hC Tryd.func4 Tryd.ntmps4 rfl rfl rfl ?_); (repeat' first | (with_reducible exact trivial) | (with_reducible rfl) | (refine And.intro ?_ ?_) | (refine Need.mk ?_) | exact True.intro | (first | (refine ⟨_, Told.refl _, ?_, ?_⟩) | (refine ⟨⟨_, _⟩, Told.refl _, ?_, ?_⟩) | (refine ⟨⟨_, _, _⟩, Told.refl _, ?_, ?_⟩) | (refine ⟨⟨_, _, _, _⟩, Told.refl _, ?_, ?_⟩) | (refine ⟨⟨_, _, _, _, _⟩, Told.refl _, ?_, ?_⟩) | (refine ⟨(), Told.refl _, ?_, ?_⟩)) | (with_reducible intro _) | (refine fun (_ : Bool) => ?_)))
  · decide
  · decide
  refine Exists.intro (tA, [66]) (And.intro (Told.of ?_) (And.intro ?_ ?_))
  · exact ⟨lit, (lit_sub ci_emb [66]).1, trivial⟩
  · refine ⟨by decide, by decide, fun x hx => ?_⟩
    obtain rfl := List.mem_singleton.1 hx
    decide
  · (repeat' first | (with_reducible exact trivial) | (with_reducible rfl) | (refine And.intro ?_ ?_) | (refine Need.mk ?_) | exact True.intro | (first | (refine ⟨_, Told.refl _, ?_, ?_⟩) | (refine ⟨⟨_, _⟩, Told.refl _, ?_, ?_⟩) | (refine ⟨⟨_, _, _⟩, Told.refl _, ?_, ?_⟩) | (refine ⟨⟨_, _, _, _⟩, Told.refl _, ?_, ?_⟩) | (refine ⟨⟨_, _, _, _, _⟩, Told.refl _, ?_, ?_⟩) | (refine ⟨(), Told.refl _, ?_, ?_⟩)) | (with_reducible intro _) | (refine fun (_ : Bool) => ?_))
    · refine Exists.intro tA (And.intro (Told.of ?_) (And.intro ?_ ?_))
      · exact ⟨lit, trivial⟩
      · show 1 ≤ 1000000
        decide
      · (repeat' first | (with_reducible exact trivial) | (with_reducible rfl) | (refine And.intro ?_ ?_) | (refine Need.mk ?_) | exact True.intro | (first | (refine ⟨_, Told.refl _, ?_, ?_⟩) | (refine ⟨⟨_, _⟩, Told.refl _, ?_, ?_⟩) | (refine ⟨⟨_, _, _⟩, Told.refl _, ?_, ?_⟩) | (refine ⟨⟨_, _, _, _⟩, Told.refl _, ?_, ?_⟩) | (refine ⟨⟨_, _, _, _, _⟩, Told.refl _, ?_, ?_⟩) | (refine ⟨(), Told.refl _, ?_, ?_⟩)) | (with_reducible intro _) | (refine fun (_ : Bool) => ?_))
        all_goals rw [hc]
        all_goals decide
    all_goals simp only [hn, hb] at *
    all_goals first | decide | (simp at *; done)
theorem OD_filter {l : List Bf} (p : Bf → Bool) : EB.OD l → EB.OD (l.filter p) := by
  induction l with
  | nil => exact fun _ => trivial
  | cons x l ih =>
    intro h
    rw [List.filter_cons]
    split
    · exact ⟨h.1, fun y hy => h.2.1 y (List.mem_filter.1 hy).1, ih h.2.2⟩
    · exact ih h.2.2
theorem fur_of_hit {u : List Int} {b : Bf} (h : hit u b = true) (hb : 1 ≤ b.to.length) : u = fur b.to (lastI u - lastI b.to) := by
  obtain ⟨h1, h2, h3, h4⟩ := (hit_iff u b).1 h
  refine List.ext_getElem (by rw [fur_len]; omega) fun i hi hi2 => ?_
  have hs : (fur b.to (lastI u - lastI b.to))[i]'hi2 = if b.to.length - 1 = i then lastI b.to + (lastI u - lastI b.to) else b.to[i]'(by omega) := List.getElem_set ..
  rw [hs]
  split
  · rename_i e
    have hx : lastI u = u[i] := by
      unfold lastI
      rw [getD_at (by omega)]
      congr 1
      omega
    rw [← hx]
    omega
  · rename_i e
    have h5 := h2 i (by omega)
    rw [getD_at hi, getD_at (by omega)] at h5
    exact h5.symm
theorem hit_fur {b : Bf} (hb : 1 ≤ b.to.length) {d : Int} (h0 : 0 ≤ d) (h1 : d ≤ b.hi - b.lo) : hit (fur b.to d) b = true := by
  have hl := lastI_fur hb d
  refine (hit_iff _ _).2 ⟨(fur_len _ _).symm, fun j hj => ?_, by omega, by omega⟩
  rw [fur_len] at hj
  unfold fur
  rw [getD_at (by omega), getD_at (by rw [List.length_set]; omega), List.getElem_set, if_neg (by omega)]
theorem ents_canon {l : List Bf} (h : EB.canon l = true) : ents l = two l := if_pos h
theorem back_find {l : List Bf} {u : List Int} {k : Int} (h : backE (ents l) u = some k) : EB.find l 2 k = some u := by
  unfold backE at h
  obtain ⟨b, hb, rfl⟩ := Option.map_eq_some_iff.1 h
  have hm := List.mem_of_find?_eq_some hb
  have hh : hit u b = true := by have := List.find?_some hb; simpa using this
  obtain ⟨h1, h2, h3⟩ := ents_sane b hm
  have r := rngB h1
  obtain ⟨q1, q2, q3, q4⟩ := (hit_iff u b).1 hh
  have hc : EB.canon l = true := by
    unfold ents at hm
    split at hm
    · assumption
    · cases hm
  have htab := (EB.canon_iff l).1 hc
  rw [EB.find_tab htab]
  have hget := Tb.get_of_mem EB.toTb htab.2.1 h3 (n := 2) (c := b.lo + (lastI u - lastI b.to)) ⟨h2, (by show b.lo ≤ b.lo + (lastI u - lastI b.to); omega), (by show b.lo + (lastI u - lastI b.to) ≤ b.hi; omega)⟩
  refine hget.trans (congrArg some ?_)
  show fur b.to (b.lo + (lastI u - lastI b.to) - b.lo) = u
  rw [show b.lo + (lastI u - lastI b.to) - b.lo = lastI u - lastI b.to by omega]
  exact (fur_of_hit hh r.2.2.1.1).symm
theorem find_back {l : List Bf} {a : List Int} {c : Int} (h : EB.find l 2 c = some a) : ∃ k, backE (ents l) a = some k ∧ k ≤ c := by
  have hc : EB.canon l = true := by
    unfold En.find at h
    split at h
    · assumption
    · cases h
  have htab := (EB.canon_iff l).1 hc
  rw [EB.find_tab htab] at h
  obtain ⟨b, hb, ⟨h1, h2, h3⟩, rfl⟩ := Tb.get_mem _ h
  have h1 : b.n = 2 := h1
  have h2 : b.lo ≤ c := h2
  have h3 : c ≤ b.hi := h3
  have r := rngB (htab.1 b hb)
  have hval : EB.val b c = fur b.to (c - b.lo) := rfl
  rw [hval]
  have hbe : b ∈ ents l := by rw [ents_canon hc]; exact List.mem_filter.2 ⟨hb, by simp [h1]⟩
  have hbh := hit_fur (b := b) r.2.2.1.1 (d := c - b.lo) (by omega) (by omega)
  cases hf : (ents l).find? (hit (fur b.to (c - b.lo))) with
  | none =>
    have := List.find?_eq_none.1 hf b hbe
    exact absurd hbh (by simpa using this)
  | some b' =>
    refine ⟨b'.lo + (lastI (fur b.to (c - b.lo)) - lastI b'.to), by unfold backE; rw [hf]; rfl, ?_⟩
    obtain ⟨hh, l1, l2, he, hno⟩ := List.find?_eq_some_iff_append.1 hf
    have hll := lastI_fur r.2.2.1.1 (c - b.lo)
    obtain ⟨q1, q2, q3, q4⟩ := (hit_iff _ _).1 hh
    have hod : EB.OD (ents l) := by rw [ents_canon hc]; exact OD_filter _ htab.2.1
    rw [he] at hbe hod
    rcases List.mem_append.1 hbe with q | q
    · have := hno b q
      rw [hbh] at this
      cases this
    · rcases List.mem_cons.1 q with rfl | q
      · omega
      · have hb' := (Tb.OD_append EB.toTb).1 hod
        have hbef := hb'.2.1.2.1 b q
        have hn' : b'.n = 2 := (ents_sane b' (by rw [he]; simp)).2.1
        have hbef : b'.n < b.n ∨ (b'.n = b.n ∧ b'.hi < b.lo) := hbef
        omega
theorem find_rng {l : List Bf} {n v : Int} {a : List Int} (h : EB.find l n v = some a) : a.length ≤ 64 ∧ ∀ x ∈ a, 0 ≤ x ∧ x ≤ 65535 := by
  have hc : EB.canon l = true := by
    unfold En.find at h
    split at h
    · assumption
    · cases h
  have htab := (EB.canon_iff l).1 hc
  rw [EB.find_tab htab] at h
  obtain ⟨b, hb, ⟨h1, h2, h3⟩, rfl⟩ := Tb.get_mem _ h
  have h2 : b.lo ≤ v := h2
  have h3 : v ≤ b.hi := h3
  have r := rngB (htab.1 b hb)
  show (fur b.to (v - b.lo)).length ≤ 64 ∧ ∀ x ∈ fur b.to (v - b.lo), _
  refine ⟨by rw [fur_len]; omega, fun x hx => ?_⟩
  rcases mem_fur hx with q | q
  · exact r.2.2.2.1 x q
  · omega
def SCollBack : Sp := ⟨Tbl × Int × List Int, fun (t, c, u) => ∀ x ∈ u, -9223372036854775808 ≤ x ∧ x ≤ 9223372036854775807, fun (t, c, u) => [.agg (cT t), .int .i64 c, aI u], fun _ => .st (.lit true)⟩
end Go.Abs.Coll
