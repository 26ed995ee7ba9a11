/- LookRows by the engine. -/
import Derived.Test.YtjoplgehefncbaaALook2
import Derived.Test.YtjoplgehefncbaaADestOne
set_option linter.all false
set_option maxRecDepth 100000
namespace Go.Abs.Lk
open Go.RowKit Go.Proofs Go.Abs.Tab Go.Abs.Dest Go.Abs.Span Go.Abs.Coll Go.Abs.Hx Go.Abs.Mt Go.Abs.Utf Go.Abs.Txt
theorem pcs_at {l : List Rct} {s : List Int} : ∀ (i : Nat), i < (allAt l s 0).length → ∃ a, a < s.length ∧ ((allAt l s 0).getD i default).at_ = (a : Int) ∧ allAt l s a = (allAt l s 0).drop i
  | 0, h => by
    have h0 : 0 < s.length := by
      rcases Nat.lt_or_ge 0 s.length with q | q
      · exact q
      · rw [allAt_end q] at h
        exact absurd h (Nat.not_lt_zero _)
    refine ⟨0, h0, ?_, rfl⟩
    rw [allAt_step h0]
    show (pcAt l s 0).at_ = ((0 : Nat) : Int)
    unfold pcAt
    split <;> rfl
  | i + 1, h => by
    obtain ⟨a, ha, h1, h2⟩ := pcs_at (l := l) (s := s) i (by omega)
    have hr := stepN_rng (l := l) ha
    have hs := allAt_step (l := l) ha
    rw [h2] at hs
    have h3 : allAt l s (a + stepN l s a) = (allAt l s 0).drop (i + 1) := by
      have := congrArg List.tail hs
      rw [List.tail_cons, List.tail_drop] at this
      exact this.symm
    have hlt : a + stepN l s a < s.length := by
      rcases Nat.lt_or_ge (a + stepN l s a) s.length with q | q
      · exact q
      · rw [allAt_end q] at h3
        have := congrArg List.length h3
        rw [List.length_drop, List.length_nil] at this
        omega
    refine ⟨a + stepN l s a, hlt, ?_, h3⟩
    have h4 := allAt_step (l := l) hlt
    rw [h3] at h4
    have h5 : (allAt l s 0).getD (i + 1) default = pcAt l s (a + stepN l s a) := by
      have := congrArg (fun z => z.getD 0 default) h4
      simp only [List.getD, List.getElem?_drop, Nat.add_zero] at this
      simpa [List.getD] using this
    rw [h5]
    unfold pcAt
    split <;> rfl
def shift (a : Nat) (p : Pc) : Pc := ⟨p.at_ - a, p.n, p.full, p.cn, p.cv⟩
theorem pcs_shift {l : List Rct} {s : List Int} (a : Nat) : ∀ (f c : Nat), pcs l (s.drop a) f c = (pcs l s f (a + c)).map (shift a)
  | 0, _ => rfl
  | f + 1, c => by
    unfold pcs
    have hd : (s.drop a).drop c = s.drop (a + c) := by rw [List.drop_drop]
    have hst : stepN l (s.drop a) c = stepN l s (a + c) := by unfold stepN; rw [hd]
    rw [List.length_drop]
    by_cases h : a + c < s.length
    · rw [if_pos (by omega), if_pos h, List.map_cons, hst, pcs_shift a f, Nat.add_assoc]
      congr 1
      unfold pcAt
      rw [hst, hd]
      split <;> (unfold shift; simp only [Pc.mk.injEq, and_true, true_and]; omega)
    · rw [if_neg (by omega), if_neg h]
      rfl
theorem all_shift (l : List Rct) (s : List Int) (a : Nat) : allAt l (s.drop a) 0 = (allAt l s a).map (shift a) := by
  unfold allAt
  rw [pcs_shift, List.length_drop]
  rfl
theorem one_shift (rp : Int) (t : Tbl) (a : Nat) (p : Pc) : oneS rp (sgOf t (shift a p)) = oneS rp (sgOf t p) := by
  unfold sgOf shift
  split <;> rfl
theorem rows_law (rp : Int) (t : Tbl) (s : List Int) {i : Nat} (hi : i < (sgs t s).length) : ∃ a, a < s.length ∧ ((sgs t s).getD i default).p.at_ = (a : Int) ∧ (sgs t (s.drop a)).length = (sgs t s).length - i ∧ encS rp (sgs t s) = encS rp ((sgs t s).take i) ++ encS rp (sgs t (s.drop a)) := by
  have hl : (sgs t s).length = (allAt t.spaces s 0).length := List.length_map ..
  obtain ⟨a, ha, h1, h2⟩ := pcs_at (l := t.spaces) (s := s) i (by omega)
  refine ⟨a, ha, ?_, ?_, ?_⟩
  · have : (sgs t s).getD i default = sgOf t ((allAt t.spaces s 0).getD i default) := by
      unfold sgs
      rw [getG (by rw [List.length_map]; omega), getP (by omega), List.getElem_map]
    rw [this, ← h1]
    unfold sgOf
    split <;> rfl
  · unfold sgs
    rw [List.length_map, List.length_map, all_shift, List.length_map, h2, List.length_drop]
  · have e1 : encS rp (sgs t (s.drop a)) = encS rp ((sgs t s).drop i) := by
      unfold encS sgs
      rw [all_shift, h2, ← List.map_drop, List.flatMap_map, List.flatMap_map, List.flatMap_map]
      congr 1
      funext p
      rw [one_shift]
    rw [e1]
    unfold encS
    rw [← List.flatMap_append, List.take_append_drop]
theorem sgs_pos (t : Tbl) {s : List Int} (h : 1 ≤ s.length) : 1 ≤ (sgs t s).length := by
  unfold sgs
  rw [List.length_map, allAt_step (by omega), List.length_cons]
  omega
theorem txt_app {rp : Int} {a b c : List Sg} (h : encS rp a = encS rp b ++ encS rp c) : txtS rp b ++ txtS rp c = txtS rp a := by
  unfold txtS
  rw [h]
  apply ByteArray.ext
  simp
def low16 (c : Int) : Int := IntKind.i64.wrap ((BitVec.ofInt IntKind.i64.bits c &&& BitVec.ofInt IntKind.i64.bits 65535).toNat : Int)
theorem low16_rng (c : Int) : 0 ≤ low16 c ∧ low16 c < 65536 := by
  have hm : low16 c = c % 65536 := and_low 16 (by decide) c
  omega
def SRows : Sp := ⟨Tbl × List Int × Int, fun (t, s, k) => B8 s, fun (t, s, k) => [.agg (cT t), a8 s, .int .i64 k], fun _ => .st (.lit true)⟩
set_option maxHeartbeats 16000000 in
theorem lookRows : SpOK Try.prog 3 SRows := fun ⟨t, s, k⟩ h8 => by
  have hC : COK Try.prog (cfg [(6, SAwakeL), (7, SFewT), (9, STab), (8, SLook), (10, STxtS)]) := Ty.ty.cfg ⟨awake12, rfewT, table12, look, lookText, trivial⟩
  have h8 : B8 s := h8
  have hsh := sg_short t s
  have hln := sgs_len t s
  have hk := low16_rng k
  ((refine Fn.ofF hC Try.func3 Try.ntmps3 rfl rfl rfl ?_); (repeat' first | (with_reducible exact trivial) | (with_reducible rfl) | (refine And.intro ?_ ?_) | (refine Need.mk ?_) | exact True.intro | (first | (refine ⟨_, Told.refl _, ?_, ?_⟩) | (refine ⟨⟨_, _⟩, Told.refl _, ?_, ?_⟩) | (refine ⟨⟨_, _, _⟩, Told.refl _, ?_, ?_⟩) | (refine ⟨⟨_, _, _, _⟩, Told.refl _, ?_, ?_⟩) | (refine ⟨⟨_, _, _, _, _⟩, Told.refl _, ?_, ?_⟩) | (refine ⟨(), Told.refl _, ?_, ?_⟩)) | (with_reducible intro _) | (refine fun (_ : Bool) => ?_)))
  all_goals
    obtain ⟨t1, t2, t3, t4⟩ := few_small ‹(!fewT t) = false›
    have hsl := of_decide_eq_false ‹decide ((s.length : Int) > 200) = false›
    have hs0 : s.length ≠ 0 := fun e => by
      have q := ‹((s.length : Int) == 0) = false›
      rw [e] at q
      cases q
    have hp := sgs_pos t (s := s) (by omega)
    have hp0 : (((sgs t s).length : Int) == 0) = false := by rw [beq_eq_false_iff_ne]; omega
    obtain ⟨i, hi, hraw⟩ : ∃ i, i < (sgs t s).length ∧ (low16 k).tmod ((sgs t s).length : Int) = (i : Int) := by
      have h1 := Int.tmod_nonneg ((sgs t s).length : Int) hk.1
      have h2 := Int.tmod_lt_of_pos (low16 k) (b := ((sgs t s).length : Int)) (by omega)
      exact ⟨((low16 k).tmod ((sgs t s).length : Int)).toNat, by omega, by omega⟩
    have hraw : (IntKind.i64.wrap ((BitVec.ofInt IntKind.i64.bits k &&& BitVec.ofInt IntKind.i64.bits 65535).toNat : Int)).tmod ((sgs t s).length : Int) = (i : Int) := hraw
    obtain ⟨a, ha, hat, hbl, htx⟩ := rows_law 63 t s hi
    try simp only [hraw, Int.toNat_natCast, hat] at *
  all_goals first
    | omega
    | exact h8
    | exact absurd ‹(((sgs t s).length : Int) == 0) = true› (by rw [hp0]; decide)
    | (exfalso; have q := of_decide_eq_true ‹decide ((a : Int) < 0) = true›; omega)
    | (exfalso; have q := of_decide_eq_true ‹decide ((a : Int) > (s.length : Int)) = true›; omega)
    | skip
  refine Exists.intro (t, s.drop a) (And.intro (Told.of ?_) (And.intro ?_ ?_))
  · exact ⟨(cT_emb t).2.1, (told_drop [] s (by omega) (fun i => rfl)).2⟩
  · exact ⟨⟨t1, t2, t3, t4⟩, by show (s.drop a).length < _; rw [List.length_drop]; omega, B8.drop h8 _⟩
  have hw := iw (n := ((sgs t s).length : Int) - i) (by omega) (by omega)
  have hta := txt_app htx
  have hsa := sg_short t (s.drop a)
  (repeat' first | (with_reducible exact trivial) | (with_reducible rfl) | (refine And.intro ?_ ?_) | (refine Need.mk ?_) | exact True.intro | (first | (refine ⟨_, Told.refl _, ?_, ?_⟩) | (refine ⟨⟨_, _⟩, Told.refl _, ?_, ?_⟩) | (refine ⟨⟨_, _, _⟩, Told.refl _, ?_, ?_⟩) | (refine ⟨⟨_, _, _, _⟩, Told.refl _, ?_, ?_⟩) | (refine ⟨⟨_, _, _, _, _⟩, Told.refl _, ?_, ?_⟩) | (refine ⟨(), Told.refl _, ?_, ?_⟩)) | (with_reducible intro _) | (refine fun (_ : Bool) => ?_))
  · exact absurd ‹(((sgs t (s.drop a)).length : Int) != _) = true› (by rw [hw, hbl, bne_iff_ne, ne_eq, Decidable.not_not]; omega)
  · omega
  · have := hsh _ ‹_›
    omega
  · omega
  · omega
  · omega
  refine Exists.intro ((sgs t s).take i, 63) (And.intro (Told.of ?_) (And.intro ?_ ?_))
  · refine ⟨⟨⟨by rw [List.length_take]; omega⟩, els_of cG_emb (n := 0) (fun j hj => ?_)⟩, ⟨rfl⟩, trivial⟩
    rw [List.length_take] at hj
    show cG ((sgs t s).getD ((0 : Int).toNat + j) default) = cG (((sgs t s).take i).getD j default)
    simp only [List.getD, List.getElem?_take, show (0 : Int).toNat + j = j from Nat.zero_add j]
    rw [if_pos (by omega)]
  · exact ⟨by show ((sgs t s).take i).length ≤ _; rw [List.length_take]; omega, fun x hx => by have := hsh x (List.mem_of_mem_take hx); omega⟩
  have hz : ∀ l : List Sg, l.length ≤ 1000 → (∀ x ∈ l, x.u.length ≤ 64) → (txtS 63 l).size ≤ 4000004000 := fun l h1 h2 => by
    have := encS_len 63 l (fun x hx => by have := h2 x hx; omega)
    show (encS 63 l).toArray.size ≤ _
    rw [List.size_toArray]
    omega
  have z1 := hz ((sgs t s).take i) (by rw [List.length_take]; omega) (fun x hx => hsh x (List.mem_of_mem_take hx))
  have z2 := hz (sgs t (s.drop a)) (by omega) hsa
  (repeat' first | (with_reducible exact trivial) | (with_reducible rfl) | (refine And.intro ?_ ?_) | (refine Need.mk ?_) | exact True.intro | (first | (refine ⟨_, Told.refl _, ?_, ?_⟩) | (refine ⟨⟨_, _⟩, Told.refl _, ?_, ?_⟩) | (refine ⟨⟨_, _, _⟩, Told.refl _, ?_, ?_⟩) | (refine ⟨⟨_, _, _, _⟩, Told.refl _, ?_, ?_⟩) | (refine ⟨⟨_, _, _, _, _⟩, Told.refl _, ?_, ?_⟩) | (refine ⟨(), Told.refl _, ?_, ?_⟩)) | (with_reducible intro _) | (refine fun (_ : Bool) => ?_))
  · omega
  · have := hsa _ ‹_›
    omega
  · omega
  · rw [hta]
    simp
end Go.Abs.Lk
