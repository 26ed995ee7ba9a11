/- The document's answer for layer 8: what is built, by borders. -/
import Derived.Test.YtmjbobbgidpigaaADestR2
set_option linter.all false
set_option maxRecDepth 100000
namespace Go.Abs.Dest
open Go.RowKit Go.Proofs Go.Abs.Tab
def SBord : Sp := ⟨List Bf × Int, fun (l, n) => l.length ≤ 100000000, fun (l, n) => [aB l, .int .i64 n], fun (l, n) => .st (aI (EB.bs l n))⟩
theorem bs_next {l : List Bf} {k : Nat} (hk : k < l.length) (n : Int) : EB.bs (l.take (k + 1)) n = if (l.getD k default).n = n ∧ sane (l.getD k default) = true then insU (insU (EB.bs (l.take k) n) (l.getD k default).lo) ((l.getD k default).hi + 1) else EB.bs (l.take k) n := by
  rw [List.take_succ_eq_append_getElem hk, EB.bs_snoc, getB hk]
  rfl
set_option maxHeartbeats 4000000 in
theorem rborders : SpOK Try.prog 43 SBord := fun ⟨l, n⟩ hl => by
  have hC : COK Try.prog (cfg [(23, SBSane), (51, SPut)]) := Ty.ty.cfg ⟨rsane, rput, trivial⟩
  have hl : l.length ≤ 100000000 := hl
  ((refine Fn.ofF hC Try.func43 Try.ntmps43 rfl rfl rfl ?_); (repeat' first | (with_reducible exact trivial) | (with_reducible rfl) | (refine And.intro ?_ ?_) | (refine Need.mk ?_) | exact True.intro | (first | (refine ⟨_, Told.refl _, ?_, ?_⟩) | (refine ⟨⟨_, _⟩, Told.refl _, ?_, ?_⟩) | (refine ⟨⟨_, _, _⟩, Told.refl _, ?_, ?_⟩) | (refine ⟨⟨_, _, _, _⟩, Told.refl _, ?_, ?_⟩) | (refine ⟨⟨_, _, _, _, _⟩, Told.refl _, ?_, ?_⟩) | (refine ⟨(), Told.refl _, ?_, ?_⟩)) | (with_reducible intro _) | (refine fun (_ : Bool) => ?_)))
  refine AW.loop (I := fun k : Nat => ⟨42, [(0, aB l), (1, .int .i64 n), (5, aI (EB.bs (l.take k) n)), (6, .int .i64 k)], []⟩) (fun k => k ≤ l.length) (fun k => l.length - k) 0 (Nat.zero_le _) ?_ ?_
  · (repeat' first | (with_reducible exact trivial) | (with_reducible rfl) | (refine And.intro ?_ ?_) | (refine Need.mk ?_) | exact True.intro | (first | (refine ⟨_, Told.refl _, ?_, ?_⟩) | (refine ⟨⟨_, _⟩, Told.refl _, ?_, ?_⟩) | (refine ⟨⟨_, _, _⟩, Told.refl _, ?_, ?_⟩) | (refine ⟨⟨_, _, _, _⟩, Told.refl _, ?_, ?_⟩) | (refine ⟨⟨_, _, _, _, _⟩, Told.refl _, ?_, ?_⟩) | (refine ⟨(), Told.refl _, ?_, ?_⟩)) | (with_reducible intro _) | (refine fun (_ : Bool) => ?_))
    all_goals first | rfl | (rename_i hi; exact absurd hi (Nat.not_lt_zero _))
  · intro k hk
    rcases Nat.lt_or_ge k l.length with hlt | hge
    · have hd : decide ((k : Int) < (l.length : Int)) = true := decide_eq_true (by omega)
      have hw := iw (n := (k : Int) + 1) (by omega) (by omega)
      have hnx := bs_next hlt n
      have hbl := (EB.bs_rng (l.take k) n).2
      have htl : (l.take k).length ≤ l.length := by rw [List.length_take]; omega
      have hil := insU_len (l.getD k default).lo (EB.bs (l.take k) n)
      ((refine AW.byF ‹_› ?_); (repeat' first | (with_reducible exact trivial) | (with_reducible rfl) | (refine And.intro ?_ ?_) | (refine Need.mk ?_) | exact True.intro | (first | (refine ⟨_, Told.refl _, ?_, ?_⟩) | (refine ⟨⟨_, _⟩, Told.refl _, ?_, ?_⟩) | (refine ⟨⟨_, _, _⟩, Told.refl _, ?_, ?_⟩) | (refine ⟨⟨_, _, _, _⟩, Told.refl _, ?_, ?_⟩) | (refine ⟨⟨_, _, _, _, _⟩, Told.refl _, ?_, ?_⟩) | (refine ⟨(), Told.refl _, ?_, ?_⟩)) | (with_reducible intro _) | (refine fun (_ : Bool) => ?_)))
      all_goals first | (exact absurd ‹decide ((k : Int) < (l.length : Int)) = false› (by rw [hd]; decide)) | skip
      any_goals (refine Exists.intro (k + 1) (And.intro ?_ (And.intro ?_ ?_)); all_goals (repeat' first | (with_reducible exact trivial) | (with_reducible rfl) | (refine And.intro ?_ ?_) | (refine Need.mk ?_) | exact True.intro | (first | (refine ⟨_, Told.refl _, ?_, ?_⟩) | (refine ⟨⟨_, _⟩, Told.refl _, ?_, ?_⟩) | (refine ⟨⟨_, _, _⟩, Told.refl _, ?_, ?_⟩) | (refine ⟨⟨_, _, _, _⟩, Told.refl _, ?_, ?_⟩) | (refine ⟨⟨_, _, _, _, _⟩, Told.refl _, ?_, ?_⟩) | (refine ⟨(), Told.refl _, ?_, ?_⟩)) | (with_reducible intro _) | (refine fun (_ : Bool) => ?_)))
      all_goals try simp only [Int.toNat_natCast, hw] at *
      all_goals first
        | omega
        | exact Int.natCast_nonneg k
        | (have q : sane (l.getD k default) = true := by assumption
           have r := rngB q
           have hq : (l.getD k default).n = n := by simpa using ‹((l.getD k default).n == n) = true›
           have hw2 := iw (n := (l.getD k default).hi + 1) (by omega) (by omega)
           rw [if_pos ⟨hq, q⟩] at hnx
           first
             | (show (EB.bs (l.take k) n).length ≤ 1000000000; omega)
             | (show (insU (EB.bs (l.take k) n) (l.getD k default).lo).length ≤ 1000000000; omega)
             | (rw [hnx, hw2]; done))
        | (rw [if_neg (fun h => by have := h.2; simp_all)] at hnx; rw [hnx]; done)
        | (rw [if_neg (fun h => by have := h.1; simp_all)] at hnx; rw [hnx]; done)
    · obtain rfl : k = l.length := by omega
      have hd : decide ((l.length : Int) < (l.length : Int)) = false := decide_eq_false (by omega)
      ((refine AW.byF ‹_› ?_); (repeat' first | (with_reducible exact trivial) | (with_reducible rfl) | (refine And.intro ?_ ?_) | (refine Need.mk ?_) | exact True.intro | (first | (refine ⟨_, Told.refl _, ?_, ?_⟩) | (refine ⟨⟨_, _⟩, Told.refl _, ?_, ?_⟩) | (refine ⟨⟨_, _, _⟩, Told.refl _, ?_, ?_⟩) | (refine ⟨⟨_, _, _, _⟩, Told.refl _, ?_, ?_⟩) | (refine ⟨⟨_, _, _, _, _⟩, Told.refl _, ?_, ?_⟩) | (refine ⟨(), Told.refl _, ?_, ?_⟩)) | (with_reducible intro _) | (refine fun (_ : Bool) => ?_)))
      all_goals first | (exact absurd ‹decide ((l.length : Int) < (l.length : Int)) = true› (by rw [hd]; decide)) | skip
      all_goals rw [List.take_length]
/-! ### From border to border -/
def tailS (l : List Bf) : Nat → List Bf
  | 0 => []
  | k + 1 => EB.sg l (4 - (k : Int)) ++ tailS l k
def fullS (l : List Bf) : List Bf := tailS l 4
theorem full_eq (l : List Bf) : fullS l = EB.sg l 1 ++ (EB.sg l 2 ++ (EB.sg l 3 ++ EB.sg l 4)) := by
  show EB.sg l 1 ++ (EB.sg l 2 ++ (EB.sg l 3 ++ (EB.sg l 4 ++ []))) = _
  rw [List.append_nil]
theorem full_build (l : List Bf) : EB.joined EB.jb (fullS l) = EB.build l := by rw [full_eq]; exact EB.build_segs l
theorem full_ok (l : List Bf) : EB.OD (fullS l) ∧ ∀ x ∈ fullS l, sane x = true := by
  have hmemb : ∀ n, SA (EB.bs l n) := fun n => (Tb.bord_ok EB.toTb EB.sane n l [] trivial).1
  have hst := Tb.strm_ok EB.toTb (u := EB.lastL l) (bs := EB.bs l) (fun q hq => (EB.rng ((EB.mem_lastL l q).1 hq).2).1) hmemb (fun n q hq hn => by
    obtain ⟨q1, q2⟩ := (EB.mem_lastL l q).1 hq
    have hb := (Tb.bord_ok EB.toTb EB.sane n l [] trivial).2.1
    exact ⟨(hb _).2 (.inr ⟨q, q1, q2, hn, .inl rfl⟩), (hb _).2 (.inr ⟨q, q1, q2, hn, .inr rfl⟩)⟩)
  obtain ⟨s1, s2, s3⟩ := hst
  have good : ∀ s ∈ EB.strm (EB.lastL l) (EB.bs l), EB.sane s = true := fun s hs => by
    obtain ⟨n, q, hq, p1, p2, p3, p4, p5, p6⟩ := s2 s hs
    have gq := ((EB.mem_lastL l q).1 hq).2
    have gp := EB.part q (EB.lo s) (EB.hi s) gq p3 p4 p5
    have e1 : EB.v s = EB.sh (EB.v q) (EB.lo s - EB.lo q) := p6
    rw [p1.trans p2.symm, ← e1, EB.eta] at gp
    exact gp
  rw [full_eq]
  exact ⟨s1, good⟩
def remS (l : List Bf) (n : Int) (i : Nat) : List Bf := EB.segs (EB.gl l n) n ((EB.bs l n).drop i)
theorem remS_zero (l : List Bf) (n : Int) : remS l n 0 = EB.sg l n := rfl
theorem remS_end {l : List Bf} {n : Int} {i : Nat} (h : ¬ i + 1 < (EB.bs l n).length) : remS l n i = [] := by
  unfold remS
  have : ((EB.bs l n).drop i).length ≤ 1 := by rw [List.length_drop]; omega
  match hd : (EB.bs l n).drop i, this with
  | [], _ => rfl
  | [x], _ => rfl
theorem remS_next {l : List Bf} {n : Int} {i : Nat} (h : i + 1 < (EB.bs l n).length) : remS l n i = (match EB.last l n ((EB.bs l n).getD i default) with | some v => [(⟨n, (EB.bs l n).getD i default, (EB.bs l n).getD (i + 1) default - 1, v⟩ : Bf)] | none => []) ++ remS l n (i + 1) := by
  unfold remS
  rw [List.drop_eq_getElem_cons (show i < (EB.bs l n).length by omega), List.drop_eq_getElem_cons h, EB.segs_two, getD_at (show i < (EB.bs l n).length by omega), getD_at h]
  congr 1
  show Tb.seg1 _ (EB.last l n _) n _ _ = _
  cases EB.last l n (EB.bs l n)[i] <;> rfl
theorem remS_none {l : List Bf} {n : Int} {i : Nat} (h : i + 1 < (EB.bs l n).length) (hn : EB.last l n ((EB.bs l n).getD i default) = none) : remS l n i = remS l n (i + 1) := by
  rw [remS_next h, hn]
  rfl
theorem remS_some {l : List Bf} {n : Int} {i : Nat} {v : List Int} (h : i + 1 < (EB.bs l n).length) (hn : EB.last l n ((EB.bs l n).getD i default) = some v) : remS l n i = (⟨n, (EB.bs l n).getD i default, (EB.bs l n).getD (i + 1) default - 1, v⟩ : Bf) :: remS l n (i + 1) := by
  rw [remS_next h, hn]
  rfl
theorem drop_next {α : Type} [Inhabited α] {l : List α} {j : Nat} {x : α} {r : List α} (h : l.drop j = x :: r) : j < l.length ∧ l.getD j default = x ∧ l.drop (j + 1) = r := by
  have hj : j < l.length := by
    rcases Nat.lt_or_ge j l.length with q | q
    · exact q
    · rw [List.drop_eq_nil_of_le q] at h
      cases h
  rw [List.drop_eq_getElem_cons hj] at h
  obtain ⟨h1, h2⟩ := List.cons.inj h
  exact ⟨hj, by rw [getD_at hj]; exact h1, h2⟩
theorem full_len (l : List Bf) : (fullS l).length ≤ 8 * l.length := by
  have h : ∀ n, (EB.sg l n).length ≤ 2 * l.length := fun n => Nat.le_trans (Tb.segs_len EB.toTb _ n _) (EB.bs_rng l n).2
  rw [full_eq]
  simp only [List.length_append]
  have := h 1
  have := h 2
  have := h 3
  have := h 4
  omega
theorem getD_init {α : Type} [Inhabited α] {init : List α} {q : α} {i : Nat} (h : i < init.length) : (init ++ [q]).getD i default = init.getD i default := by
  simp [List.getD, List.getElem?_append_left h]
def SBuildR : Sp := ⟨List Bf, fun l => l.length ≤ 10000000, fun l => [aB l], fun l => .row 24 4 (EB.build l).length (els cBf (EB.build l))⟩
set_option maxHeartbeats 16000000 in
theorem rbuild : SpOK Try.prog 26 SBuildR := fun (l : List Bf) hl => by
  have hC : COK Try.prog (cfg [(43, SBord), (21, SLastR), (42, SJoins)]) := Ty.ty.cfg ⟨rborders, rlast, rjoins, trivial⟩
  have hl : l.length ≤ 10000000 := hl
  obtain ⟨fo, fg⟩ := full_ok l
  have hfl := full_len l
  ((refine Fn.ofF hC Try.func26 Try.ntmps26 rfl rfl rfl ?_); (repeat' first | (with_reducible exact trivial) | (with_reducible rfl) | (refine And.intro ?_ ?_) | (refine Need.mk ?_) | exact True.intro | (first | (refine ⟨_, Told.refl _, ?_, ?_⟩) | (refine ⟨⟨_, _⟩, Told.refl _, ?_, ?_⟩) | (refine ⟨⟨_, _, _⟩, Told.refl _, ?_, ?_⟩) | (refine ⟨⟨_, _, _, _⟩, Told.refl _, ?_, ?_⟩) | (refine ⟨⟨_, _, _, _, _⟩, Told.refl _, ?_, ?_⟩) | (refine ⟨(), Told.refl _, ?_, ?_⟩)) | (with_reducible intro _) | (refine fun (_ : Bool) => ?_)))
  refine AW.loop (I := fun x : Nat × Nat => ⟨88, [(0, aB l), (3, .own 0), (4, .int .i64 (5 - (x.1 : Int)))], [.row 24 4 (J (fullS l) x.2).length (els cBf (J (fullS l) x.2))]⟩) (fun x => x.1 ≤ 4 ∧ (fullS l).drop x.2 = tailS l x.1) (fun x => x.1) (4, 0) ⟨Nat.le_refl _, rfl⟩ ?_ ?_
  · (repeat' first | (with_reducible exact trivial) | (with_reducible rfl) | (refine And.intro ?_ ?_) | (refine Need.mk ?_) | exact True.intro | (first | (refine ⟨_, Told.refl _, ?_, ?_⟩) | (refine ⟨⟨_, _⟩, Told.refl _, ?_, ?_⟩) | (refine ⟨⟨_, _, _⟩, Told.refl _, ?_, ?_⟩) | (refine ⟨⟨_, _, _, _⟩, Told.refl _, ?_, ?_⟩) | (refine ⟨⟨_, _, _, _, _⟩, Told.refl _, ?_, ?_⟩) | (refine ⟨(), Told.refl _, ?_, ?_⟩)) | (with_reducible intro _) | (refine fun (_ : Bool) => ?_))
    all_goals rfl
  · rintro ⟨k, j⟩ ⟨hk, hdr⟩
    dsimp only at hk hdr ⊢
    rcases k with _ | m
    · have hd : decide (5 - ((0 : Nat) : Int) ≤ 4) = false := by decide
      have hJ : J (fullS l) j = EB.build l := by
        have : (fullS l).length ≤ j := List.drop_eq_nil_iff.1 hdr
        rw [← full_build l]
        unfold J
        rw [List.take_of_length_le this]
      ((refine AW.byF ‹_› ?_); (repeat' first | (with_reducible exact trivial) | (with_reducible rfl) | (refine And.intro ?_ ?_) | (refine Need.mk ?_) | exact True.intro | (first | (refine ⟨_, Told.refl _, ?_, ?_⟩) | (refine ⟨⟨_, _⟩, Told.refl _, ?_, ?_⟩) | (refine ⟨⟨_, _, _⟩, Told.refl _, ?_, ?_⟩) | (refine ⟨⟨_, _, _, _⟩, Told.refl _, ?_, ?_⟩) | (refine ⟨⟨_, _, _, _, _⟩, Told.refl _, ?_, ?_⟩) | (refine ⟨(), Told.refl _, ?_, ?_⟩)) | (with_reducible intro _) | (refine fun (_ : Bool) => ?_)))
      all_goals first | (exact absurd ‹decide (5 - ((0 : Nat) : Int) ≤ 4) = true› (by rw [hd]; decide)) | skip
      all_goals rw [hJ]
    · have hd : decide (5 - ((m + 1 : Nat) : Int) ≤ 4) = true := decide_eq_true (by omega)
      have en : 5 - ((m + 1 : Nat) : Int) = 4 - (m : Int) := by omega
      obtain ⟨n, hn⟩ : ∃ n, n = 4 - (m : Int) := ⟨_, rfl⟩
      have hdr : (fullS l).drop j = remS l n 0 ++ tailS l m := by rw [hdr, remS_zero, hn]; rfl
      have hbr := EB.bs_rng l n
      rw [en] at hd ⊢
      rw [← hn] at hd ⊢
      ((refine AW.byF ‹_› ?_); (repeat' first | (with_reducible exact trivial) | (with_reducible rfl) | (refine And.intro ?_ ?_) | (refine Need.mk ?_) | exact True.intro | (first | (refine ⟨_, Told.refl _, ?_, ?_⟩) | (refine ⟨⟨_, _⟩, Told.refl _, ?_, ?_⟩) | (refine ⟨⟨_, _, _⟩, Told.refl _, ?_, ?_⟩) | (refine ⟨⟨_, _, _, _⟩, Told.refl _, ?_, ?_⟩) | (refine ⟨⟨_, _, _, _, _⟩, Told.refl _, ?_, ?_⟩) | (refine ⟨(), Told.refl _, ?_, ?_⟩)) | (with_reducible intro _) | (refine fun (_ : Bool) => ?_)))
      all_goals first | (exact absurd ‹decide (n ≤ 4) = false› (by rw [hd]; decide)) | skip
      · show l.length ≤ 100000000
        omega
      refine AW.loop (I := fun x : Nat × Nat => ⟨88, [(0, aB l), (3, .own 0), (4, .int .i64 n), (5, aI (EB.bs l n)), (6, .int .i64 x.1)], [.row 24 4 (J (fullS l) x.2).length (els cBf (J (fullS l) x.2))]⟩) (fun x => x.1 ≤ (EB.bs l n).length ∧ (fullS l).drop x.2 = remS l n x.1 ++ tailS l m) (fun x => (EB.bs l n).length - x.1) (0, j) ⟨Nat.zero_le _, hdr⟩ ?_ ?_
      · (repeat' first | (with_reducible exact trivial) | (with_reducible rfl) | (refine And.intro ?_ ?_) | (refine Need.mk ?_) | exact True.intro | (first | (refine ⟨_, Told.refl _, ?_, ?_⟩) | (refine ⟨⟨_, _⟩, Told.refl _, ?_, ?_⟩) | (refine ⟨⟨_, _, _⟩, Told.refl _, ?_, ?_⟩) | (refine ⟨⟨_, _, _, _⟩, Told.refl _, ?_, ?_⟩) | (refine ⟨⟨_, _, _, _, _⟩, Told.refl _, ?_, ?_⟩) | (refine ⟨(), Told.refl _, ?_, ?_⟩)) | (with_reducible intro _) | (refine fun (_ : Bool) => ?_))
        all_goals rfl
      · rintro ⟨i, j⟩ ⟨hi, hdr⟩
        dsimp only at hi hdr ⊢
        have hw := iw (n := (i : Int) + 1) (by omega) (by omega)
        rcases Nat.lt_or_ge (i + 1) (EB.bs l n).length with hlt | hge
        · have hd2 : decide (IntKind.i64.wrap ((i : Int) + 1) < ((EB.bs l n).length : Int)) = true := by rw [hw]; exact decide_eq_true (by omega)
          have hjl := J_len (fullS l) j
          have ei : ((i : Int) + 1).toNat = i + 1 := by omega
          cases hv : EB.last l n ((EB.bs l n).getD i default) with
          | none =>
            have hN := remS_none hlt hv
            rw [hN] at hdr
            ((refine AW.byF ‹_› ?_); (repeat' first | (with_reducible exact trivial) | (with_reducible rfl) | (refine And.intro ?_ ?_) | (refine Need.mk ?_) | exact True.intro | (first | (refine ⟨_, Told.refl _, ?_, ?_⟩) | (refine ⟨⟨_, _⟩, Told.refl _, ?_, ?_⟩) | (refine ⟨⟨_, _, _⟩, Told.refl _, ?_, ?_⟩) | (refine ⟨⟨_, _, _, _⟩, Told.refl _, ?_, ?_⟩) | (refine ⟨⟨_, _, _, _, _⟩, Told.refl _, ?_, ?_⟩) | (refine ⟨(), Told.refl _, ?_, ?_⟩)) | (with_reducible intro _) | (refine fun (_ : Bool) => ?_)))
            all_goals first | (exact absurd ‹decide (IntKind.i64.wrap ((i : Int) + 1) < ((EB.bs l n).length : Int)) = false› (by rw [hd2]; decide)) | skip
            all_goals first | (exact absurd ‹(!(EB.last l n ((EB.bs l n).getD (i : Int).toNat default)).isSome) = false› (by rw [Int.toNat_natCast, hv]; decide)) | skip
            any_goals (refine Exists.intro (i + 1, j) (And.intro ?_ (And.intro ?_ ?_)); all_goals (repeat' first | (with_reducible exact trivial) | (with_reducible rfl) | (refine And.intro ?_ ?_) | (refine Need.mk ?_) | exact True.intro | (first | (refine ⟨_, Told.refl _, ?_, ?_⟩) | (refine ⟨⟨_, _⟩, Told.refl _, ?_, ?_⟩) | (refine ⟨⟨_, _, _⟩, Told.refl _, ?_, ?_⟩) | (refine ⟨⟨_, _, _, _⟩, Told.refl _, ?_, ?_⟩) | (refine ⟨⟨_, _, _, _, _⟩, Told.refl _, ?_, ?_⟩) | (refine ⟨(), Told.refl _, ?_, ?_⟩)) | (with_reducible intro _) | (refine fun (_ : Bool) => ?_)))
            all_goals first
              | omega
              | (show l.length < 9223372036854775807; omega)
              | (dsimp only; omega)
              | (dsimp only; exact hdr)
              | (rw [hw]; dsimp only; omega)
          | some v =>
            have hN := remS_some hlt hv
            obtain ⟨x, hx⟩ : ∃ x : Bf, x = ⟨n, (EB.bs l n).getD i default, (EB.bs l n).getD (i + 1) default - 1, v⟩ := ⟨_, rfl⟩
            have hb1 := hbr.1 ((EB.bs l n).getD (i + 1) default) (by rw [getD_at hlt]; exact List.getElem_mem hlt)
            have hw3 := iw (n := (EB.bs l n).getD (i + 1) default - 1) (by omega) (by omega)
            rw [← hx] at hN
            obtain ⟨jlt, jx, jdr⟩ := drop_next (hdr.trans (by rw [hN]; rfl))
            have hxs : sane x = true := by rw [← jx, getB jlt]; exact fg _ (List.getElem_mem jlt)
            have hjs := J_sane fo fg j
            have hxr : (⟨n, (EB.bs l n).getD (i : Int).toNat default, IntKind.i64.wrap ((EB.bs l n).getD (IntKind.i64.wrap ((i : Int) + 1)).toNat default - 1), (EB.last l n ((EB.bs l n).getD (i : Int).toNat default)).getD []⟩ : Bf) = x := by
              rw [hx, hw, ei, Int.toNat_natCast, hw3, hv]
              rfl
            rw [← hxr] at hxs
            rcases J_next jlt with ⟨j1, j2⟩ | ⟨init, q, j1, j2⟩
            · rw [jx, ← hxr] at j2
              rw [j1] at hjl ⊢
              ((refine AW.byF ‹_› ?_); (repeat' first | (with_reducible exact trivial) | (with_reducible rfl) | (refine And.intro ?_ ?_) | (refine Need.mk ?_) | exact True.intro | (first | (refine ⟨_, Told.refl _, ?_, ?_⟩) | (refine ⟨⟨_, _⟩, Told.refl _, ?_, ?_⟩) | (refine ⟨⟨_, _, _⟩, Told.refl _, ?_, ?_⟩) | (refine ⟨⟨_, _, _, _⟩, Told.refl _, ?_, ?_⟩) | (refine ⟨⟨_, _, _, _, _⟩, Told.refl _, ?_, ?_⟩) | (refine ⟨(), Told.refl _, ?_, ?_⟩)) | (with_reducible intro _) | (refine fun (_ : Bool) => ?_)))
              all_goals first | (exact absurd ‹decide (IntKind.i64.wrap ((i : Int) + 1) < ((EB.bs l n).length : Int)) = false› (by rw [hd2]; decide)) | skip
              all_goals first | (exact absurd ‹(!(EB.last l n ((EB.bs l n).getD (i : Int).toNat default)).isSome) = true› (by rw [Int.toNat_natCast, hv]; simp)) | skip
              all_goals first | (exact absurd ‹decide (IntKind.i64.wrap ((([] : List Bf).length : Int) - 1) ≥ 0) = true› (by decide)) | skip
              any_goals (refine Exists.intro (i + 1, j + 1) (And.intro ?_ (And.intro ?_ ?_)); all_goals (repeat' first | (with_reducible exact trivial) | (with_reducible rfl) | (refine And.intro ?_ ?_) | (refine Need.mk ?_) | exact True.intro | (first | (refine ⟨_, Told.refl _, ?_, ?_⟩) | (refine ⟨⟨_, _⟩, Told.refl _, ?_, ?_⟩) | (refine ⟨⟨_, _, _⟩, Told.refl _, ?_, ?_⟩) | (refine ⟨⟨_, _, _, _⟩, Told.refl _, ?_, ?_⟩) | (refine ⟨⟨_, _, _, _, _⟩, Told.refl _, ?_, ?_⟩) | (refine ⟨(), Told.refl _, ?_, ?_⟩)) | (with_reducible intro _) | (refine fun (_ : Bool) => ?_)))
              all_goals first
                | omega
                | (rw [hw]; omega)
                | (show l.length < 9223372036854775807; omega)
                | (dsimp only; omega)
                | (dsimp only; exact jdr)
                | (rw [hw]; dsimp only; omega)
                | (rw [j2]; rfl)
                | (have hi := ‹_ < (J (fullS l) (j + 1)).length›
                   rw [j2] at hi ⊢
                   exact els_of cBf_emb (n := 0) (cat_snoc' (l := []) (x := ⟨n, (EB.bs l n).getD (i : Int).toNat default, IntKind.i64.wrap ((EB.bs l n).getD (IntKind.i64.wrap ((i : Int) + 1)).toNat default - 1), (EB.last l n ((EB.bs l n).getD (i : Int).toNat default)).getD []⟩) rfl (fun _ _ => rfl)) _ hi)
            · rw [jx, ← hxr] at j2
              rw [j1] at hjl hjs ⊢
              have hq : sane q = true := hjs q (by simp)
              have hlen : (init ++ [q]).length = init.length + 1 := by simp
              have e3 : IntKind.i64.wrap (((init ++ [q]).length : Int) - 1) = ((init.length : Nat) : Int) := by rw [iw (by omega) (by omega)]; omega
              have hgl : (init ++ [q]).getD (IntKind.i64.wrap (((init ++ [q]).length : Int) - 1)).toNat default = q := by rw [e3, Int.toNat_natCast, getD_last]
              have hd3 : decide (IntKind.i64.wrap (((init ++ [q]).length : Int) - 1) ≥ 0) = true := by rw [e3]; exact decide_eq_true (by omega)
              have hJ1 : joins ((init ++ [q]).getD (IntKind.i64.wrap (((init ++ [q]).length : Int) - 1)).toNat default) ⟨n, (EB.bs l n).getD (i : Int).toNat default, IntKind.i64.wrap ((EB.bs l n).getD (IntKind.i64.wrap ((i : Int) + 1)).toNat default - 1), (EB.last l n ((EB.bs l n).getD (i : Int).toNat default)).getD []⟩ = true → J (fullS l) (j + 1) = init ++ [⟨q.n, q.lo, IntKind.i64.wrap ((EB.bs l n).getD (IntKind.i64.wrap ((i : Int) + 1)).toNat default - 1), q.to⟩] := fun h => by
                rw [hgl] at h
                rw [j2]
                exact if_pos h
              have hJ2 : joins ((init ++ [q]).getD (IntKind.i64.wrap (((init ++ [q]).length : Int) - 1)).toNat default) ⟨n, (EB.bs l n).getD (i : Int).toNat default, IntKind.i64.wrap ((EB.bs l n).getD (IntKind.i64.wrap ((i : Int) + 1)).toNat default - 1), (EB.last l n ((EB.bs l n).getD (i : Int).toNat default)).getD []⟩ = false → J (fullS l) (j + 1) = init ++ [q] ++ [⟨n, (EB.bs l n).getD (i : Int).toNat default, IntKind.i64.wrap ((EB.bs l n).getD (IntKind.i64.wrap ((i : Int) + 1)).toNat default - 1), (EB.last l n ((EB.bs l n).getD (i : Int).toNat default)).getD []⟩] := fun h => by
                rw [hgl] at h
                rw [j2, if_neg (by rw [h]; decide)]
              have hel : ∀ r : Bf, r = ⟨q.n, q.lo, IntKind.i64.wrap ((EB.bs l n).getD (IntKind.i64.wrap ((i : Int) + 1)).toNat default - 1), q.to⟩ → ∀ z, z < (init ++ [r]).length → catEl (0 + (IntKind.i64.wrap (((init ++ [q]).length : Int) - 1) - 0).toNat) (catEl 0 (elt []) fun i => els cBf (init ++ [q]) (Int.toNat 0 + i)) (elt [cBf ⟨((init ++ [q]).getD (IntKind.i64.wrap (((init ++ [q]).length : Int) - 1)).toNat default).n, ((init ++ [q]).getD (IntKind.i64.wrap (((init ++ [q]).length : Int) - 1)).toNat default).lo, IntKind.i64.wrap ((EB.bs l n).getD (IntKind.i64.wrap ((i : Int) + 1)).toNat default - 1), ((init ++ [q]).getD (IntKind.i64.wrap (((init ++ [q]).length : Int) - 1)).toNat default).to⟩]) z = cBf ((init ++ [r]).getD z default) := fun r hr z hz => by
                rw [hgl, ← hr]
                refine cat_snoc' (l := init) (by rw [e3]; omega) (fun z hz => ?_) z hz
                show cBf ((init ++ [q]).getD (Int.toNat 0 + z) default) = _
                rw [show Int.toNat 0 + z = z by simp, getD_init hz]
              ((refine AW.byF ‹_› ?_); (repeat' first | (with_reducible exact trivial) | (with_reducible rfl) | (refine And.intro ?_ ?_) | (refine Need.mk ?_) | exact True.intro | (first | (refine ⟨_, Told.refl _, ?_, ?_⟩) | (refine ⟨⟨_, _⟩, Told.refl _, ?_, ?_⟩) | (refine ⟨⟨_, _, _⟩, Told.refl _, ?_, ?_⟩) | (refine ⟨⟨_, _, _, _⟩, Told.refl _, ?_, ?_⟩) | (refine ⟨⟨_, _, _, _, _⟩, Told.refl _, ?_, ?_⟩) | (refine ⟨(), Told.refl _, ?_, ?_⟩)) | (with_reducible intro _) | (refine fun (_ : Bool) => ?_)))
              all_goals first | (exact absurd ‹decide (IntKind.i64.wrap ((i : Int) + 1) < ((EB.bs l n).length : Int)) = false› (by rw [hd2]; decide)) | skip
              all_goals first | (exact absurd ‹(!(EB.last l n ((EB.bs l n).getD (i : Int).toNat default)).isSome) = true› (by rw [Int.toNat_natCast, hv]; simp)) | skip
              all_goals first | (exact absurd ‹decide (IntKind.i64.wrap (((init ++ [q]).length : Int) - 1) ≥ 0) = false› (by rw [hd3]; decide)) | skip
              any_goals (refine Exists.intro (i + 1, j + 1) (And.intro ?_ (And.intro ?_ ?_)); all_goals (repeat' first | (with_reducible exact trivial) | (with_reducible rfl) | (refine And.intro ?_ ?_) | (refine Need.mk ?_) | exact True.intro | (first | (refine ⟨_, Told.refl _, ?_, ?_⟩) | (refine ⟨⟨_, _⟩, Told.refl _, ?_, ?_⟩) | (refine ⟨⟨_, _, _⟩, Told.refl _, ?_, ?_⟩) | (refine ⟨⟨_, _, _, _⟩, Told.refl _, ?_, ?_⟩) | (refine ⟨⟨_, _, _, _, _⟩, Told.refl _, ?_, ?_⟩) | (refine ⟨(), Told.refl _, ?_, ?_⟩)) | (with_reducible intro _) | (refine fun (_ : Bool) => ?_)))
              all_goals first
                | omega
                | (rw [hw]; omega)
                | (show l.length < 9223372036854775807; omega)
                | (dsimp only; omega)
                | (dsimp only; exact jdr)
                | (rw [hw]; dsimp only; omega)
                | (rw [e3]; omega)
                | (rw [e3]; dsimp only; omega)
                | exact hxs
                | (rw [hgl]; exact hq)
                | (dsimp only; rw [hJ1 ‹_›, e3, List.length_append]; show _ = init.length + 1; omega)
                | (dsimp only; rw [hJ2 ‹_›]; simp only [List.length_append, List.length_cons, List.length_nil]; done)
                | (have hi := ‹_ < (J (fullS l) (j + 1)).length›
                   rw [hJ2 ‹_›] at hi
                   dsimp only
                   rw [hJ2 ‹_›]
                   exact els_of cBf_emb (n := 0) (cat_snoc' rfl (fun _ _ => rfl)) _ hi)
                | (have hi := ‹_ < (J (fullS l) (j + 1)).length›
                   rw [hJ1 ‹_›] at hi
                   dsimp only
                   rw [hJ1 ‹_›]
                   exact els_of cBf_emb (n := 0) (hel _ rfl) _ hi)
        · have hd2 : decide (IntKind.i64.wrap ((i : Int) + 1) < ((EB.bs l n).length : Int)) = false := by rw [hw]; exact decide_eq_false (by omega)
          have hE := remS_end (l := l) (n := n) (i := i) (by omega)
          rw [hE, List.nil_append] at hdr
          ((refine AW.byF ‹_› ?_); (repeat' first | (with_reducible exact trivial) | (with_reducible rfl) | (refine And.intro ?_ ?_) | (refine Need.mk ?_) | exact True.intro | (first | (refine ⟨_, Told.refl _, ?_, ?_⟩) | (refine ⟨⟨_, _⟩, Told.refl _, ?_, ?_⟩) | (refine ⟨⟨_, _, _⟩, Told.refl _, ?_, ?_⟩) | (refine ⟨⟨_, _, _, _⟩, Told.refl _, ?_, ?_⟩) | (refine ⟨⟨_, _, _, _, _⟩, Told.refl _, ?_, ?_⟩) | (refine ⟨(), Told.refl _, ?_, ?_⟩)) | (with_reducible intro _) | (refine fun (_ : Bool) => ?_)))
          all_goals first | (exact absurd ‹decide (IntKind.i64.wrap ((i : Int) + 1) < ((EB.bs l n).length : Int)) = true› (by rw [hd2]; decide)) | skip
          any_goals (refine Exists.intro (m, j) (And.intro ?_ (And.intro ?_ ?_)); all_goals (repeat' first | (with_reducible exact trivial) | (with_reducible rfl) | (refine And.intro ?_ ?_) | (refine Need.mk ?_) | exact True.intro | (first | (refine ⟨_, Told.refl _, ?_, ?_⟩) | (refine ⟨⟨_, _⟩, Told.refl _, ?_, ?_⟩) | (refine ⟨⟨_, _, _⟩, Told.refl _, ?_, ?_⟩) | (refine ⟨⟨_, _, _, _⟩, Told.refl _, ?_, ?_⟩) | (refine ⟨⟨_, _, _, _, _⟩, Told.refl _, ?_, ?_⟩) | (refine ⟨(), Told.refl _, ?_, ?_⟩)) | (with_reducible intro _) | (refine fun (_ : Bool) => ?_)))
          all_goals first
            | omega
            | (dsimp only; omega)
            | (dsimp only; exact hdr)
            | (rw [iw (by omega) (by omega)]; dsimp only; omega)
end Go.Abs.Dest
