/- Of each piece that is full its bytes are a code that is in one of the codespaces, and no fewer of them are; of one that is not none of its beginnings, nor four bytes from there on, is. Conditions: none beyond the statement's own. -/
import Derived.Test.YtippodpmggcniaaQMatch
import Derived.Test.YtippodpmggcniaaSMatchCodes
namespace Go.Proofs.Ytippodpmggcniaa.Pure
open Go.RowKit Go.Proofs.Ytippodpmggcniaa.PAll Go.Proofs.YtippodpmggcniaaW.PrintWords Go.Proofs.YtippodpmggcniaaW.PrintLast Go.Proofs.YtippodpmggcniaaW.PrintMore Go.Proofs.YtippodpmggcniaaQ
theorem awakeCodes : Ev (fun k => hornbooklaw11_awake.f k) true := Ev.of (k := 40) (fun k => hornbooklaw11_awake.mono k) (by decide +kernel)
/-- What is known of a piece. -/
structure PieceOk (l : List Rect) (s : List Int) (p : Piece) (a j : Nat) : Prop where
  ha : p.f0 = (a : Int)
  hj : p.f1 = (j : Int)
  h1 : 1 ≤ j
  h4 : j ≤ 4
  hl : a + j ≤ s.length
  full : p.f2 = true → fullB l ((s.drop a).take j) = true ∧ (∀ i, 1 ≤ i → i < j → fullB l ((s.drop a).take i) = false) ∧ p.f3 = ⟨(j : Int), valN ((s.drop a).take j)⟩
  not : p.f2 = false → p.f3 = ⟨0, 0⟩ ∧ ∀ i, 1 ≤ i → i ≤ 4 → a + i ≤ s.length → fullB l ((s.drop a).take i) = false
theorem pieces_ok (l : List Rect) (s : List Int) : ∀ (m i : Nat), i ≤ s.length → ∀ p ∈ allG l m (i : Int) (s.drop i), ∃ a j, PieceOk l s p a j
  | 0, _, _, p, hp => by simp [allG] at hp
  | m + 1, i, hi, p, hp => by
    unfold allG at hp
    by_cases h0 : (s.drop i).length = 0
    · rw [if_pos h0] at hp
      simp at hp
    · rw [if_neg h0] at hp
      rw [List.length_drop] at h0
      obtain ⟨j, hj, hj4, hjl, hj1, hjt, hjf⟩ := nextB_spec l (s.drop i)
      rw [List.length_drop] at hjl hj1
      have hj1 := hj1 (by omega)
      rw [hj, Int.toNat_natCast, show (i : Int) + (j : Int) = ((i + j : Nat) : Int) by omega, List.drop_drop] at hp
      rcases List.mem_cons.mp hp with rfl | hp
      · refine ⟨i, j, rfl, rfl, hj1, hj4, by omega, fun hf => ?_, fun hf => ?_⟩
        · have hf' : (nextB l (s.drop i)).2 = true := hf
          exact ⟨(hjt hf').2.1, (hjt hf').2.2, by show (if (nextB l (s.drop i)).2 = true then _ else _) = _; rw [if_pos hf']⟩
        · have hf' : (nextB l (s.drop i)).2 = false := hf
          refine ⟨by show (if (nextB l (s.drop i)).2 = true then _ else _) = _; rw [hf', if_neg (show ¬ (false = true) by decide)], fun q h1 h2 h3 => hjf hf' q h1 h2 (by rw [List.length_drop]; omega)⟩
      · exact pieces_ok l s m (i + j) (by omega) p hp
/-- What the law asks at n bytes. -/
def Asks (full : Bool) (n N : Nat) (inn : Bool) (cn cv bn bv : Int) : Prop :=
  (full = true → (n < N → inn = false) ∧ (n = N → inn = true ∧ cn = bn ∧ cv = bv)) ∧ (full = false → inn = false)
theorem codes_l2 (l : List Rect) (hl : l.length ≤ 60) (s : List Int) (ps : List Piece) (q : Int) (n N a : Nat) (full : Bool) (cn cv bn bv : Int) (inn : Bool) (hn : n ≤ 4) (hask : Asks full n N inn cn cv bn bv)
    (hnext : Ev (fun k => hornbooklaw11_MatchCodes.l1 k l s true ps q (((n + 1 : Nat) : Int)) (a : Int) (N : Int) full cn cv) true) :
    ∀ (m i : Nat) (acc : Bool), i + m = l.length → (acc || inAny (l.drop i) bn bv) = inn →
    Ev (fun k => hornbooklaw11_MatchCodes.l2 k l s true ps q (n : Int) true acc (i : Int) (a : Int) (N : Int) full cn cv bn bv) true
  | 0, i, acc, h, hacc => by
    refine Ev.step (fun k => rfl) ?_
    simp only [hornbooklaw11_MatchCodes.l2]
    simp only [if_neg (show ¬ ((i : Int) < (l.length : Int)) by omega), if_true]
    rw [List.drop_of_length_le (by omega), show inAny [] bn bv = false from rfl, Bool.or_false] at hacc
    rw [w64n (by omega)]
    cases full with
    | true =>
      obtain ⟨hlt, heq⟩ := hask.1 rfl
      simp only [if_true]
      by_cases c1 : n < N
      · simp only [if_pos (show (n : Int) < (N : Int) by omega), hacc, hlt c1, if_neg (show ¬ (false = true) by decide), if_neg (show ¬ ((n : Int) = (N : Int)) by omega)]
        exact hnext
      · simp only [if_neg (show ¬ ((n : Int) < (N : Int)) by omega)]
        by_cases c2 : n = N
        · obtain ⟨e1, e2, e3⟩ := heq c2
          simp only [if_pos (show (n : Int) = (N : Int) by omega), hacc, e1, if_true, e2, e3, beq_self_eq_true, Bool.not_true, Bool.or_self, if_neg (show ¬ (false = true) by decide)]
          rw [e2, e3] at hnext
          exact hnext
        · simp only [if_neg (show ¬ ((n : Int) = (N : Int)) by omega)]
          exact hnext
    | false =>
      simp only [if_neg (show ¬ (false = true) by decide), hacc, hask.2 rfl]
      exact hnext
  | m + 1, i, acc, h, hacc => by
    have hi : i < l.length := by omega
    refine Ev.step (fun k => rfl) ?_
    simp only [hornbooklaw11_MatchCodes.l2]
    simp only [if_pos (show (i : Int) < (l.length : Int) by omega), if_pos (show (0 : Int) ≤ (i : Int) by omega)]
    rw [w64n (by omega)]
    rw [List.drop_eq_getElem_cons hi] at hacc
    cases acc with
    | true =>
      simp only [if_true]
      exact codes_l2 l hl s ps q n N a full cn cv bn bv inn hn hask hnext m (i + 1) true (by omega) (by rw [Bool.true_or] at hacc ⊢; exact hacc)
    | false =>
      simp only [if_neg (show ¬ (false = true) by decide)]
      rw [rdT_nat hi]
      refine Ev.bind (rect_In_is _ _ _ bn bv) ?_
      exact codes_l2 l hl s ps q n N a full cn cv bn bv inn hn hask hnext m (i + 1) _ (by omega) (by rw [← hacc, Bool.false_or]; unfold inAny; rw [List.any_cons])
theorem full_is (l : List Rect) (b : List Int) (h1 : 1 ≤ b.length) (h4 : b.length ≤ 4) : fullB l b = inAny l b.length (valN b) := by
  unfold fullB
  rw [decide_eq_true ⟨h1, h4⟩, Bool.true_and]
theorem codes_l1 (l : List Rect) (hl : l.length ≤ 60) (s : List Int) (hb : Bytes s) (hs : s.length ≤ 200) (ps : List Piece) (hps : ps.length < 9223372036854775807) (q : Nat) (hq : q < ps.length) (p : Piece) (a j : Nat) (hp : PieceOk l s p a j)
    (hnext : Ev (fun k => hornbooklaw11_MatchCodes.l0 k l s true ps ((q + 1 : Nat) : Int)) true) :
    ∀ (m n : Nat), n + m = 5 → 1 ≤ n → Ev (fun k => hornbooklaw11_MatchCodes.l1 k l s true ps (q : Int) (n : Int) (a : Int) (j : Int) p.f2 p.f3.f0 p.f3.f1) true := by
  have hend : Ev (fun k => hornbooklaw11_MatchCodes.j4 k l s true ps (q : Int) 0 false (a : Int) (j : Int) p.f2 p.f3.f0 p.f3.f1) true := by
    refine Ev.step (fun k => rfl) ?_
    simp only [hornbooklaw11_MatchCodes.j4, if_neg (show ¬ (false = true) by decide)]
    rw [w64n (by omega)]
    cases hf : p.f2 with
    | true => simp only [if_true]; exact hnext
    | false =>
      rw [(hp.not hf).1]
      simp only [beq_self_eq_true, Bool.not_true, Bool.or_self, if_neg (show ¬ (false = true) by decide)]
      exact hnext
  have hend' : ∀ n : Int, Ev (fun k => hornbooklaw11_MatchCodes.j4 k l s true ps (q : Int) n false (a : Int) (j : Int) p.f2 p.f3.f0 p.f3.f1) true := by
    intro n
    obtain ⟨K, hK⟩ := hend
    refine ⟨K + 1, fun k hk => ?_⟩
    obtain ⟨k, rfl⟩ : ∃ m, k = m + 1 := ⟨k - 1, by omega⟩
    have := hK (k + 1) (by omega)
    simp only [hornbooklaw11_MatchCodes.j4, if_neg (show ¬ (false = true) by decide)] at this ⊢
    exact this
  intro m
  induction m with
  | zero =>
    intro n h h1
    obtain rfl : n = 5 := by omega
    refine Ev.step (fun k => rfl) ?_
    simp only [hornbooklaw11_MatchCodes.l1]
    simp only [if_neg (show ¬ (((5 : Nat) : Int) ≤ 4) by omega)]
    exact hend' _
  | succ m ih =>
    intro n h h1
    refine Ev.step (fun k => rfl) ?_
    simp only [hornbooklaw11_MatchCodes.l1]
    simp only [if_pos (show (n : Int) ≤ 4 by omega)]
    have hl' := hp.hl
    rw [w64 (n := (a : Int) + (n : Int)) (by omega) (by omega), show (a : Int) + (n : Int) = ((a + n : Nat) : Int) by omega]
    by_cases hle : a + n ≤ s.length
    · rw [decide_eq_true (show ((a + n : Nat) : Int) ≤ (s.length : Int) by omega)]
      refine Ev.step (fun k => rfl) ?_
      simp only [hornbooklaw11_MatchCodes.j4, if_true]
      rw [w64 (n := (a : Int) + (n : Int)) (by omega) (by omega), show (a : Int) + (n : Int) = ((a + n : Nat) : Int) by omega]
      simp only [if_pos (show (0 : Int) ≤ (a : Int) by omega), if_pos (show (a : Int) ≤ ((a + n : Nat) : Int) by omega), if_pos (show ((a + n : Nat) : Int) ≤ (s.length : Int) by omega), Int.toNat_natCast]
      rw [show (s.take (a + n)).drop a = (s.drop a).take n by rw [List.drop_take, Nat.add_sub_cancel_left]]
      have hlen : ((s.drop a).take n).length = n := by rw [List.length_take, List.length_drop]; omega
      refine Ev.bind (hex_Val_is _ ((hb.drop a).take n) (by omega) (by omega)) ?_
      refine codes_l2 l hl s ps q n j a p.f2 p.f3.f0 p.f3.f1 _ _ (fullB l ((s.drop a).take n)) (by omega) ⟨fun hf => ⟨fun hlt => (hp.full hf).2.1 n h1 hlt, fun heq => ?_⟩, fun hf => (hp.not hf).2 n h1 (by omega) hle⟩ (ih (n + 1) (by omega) (by omega)) l.length 0 false (by omega) ?_
      · subst heq
        refine ⟨(hp.full hf).1, ?_, ?_⟩
        · rw [(hp.full hf).2.2, hlen]
        · rw [(hp.full hf).2.2]
      · rw [Bool.false_or, List.drop_zero, full_is _ _ (by omega) (by omega)]
    · rw [decide_eq_false (show ¬ (((a + n : Nat) : Int) ≤ (s.length : Int)) by omega)]
      exact hend' _
theorem codes_l0 (l : List Rect) (hl : l.length ≤ 60) (s : List Int) (hb : Bytes s) (hs : s.length ≤ 200) (ps : List Piece) (hps : ps.length < 9223372036854775807) (hok : ∀ p ∈ ps, ∃ a j, PieceOk l s p a j) : ∀ n i : Nat, i + n = ps.length → Ev (fun k => hornbooklaw11_MatchCodes.l0 k l s true ps (i : Int)) true
  | 0, i, h => by
    refine Ev.step (fun k => rfl) ?_
    simp only [hornbooklaw11_MatchCodes.l0]
    simp only [if_neg (show ¬ ((i : Int) < (ps.length : Int)) by omega)]
    exact Ev.now _
  | n + 1, i, h => by
    have hi : i < ps.length := by omega
    obtain ⟨a, j, hp⟩ := hok ps[i] (List.getElem_mem hi)
    have hl' := hp.hl
    have h1 := hp.h1
    refine Ev.step (fun k => rfl) ?_
    simp only [hornbooklaw11_MatchCodes.l0]
    simp only [if_pos (show (i : Int) < (ps.length : Int) by omega), if_pos (show (0 : Int) ≤ (i : Int) by omega)]
    rw [rdP_nat hi, hp.ha, hp.hj]
    simp only [if_neg (show ¬ ((a : Int) < 0) by omega), if_neg (show ¬ ((j : Int) < 1) by omega)]
    rw [w64 (n := (a : Int) + (j : Int)) (by omega) (by omega), decide_eq_false (show ¬ ((a : Int) + (j : Int) > (s.length : Int)) by omega)]
    refine Ev.step (fun k => rfl) ?_
    simp only [hornbooklaw11_MatchCodes.j2, if_neg (show ¬ (false = true) by decide)]
    exact codes_l1 l hl s hb hs ps hps i hi ps[i] a j hp (codes_l0 l hl s hb hs ps hps hok n (i + 1) (by omega)) 4 1 (by omega) (by omega)
theorem allG_len (l : List Rect) : ∀ (m : Nat) (p : Int) (s : List Int), (allG l m p s).length ≤ m
  | 0, _, _ => by simp [allG]
  | m + 1, p, s => by
    unfold allG
    split
    · simp
    · rw [List.length_cons]
      have := allG_len l m (p + (nextB l s).1) (s.drop (nextB l s).1.toNat)
      omega
theorem MatchCodes : hornbooklaw11_MatchCodes.Pure := by
  rintro l s ⟨hlm, hlw⟩ ⟨hsm, hsw⟩
  have hb : Bytes s := fun x hx => byte_wf (hsw x hx)
  refine Ev.rounds (g := fun k => hornbooklaw11_MatchCodes.f k l s) ?_
  unfold hornbooklaw11_MatchCodes.f
  refine Ev.bind awakeCodes ?_
  have out : Ev (fun k => hornbooklaw11_MatchCodes.j0 k l s true true) true := by
    refine Ev.step (fun k => rfl) ?_
    simp only [hornbooklaw11_MatchCodes.j0, if_true]
    exact Ev.now _
  by_cases hl : (l.length : Int) > 60
  · simp only [if_pos hl]
    exact out
  · simp only [if_neg hl]
    by_cases hs : (s.length : Int) > 200
    · rw [decide_eq_true hs]
      exact out
    · rw [decide_eq_false hs]
      refine Ev.step (fun k => rfl) ?_
      simp only [hornbooklaw11_MatchCodes.j0, if_neg (show ¬ (false = true) by decide)]
      refine Ev.bind (match_All_is l (by omega) s hb (by omega)) ?_
      have hlen : (allB l s).length ≤ s.length := allG_len l _ _ _
      exact codes_l0 l (by omega) s hb (by omega) (allB l s) (by omega) (fun p hp => by
        have := pieces_ok l s s.length 0 (by omega) p (by rw [List.drop_zero]; exact hp)
        exact this) (allB l s).length 0 (by omega)
end Go.Proofs.Ytippodpmggcniaa.Pure
