/- Without codespaces each byte of any text is a piece of its own; with all bytes as codes each byte is a full piece. Conditions: none beyond the statement's own. -/
import Derived.Test.YtippodpmggcniaaQMatch
import Derived.Test.YtippodpmggcniaaSMatchNone
namespace Go.Proofs.Ytippodpmggcniaa.Pure
open Go.RowKit Go.Proofs.Ytippodpmggcniaa.PAll Go.Proofs.YtippodpmggcniaaW.PrintWords Go.Proofs.YtippodpmggcniaaW.PrintLast Go.Proofs.YtippodpmggcniaaW.PrintMore Go.Proofs.YtippodpmggcniaaQ
theorem awake : Ev (fun k => hornbooklaw11_awake.f k) true := Ev.of (k := 40) (fun k => hornbooklaw11_awake.mono k) (by decide +kernel)
theorem next_nil {s : List Int} (h : 1 ≤ s.length) : nextB [] s = (1, false) := by
  have hf : ∀ b, fullB [] b = false := fun b => by simp [fullB, inAny]
  have hn : ∀ m n, firstN [] s m n = none := by
    intro m
    induction m with
    | zero => intro n; rfl
    | succ m ih =>
      intro n
      unfold firstN
      rw [hf, if_neg (show ¬ (false = true) by decide), ih]
      split <;> rfl
  unfold nextB
  rw [hn]
  show (mn 1 (s.length : Int), false) = _
  unfold mn
  rw [if_neg (by omega)]
theorem in_byte {x : Int} (h0 : 0 ≤ x) (h1 : x < 256) : inB 1 0 255 1 x = true := by
  have hs : saneB 1 x = true := (sane_iff 1 x).mpr (.inl ⟨rfl, h0, h1⟩)
  have hr : rectB 1 0 255 = true := by decide +kernel
  unfold inB
  rw [hr, hs]
  have hb : bytes4 1 x = [x] := by unfold bytes4; rw [if_pos rfl]; congr 1; omega
  rw [hb, show bytes4 1 0 = [0] from by decide +kernel, show bytes4 1 255 = [255] from by decide +kernel]
  have hfit : fitN [x] [0] [255] = 1 := by
    unfold fitN
    rw [if_pos ⟨h0, by omega⟩]
    rfl
  simp [hfit]
theorem next_all {x : Int} {s : List Int} (h0 : 0 ≤ x) (h1 : x < 256) : nextB [⟨1, 0, 255⟩] (x :: s) = (1, true) := by
  have hf : fullB [⟨1, 0, 255⟩] [x] = true := by
    have hv : valN [x] = x := by simp [valN]
    simp [fullB, inAny, hv, in_byte h0 h1]
  unfold nextB
  rw [show firstN [⟨1, 0, 255⟩] (x :: s) 5 1 = some 1 from by
    unfold firstN
    rw [if_pos ⟨by decide, by simp⟩]
    rw [show (x :: s).take 1 = [x] by simp, if_pos hf]]
  rfl
theorem all_nil : ∀ (m : Nat) (p : Nat) (s : List Int), s.length = m → allG [] m (p : Int) s = (List.range m).map fun i => (⟨((p + i : Nat) : Int), 1, false, ⟨0, 0⟩⟩ : Piece)
  | 0, _, _, _ => rfl
  | m + 1, p, s, h => by
    unfold allG
    rw [if_neg (show ¬ (s.length = 0) by omega), next_nil (by omega)]
    rw [List.range_succ_eq_map, List.map_cons, List.map_map, show ((1 : Int), false).1 = 1 from rfl, show (1 : Int).toNat = 1 from rfl, show (p : Int) + 1 = ((p + 1 : Nat) : Int) by omega]
    rw [all_nil m (p + 1) (s.drop 1) (by rw [List.length_drop]; omega)]
    congr 1
    refine List.map_congr_left fun i _ => ?_
    simp only [Function.comp]
    congr 1
    omega
theorem all_all : ∀ (m : Nat) (p : Nat) (s : List Int), s.length = m → Bytes s → allG [⟨1, 0, 255⟩] m (p : Int) s = (List.range m).map fun i => (⟨((p + i : Nat) : Int), 1, true, ⟨1, s.getD i 0⟩⟩ : Piece)
  | 0, _, _, _, _ => rfl
  | m + 1, p, [], h, _ => by simp at h
  | m + 1, p, x :: s, h, hb => by
    have hx := hb x (by simp)
    unfold allG
    rw [if_neg (show ¬ ((x :: s).length = 0) by simp), next_all hx.1 hx.2]
    rw [List.range_succ_eq_map, List.map_cons, List.map_map, show ((1 : Int), true).1 = 1 from rfl, show (1 : Int).toNat = 1 from rfl, show (p : Int) + 1 = ((p + 1 : Nat) : Int) by omega]
    rw [show (x :: s).drop 1 = s from rfl, all_all m (p + 1) s (by simpa using h) (fun y hy => hb y (by simp [hy]))]
    have hv : valN ([x] : List Int) = x := by simp [valN]
    congr 1
    · rw [show (x :: s).take 1 = [x] by simp, hv]
      rfl
    · refine List.map_congr_left fun i _ => ?_
      simp only [Function.comp, List.getD_cons_succ]
      congr 1
      omega
theorem none_l0 (s : List Int) (hb : Bytes s) (hs : s.length ≤ 300) (p q : List Piece) (hp : p = (List.range s.length).map fun i => (⟨((0 + i : Nat) : Int), 1, false, ⟨0, 0⟩⟩ : Piece)) (hq : q = (List.range s.length).map fun i => (⟨((0 + i : Nat) : Int), 1, true, ⟨1, s.getD i 0⟩⟩ : Piece)) :
    ∀ n i : Nat, i + n = s.length → Ev (fun k => hornbooklaw11_MatchNone.l0 k s true p q (i : Int)) true
  | 0, i, h => by
    refine Ev.step (fun k => rfl) ?_
    simp only [hornbooklaw11_MatchNone.l0]
    simp only [if_neg (show ¬ ((i : Int) < (s.length : Int)) by omega)]
    exact Ev.now _
  | n + 1, i, h => by
    have hi : i < s.length := by omega
    have lp : p.length = s.length := by rw [hp]; simp
    have lq : q.length = s.length := by rw [hq]; simp
    have gp : rd_T30 p (i : Int) = ⟨(i : Int), 1, false, ⟨0, 0⟩⟩ := by
      rw [rdP_nat (by omega)]
      simp [hp]
    have gq : rd_T30 q (i : Int) = ⟨(i : Int), 1, true, ⟨1, s[i]⟩⟩ := by
      rw [rdP_nat (by omega)]
      simp [hq, List.getD, hi]
    have hx := hb.get hi
    refine Ev.step (fun k => rfl) ?_
    simp only [hornbooklaw11_MatchNone.l0]
    simp only [if_pos (show (i : Int) < (s.length : Int) by omega), if_pos (show (0 : Int) ≤ (i : Int) by omega), if_pos (show (i : Int) < (p.length : Int) by omega), if_pos (show (i : Int) < (q.length : Int) by omega)]
    rw [gp, gq, rd_nat hi, w64 (n := s[i]) (by omega) (by omega), w64n (by omega)]
    simp only [beq_self_eq_true, Bool.not_true, Bool.or_self, if_neg (show ¬ (false = true) by decide)]
    exact none_l0 s hb hs p q hp hq n (i + 1) (by omega)
theorem MatchNone : hornbooklaw11_MatchNone.Pure := by
  rintro s ⟨hm, hw⟩
  have hb : Bytes s := fun x hx => byte_wf (hw x hx)
  refine Ev.rounds (g := fun k => hornbooklaw11_MatchNone.f k s) ?_
  unfold hornbooklaw11_MatchNone.f
  refine Ev.bind awake ?_
  by_cases hl : (s.length : Int) > 300
  · simp only [if_pos hl]
    exact Ev.now _
  · simp only [if_neg hl]
    refine Ev.bind (match_All_is [] (by simp) s hb (by omega)) ?_
    refine Ev.bind (match_All_is [⟨1, 0, 255⟩] (by simp) s hb (by omega)) ?_
    have e1 : allB [] s = _ := all_nil s.length 0 s rfl
    have e2 : allB [⟨1, 0, 255⟩] s = _ := all_all s.length 0 s rfl hb
    rw [e1, e2]
    simp only [List.length_map, List.length_range, if_true]
    refine Ev.step (fun k => rfl) ?_
    simp only [hornbooklaw11_MatchNone.j0, bne_self_eq_false, if_neg (show ¬ (false = true) by decide)]
    exact none_l0 s hb (by omega) _ _ rfl rfl s.length 0 (by omega)
end Go.Proofs.Ytippodpmggcniaa.Pure
