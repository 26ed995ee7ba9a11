/- span.over as a contract of the engine; span.joined, span.Build. -/
import Derived.Test.YtpkgkdcfolmbhaaGreatASpanO
set_option linter.all false
set_option maxRecDepth 100000
namespace Go.Abs.Span
open Go.RowKit Go.Proofs Go.Abs.Tab Go.Abs.Rc
theorem left_eq (st : Bool) (s x : Spn) : (ES st).left s x = leftS x s st := by
  show (if x.n ≠ s.n ∨ x.hi < s.lo ∨ x.lo > s.hi then [x] else (if x.lo < s.lo then [(⟨x.n, x.lo, s.lo - 1, x.to + more st 0⟩ : Spn)] else []) ++ (if x.hi > s.hi then [(⟨x.n, s.hi + 1, x.hi, x.to + more st (s.hi + 1 - x.lo)⟩ : Spn)] else [])) = _
  unfold leftS apartS partS
  rw [Int.sub_self]
  by_cases h : x.n ≠ s.n ∨ x.hi < s.lo ∨ x.lo > s.hi
  · have hb : (x.n != s.n || (decide (x.hi < s.lo) || decide (x.lo > s.hi))) = true := by
      simp only [Bool.or_eq_true, bne_iff_ne, decide_eq_true_eq]
      exact h
    rw [if_pos h, if_pos hb]
  · have hb : ¬ (x.n != s.n || (decide (x.hi < s.lo) || decide (x.lo > s.hi))) = true := by
      simp only [Bool.or_eq_true, bne_iff_ne, decide_eq_true_eq]
      exact h
    rw [if_neg h, if_neg hb]
theorem left_eqs (st : Bool) (s : Spn) (t : List Spn) : (t.flatMap fun x => leftS x s st) = t.flatMap ((ES st).left s) := by
  congr 1
  funext x
  exact (left_eq st s x).symm
theorem add_off (ad : Addr) (i j : Nat) : ad.add (i * 4 + (j + 1)) = ⟨(ad.add (i * 4)).block, (ad.add (i * 4)).off + (j + 1), none⟩ := by
  rw [← Go.Abs.add_add]
  unfold Addr.add
  simp
theorem spanCells {w : World} {S : Nat → Prop} (hlt : ∀ b, S b → b < w.heap.size) {l : List Spn} {v : Value} (h : RV0 w S (aS l) v) : ∃ A c, v = .slice A l.length c ∧ l.length ≤ c ∧
    ∀ i, i < l.length → ∃ ad, A = some ad ∧ ad.block < w.heap.size ∧ w.cell? (ad.add (i * 4)) = some (.int .i64 (l.getD i default).n) ∧ w.cell? ⟨(ad.add (i * 4)).block, (ad.add (i * 4)).off + 1, none⟩ = some (.int .i64 (l.getD i default).lo) ∧ w.cell? ⟨(ad.add (i * 4)).block, (ad.add (i * 4)).off + 2, none⟩ = some (.int .i64 (l.getD i default).hi) ∧ w.cell? ⟨(ad.add (i * 4)).block, (ad.add (i * 4)).off + 3, none⟩ = some (.int .i64 (l.getD i default).to) := by
  generalize ha : aS l = a at h
  cases h with
  | sl sz n el A cap g hcap hmax hl hm hr =>
    change AV.sl 4 l.length (els cSp l) = _ at ha
    injection ha with h1 h2 h3
    subst h1 h2 h3
    refine ⟨A, cap, rfl, hcap, fun i hi => ?_⟩
    obtain ⟨ad, e1, e2, _⟩ := hm i 0 hi (by omega)
    have hc : ∀ j, j < 4 → w.cell? (ad.add (i * 4 + j)) = some (g i j) := fun j hj => by
      obtain ⟨ad', q1, _, q3⟩ := hm i j hi hj
      rw [e1] at q1
      cases q1
      exact q3
    have r0 := hr i 0 _ hi rfl
    have r1 := hr i 1 _ hi rfl
    have r2 := hr i 2 _ hi rfl
    have r3 := hr i 3 _ hi rfl
    have c0 := hc 0 (by decide)
    have c1 := hc 1 (by decide)
    have c2 := hc 2 (by decide)
    have c3 := hc 3 (by decide)
    rw [Nat.add_zero] at c0
    rw [add_off ad i 0] at c1
    rw [add_off ad i 1] at c2
    rw [add_off ad i 2] at c3
    clear hm hc hr
    generalize g i 0 = y0 at r0 c0
    generalize g i 1 = y1 at r1 c1
    generalize g i 2 = y2 at r2 c2
    generalize g i 3 = y3 at r3 c3
    cases r0
    cases r1
    cases r2
    cases r3
    exact ⟨ad, e1, hlt _ e2, c0, c1, c2, c3⟩
  | _ => exact absurd ha (by intro h; cases h)
theorem small_of {st : Bool} {x : Spn} (h : saneS st x = true) : smallS x := by
  have r := rngS h
  obtain ⟨r1, r2, r3⟩ := r
  have hm : -4294967296 ≤ more st (x.hi - x.lo) ∧ more st (x.hi - x.lo) ≤ 4294967296 := by cases st <;> simp only [more, cond_true, cond_false] <;> omega
  unfold smallS
  omega
def SOverS : Sp := ⟨List Spn × Spn × Bool, fun (t, s, st) => (ES st).OD t ∧ (∀ x ∈ t, saneS st x = true) ∧ saneS st s = true ∧ t.length ≤ 1000000000, fun (t, s, st) => [aS t, .agg (cSp s), .lit st], fun (t, s, st) => .row 83 4 ((ES st).over t s).length (els cSp ((ES st).over t s))⟩
theorem overS : SpOK Tryz.prog 108 SOverS := fun ⟨t, s, st⟩ ⟨ho, hg, hs, hl⟩ => by
  refine ⟨⟨_, Tryz.func108, rfl, rfl⟩, fun w S vs hlt hv => ?_⟩
  obtain ⟨hlen, hv⟩ := hv
  match vs, hlen with
  | [v0, v1, v2], _ =>
    have r0 := hv 0 _ v0 rfl rfl
    have r1 := hv 1 _ v1 rfl rfl
    have r2 := hv 2 _ v2 rfl rfl
    obtain ⟨A, c, rfl, hc, hcells⟩ := spanCells hlt r0
    obtain rfl : v2 = .bool st := by cases r2; rfl
    obtain ⟨us, rfl, hul, huv⟩ := rv_agg (.st _ _ r1 : RV w S [] _ _)
    match us, hul with
    | [a0, a1, a2, a3], _ =>
      obtain rfl := rv_int (huv 0 _ _ rfl rfl)
      obtain rfl := rv_int (huv 1 _ _ rfl rfl)
      obtain rfl := rv_int (huv 2 _ _ rfl rfl)
      obtain rfl := rv_int (huv 3 _ _ rfl rfl)
      have rs := rngS hs
      have hod := (ES st).left_OD ho (s := s) rs.2.1.2.1
      have hll : (t.flatMap ((ES st).left s)).length ≤ 2 * t.length := by
        rw [← left_eqs]
        exact gathered_len s st t
      have htu := place_turns hod s (by omega)
      rw [← left_eqs] at htu
      refine (overW A c t s.n s.lo s.hi s.to st w hcells hc _ htu (by omega) (small_of hs) (fun x hx => small_of (hg x hx))).mono ?_
      rintro e w' ⟨v, rfl, hR, hb⟩
      refine ⟨v, S, rfl, ?_, fun b hb => hb, fun b hb2 => ⟨Nat.lt_of_lt_of_le (hlt b hb2) hb.size, .inl hb2⟩, hb⟩
      rw [left_eqs] at hR
      exact SR_ent hR (fun b hb2 hS => by
        obtain ⟨_, inner, h1, _⟩ := hR
        have := (h1.lt b hb2).1
        have := hlt b hS
        omega)
abbrev JS (st : Bool) (t : List Spn) (j : Nat) : List Spn := (ES st).joined (joinsS st) (t.take j)
theorem JS_sane {st : Bool} {t : List Spn} (ho : (ES st).OD t) (hg : ∀ x ∈ t, saneS st x = true) (j : Nat) : ∀ x ∈ JS st t j, saneS st x = true := by
  have ho2 : (ES st).OD (t.take j) := by
    have := ho
    rw [← List.take_append_drop j t] at this
    exact (Tb.OD_append (ES st).toTb).1 this |>.1
  exact (Tb.joined_ok (ES st).toTb (ES st).jb (fun x => (ES st).sane x = true) (ES st).ext (fun p s hp hs => (ES st).jb_iff p s hp hs) ho2 (fun x hx => hg x (List.mem_of_mem_take hx))).2.2.2.1
theorem JS_len (st : Bool) (t : List Spn) (j : Nat) : (JS st t j).length ≤ t.length := by
  have := Tb.joined_len (ES st).toTb (joinsS st) (t.take j)
  rw [List.length_take] at this
  unfold JS
  omega
theorem JS_next {st : Bool} {t : List Spn} {j : Nat} (hj : j < t.length) : (JS st t j = [] ∧ JS st t (j + 1) = [t.getD j default]) ∨ ∃ init q, JS st t j = init ++ [q] ∧ JS st t (j + 1) = if joinsS st q (t.getD j default) = true then init ++ [⟨q.n, q.lo, (t.getD j default).hi, q.to⟩] else init ++ [q] ++ [t.getD j default] := by
  unfold JS
  rw [List.take_succ_eq_append_getElem hj, getB hj]
  exact Tb.joined_snoc (ES st).toTb (joinsS st) t[j] (t.take j)
end Go.Abs.Span
