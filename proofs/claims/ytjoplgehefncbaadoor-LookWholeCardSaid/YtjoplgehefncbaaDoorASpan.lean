/- Spans: plain law, and the small functions. -/
import Derived.Test.YtjoplgehefncbaaDoorAbsCodes
set_option linter.all false
set_option maxRecDepth 100000
namespace Go.Abs.Span
open Go.RowKit Go.Proofs Go.Abs.Tab
structure Spn where
  n : Int
  lo : Int
  hi : Int
  to : Int
instance : Inhabited Spn := ⟨⟨0, 0, 0, 0⟩⟩
theorem Spn.ext' {x y : Spn} (h1 : x.n = y.n) (h2 : x.lo = y.lo) (h3 : x.hi = y.hi) (h4 : x.to = y.to) : x = y := by
  cases x; cases y; simp_all
/-- What a span adds behind so many codes. -/
def more (step : Bool) (d : Int) : Int := cond step d 0
def saneS (step : Bool) (s : Spn) : Bool := saneC s.n s.lo && saneC s.n s.hi && decide (s.lo ≤ s.hi ∧ 0 ≤ s.to ∧ s.to ≤ 65535 - more step (s.hi - s.lo))
theorem saneS_iff (step : Bool) (s : Spn) : saneS step s = true ↔ (saneC s.n s.lo = true ∧ saneC s.n s.hi = true ∧ s.lo ≤ s.hi ∧ 0 ≤ s.to ∧ s.to ≤ 65535 - more step (s.hi - s.lo)) := by
  unfold saneS
  rw [Bool.and_eq_true, Bool.and_eq_true, decide_eq_true_eq, and_assoc]
def joinsS (step : Bool) (a b : Spn) : Bool := decide (a.n = b.n ∧ a.hi + 1 = b.lo ∧ a.to + more step (b.lo - a.lo) = b.to)
def ES (step : Bool) : En Spn Int where
  n := Spn.n
  lo := Spn.lo
  hi := Spn.hi
  v := Spn.to
  make := Spn.mk
  sh := fun w d => w + more step d
  n_mk := fun _ _ _ _ => rfl
  lo_mk := fun _ _ _ _ => rfl
  hi_mk := fun _ _ _ _ => rfl
  v_mk := fun _ _ _ _ => rfl
  eta := fun _ => rfl
  sh_zero := fun w => by cases step <;> simp [more]
  sh_add := fun w a b _ _ => by cases step <;> simp [more] <;> omega
  sane := saneS step
  jb := joinsS step
  num := fun x h => by
    obtain ⟨k1, k2, k3, _⟩ := (saneS_iff step x).1 h
    exact ⟨k1, k2, k3⟩
  part := fun x a b h h1 h2 h3 => by
    have h1 : x.lo ≤ a := h1
    have h3 : b ≤ x.hi := h3
    obtain ⟨k1, k2, k3, k4, k5⟩ := (saneS_iff step x).1 h
    rw [saneC_iff] at k1 k2
    refine (saneS_iff step _).2 ⟨?_, ?_, h2, ?_, ?_⟩
    · rw [saneC_iff]; dsimp only; omega
    · rw [saneC_iff]; dsimp only; omega
    · show 0 ≤ x.to + more step (a - x.lo)
      cases step <;> simp only [more, cond_true, cond_false] at * <;> omega
    · show x.to + more step (a - x.lo) ≤ 65535 - more step (b - a)
      cases step <;> simp only [more, cond_true, cond_false] at * <;> omega
  jb_iff := fun p s _ _ => by
    unfold joinsS Tb.jn
    rw [decide_eq_true_eq]
    exact ⟨fun ⟨a, b, c⟩ => ⟨a, b.symm, c.symm⟩, fun ⟨a, b, c⟩ => ⟨a, b.symm, c.symm⟩⟩
  ext := fun p s hp hs h => by
    obtain ⟨h1, h2, h3⟩ := h
    have e1 : p.n = s.n := h1
    have e2 : s.lo = p.hi + 1 := h2
    have e3 : s.to = p.to + more step (s.lo - p.lo) := h3
    obtain ⟨k1, k2, k3, k4, k5⟩ := (saneS_iff step p).1 hp
    obtain ⟨m1, m2, m3, m4, m5⟩ := (saneS_iff step s).1 hs
    refine (saneS_iff step _).2 ⟨k1, ?_, ?_, k4, ?_⟩
    · show saneC p.n s.hi = true
      rw [e1]
      exact m2
    · show p.lo ≤ s.hi
      omega
    · show p.to ≤ 65535 - more step (s.hi - p.lo)
      cases step <;> simp only [more, cond_true, cond_false] at * <;> omega
theorem rngS {step : Bool} {s : Spn} (h : saneS step s = true) : (1 ≤ s.n ∧ s.n ≤ 4) ∧ (0 ≤ s.lo ∧ s.lo ≤ s.hi ∧ s.hi < 4294967296) ∧ (0 ≤ s.to ∧ s.to ≤ 65535 - more step (s.hi - s.lo)) := by
  obtain ⟨k1, k2, k3, k4, k5⟩ := (saneS_iff step s).1 h
  have := (ES step).rng (x := s) h
  have h1 : 1 ≤ s.n ∧ s.n ≤ 4 := this.1
  have h2 : 0 ≤ s.lo ∧ s.lo ≤ s.hi ∧ s.hi < 4294967296 := this.2
  exact ⟨h1, h2, k4, k5⟩
/-- How one stands to another. -/
def ordS (a b : Spn) : Int := if a.n < b.n then -1 else if a.n > b.n then 1 else if a.lo < b.lo then -1 else if a.lo > b.lo then 1 else 0
theorem ord_neg (step : Bool) (y t : Spn) : ordS y t < 0 ↔ (ES step).ahead y t.n t.lo := by
  unfold ordS Tb.ahead
  show _ ↔ (y.n < t.n ∨ (y.n = t.n ∧ y.lo < t.lo))
  repeat' split
  all_goals omega
theorem ord_zero (y t : Spn) : ordS y t = 0 ↔ (y.n = t.n ∧ y.lo = t.lo) := by
  unfold ordS
  repeat' split
  all_goals omega
def cSp (s : Spn) : List AV := [.int .i64 s.n, .int .i64 s.lo, .int .i64 s.hi, .int .i64 s.to]
theorem cSp_emb : Emb cSp 4 := fun x => ⟨rfl, ⟨⟨rfl⟩, ⟨rfl⟩, ⟨rfl⟩, ⟨rfl⟩, trivial⟩, rfl⟩
abbrev aS (l : List Spn) : AV := aL cSp 4 l
def SRise : Sp := ⟨Int × Bool, fun _ => True, fun (d, st) => [.int .i64 d, .lit st], fun (d, st) => .st (.int .i64 (more st d))⟩
theorem rise : SpOK Tryd.prog 66 SRise := fun ⟨d, st⟩ _ => by
  have hC := base
  cases st
  · ((refine Fn.ofF hC Tryd.func66 Tryd.ntmps66 rfl rfl rfl ?_); (repeat' first | (with_reducible exact trivial) | (with_reducible rfl) | (refine And.intro ?_ ?_) | (refine Need.mk ?_) | exact True.intro | (first | (refine ⟨_, Told.refl _, ?_, ?_⟩) | (refine ⟨⟨_, _⟩, Told.refl _, ?_, ?_⟩) | (refine ⟨⟨_, _, _⟩, Told.refl _, ?_, ?_⟩) | (refine ⟨⟨_, _, _, _⟩, Told.refl _, ?_, ?_⟩) | (refine ⟨⟨_, _, _, _, _⟩, Told.refl _, ?_, ?_⟩) | (refine ⟨(), Told.refl _, ?_, ?_⟩)) | (with_reducible intro _) | (refine fun (_ : Bool) => ?_)))
    all_goals rfl
  · ((refine Fn.ofF hC Tryd.func66 Tryd.ntmps66 rfl rfl rfl ?_); (repeat' first | (with_reducible exact trivial) | (with_reducible rfl) | (refine And.intro ?_ ?_) | (refine Need.mk ?_) | exact True.intro | (first | (refine ⟨_, Told.refl _, ?_, ?_⟩) | (refine ⟨⟨_, _⟩, Told.refl _, ?_, ?_⟩) | (refine ⟨⟨_, _, _⟩, Told.refl _, ?_, ?_⟩) | (refine ⟨⟨_, _, _, _⟩, Told.refl _, ?_, ?_⟩) | (refine ⟨⟨_, _, _, _, _⟩, Told.refl _, ?_, ?_⟩) | (refine ⟨(), Told.refl _, ?_, ?_⟩)) | (with_reducible intro _) | (refine fun (_ : Bool) => ?_)))
    all_goals rfl
theorem saneS_no {step : Bool} {s : Spn} (h : ¬ saneS step s = true) : false = saneS step s := by
  cases hs : saneS step s with
  | false => rfl
  | true => exact absurd hs h
def SSaneS : Sp := ⟨Spn × Bool, fun _ => True, fun (s, st) => [.agg (cSp s), .lit st], fun (s, st) => .st (.sb (saneS st s))⟩
theorem sane : SpOK Tryd.prog 64 SSaneS := fun ⟨s, st⟩ _ => by
  have hC : COK Tryd.prog (cfg [(59, SSane), (66, SRise)]) := Ty.ty.cfg ⟨hexSane, rise, trivial⟩
  ((refine Fn.ofF hC Tryd.func64 Tryd.ntmps64 rfl rfl rfl ?_); (repeat' first | (with_reducible exact trivial) | (with_reducible rfl) | (refine And.intro ?_ ?_) | (refine Need.mk ?_) | exact True.intro | (first | (refine ⟨_, Told.refl _, ?_, ?_⟩) | (refine ⟨⟨_, _⟩, Told.refl _, ?_, ?_⟩) | (refine ⟨⟨_, _, _⟩, Told.refl _, ?_, ?_⟩) | (refine ⟨⟨_, _, _, _⟩, Told.refl _, ?_, ?_⟩) | (refine ⟨⟨_, _, _, _, _⟩, Told.refl _, ?_, ?_⟩) | (refine ⟨(), Told.refl _, ?_, ?_⟩)) | (with_reducible intro _) | (refine fun (_ : Bool) => ?_)))
  · have q1 := ‹saneC s.n s.lo = true›
    have q2 := ‹saneC s.n s.hi = true›
    have q3 := of_decide_eq_true ‹decide (s.lo ≤ s.hi) = true›
    have q4 := of_decide_eq_true ‹decide (s.to ≥ 0) = true›
    have r1 := (saneC_iff _ _).1 q1
    have r2 := (saneC_iff _ _).1 q2
    rw [iw (n := s.hi - s.lo) (by omega) (by omega)]
    have hm : 0 ≤ more st (s.hi - s.lo) ∧ more st (s.hi - s.lo) ≤ s.hi - s.lo := by cases st <;> simp only [more, cond_true, cond_false] <;> omega
    rw [iw (by omega) (by omega), Bool.eq_iff_iff, decide_eq_true_eq, saneS_iff]
    exact ⟨fun h => ⟨q1, q2, q3, q4, h⟩, fun h => h.2.2.2.2⟩
  all_goals
    refine saneS_no fun h => ?_
    obtain ⟨k1, k2, k3, k4, k5⟩ := (saneS_iff st s).1 h
    ((try dsimp only at *); (try simp only [decide_eq_true_eq, decide_eq_false_iff_not, beq_iff_eq, bne_iff_ne, beq_eq_false_iff_ne, bne_eq_false_iff_eq, ne_eq, Decidable.not_not, ge_iff_le, gt_iff_lt, Bool.not_eq_true', Bool.not_eq_false', Int.not_lt, Int.not_le, Nat.not_lt, Nat.not_le] at *))
    first | omega | (simp_all; done)
def SOrdS : Sp := ⟨Spn × Spn, fun _ => True, fun (a, b) => [.agg (cSp a), .agg (cSp b)], fun (a, b) => .st (.int .i64 (ordS a b))⟩
theorem order : SpOK Tryd.prog 53 SOrdS := fun ⟨a, b⟩ _ => by
  have hC : COK Tryd.prog (cfg [(58, SCompare), (57, SOr)]) := Ty.ty.cfg ⟨cmpCompare, cmpOr, trivial⟩
  ((refine Fn.ofF hC Tryd.func53 Tryd.ntmps53 rfl rfl rfl ?_); (repeat' first | (with_reducible exact trivial) | (with_reducible rfl) | (refine And.intro ?_ ?_) | (refine Need.mk ?_) | exact True.intro | (first | (refine ⟨_, Told.refl _, ?_, ?_⟩) | (refine ⟨⟨_, _⟩, Told.refl _, ?_, ?_⟩) | (refine ⟨⟨_, _, _⟩, Told.refl _, ?_, ?_⟩) | (refine ⟨⟨_, _, _, _⟩, Told.refl _, ?_, ?_⟩) | (refine ⟨⟨_, _, _, _, _⟩, Told.refl _, ?_, ?_⟩) | (refine ⟨(), Told.refl _, ?_, ?_⟩)) | (with_reducible intro _) | (refine fun (_ : Bool) => ?_)))
  refine Exists.intro [cmpI a.n b.n, cmpI a.lo b.lo] (And.intro (Told.of (lit_sub ci_emb _)) (And.intro ?_ ?_))
  · exact Nat.lt_of_sub_eq_succ rfl
  · (repeat' first | (with_reducible exact trivial) | (with_reducible rfl) | (refine And.intro ?_ ?_) | (refine Need.mk ?_) | exact True.intro | (first | (refine ⟨_, Told.refl _, ?_, ?_⟩) | (refine ⟨⟨_, _⟩, Told.refl _, ?_, ?_⟩) | (refine ⟨⟨_, _, _⟩, Told.refl _, ?_, ?_⟩) | (refine ⟨⟨_, _, _, _⟩, Told.refl _, ?_, ?_⟩) | (refine ⟨⟨_, _, _, _, _⟩, Told.refl _, ?_, ?_⟩) | (refine ⟨(), Told.refl _, ?_, ?_⟩)) | (with_reducible intro _) | (refine fun (_ : Bool) => ?_))
    unfold ordS cmpI orI
    repeat' split
    all_goals first | rfl | omega | simp_all
def SJoinsS : Sp := ⟨Spn × Spn × Bool, fun (a, b, st) => saneS st a = true ∧ saneS st b = true, fun (a, b, st) => [.agg (cSp a), .agg (cSp b), .lit st], fun (a, b, st) => .st (.sb (joinsS st a b))⟩
theorem joins : SpOK Tryd.prog 65 SJoinsS := fun ⟨a, b, st⟩ ⟨ha, hb⟩ => by
  have hC : COK Tryd.prog (cfg [(66, SRise)]) := Ty.ty.cfg ⟨rise, trivial⟩
  have ra := rngS ha
  have rb := rngS hb
  have e1 := iw (n := a.hi + 1) (by omega) (by omega)
  have e2 := iw (n := b.lo - a.lo) (by omega) (by omega)
  have hm : -4294967296 ≤ more st (b.lo - a.lo) ∧ more st (b.lo - a.lo) ≤ 4294967296 := by cases st <;> simp only [more, cond_true, cond_false] <;> omega
  have hm2 : 0 ≤ more st (a.hi - a.lo) := by cases st <;> simp only [more, cond_true, cond_false] <;> omega
  have e3 := iw (n := a.to + more st (b.lo - a.lo)) (by omega) (by omega)
  ((refine Fn.ofF hC Tryd.func65 Tryd.ntmps65 rfl rfl rfl ?_); (repeat' first | (with_reducible exact trivial) | (with_reducible rfl) | (refine And.intro ?_ ?_) | (refine Need.mk ?_) | exact True.intro | (first | (refine ⟨_, Told.refl _, ?_, ?_⟩) | (refine ⟨⟨_, _⟩, Told.refl _, ?_, ?_⟩) | (refine ⟨⟨_, _, _⟩, Told.refl _, ?_, ?_⟩) | (refine ⟨⟨_, _, _, _⟩, Told.refl _, ?_, ?_⟩) | (refine ⟨⟨_, _, _, _, _⟩, Told.refl _, ?_, ?_⟩) | (refine ⟨(), Told.refl _, ?_, ?_⟩)) | (with_reducible intro _) | (refine fun (_ : Bool) => ?_)))
  all_goals simp only [e1, e2, e3] at *
  all_goals unfold joinsS
  · have q1 : a.n = b.n := by simpa using ‹(a.n == b.n) = true›
    have q2 : a.hi + 1 = b.lo := by simpa using ‹(a.hi + 1 == b.lo) = true›
    rw [Bool.eq_iff_iff, beq_iff_eq, decide_eq_true_eq]
    exact ⟨fun h => ⟨q1, q2, h⟩, fun h => h.2.2⟩
  · symm
    rw [decide_eq_false_iff_not]
    intro h
    have := h.2.1
    simp_all
  · symm
    rw [decide_eq_false_iff_not]
    intro h
    have := h.1
    simp_all
/-- What is found, as it is given. -/
def rI (o : Option Int) : ARes := .st (.tup [.int .i64 (o.getD 0), .sb o.isSome])
def SToS : Sp := ⟨Spn × Int × Int × Bool, fun _ => True, fun (s, n, v, st) => [.agg (cSp s), aCode n v, .lit st], fun (s, n, v, st) => rI ((ES st).to s n v)⟩
theorem to_no {st : Bool} {s : Spn} {n v : Int} (h : ¬ (saneS st s = true ∧ saneC n v = true ∧ n = s.n ∧ s.lo ≤ v ∧ v ≤ s.hi)) : (ES st).to s n v = none := by
  unfold En.to
  refine if_neg fun q => h ⟨q.1, (ES st).has_sane q.1 q.2, q.2.1.symm, q.2.2.1, q.2.2.2⟩
theorem to_yes {st : Bool} {s : Spn} {v : Int} (h : saneS st s = true) (h1 : s.lo ≤ v) (h2 : v ≤ s.hi) : (ES st).to s s.n v = some (s.to + more st (v - s.lo)) := by
  unfold En.to
  exact if_pos ⟨h, rfl, h1, h2⟩
theorem toS : SpOK Tryd.prog 54 SToS := fun ⟨s, n, v, st⟩ _ => by
  have hC : COK Tryd.prog (cfg [(64, SSaneS), (59, SSane), (66, SRise)]) := Ty.ty.cfg ⟨sane, hexSane, rise, trivial⟩
  have no : ¬ (saneS st s = true ∧ saneC n v = true ∧ n = s.n ∧ s.lo ≤ v ∧ v ≤ s.hi) → 0 = ((ES st).to s n v).getD 0 ∧ false = ((ES st).to s n v).isSome := fun h => by
    rw [to_no h]
    exact ⟨rfl, rfl⟩
  ((refine Fn.ofF hC Tryd.func54 Tryd.ntmps54 rfl rfl rfl ?_); (repeat' first | (with_reducible exact trivial) | (with_reducible rfl) | (refine And.intro ?_ ?_) | (refine Need.mk ?_) | exact True.intro | (first | (refine ⟨_, Told.refl _, ?_, ?_⟩) | (refine ⟨⟨_, _⟩, Told.refl _, ?_, ?_⟩) | (refine ⟨⟨_, _, _⟩, Told.refl _, ?_, ?_⟩) | (refine ⟨⟨_, _, _, _⟩, Told.refl _, ?_, ?_⟩) | (refine ⟨⟨_, _, _, _, _⟩, Told.refl _, ?_, ?_⟩) | (refine ⟨(), Told.refl _, ?_, ?_⟩)) | (with_reducible intro _) | (refine fun (_ : Bool) => ?_)))
  all_goals ((try dsimp only at *); (try simp only [decide_eq_true_eq, decide_eq_false_iff_not, beq_iff_eq, bne_iff_ne, beq_eq_false_iff_ne, bne_eq_false_iff_eq, ne_eq, Decidable.not_not, ge_iff_le, gt_iff_lt, Bool.not_eq_true', Bool.not_eq_false', Int.not_lt, Int.not_le, Nat.not_lt, Nat.not_le] at *))
  case refine_2.refine_2.refine_2.refine_2.refine_2.refine_2.refine_2.refine_2.refine_1 =>
    have q1 := ‹saneS st s = true›
    have q3 := ‹n = s.n›
    have q4 := ‹s.lo ≤ v›
    have q5 := ‹v ≤ s.hi›
    have r := rngS q1
    have hm : 0 ≤ more st (v - s.lo) ∧ more st (v - s.lo) ≤ 4294967296 := by cases st <;> simp only [more, cond_true, cond_false] <;> omega
    have hm2 : 0 ≤ more st (s.hi - s.lo) := by cases st <;> simp only [more, cond_true, cond_false] <;> omega
    subst q3
    rw [to_yes q1 q4 q5, iw (n := v - s.lo) (by omega) (by omega), iw (by omega) (by omega)]
    rfl
  case refine_2.refine_2.refine_2.refine_2.refine_2.refine_2.refine_2.refine_2.refine_2.refine_1 =>
    have q1 := ‹saneS st s = true›
    have q3 := ‹n = s.n›
    have q4 := ‹s.lo ≤ v›
    have q5 := ‹v ≤ s.hi›
    subst q3
    rw [to_yes q1 q4 q5]
    rfl
  all_goals
    first | refine (no fun q => ?_).1 | refine (no fun q => ?_).2
    obtain ⟨h1, h2, h3, h4, h5⟩ := q
    first | omega | (simp_all; done)
end Go.Abs.Span
