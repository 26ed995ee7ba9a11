/- CollCounts by the engine. -/
import Derived.Test.YtmgjojgfocbjfaaDoorACollBack
import Derived.Test.YtmgjojgfocbjfaaDoorATxt
set_option linter.all false
set_option maxRecDepth 100000
namespace Go.Abs.Coll
open Go.RowKit Go.Proofs Go.Abs.Tab Go.Abs.Dest Go.Abs.Span Go.Abs.Utf Go.Abs.Txt
def txtO : Option (List Int) → ByteArray
  | none => ByteArray.empty
  | some u => encB (decU u)
def SCText : Sp := ⟨Tbl × Int, fun (t, c) => t.bfs.length < 4611686018427387904, fun (t, c) => [.agg (cT t), .int .i64 c], fun (t, c) => .st (.tup [.str (txtO (EB.find t.bfs 2 c)), .sb (EB.find t.bfs 2 c).isSome])⟩
theorem ctext : SpOK Tryd.prog 8 SCText := fun ⟨t, c⟩ ht => by
  have hC : COK Tryd.prog (cfg [(6, SUni), (10, SDec), (9, SText)]) := Ty.ty.cfg ⟨uni, dec16, text, trivial⟩
  have ht : t.bfs.length < 4611686018427387904 := ht
  ((refine Fn.ofF hC Tryd.func8 Tryd.ntmps8 rfl rfl rfl ?_); (repeat' first | (with_reducible exact trivial) | (with_reducible rfl) | (refine And.intro ?_ ?_) | (refine Need.mk ?_) | exact True.intro | (first | (refine ⟨_, Told.refl _, ?_, ?_⟩) | (refine ⟨⟨_, _⟩, Told.refl _, ?_, ?_⟩) | (refine ⟨⟨_, _, _⟩, Told.refl _, ?_, ?_⟩) | (refine ⟨⟨_, _, _, _⟩, Told.refl _, ?_, ?_⟩) | (refine ⟨⟨_, _, _, _, _⟩, Told.refl _, ?_, ?_⟩) | (refine ⟨(), Told.refl _, ?_, ?_⟩)) | (with_reducible intro _) | (refine fun (_ : Bool) => ?_)))
  · exact ht
  all_goals
    cases hF : EB.find t.bfs 2 c with
    | none =>
      (simp only [hF, Option.isSome_none, Bool.not_false] at *) <;> first
        | rfl
        | (simp at *; done)
    | some a =>
      have hr := find_rng hF
      have hd := decU_len a
      (simp only [hF, Option.isSome_some, Option.getD_some] at *) <;> first
        | rfl
        | (show a.length ≤ 1000000000; omega)
        | (show (decU a).length < 4398046511104; omega)
        | (simp at *; done)
/-! How many codes have units. -/
theorem count_iv (lo hi : Nat) : ∀ n, ((List.range n).countP fun v => decide (lo ≤ v ∧ v ≤ hi)) = min n (hi + 1) - lo
  | 0 => by simp
  | n + 1 => by
    rw [List.range_succ, List.countP_append, count_iv lo hi n, List.countP_singleton]
    by_cases h : lo ≤ n ∧ n ≤ hi
    · rw [decide_eq_true h, if_pos rfl]
      omega
    · rw [decide_eq_false h, if_neg (by decide)]
      omega
theorem count_split (p q : Nat → Bool) (l : List Nat) (h : ∀ v ∈ l, ¬ (p v = true ∧ q v = true)) : (l.countP fun v => p v || q v) = l.countP p + l.countP q := by
  induction l with
  | nil => rfl
  | cons x l ih =>
    have hx := h x List.mem_cons_self
    rw [List.countP_cons, List.countP_cons, List.countP_cons, ih (fun v hv => h v (List.mem_cons_of_mem _ hv))]
    cases hp : p x <;> cases hq : q x <;> simp <;> first | omega | exact (hx ⟨hp, hq⟩).elim
theorem count_off {p q : Nat → Bool} {k : Nat} (hk : q k = true) (h : ∀ v, v ≠ k → q v = p v) : ∀ n, (List.range n).countP q = (List.range n).countP p + cond (decide (k < n) && !p k) 1 0
  | 0 => by simp
  | n + 1 => by
    rw [List.range_succ, List.countP_append, List.countP_append, count_off hk h n, List.countP_singleton, List.countP_singleton]
    by_cases e : n = k
    · subst e
      rw [hk, decide_eq_false (show ¬ n < n by omega), decide_eq_true (show n < n + 1 by omega)]
      cases hp : p n <;> simp
    · rw [h n e]
      by_cases h2 : k < n
      · rw [decide_eq_true h2, decide_eq_true (show k < n + 1 by omega)]
        omega
      · rw [decide_eq_false h2, decide_eq_false (show ¬ k < n + 1 by omega)]
        omega
def has2 (l : List Bf) (v : Nat) : Bool := (EB.get l 2 (v : Int)).isSome
theorem cnt_has : ∀ (l : List Bf), EB.OD l → (∀ x ∈ l, sane x = true) → cnt (two l) = ((List.range 65536).countP (has2 l) : Nat)
  | [], _, _ => by
    have : (has2 []) = fun _ => false := rfl
    rw [this]
    simp [two, cnt]
  | x :: l, ho, hs => by
    have ih := cnt_has l ho.2.2 (fun y hy => hs y (List.mem_cons_of_mem _ hy))
    have r := rngB (hs x List.mem_cons_self)
    have hg : ∀ v : Nat, EB.get (x :: l) 2 (v : Int) = if EB.has x 2 (v : Int) then some (EB.val x (v : Int)) else EB.get l 2 (v : Int) := fun v => rfl
    by_cases h2 : x.n = 2
    · have hsc := ((sane_iff x).1 (hs x List.mem_cons_self)).2.1
      rw [saneC_iff] at hsc
      have e1 : (has2 (x :: l)) = fun v => decide (x.lo.toNat ≤ v ∧ v ≤ x.hi.toNat) || has2 l v := by
        funext v
        unfold has2
        rw [hg]
        by_cases hh : EB.has x 2 (v : Int)
        · rw [if_pos hh]
          obtain ⟨_, q2, q3⟩ := hh
          have q2 : x.lo ≤ (v : Int) := q2
          have q3 : (v : Int) ≤ x.hi := q3
          rw [decide_eq_true (by omega)]
          rfl
        · rw [if_neg hh, decide_eq_false, Bool.false_or]
          intro q
          exact hh ⟨h2, (by show x.lo ≤ (v : Int); omega), (by show (v : Int) ≤ x.hi; omega)⟩
      rw [e1, count_split]
      · rw [count_iv, Int.natCast_add, ← ih]
        have e2 : two (x :: l) = x :: two l := by unfold two; rw [List.filter_cons, if_pos (by simp [h2])]
        rw [e2]
        simp only [cnt]
        omega
      · intro v _ ⟨q1, q2⟩
        have q1 := of_decide_eq_true q1
        unfold has2 at q2
        cases hf : EB.get l 2 (v : Int) with
        | none => rw [hf] at q2; cases q2
        | some w =>
          obtain ⟨y, hy, ⟨k1, k2, k3⟩, _⟩ := Tb.get_mem _ hf
          have hb := ho.2.1 y hy
          have hb : x.n < y.n ∨ (x.n = y.n ∧ x.hi < y.lo) := hb
          have k1 : y.n = 2 := k1
          have k2 : y.lo ≤ (v : Int) := k2
          omega
    · have e1 : (has2 (x :: l)) = has2 l := by
        funext v
        unfold has2
        rw [hg, if_neg]
        intro q
        exact h2 q.1
      have e2 : two (x :: l) = two l := by unfold two; rw [List.filter_cons, if_neg (by simp [h2])]
      rw [e1, e2, ih]
theorem cnt_tab {l : List Bf} (h : EB.Tab l) : cnt (ents l) = ((List.range 65536).countP (has2 l) : Nat) := by
  rw [ents_canon ((EB.canon_iff l).2 h)]
  exact cnt_has l h.2.1 h.1
theorem counts_law {t : List Bf} (ht : EB.canon t = true) {k x : Int} (hk : 0 ≤ k ∧ k < 65536) (hx : 0 ≤ x ∧ x < 65536) :
    EB.find (EB.build (t ++ [⟨2, k, k, [x]⟩])) 2 k = some [x] ∧ cnt (ents (EB.build (t ++ [⟨2, k, k, [x]⟩]))) = cnt (ents t) + if (EB.find t 2 k).isSome = true then 0 else 1 := by
  have htab := (EB.canon_iff t).1 ht
  have hb := EB.build_ok (t ++ [⟨2, k, k, [x]⟩])
  have hs : sane ⟨2, k, k, [x]⟩ = true := by
    rw [sane_iff]
    have hc : saneC 2 k = true := (saneC_iff 2 k).2 (by omega)
    refine ⟨hc, hc, Int.le_refl _, by simp, by simp, fun y hy => ?_, ?_⟩
    · obtain rfl := List.mem_singleton.1 hy
      omega
    · show x ≤ 65535 - (k - k)
      omega
  have hg := EB.get_put htab ⟨2, k, k, [x]⟩
  have hv : EB.val ⟨2, k, k, [x]⟩ k = [x] := by
    show fur [x] (k - k) = [x]
    rw [Int.sub_self, fur_zero]
  have h1 : EB.get (EB.build (t ++ [⟨2, k, k, [x]⟩])) 2 k = some [x] := by
    rw [hg, if_pos ⟨hs, rfl, Int.le_refl _, Int.le_refl _⟩, hv]
  refine ⟨by rw [EB.find_tab hb.1]; exact h1, ?_⟩
  rw [cnt_tab hb.1, cnt_tab htab, EB.find_tab htab]
  have hoff := count_off (p := has2 t) (q := has2 (EB.build (t ++ [⟨2, k, k, [x]⟩]))) (k := k.toNat) (by
      unfold has2
      rw [Int.toNat_of_nonneg hk.1, h1]
      rfl) (fun v hv => by
      unfold has2
      rw [hg, if_neg]
      intro q
      obtain ⟨_, _, q2, q3⟩ := q
      have q2 : k ≤ (v : Int) := q2
      have q3 : (v : Int) ≤ k := q3
      omega) 65536
  rw [hoff]
  have hp : has2 t k.toNat = (EB.get t 2 k).isSome := by
    unfold has2
    rw [Int.toNat_of_nonneg hk.1]
  rw [hp]
  rw [decide_eq_true (show k.toNat < 65536 by omega)]
  cases hf : (EB.get t 2 k).isSome
  · simp
  · simp
def low (c : Int) : Int := IntKind.i64.wrap ((BitVec.ofInt IntKind.i64.bits c &&& BitVec.ofInt IntKind.i64.bits 65535).toNat : Int)
theorem low_rng (c : Int) : 0 ≤ low c ∧ low c < 65536 := by
  have hm : low c = c % 65536 := and_low 16 (by decide) c
  omega
def SCounts : Sp := ⟨Tbl × Int × Int, fun _ => True, fun (t, c, u) => [.agg (cT t), .int .i64 c, .int .i64 u], fun _ => .st (.lit true)⟩
end Go.Abs.Coll
