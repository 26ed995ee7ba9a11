/- CollCounts by the engine. -/
import Derived.Test.YtmgjojgfocbjfaaACollBack
import Derived.Test.YtmgjojgfocbjfaaATxt
set_option linter.all false
set_option maxRecDepth 100000
namespace Go.Abs.Coll
open Go.RowKit Go.Proofs Go.Abs.Tab Go.Abs.Dest Go.Abs.Span Go.Abs.Utf Go.Abs.Txt
def txtO : Option (List Int) → ByteArray
  | none => ByteArray.empty
  | some u => encB (decU u)
def SCText : Sp := ⟨Tbl × Int, fun (t, c) => t.bfs.length < 4611686018427387904, fun (t, c) => [.agg (cT t), .int .i64 c], fun (t, c) => .st (.tup [.str (txtO (EB.find t.bfs 2 c)), .sb (EB.find t.bfs 2 c).isSome])⟩
theorem ctext : SpOK Try.prog 14 SCText := fun ⟨t, c⟩ ht => by
  have hC : COK Try.prog (cfg [(9, SUni), (26, SDec), (25, SText)]) := Ty.ty.cfg ⟨uni, dec16, text, trivial⟩
  have ht : t.bfs.length < 4611686018427387904 := ht
  ((refine Fn.ofF hC Try.func14 Try.ntmps14 rfl rfl rfl ?_); (repeat' first | (with_reducible exact trivial) | (with_reducible rfl) | (refine And.intro ?_ ?_) | (refine Need.mk ?_) | exact True.intro | (first | (refine ⟨_, Told.refl _, ?_, ?_⟩) | (refine ⟨⟨_, _⟩, Told.refl _, ?_, ?_⟩) | (refine ⟨⟨_, _, _⟩, Told.refl _, ?_, ?_⟩) | (refine ⟨⟨_, _, _, _⟩, Told.refl _, ?_, ?_⟩) | (refine ⟨⟨_, _, _, _, _⟩, Told.refl _, ?_, ?_⟩) | (refine ⟨(), Told.refl _, ?_, ?_⟩)) | (with_reducible intro _) | (refine fun (_ : Bool) => ?_)))
  · exact ht
  all_goals
    cases hF : EB.find t.bfs 2 c with
    | none =>
      (simp only [hF, Option.isSome_none, Bool.not_false] at *) <;> first
        | rfl
        | (simp at *; done)
    | some a =>
      have hr := find_rng hF
      have hd := decU_len a
      (simp only [hF, Option.isSome_some, Option.getD_some] at *) <;> first
        | rfl
        | (show a.length ≤ 1000000000; omega)
        | (show (decU a).length < 4398046511104; omega)
        | (simp at *; done)
/-! How many codes have units. -/
theorem count_iv (lo hi : Nat) : ∀ n, ((List.range n).countP fun v => decide (lo ≤ v ∧ v ≤ hi)) = min n (hi + 1) - lo
  | 0 => by simp
  | n + 1 => by
    rw [List.range_succ, List.countP_append, count_iv lo hi n, List.countP_singleton]
    by_cases h : lo ≤ n ∧ n ≤ hi
    · rw [decide_eq_true h, if_pos rfl]
      omega
    · rw [decide_eq_false h, if_neg (by decide)]
      omega
theorem count_split (p q : Nat → Bool) (l : List Nat) (h : ∀ v ∈ l, ¬ (p v = true ∧ q v = true)) : (l.countP fun v => p v || q v) = l.countP p + l.countP q := by
  induction l with
  | nil => rfl
  | cons x l ih =>
    have hx := h x List.mem_cons_self
    rw [List.countP_cons, List.countP_cons, List.countP_cons, ih (fun v hv => h v (List.mem_cons_of_mem _ hv))]
    cases hp : p x <;> cases hq : q x <;> simp <;> first | omega | exact (hx ⟨hp, hq⟩).elim
theorem count_off {p q : Nat → Bool} {k : Nat} (hk : q k = true) (h : ∀ v, v ≠ k → q v = p v) : ∀ n, (List.range n).countP q = (List.range n).countP p + cond (decide (k < n) && !p k) 1 0
  | 0 => by simp
  | n + 1 => by
    rw [List.range_succ, List.countP_append, List.countP_append, count_off hk h n, List.countP_singleton, List.countP_singleton]
    by_cases e : n = k
    · subst e
      rw [hk, decide_eq_false (show ¬ n < n by omega), decide_eq_true (show n < n + 1 by omega)]
      cases hp : p n <;> simp
    · rw [h n e]
      by_cases h2 : k < n
      · rw [decide_eq_true h2, decide_eq_true (show k < n + 1 by omega)]
        omega
      · rw [decide_eq_false h2, decide_eq_false (show ¬ k < n + 1 by omega)]
        omega
def has2 (l : List Bf) (v : Nat) : Bool := (EB.get l 2 (v : Int)).isSome
theorem cnt_has : ∀ (l : List Bf), EB.OD l → (∀ x ∈ l, sane x = true) → cnt (two l) = ((List.range 65536).countP (has2 l) : Nat)
  | [], _, _ => by
    have : (has2 []) = fun _ => false := rfl
    rw [this]
    simp [two, cnt]
  | x :: l, ho, hs => by
    have ih := cnt_has l ho.2.2 (fun y hy => hs y (List.mem_cons_of_mem _ hy))
    have r := rngB (hs x List.mem_cons_self)
    have hg : ∀ v : Nat, EB.get (x :: l) 2 (v : Int) = if EB.has x 2 (v : Int) then some (EB.val x (v : Int)) else EB.get l 2 (v : Int) := fun v => rfl
    by_cases h2 : x.n = 2
    · have hsc := ((sane_iff x).1 (hs x List.mem_cons_self)).2.1
      rw [saneC_iff] at hsc
      have e1 : (has2 (x :: l)) = fun v => decide (x.lo.toNat ≤ v ∧ v ≤ x.hi.toNat) || has2 l v := by
        funext v
        unfold has2
        rw [hg]
        by_cases hh : EB.has x 2 (v : Int)
        · rw [if_pos hh]
          obtain ⟨_, q2, q3⟩ := hh
          have q2 : x.lo ≤ (v : Int) := q2
          have q3 : (v : Int) ≤ x.hi := q3
          rw [decide_eq_true (by omega)]
          rfl
        · rw [if_neg hh, decide_eq_false, Bool.false_or]
          intro q
          exact hh ⟨h2, (by show x.lo ≤ (v : Int); omega), (by show (v : Int) ≤ x.hi; omega)⟩
      rw [e1, count_split]
      · rw [count_iv, Int.natCast_add, ← ih]
        have e2 : two (x :: l) = x :: two l := by unfold two; rw [List.filter_cons, if_pos (by simp [h2])]
        rw [e2]
        simp only [cnt]
        omega
      · intro v _ ⟨q1, q2⟩
        have q1 := of_decide_eq_true q1
        unfold has2 at q2
        cases hf : EB.get l 2 (v : Int) with
        | none => rw [hf] at q2; cases q2
        | some w =>
          obtain ⟨y, hy, ⟨k1, k2, k3⟩, _⟩ := Tb.get_mem _ hf
          have hb := ho.2.1 y hy
          have hb : x.n < y.n ∨ (x.n = y.n ∧ x.hi < y.lo) := hb
          have k1 : y.n = 2 := k1
          have k2 : y.lo ≤ (v : Int) := k2
          omega
    · have e1 : (has2 (x :: l)) = has2 l := by
        funext v
        unfold has2
        rw [hg, if_neg]
        intro q
        exact h2 q.1
      have e2 : two (x :: l) = two l := by unfold two; rw [List.filter_cons, if_neg (by simp [h2])]
      rw [e1, e2, ih]
theorem cnt_tab {l : List Bf} (h : EB.Tab l) : cnt (ents l) = ((List.range 65536).countP (has2 l) : Nat) := by
  rw [ents_canon ((EB.canon_iff l).2 h)]
  exact cnt_has l h.2.1 h.1
theorem counts_law {t : List Bf} (ht : EB.canon t = true) {k x : Int} (hk : 0 ≤ k ∧ k < 65536) (hx : 0 ≤ x ∧ x < 65536) :
    EB.find (EB.build (t ++ [⟨2, k, k, [x]⟩])) 2 k = some [x] ∧ cnt (ents (EB.build (t ++ [⟨2, k, k, [x]⟩]))) = cnt (ents t) + if (EB.find t 2 k).isSome = true then 0 else 1 := by
  have htab := (EB.canon_iff t).1 ht
  have hb := EB.build_ok (t ++ [⟨2, k, k, [x]⟩])
  have hs : sane ⟨2, k, k, [x]⟩ = true := by
    rw [sane_iff]
    have hc : saneC 2 k = true := (saneC_iff 2 k).2 (by omega)
    refine ⟨hc, hc, Int.le_refl _, by simp, by simp, fun y hy => ?_, ?_⟩
    · obtain rfl := List.mem_singleton.1 hy
      omega
    · show x ≤ 65535 - (k - k)
      omega
  have hg := EB.get_put htab ⟨2, k, k, [x]⟩
  have hv : EB.val ⟨2, k, k, [x]⟩ k = [x] := by
    show fur [x] (k - k) = [x]
    rw [Int.sub_self, fur_zero]
  have h1 : EB.get (EB.build (t ++ [⟨2, k, k, [x]⟩])) 2 k = some [x] := by
    rw [hg, if_pos ⟨hs, rfl, Int.le_refl _, Int.le_refl _⟩, hv]
  refine ⟨by rw [EB.find_tab hb.1]; exact h1, ?_⟩
  rw [cnt_tab hb.1, cnt_tab htab, EB.find_tab htab]
  have hoff := count_off (p := has2 t) (q := has2 (EB.build (t ++ [⟨2, k, k, [x]⟩]))) (k := k.toNat) (by
      unfold has2
      rw [Int.toNat_of_nonneg hk.1, h1]
      rfl) (fun v hv => by
      unfold has2
      rw [hg, if_neg]
      intro q
      obtain ⟨_, _, q2, q3⟩ := q
      have q2 : k ≤ (v : Int) := q2
      have q3 : (v : Int) ≤ k := q3
      omega) 65536
  rw [hoff]
  have hp : has2 t k.toNat = (EB.get t 2 k).isSome := by
    unfold has2
    rw [Int.toNat_of_nonneg hk.1]
  rw [hp]
  rw [decide_eq_true (show k.toNat < 65536 by omega)]
  cases hf : (EB.get t 2 k).isSome
  · simp
  · simp
def low (c : Int) : Int := IntKind.i64.wrap ((BitVec.ofInt IntKind.i64.bits c &&& BitVec.ofInt IntKind.i64.bits 65535).toNat : Int)
theorem low_rng (c : Int) : 0 ≤ low c ∧ low c < 65536 := by
  have hm : low c = c % 65536 := and_low 16 (by decide) c
  omega
def SCounts : Sp := ⟨Tbl × Int × Int, fun _ => True, fun (t, c, u) => [.agg (cT t), .int .i64 c, .int .i64 u], fun _ => .st (.lit true)⟩
set_option maxHeartbeats 16000000 in
theorem collCounts : SpOK Try.prog 5 SCounts := fun ⟨t, c, u⟩ _ => by
  have hC : COK Try.prog (cfg [(7, SAwakeC), (8, SFewT), (23, SCanon), (24, SBuild), (10, STab), (9, SUni), (14, SCText), (17, SCnt), (26, SDec), (25, SText)]) := Ty.ty.cfg ⟨awake, rfewT, canonB, Dest.build, table, uni, ctext, count, dec16, text, trivial⟩
  have hf : (!fewT t) = false → t.bfs.length ≤ 60 := fun h => ((fewT_iff t).1 (by simpa using h)).2.1
  have hk := low_rng c
  have hx := low_rng u
  ((refine Fn.ofF hC Try.func5 Try.ntmps5 rfl rfl rfl ?_); (repeat' first | (with_reducible exact trivial) | (with_reducible rfl) | (refine And.intro ?_ ?_) | (refine Need.mk ?_) | exact True.intro | (first | (refine ⟨_, Told.refl _, ?_, ?_⟩) | (refine ⟨⟨_, _⟩, Told.refl _, ?_, ?_⟩) | (refine ⟨⟨_, _, _⟩, Told.refl _, ?_, ?_⟩) | (refine ⟨⟨_, _, _, _⟩, Told.refl _, ?_, ?_⟩) | (refine ⟨⟨_, _, _, _, _⟩, Told.refl _, ?_, ?_⟩) | (refine ⟨(), Told.refl _, ?_, ?_⟩)) | (with_reducible intro _) | (refine fun (_ : Bool) => ?_)))
  all_goals have hf := hf ‹_›
  · show t.bfs.length < _
    omega
  · dsimp only
    omega
  · dsimp only
    omega
  have ht : EB.canon t.bfs = true := by simpa using ‹(!EB.canon t.bfs) = false›
  obtain ⟨H1, H2⟩ := counts_law ht hk hx
  have hbl := (EB.build_ok (t.bfs ++ [⟨2, low c, low c, [low u]⟩])).2.1
  rw [List.length_append, List.length_singleton] at hbl
  have e1 : EB.build (t.bfs ++ [⟨2, low c, low c, [low u]⟩]) = (⟨ByteArray.empty, 0, [], [], [], EB.build (t.bfs ++ [⟨2, low c, low c, [low u]⟩])⟩ : Tbl).bfs := rfl
  have hraw : IntKind.i64.wrap ((BitVec.ofInt IntKind.i64.bits c &&& BitVec.ofInt IntKind.i64.bits 65535).toNat : Int) = low c := rfl
  have H3 : EB.find (⟨ByteArray.empty, 0, [], [], [], EB.build (t.bfs ++ [⟨2, low c, low c, [low u]⟩])⟩ : Tbl).bfs 2 (low c) = some [low u] := H1
  have hWb : (⟨ByteArray.empty, 0, [], [], [], EB.build (t.bfs ++ [⟨2, low c, low c, [low u]⟩])⟩ : Tbl).bfs = EB.build (t.bfs ++ [⟨2, low c, low c, [low u]⟩]) := rfl
  have hcr := cnt_rng (l := ents t.bfs) (fun x hx => (ents_sane x hx).1)
  have hel := ents_len t.bfs
  have hcw : IntKind.i64.wrap (cnt (ents t.bfs) + 1) = cnt (ents t.bfs) + 1 := iw (by omega) (by omega)
  (repeat' first | (with_reducible exact trivial) | (with_reducible rfl) | (refine And.intro ?_ ?_) | (refine Need.mk ?_) | exact True.intro | (first | (refine ⟨_, Told.refl _, ?_, ?_⟩) | (refine ⟨⟨_, _⟩, Told.refl _, ?_, ?_⟩) | (refine ⟨⟨_, _, _⟩, Told.refl _, ?_, ?_⟩) | (refine ⟨⟨_, _, _, _⟩, Told.refl _, ?_, ?_⟩) | (refine ⟨⟨_, _, _, _, _⟩, Told.refl _, ?_, ?_⟩) | (refine ⟨(), Told.refl _, ?_, ?_⟩)) | (with_reducible intro _) | (refine fun (_ : Bool) => ?_))
  refine Exists.intro (t.bfs ++ [⟨2, low c, low c, [low u]⟩]) (And.intro (Told.of ?_) (And.intro ?_ ?_))
  · refine ⟨⟨⟨by show 0 + t.bfs.length + 1 = (t.bfs ++ [(⟨2, low c, low c, [low u]⟩ : Bf)]).length; simp⟩, fun i hi => ?_⟩, trivial⟩
    show cond (ones (els cBf (t.bfs ++ [⟨2, low c, low c, [low u]⟩]) i)) (subs0 (els cBf (t.bfs ++ [⟨2, low c, low c, [low u]⟩]) i) (catEl (0 + t.bfs.length) (catEl 0 (elt []) (els cBf t.bfs)) (elt [[.int .i64 2, .int .i64 (low c), .int .i64 (low c), .sl 1 1 (elt [[.int .i64 (low u)]])]]) i)) False
    have hi : i < (t.bfs ++ [(⟨2, low c, low c, [low u]⟩ : Bf)]).length := hi
    rw [List.length_append, List.length_singleton] at hi
    rw [Nat.zero_add]
    unfold catEl
    rcases Nat.lt_or_ge i t.bfs.length with q | q
    · have e2 : els cBf (t.bfs ++ [⟨2, low c, low c, [low u]⟩]) i = cBf (t.bfs.getD i default) := by simp [els, List.getD, List.getElem?_append_left q]
      rw [e2, show Nat.blt i t.bfs.length = true from Nat.ble_eq_true_of_le q]
      exact (cBf_emb (t.bfs.getD i default)).2.1
    · obtain rfl : i = t.bfs.length := by omega
      have e2 : els cBf (t.bfs ++ [⟨2, low c, low c, [low u]⟩]) t.bfs.length = cBf ⟨2, low c, low c, [low u]⟩ := by simp [els, List.getD]
      have e3 : Nat.blt t.bfs.length t.bfs.length = false := by
        cases hb : Nat.blt t.bfs.length t.bfs.length with
        | false => rfl
        | true => exact absurd (Nat.le_of_ble_eq_true hb) (Nat.lt_irrefl _)
      rw [e2, e3, Nat.sub_self]
      exact ⟨⟨rfl⟩, ⟨rfl⟩, ⟨rfl⟩, (lit_sub ci_emb [low u]).1, trivial⟩
  · show (t.bfs ++ [(⟨2, low c, low c, [low u]⟩ : Bf)]).length ≤ 100000000
    rw [List.length_append, List.length_singleton]
    omega
  (repeat' first | (with_reducible exact trivial) | (with_reducible rfl) | (refine And.intro ?_ ?_) | (refine Need.mk ?_) | exact True.intro | (first | (refine ⟨_, Told.refl _, ?_, ?_⟩) | (refine ⟨⟨_, _⟩, Told.refl _, ?_, ?_⟩) | (refine ⟨⟨_, _, _⟩, Told.refl _, ?_, ?_⟩) | (refine ⟨⟨_, _, _, _⟩, Told.refl _, ?_, ?_⟩) | (refine ⟨⟨_, _, _, _, _⟩, Told.refl _, ?_, ?_⟩) | (refine ⟨(), Told.refl _, ?_, ?_⟩)) | (with_reducible intro _) | (refine fun (_ : Bool) => ?_))
  · show t.bfs.length < 4611686018427387904
    omega
  refine Exists.intro (⟨ByteArray.empty, 0, [], [], [], EB.build (t.bfs ++ [⟨2, low c, low c, [low u]⟩])⟩, low c) (And.intro (Told.of ?_) (And.intro ?_ ?_))
  · exact ⟨⟨⟨rfl⟩, ⟨rfl⟩, ⟨rfl⟩, ⟨rfl⟩, ⟨rfl⟩, ⟨⟨rfl⟩, els_of cBf_emb (n := 0) (fun _ _ => rfl)⟩, trivial⟩, ⟨rfl⟩, trivial⟩
  · show (EB.build _).length < 4611686018427387904
    omega
  (repeat' first | (with_reducible exact trivial) | (with_reducible rfl) | (refine And.intro ?_ ?_) | (refine Need.mk ?_) | exact True.intro | (first | (refine ⟨_, Told.refl _, ?_, ?_⟩) | (refine ⟨⟨_, _⟩, Told.refl _, ?_, ?_⟩) | (refine ⟨⟨_, _, _⟩, Told.refl _, ?_, ?_⟩) | (refine ⟨⟨_, _, _, _⟩, Told.refl _, ?_, ?_⟩) | (refine ⟨⟨_, _, _, _, _⟩, Told.refl _, ?_, ?_⟩) | (refine ⟨(), Told.refl _, ?_, ?_⟩)) | (with_reducible intro _) | (refine fun (_ : Bool) => ?_))
  · show t.bfs.length ≤ 1000000
    omega
  refine Exists.intro ⟨ByteArray.empty, 0, [], [], [], EB.build (t.bfs ++ [⟨2, low c, low c, [low u]⟩])⟩ (And.intro (Told.of ?_) (And.intro ?_ ?_))
  · exact ⟨⟨⟨rfl⟩, ⟨rfl⟩, ⟨rfl⟩, ⟨rfl⟩, ⟨rfl⟩, ⟨⟨rfl⟩, els_of cBf_emb (n := 0) (fun _ _ => rfl)⟩, trivial⟩, trivial⟩
  · show (EB.build _).length ≤ 1000000
    omega
  (repeat' first | (with_reducible exact trivial) | (with_reducible rfl) | (refine And.intro ?_ ?_) | (refine Need.mk ?_) | exact True.intro | (first | (refine ⟨_, Told.refl _, ?_, ?_⟩) | (refine ⟨⟨_, _⟩, Told.refl _, ?_, ?_⟩) | (refine ⟨⟨_, _, _⟩, Told.refl _, ?_, ?_⟩) | (refine ⟨⟨_, _, _, _⟩, Told.refl _, ?_, ?_⟩) | (refine ⟨⟨_, _, _, _, _⟩, Told.refl _, ?_, ?_⟩) | (refine ⟨(), Told.refl _, ?_, ?_⟩)) | (with_reducible intro _) | (refine fun (_ : Bool) => ?_))
  · refine Exists.intro [low u] (And.intro (Told.of (lit_sub ci_emb [low u])) (And.intro ?_ ?_))
    · show 1 ≤ 1000000000
      omega
    (repeat' first | (with_reducible exact trivial) | (with_reducible rfl) | (refine And.intro ?_ ?_) | (refine Need.mk ?_) | exact True.intro | (first | (refine ⟨_, Told.refl _, ?_, ?_⟩) | (refine ⟨⟨_, _⟩, Told.refl _, ?_, ?_⟩) | (refine ⟨⟨_, _, _⟩, Told.refl _, ?_, ?_⟩) | (refine ⟨⟨_, _, _, _⟩, Told.refl _, ?_, ?_⟩) | (refine ⟨⟨_, _, _, _, _⟩, Told.refl _, ?_, ?_⟩) | (refine ⟨(), Told.refl _, ?_, ?_⟩)) | (with_reducible intro _) | (refine fun (_ : Bool) => ?_))
    · show (decU [low u]).length < 4398046511104
      show 1 < 4398046511104
      omega
    all_goals
      simp only [hraw, H3, hWb, Option.isSome_some, txtO] at *
      (cases hF : (EB.find t.bfs 2 (low c)).isSome) <;> (simp only [hF, if_true, Bool.false_eq_true, if_false] at *) <;> first
        | (rw [hcw, H2, beq_iff_eq]; done)
        | (exfalso; simp at *; done)
        | (exfalso; simp [H2] at *; done)
        | (exfalso; rw [H2] at *; simp at *; done)
  all_goals
    simp only [hraw, H3, hWb, Option.isSome_some, txtO] at *
    first
      | (exfalso; simp at *; done)
end Go.Abs.Coll
