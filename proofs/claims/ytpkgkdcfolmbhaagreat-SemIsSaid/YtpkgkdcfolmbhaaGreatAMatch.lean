/- Layer 11: a text of bytes, cut into codes. -/
import Derived.Test.YtpkgkdcfolmbhaaGreatAHx
set_option linter.all false
set_option maxRecDepth 100000
namespace Go.Abs.Mt
open Go.RowKit Go.Proofs Go.Abs.Tab Go.Abs.Coll Go.Abs.Hx
theorem getR {l : List Rct} {i : Nat} (h : i < l.length) : l.getD i default = l[i] := by simp [List.getD, h]
def SFull1 : Sp := ⟨Rct × Int × Int, fun _ => True, fun (r, n, v) => [.agg (cR r), .rptr [.int .i64 n, .int .i64 v]], fun (r, n, v) => .st (.sb (inR r n v))⟩
def idx (l : List Rct) (n v : Int) : Int := match l.findIdx? (fun r => inR r n v) with
  | some k => k
  | none => -1
def anyR (l : List Rct) (n v : Int) : Bool := l.any fun r => inR r n v
theorem idx_any (l : List Rct) (n v : Int) : decide (idx l n v ≥ 0) = anyR l n v := by
  unfold idx anyR
  cases hf : l.findIdx? (fun r => inR r n v) with
  | none =>
    rw [List.findIdx?_eq_none_iff] at hf
    symm
    simp only
    rw [decide_eq_false (by omega), List.any_eq_false]
    intro x hx
    rw [hf x hx]
    decide
  | some k =>
    rw [List.findIdx?_eq_some_iff_getElem] at hf
    obtain ⟨h1, h2, _⟩ := hf
    simp only
    rw [decide_eq_true (by omega)]
    symm
    rw [List.any_eq_true]
    exact ⟨_, List.getElem_mem h1, h2⟩
def fullB (l : List Rct) (b : List Int) : Bool := valOk b && anyR l (valN b) (valV b)
def SFull : Sp := ⟨List Rct × List Int, fun (l, b) => l.length < 4611686018427387904 ∧ b.length < 4611686018427387904 ∧ B8 b, fun (l, b) => [aR l, a8 b], fun (l, b) => .st (.sb (fullB l b))⟩
structure Ft where
  b : Int
  n : Int
instance : Inhabited Ft := ⟨⟨0, 0⟩⟩
def cF (x : Ft) : List AV := [.int .i64 x.b, .int .i64 x.n]
theorem cF_emb : Emb cF 2 := fun x => ⟨rfl, ⟨⟨rfl⟩, ⟨rfl⟩, trivial⟩, rfl⟩
abbrev aF (l : List Ft) : AV := aL cF 2 l
def bet (x y : Ft) : Int := orI [cmpI y.b x.b, cmpI x.n y.n]
def SBet : Sp := ⟨Ft × Ft, fun _ => True, fun (x, y) => [.agg (cF x), .agg (cF y)], fun (x, y) => .st (.int .i64 (bet x y))⟩
/-- The first one that none is ahead of. -/
def minTo (l : List Ft) : Nat → Ft
  | 0 => l.getD 0 default
  | k + 1 => if bet (l.getD (k + 1) default) (minTo l k) < 0 then l.getD (k + 1) default else minTo l k
def minF (l : List Ft) : Ft := minTo l (l.length - 1)
def best (l : List Ft) : Ft := if l.length = 0 then ⟨0, 1⟩ else minF l
def SBest : Sp := ⟨List Ft, fun l => l.length < 4611686018427387904, fun l => [aF l], fun l => .st (.agg (cF (best l)))⟩
def fitsL (l : List Rct) (b : List Int) : List Ft := (l.filter okR).map fun r => ⟨fits r b, r.n⟩
theorem fitsL_next {l : List Rct} {b : List Int} {k : Nat} (hk : k < l.length) : fitsL (l.take (k + 1)) b = if okR (l.getD k default) = true then fitsL (l.take k) b ++ [⟨fits (l.getD k default) b, (l.getD k default).n⟩] else fitsL (l.take k) b := by
  unfold fitsL
  rw [List.take_succ_eq_append_getElem hk, List.filter_append, getR hk, List.map_append]
  cases h : okR l[k]
  · simp [List.filter_cons, h]
  · simp [List.filter_cons, h]
theorem fitsL_len (l : List Rct) (b : List Int) : (fitsL l b).length ≤ l.length := by
  unfold fitsL
  rw [List.length_map]
  exact List.length_filter_le _ _
/-- The shortest code ahead, if there is one. -/
def code (l : List Rct) (b : List Int) : Option Nat := ((List.range (min 4 b.length)).find? fun i => fullB l (b.take (i + 1))).map (· + 1)
def minI (x y : Int) : Int := if y < x then y else x
def nextN (l : List Rct) (b : List Int) : Int := match code l b with
  | some n => n
  | none => minI (best (fitsL l b)).n b.length
def SNext : Sp := ⟨List Rct × List Int, fun (l, b) => l.length < 1000000000 ∧ b.length < 1000000000 ∧ B8 b, fun (l, b) => [aR l, a8 b], fun (l, b) => .st (.tup [.int .i64 (nextN l b), .sb (code l b).isSome])⟩
theorem B8.take {b : List Int} (h : B8 b) (n : Nat) : B8 (b.take n) := fun x hx => h x (List.mem_of_mem_take hx)
theorem B8.drop {b : List Int} (h : B8 b) (n : Nat) : B8 (b.drop n) := fun x hx => h x (List.mem_of_mem_drop hx)
theorem told_take (l : List Rct) (b : List Int) {n m : Nat} {el : Nat → List AV} (hn : n ≤ b.length) (hm : m = n) (hel : ∀ i, el i = els c8 b i) : subs0 [aR l, a8 (b.take n)] [aR l, .sl 1 m el] := by
  refine ⟨⟨⟨rfl⟩, els_of cR_emb (n := 0) (fun _ _ => rfl)⟩, ⟨⟨by rw [List.length_take]; omega⟩, els_of c8_emb (n := 0) (fun i hi => ?_)⟩, trivial⟩
  rw [List.length_take] at hi
  rw [hel]
  show c8 (b.getD i default) = c8 ((b.take n).getD i default)
  simp only [List.getD, List.getElem?_take]
  rw [if_pos (by omega)]
theorem code_some {l : List Rct} {b : List Int} {k : Nat} (hk : k < min 4 b.length) (h : ∀ j, j < k → fullB l (b.take (j + 1)) = false) (hh : fullB l (b.take (k + 1)) = true) : code l b = some (k + 1) := by
  unfold code
  have : (List.range (min 4 b.length)).find? (fun i => fullB l (b.take (i + 1))) = some k := by
    rw [List.find?_range_eq_some]
    exact ⟨hh, List.mem_range.2 hk, fun j hj => by rw [h j hj]; rfl⟩
  rw [this]
  rfl
theorem code_none {l : List Rct} {b : List Int} (h : ∀ j, j < min 4 b.length → fullB l (b.take (j + 1)) = false) : code l b = none := by
  unfold code
  have : (List.range (min 4 b.length)).find? (fun i => fullB l (b.take (i + 1))) = none := by
    rw [List.find?_eq_none]
    intro j hj
    rw [h j (List.mem_range.1 hj)]
    decide
  rw [this]
  rfl
theorem minTo_mem {l : List Ft} (h : 1 ≤ l.length) : ∀ k, k < l.length → minTo l k ∈ l
  | 0, hk => by
    have : l.getD 0 default = l[0] := by simp [List.getD, hk]
    show l.getD 0 default ∈ l
    rw [this]
    exact List.getElem_mem hk
  | k + 1, hk => by
    have e : l.getD (k + 1) default = l[k + 1] := by simp [List.getD, hk]
    unfold minTo
    split
    · rw [e]
      exact List.getElem_mem hk
    · exact minTo_mem h k (by omega)
theorem next_rng {l : List Rct} {b : List Int} (hb : 1 ≤ b.length) : 1 ≤ nextN l b ∧ nextN l b ≤ b.length := by
  unfold nextN
  cases hc : code l b with
  | some n =>
    unfold code at hc
    obtain ⟨k, hk, rfl⟩ := Option.map_eq_some_iff.1 hc
    have := List.mem_range.1 (List.mem_of_find?_eq_some hk)
    show 1 ≤ ((k + 1 : Nat) : Int) ∧ ((k + 1 : Nat) : Int) ≤ b.length
    omega
  | none =>
    have h1 : 1 ≤ (best (fitsL l b)).n := by
      unfold best
      split
      · exact Int.le_refl _
      · rename_i h
        have hm := minTo_mem (l := fitsL l b) (by omega) ((fitsL l b).length - 1) (by omega)
        unfold minF
        unfold fitsL at hm
        obtain ⟨r, hr, he⟩ := List.mem_map.1 hm
        have hr := (List.mem_filter.1 hr).2
        have := ok_len hr
        unfold fitsL
        rw [← he]
        exact this.2.2.1
    show 1 ≤ minI _ _ ∧ minI _ _ ≤ _
    unfold minI
    split <;> omega
/-- A piece. -/
structure Pc where
  at_ : Int
  n : Int
  full : Bool
  cn : Int
  cv : Int
instance : Inhabited Pc := ⟨⟨0, 0, false, 0, 0⟩⟩
def cP (p : Pc) : List AV := [.int .i64 p.at_, .int .i64 p.n, .sb p.full, .int .i64 p.cn, .int .i64 p.cv]
theorem cP_emb : Emb cP 5 := fun x => ⟨rfl, ⟨⟨rfl⟩, ⟨rfl⟩, ⟨rfl⟩, ⟨rfl⟩, ⟨rfl⟩, trivial⟩, rfl⟩
def stepN (l : List Rct) (s : List Int) (a : Nat) : Nat := (nextN l (s.drop a)).toNat
def pcAt (l : List Rct) (s : List Int) (a : Nat) : Pc := if (code l (s.drop a)).isSome = true then ⟨a, nextN l (s.drop a), true, valN ((s.drop a).take (stepN l s a)), valV ((s.drop a).take (stepN l s a))⟩ else ⟨a, nextN l (s.drop a), false, 0, 0⟩
def pcs (l : List Rct) (s : List Int) : Nat → Nat → List Pc
  | 0, _ => []
  | f + 1, a => if a < s.length then pcAt l s a :: pcs l s f (a + stepN l s a) else []
def allAt (l : List Rct) (s : List Int) (a : Nat) : List Pc := pcs l s (s.length - a) a
theorem stepN_rng {l : List Rct} {s : List Int} {a : Nat} (h : a < s.length) : 1 ≤ stepN l s a ∧ a + stepN l s a ≤ s.length ∧ ((stepN l s a : Nat) : Int) = nextN l (s.drop a) := by
  have := next_rng (l := l) (b := s.drop a) (by rw [List.length_drop]; omega)
  rw [List.length_drop] at this
  unfold stepN
  omega
theorem pcs_fuel {l : List Rct} {s : List Int} : ∀ (f g a : Nat), s.length - a ≤ f → s.length - a ≤ g → pcs l s f a = pcs l s g a
  | 0, 0, _, _, _ => rfl
  | 0, g + 1, a, h, _ => by
    unfold pcs
    rw [if_neg (by omega)]
  | f + 1, 0, a, _, h => by
    unfold pcs
    rw [if_neg (by omega)]
  | f + 1, g + 1, a, h1, h2 => by
    unfold pcs
    by_cases h : a < s.length
    · rw [if_pos h, if_pos h]
      have := stepN_rng (l := l) h
      rw [pcs_fuel f g (a + stepN l s a) (by omega) (by omega)]
    · rw [if_neg h, if_neg h]
theorem allAt_step {l : List Rct} {s : List Int} {a : Nat} (h : a < s.length) : allAt l s a = pcAt l s a :: allAt l s (a + stepN l s a) := by
  have hr := stepN_rng (l := l) h
  unfold allAt
  obtain ⟨f, hf⟩ : ∃ f, s.length - a = f + 1 := ⟨s.length - a - 1, by omega⟩
  rw [hf]
  show (if a < s.length then _ else _) = _
  rw [if_pos h]
  congr 1
  exact pcs_fuel _ _ _ (by omega) (by omega)
theorem allAt_end {l : List Rct} {s : List Int} {a : Nat} (h : s.length ≤ a) : allAt l s a = [] := by
  unfold allAt
  rw [show s.length - a = 0 by omega]
  rfl
theorem allAt_len {l : List Rct} {s : List Int} : ∀ (f a : Nat), s.length - a = f → (allAt l s a).length ≤ f := by
  intro f
  induction f using Nat.strongRecOn with
  | ind f ih =>
    intro a h
    by_cases q : a < s.length
    · have hr := stepN_rng (l := l) q
      rw [allAt_step q, List.length_cons]
      have := ih (s.length - (a + stepN l s a)) (by omega) _ rfl
      omega
    · rw [allAt_end (by omega)]
      exact Nat.zero_le _
theorem told_drop (l : List Rct) (b : List Int) {a m : Nat} {el : Nat → List AV} (hm : m = b.length - a) (hel : ∀ i, el i = els c8 b (a + i)) : subs0 [aR l, a8 (b.drop a)] [aR l, .sl 1 m el] := by
  refine ⟨⟨⟨rfl⟩, els_of cR_emb (n := 0) (fun _ _ => rfl)⟩, ⟨⟨by rw [List.length_drop]; omega⟩, els_of c8_emb (n := 0) (fun i hi => ?_)⟩, trivial⟩
  rw [hel]
  show c8 (b.getD (a + i) default) = c8 ((b.drop a).getD i default)
  simp only [List.getD, List.getElem?_drop]
theorem told_cut (b : List Int) {a n m : Nat} {el : Nat → List AV} (hn : a + n ≤ b.length) (hm : m = n) (hel : ∀ i, el i = els c8 b (a + i)) : subs0 [a8 ((b.drop a).take n)] [.sl 1 m el] := by
  refine ⟨⟨⟨by rw [List.length_take, List.length_drop]; omega⟩, els_of c8_emb (n := 0) (fun i hi => ?_)⟩, trivial⟩
  rw [List.length_take] at hi
  rw [hel]
  show c8 (b.getD (a + i) default) = c8 (((b.drop a).take n).getD i default)
  simp only [List.getD, List.getElem?_drop, List.getElem?_take]
  rw [if_pos (by omega)]
end Go.Abs.Mt
