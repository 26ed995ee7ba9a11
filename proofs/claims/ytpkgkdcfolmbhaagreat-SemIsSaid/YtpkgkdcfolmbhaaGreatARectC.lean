/- rect.Canon, by hand: in place. -/
import Derived.Test.YtpkgkdcfolmbhaaGreatARectO
import Derived.Test.YtpkgkdcfolmbhaaGreatShelf
import Derived.Shelf.SlSortCmp.NoneTotal
import Derived.Shelf.SlicesE.Clone
import Derived.Deep.QuietTactic
import Derived.Sort.BigQuietIn
set_option linter.all false
set_option maxRecDepth 100000
namespace Go.Abs.Rc
open Go.RowKit Go.Proofs Go.Abs.Tab Go.Abs.Coll Go.Abs.Hx Go.Abs.Mt
attribute [local go_sem] Oper.semAt_some
def encR (r : Rct) : List Value := [.int .i64 r.n, .int .i64 r.lo, .int .i64 r.hi]
def cellsR : List Rct → List Value
  | [] => []
  | r :: l => encR r ++ cellsR l
theorem cellsR_len : ∀ l, (cellsR l).length = l.length * 3
  | [] => rfl
  | r :: l => by rw [cellsR, List.length_append, cellsR_len l, List.length_cons]; simp [encR]; omega
theorem cellsR_app : ∀ a b, cellsR (a ++ b) = cellsR a ++ cellsR b
  | [], _ => rfl
  | r :: l, b => by rw [List.cons_append, cellsR, cellsR, cellsR_app l b, List.append_assoc]
theorem cellsR_get : ∀ (l : List Rct) (i : Nat) (h : i < l.length), (cellsR l)[i * 3]? = some (.int .i64 l[i].n) ∧ (cellsR l)[i * 3 + 1]? = some (.int .i64 l[i].lo) ∧ (cellsR l)[i * 3 + 2]? = some (.int .i64 l[i].hi)
  | r :: l, 0, _ => ⟨rfl, rfl, rfl⟩
  | r :: l, i + 1, h => by
    have ih := cellsR_get l i (by simpa using h)
    rw [cellsR, List.getElem_cons_succ]
    refine ⟨?_, ?_, ?_⟩
    · rw [List.getElem?_append_right (by simp [encR]; omega), show (i + 1) * 3 - (encR r).length = i * 3 by simp [encR]; omega]; exact ih.1
    · rw [List.getElem?_append_right (by simp [encR]; omega), show (i + 1) * 3 + 1 - (encR r).length = i * 3 + 1 by simp [encR]; omega]; exact ih.2.1
    · rw [List.getElem?_append_right (by simp [encR]; omega), show (i + 1) * 3 + 2 - (encR r).length = i * 3 + 2 by simp [encR]; omega]; exact ih.2.2
/-- Block g holds the rects l, and behind them what it holds. -/
def RowB (w : World) (g : Nat) (l : List Rct) (rest : List Value) : Prop := w.heap[g]? = some (.cells (cellsR l ++ rest).toArray 64 (0, 0))
theorem RowB.get {w : World} {g : Nat} {l : List Rct} {rest : List Value} (h : RowB w g l rest) (i : Nat) (hi : i < l.length) :
    w.cell? ⟨g, i * 3, none⟩ = some (.int .i64 l[i].n) ∧ w.cell? ⟨g, i * 3 + 1, none⟩ = some (.int .i64 l[i].lo) ∧ w.cell? ⟨g, i * 3 + 2, none⟩ = some (.int .i64 l[i].hi) := by
  obtain ⟨h0, h1, h2⟩ := cellsR_get l i hi
  have hl := cellsR_len l
  refine ⟨?_, ?_, ?_⟩
  · rw [blk_cell h]; simp only [List.getElem?_toArray]; rw [List.getElem?_append_left (by omega)]; exact h0
  · rw [blk_cell h]; simp only [List.getElem?_toArray]; rw [List.getElem?_append_left (by omega)]; exact h1
  · rw [blk_cell h]; simp only [List.getElem?_toArray]; rw [List.getElem?_append_left (by omega)]; exact h2
theorem cellsR_set (r : Rct) : ∀ (l : List Rct) (i : Nat), i < l.length → (((cellsR l).set (i * 3) (.int .i64 r.n)).set (i * 3 + 1) (.int .i64 r.lo)).set (i * 3 + 2) (.int .i64 r.hi) = cellsR (l.set i r)
  | x :: l, 0, _ => rfl
  | x :: l, i + 1, h => by
    have ih := cellsR_set r l i (by simpa using h)
    rw [List.set_cons_succ, cellsR, cellsR, ← ih, show (i + 1) * 3 = i * 3 + 3 by omega]
    rfl
theorem RowB.put {w : World} {g : Nat} {l : List Rct} {rest : List Value} (h : RowB w g l rest) (i : Nat) (hi : i < l.length) (r : Rct) :
    RowB (((w.setCell ⟨g, i * 3, none⟩ (.int .i64 r.n)).setCell ⟨g, i * 3 + 1, none⟩ (.int .i64 r.lo)).setCell ⟨g, i * 3 + 2, none⟩ (.int .i64 r.hi)) g (l.set i r) rest := by
  have hl := cellsR_len l
  have h3 := blk_set (blk_set (blk_set h (i * 3) (.int .i64 r.n)) (i * 3 + 1) (.int .i64 r.lo)) (i * 3 + 2) (.int .i64 r.hi)
  have e : (((cellsR l ++ rest).toArray.setIfInBounds (i * 3) (.int .i64 r.n)).setIfInBounds (i * 3 + 1) (.int .i64 r.lo)).setIfInBounds (i * 3 + 2) (.int .i64 r.hi) = (cellsR (l.set i r) ++ rest).toArray := by
    rw [List.setIfInBounds_toArray, List.setIfInBounds_toArray, List.setIfInBounds_toArray, List.set_append_left _ _ (by omega), List.set_append_left _ _ (by simp; omega), List.set_append_left _ _ (by simp; omega), cellsR_set r l i hi]
  rw [e] at h3
  exact h3
structure KB (g : Nat) (w w' : World) : Prop where
  os : w'.os = w.os
  tape : w'.tape = w.tape
  output : w'.output = w.output
  size : w.heap.size ≤ w'.heap.size
  block : ∀ k, k < w.heap.size → k ≠ g → w'.heap[k]? = w.heap[k]?
theorem KB.refl (g : Nat) (w : World) : KB g w w := ⟨rfl, rfl, rfl, Nat.le_refl _, fun _ _ _ => rfl⟩
theorem KB.trans {g : Nat} {a b c : World} (h : KB g a b) (k : KB g b c) : KB g a c :=
  ⟨k.os.trans h.os, k.tape.trans h.tape, k.output.trans h.output, Nat.le_trans h.size k.size, fun i hi hn => (k.block i (Nat.lt_of_lt_of_le hi h.size) hn).trans (h.block i hi hn)⟩
theorem KB.below {g : Nat} {w w' : World} (h : Below w.heap.size w w') : KB g w w' := ⟨h.os, h.tape, h.output, h.size, fun k hk _ => h.block k hk⟩
theorem KB.step {g : Nat} {a b c : World} (h : KB g a b) (k : Below b.heap.size b c) : KB g a c := h.trans (KB.below k)
theorem KB.alloc {g : Nat} {a b : World} (h : KB g a b) (o : Obj) : KB g a (b.alloc o) := h.step (below_alloc (Below.refl _ _) o)
theorem KB.drew {g : Nat} {a b : World} (h : KB g a b) : KB g a b.drew := ⟨h.os, h.tape, h.output, h.size, h.block⟩
theorem KB.set {g : Nat} {a b : World} (h : KB g a b) (i : Nat) (v : Value) : KB g a (b.setCell ⟨g, i, none⟩ v) :=
  h.trans ⟨rfl, rfl, rfl, by simp [World.setCell], fun k _ hn => Below.heap_setCell b ⟨g, i, none⟩ v k hn⟩
theorem KB.setNew {g : Nat} {a b : World} (h : KB g a b) (p : Addr) (hp : a.heap.size ≤ p.block) (v : Value) : KB g a (b.setCell p v) :=
  ⟨h.os, h.tape, h.output, by simpa [World.setCell] using h.size, fun k hk hn => (Below.heap_setCell b p v k (by omega)).trans (h.block k hk hn)⟩
theorem KB.blk {g : Nat} {a b : World} (h : KB g a b) {k : Nat} {o : Obj} (hk : a.heap[k]? = some o) (hn : k ≠ g) : b.heap[k]? = some o := (h.block k (blk_lt hk) hn).trans hk
theorem KB.cell {g : Nat} {a b : World} (h : KB g a b) {p : Addr} {v : Value} (hv : a.cell? p = some v) (hn : p.block ≠ g) : b.cell? p = some v := by
  have := h.block p.block (World.block_lt_of_cell? a _ hv) hn
  unfold World.cell? at hv ⊢
  rw [this]
  exact hv
theorem KB.row {g k : Nat} {a b : World} (h : KB g a b) {l : List Rct} {rest : List Value} (hk : RowB a k l rest) (hn : k ≠ g) : RowB b k l rest := h.blk hk hn
theorem Below.row {k : Nat} {a b : World} (h : Below a.heap.size a b) {l : List Rct} {rest : List Value} (hk : RowB a k l rest) : RowB b k l rest := blk_below hk h
theorem cellB {w w' : World} (h : Below w.heap.size w w') {p : Addr} (hp : p.block < w.heap.size) : w'.cell? p = w.cell? p := World.cell?_of_block (h.block _ hp)
/-- A row that a block holds, read. -/
theorem RowB.rv {w : World} {g : Nat} {l : List Rct} {rest : List Value} {S : Nat → Prop} (h : RowB w g l rest) (hS : S g) {d : Nat} (hd : l.length ≤ d ∧ d ≤ maxLen) : RV0 w S (aR l) (.slice (some ⟨g, 0, none⟩) l.length d) := by
  have hg : ∀ i j, i < l.length → j < 3 → w.cell? ((⟨g, 0, none⟩ : Addr).add (i * 3 + j)) = (encR (l.getD i default))[j]? := fun i j hi hj => by
    obtain ⟨h0, h1, h2⟩ := h.get i hi
    have e : ((⟨g, 0, none⟩ : Addr).add (i * 3 + j)) = ⟨g, i * 3 + j, none⟩ := by unfold Addr.add; split <;> simp_all
    rw [e, getR hi]
    have hc : j = 0 ∨ j = 1 ∨ j = 2 := by omega
    rcases hc with rfl | rfl | rfl
    · exact h0
    · exact h1
    · exact h2
  refine .sl 3 l.length _ _ d (fun i j => ((encR (l.getD i default))[j]?).getD undef) hd.1 hd.2 (fun i hi => ⟨rfl, rfl⟩) (fun i j hi hj => ⟨_, rfl, hS, ?_⟩) (fun i j a hi h1 => ?_)
  · have hj : j < 3 := hj
    rw [hg i j hi hj]
    have hc : j = 0 ∨ j = 1 ∨ j = 2 := by omega
    rcases hc with rfl | rfl | rfl <;> rfl
  · have hj : j < 3 := (List.getElem?_eq_some_iff.1 h1).1
    have hc : j = 0 ∨ j = 1 ∨ j = 2 := by omega
    rcases hc with rfl | rfl | rfl
    all_goals
      obtain rfl := Option.some.inj h1
      exact .int _ _
theorem boxRv {w : World} {g ga c0 : Nat} {l0 : List Rct} {rest0 : List Value} {S : Nat → Prop} (h0 : RowB w ga l0 rest0) (hc0 : l0.length ≤ c0) (hl0 : l0.length < 4611686018427387904 ∧ c0 ≤ maxLen) (hg : w.cell? ⟨g, 0, none⟩ = some (.slice (some ⟨ga, 0, none⟩) l0.length c0)) (hS : S g) (hSa : S ga) : RV0 w S (.rptr [aR l0]) (.pointer (some ⟨g, 0, none⟩)) := by
  refine .rptr _ _ (fun _ => .slice (some ⟨ga, 0, none⟩) l0.length c0) rfl (fun j hj => ?_) (fun j a h1 => ?_)
  · obtain rfl : j = 0 := by simpa using hj
    exact ⟨hS, hg⟩
  · have hj : j < 1 := (List.getElem?_eq_some_iff.1 h1).1
    obtain rfl : j = 0 := by omega
    obtain rfl := Option.some.inj h1
    exact h0.rv hSa ⟨hc0, hl0.2⟩
theorem clos1 (ga c0 : Nat) (l0 : List Rct) (rest0 : List Value) (g : Nat) (y : Rct) (w : World) (h0 : RowB w ga l0 rest0) (hc0 : l0.length ≤ c0) (hl0 : l0.length < 4611686018427387904 ∧ c0 ≤ maxLen) (hg : w.cell? ⟨g, 0, none⟩ = some (.slice (some ⟨ga, 0, none⟩) l0.length c0)) :
    Calls Tryz.prog 80 #[.agg #[.int .i64 y.n, .int .i64 y.lo, .int .i64 y.hi], .pointer (some ⟨g, 0, none⟩)] w fun e w' => e = .returned (.bool (held l0 y)) ∧ Below w.heap.size w w' := by
  have hlt1 := blk_lt h0
  have hlt2 := World.block_lt_of_cell? w _ hg
  refine ((canon1 (y, l0) hl0.1).2 w (fun k => k = g ∨ k = ga) [.agg #[.int .i64 y.n, .int .i64 y.lo, .int .i64 y.hi], .pointer (some ⟨g, 0, none⟩)] (fun b hb => by rcases hb with rfl | rfl <;> assumption) ⟨rfl, fun i a v q1 q2 => ?_⟩).mono ?_
  · match i, q1, q2 with
    | 0, q1, q2 =>
      obtain rfl := Option.some.inj q1
      obtain rfl := Option.some.inj q2
      refine .agg (cR y) [.int .i64 y.n, .int .i64 y.lo, .int .i64 y.hi] rfl fun j a v p1 p2 => ?_
      have hj : j < 3 := (List.getElem?_eq_some_iff.1 p1).1
      have hc : j = 0 ∨ j = 1 ∨ j = 2 := by omega
      rcases hc with rfl | rfl | rfl
      all_goals
        obtain rfl := Option.some.inj p1
        obtain rfl := Option.some.inj p2
        exact .int _ _
    | 1, q1, q2 =>
      obtain rfl := Option.some.inj q1
      obtain rfl := Option.some.inj q2
      exact boxRv h0 hc0 hl0 hg (.inl rfl) (.inr rfl)
  · rintro e w' ⟨v, S', rfl, hr, _, _, hb⟩
    cases hr
    exact ⟨rfl, hb⟩
theorem idx1 (ga c0 : Nat) (l0 : List Rct) (rest0 : List Value) (g gd d0 : Nat) (l : List Rct) (rest : List Value) (w : World) (h0 : RowB w ga l0 rest0) (hc0 : l0.length ≤ c0) (hl0 : l0.length < 4611686018427387904 ∧ c0 ≤ maxLen) (hg : w.cell? ⟨g, 0, none⟩ = some (.slice (some ⟨ga, 0, none⟩) l0.length c0)) (h1 : RowB w gd l rest) (hd0 : l.length ≤ d0 ∧ d0 ≤ maxLen) (hl : l.length < 4611686018427387904) :
    Calls Tryz.prog 117 #[.slice (some ⟨gd, 0, none⟩) l.length d0, .func (.func 80) #[] #[.pointer (some ⟨g, 0, none⟩)]] w fun e w' => e = .returned (.int .i64 (idxP (held l0) l)) ∧ Below w.heap.size w w' := by
  have hlt1 := blk_lt h0
  have hlt2 := World.block_lt_of_cell? w _ hg
  have hlt3 := blk_lt h1
  refine ((indexC (l, l0) ⟨hl, hl0.1⟩).2 w (fun k => k = gd ∨ k = g ∨ k = ga) [.slice (some ⟨gd, 0, none⟩) l.length d0, .func (.func 80) #[] #[.pointer (some ⟨g, 0, none⟩)]] (fun b hb => by rcases hb with rfl | rfl | rfl <;> assumption) ⟨rfl, fun i a v q1 q2 => ?_⟩).mono ?_
  · match i, q1, q2 with
    | 0, q1, q2 =>
      obtain rfl := Option.some.inj q1
      obtain rfl := Option.some.inj q2
      exact h1.rv (.inl rfl) hd0
    | 1, q1, q2 =>
      obtain rfl := Option.some.inj q1
      obtain rfl := Option.some.inj q2
      refine .fn _ [.rptr [aR l0]] [.pointer (some ⟨g, 0, none⟩)] rfl fun j a v p1 p2 => ?_
      have hj : j < 1 := (List.getElem?_eq_some_iff.1 p1).1
      obtain rfl : j = 0 := by omega
      obtain rfl := Option.some.inj p1
      obtain rfl := Option.some.inj p2
      exact boxRv h0 hc0 hl0 hg (.inr (.inl rfl)) (.inr (.inr rfl))
  · rintro e w' ⟨v, S', rfl, hr, _, _, hb⟩
    cases hr
    exact ⟨rfl, hb⟩
theorem filter_take_succ (p : Rct → Bool) (l : List Rct) (j : Nat) (h : j < l.length) : (l.take (j + 1)).filter p = (l.take j).filter p ++ (if p l[j] = true then [l[j]] else []) := by
  rw [List.take_add_one, List.getElem?_eq_getElem h, List.filter_append]
  congr 1
  show List.filter p [l[j]] = _
  rw [List.filter_cons, List.filter_nil]
theorem RowB.facts {w : World} {g : Nat} {l : List Rct} {rest : List Value} (h : RowB w g l rest) (i : Nat) (hi : i < l.length) :
    (∃ a, w.cell? ⟨g, i * 3, none⟩ = some a) ∧ (∃ a, w.cell? ⟨g, i * 3 + 1, none⟩ = some a) ∧ (∃ a, w.cell? ⟨g, i * 3 + 2, none⟩ = some a) ∧ w.frozen? ⟨g, i * 3, none⟩ = false ∧ w.frozen? ⟨g, i * 3 + 1, none⟩ = false ∧ w.frozen? ⟨g, i * 3 + 2, none⟩ = false :=
  ⟨⟨_, (h.get i hi).1⟩, ⟨_, (h.get i hi).2.1⟩, ⟨_, (h.get i hi).2.2⟩, blk_frozen h _, blk_frozen h _, blk_frozen h _⟩
theorem KB.setRow {g : Nat} {a b : World} (h : KB g a b) (c : Array Value) : KB g a (b.setRow g c) :=
  h.trans ⟨rfl, rfl, rfl, by simp [World.setRow], fun k _ hn => by
    simp only [World.setRow, Array.getElem?_modify]
    rw [if_neg (fun e => hn e.symm)]⟩
theorem RowB.clear {w : World} {g : Nat} {L : List Rct} {rest : List Value} (h : RowB w g L rest) (i : Nat) (hi : i < L.length) (d : Nat) :
    ∃ w' rest', (Builtin.clear_ #[22] 0 #[.slice (some ⟨g, i * 3, none⟩) (L.length - i) d]).run Tryz.prog w = .ok (.tuple #[]) w' ∧ RowB w' g (L.take i) rest' ∧ rest'.length + 3 * i = rest.length + 3 * L.length ∧ KB g w w' := by
  have hu1 := Tryz.underlying22
  have hz : ∀ w, (zeroValue 64).run Tryz.prog w = .ok (.agg #[.int .i64 0, .int .i64 0, .int .i64 0]) w := Tryz.zeroValue64
  obtain ⟨vs, hvs⟩ : ∃ vs, vs = (Builtin.zeroCells (Value.agg #[.int .i64 0, .int .i64 0, .int .i64 0]).cells (L.length - i)).toList := ⟨_, rfl⟩
  have hvl : vs.length = (L.length - i) * 3 := by rw [hvs, Array.length_toList, size_zeroCells]; rfl
  have hv1 : ∀ v ∈ vs, v.oneCell' = true := by
    intro v hv
    rw [hvs] at hv
    simp only [Builtin.zeroCells, Array.toList_map, List.mem_map] at hv
    obtain ⟨j, _, rfl⟩ := hv
    have : j % 3 < 3 := Nat.mod_lt _ (by decide)
    show ((#[Value.int .i64 0, Value.int .i64 0, Value.int .i64 0] : Array Value)[j % 3]!).oneCell' = true
    generalize j % 3 = q at this
    match q, this with
    | 0, _ => rfl
    | 1, _ => rfl
    | 2, _ => rfl
  have hcl := cellsR_len L
  have hst := run_storeCells_at (P := Tryz.prog) g (i * 3) 64 vs 0 (cellsR L ++ rest).toArray w h (by simp; omega) hv1
  obtain ⟨m, hm⟩ : ∃ m, L.length - i = m + 1 := ⟨L.length - i - 1, by omega⟩
  refine ⟨w.setRow g ((cellsR L).take (i * 3) ++ vs ++ rest).toArray, vs ++ rest, ?_, ?_, ?_, KB.setRow (KB.refl g w) _⟩
  · have e : ((cellsR L ++ rest).toArray.toList.take (i * 3 + 0) ++ vs ++ (cellsR L ++ rest).toArray.toList.drop (i * 3 + 0 + vs.length)).toArray = ((cellsR L).take (i * 3) ++ vs ++ rest).toArray := by
      rw [List.toList_toArray, List.take_append_of_le_length (by omega), List.drop_append, List.drop_of_length_le (by omega), show i * 3 + 0 + vs.length - (cellsR L).length = 0 by omega]
      rfl
    rw [e] at hst
    rw [hm] at hvs ⊢
    simp [Builtin.clear_, run_underlying hu1, hz, ← hvs, hst]
  · have := setRow_heap w g (cellsR L ++ rest).toArray ((cellsR L).take (i * 3) ++ vs ++ rest).toArray 64 (0, 0) h
    have e : (cellsR L).take (i * 3) = cellsR (L.take i) := by
      conv => lhs; rw [← List.take_append_drop i L, cellsR_app]
      rw [List.take_append_of_le_length (by rw [cellsR_len, List.length_take]; omega), List.take_of_length_le (by rw [cellsR_len, List.length_take]; omega)]
    rw [e, List.append_assoc] at this
    unfold RowB
    rw [e, List.append_assoc]
    exact this
  · rw [List.length_append, hvl]; omega
set_option maxHeartbeats 4000000 in
set_option maxRecDepth 100000 in
theorem del1 (ga c0 : Nat) (l0 : List Rct) (rest0 : List Value) (g gd d0 : Nat) (l : List Rct) (rest : List Value) (p : Rct → Bool) (w : World) (h0 : RowB w ga l0 rest0) (hc0 : l0.length ≤ c0) (hl0 : l0.length < 4611686018427387904 ∧ c0 ≤ maxLen) (hg : w.cell? ⟨g, 0, none⟩ = some (.slice (some ⟨ga, 0, none⟩) l0.length c0))
    (h1 : RowB w gd l rest) (hd0 : l.length ≤ d0 ∧ d0 ≤ maxLen) (hl : l.length < 4611686018427387904) (hn1 : ga ≠ gd) (hn2 : g ≠ gd) (hp : ∀ x, held l0 x = p x) (i0 : Nat) (hi0 : i0 < l.length) (hpi : p l[i0] = true) (hpj : ∀ j (hj : j < i0), p (l[j]'(by omega)) = false) :
    Calls Tryz.prog 78 #[.slice (some ⟨gd, 0, none⟩) l.length d0, .func (.func 80) #[] #[.pointer (some ⟨g, 0, none⟩)]] w fun e w' => e = .returned (.slice (some ⟨gd, 0, none⟩) (l.filter fun x => !p x).length d0) ∧ (∃ rest', RowB w' gd (l.filter fun x => !p x) rest' ∧ rest'.length + 3 * (l.filter fun x => !p x).length = rest.length + 3 * l.length) ∧ KB gd w w' := by
  have hu2 := Tryz.underlying64
  have hidx : Calls Tryz.prog 117 #[.slice (some ⟨gd, 0, none⟩) l.length d0, .func (.func 80) #[] #[.pointer (some ⟨g, 0, none⟩)]] w fun e w' => e = .returned (.int .i64 (i0 : Nat)) ∧ Below w.heap.size w w' := by
    refine (idx1 ga c0 l0 rest0 g gd d0 l rest w h0 hc0 hl0 hg h1 hd0 hl).mono ?_
    rintro e w' ⟨rfl, hb⟩
    rw [idxP_some (p := held l0) hi0 (fun j hj => by rw [hp, getR (by omega)]; exact hpj j hj) (by rw [hp, getR hi0]; exact hpi)]
    exact ⟨rfl, hb⟩
  have H0 := Aside0.mk h0
  have HC0 := Aside0.mk hc0
  have HL0 := Aside0.mk hl0
  have HG := Aside0.mk hg
  have H1 := Aside0.mk h1
  have HD0 := Aside0.mk hd0
  have HP := Aside0.mk hp
  have HN := Aside0.mk (And.intro hn1 hn2)
  have HL := Aside0.mk hl
  have HI := Aside0.mk hidx
  have HI0 := Aside0.mk hi0
  have hne : decide ((i0 : Int) = -1) = false := decide_eq_false (by omega)
  have hne2 : ((i0 : Int) == -1) = false := beq_eq_false_iff_ne.mpr (by omega)
  have hw0 : IntKind.i64.wrap ((i0 : Int) + 1) = ((i0 + 1 : Nat) : Int) := by rw [IntKind.wrap_i64]; omega
  have HF : Aside0 ((l.take (i0 + 1)).filter (fun x => !p x) = l.take i0) := ⟨by
    rw [filter_take_succ _ _ _ hi0, hpi]
    simp only [Bool.not_true, if_neg (show ¬ (false = true) by decide), List.append_nil]
    refine List.filter_eq_self.mpr fun x hx => ?_
    obtain ⟨j, hj, rfl⟩ := List.getElem_of_mem hx
    rw [List.length_take] at hj
    rw [List.getElem_take, hpj j (by omega)]
    rfl⟩
  clear h0 hc0 hl0 hg h1 hd0 hp hn1 hn2 hl hidx hi0 hpi hpj
  go_enter Tryz.func78, Tryz.ntmps78
  go_wp2_with (go_at_call 117; refine HI.out.mono ?_; rintro e w1 ⟨rfl, hb⟩; have HB := Aside0.mk hb; clear hb)
  go_loopg [5, 6] (l.length + 1) (fun kq v5 v6 w' => ∃ (i j : Nat) (L : List Rct), v5 = .int .i64 (i : Nat) ∧ v6 = .int .i64 (j : Nat) ∧ Aside0 (i < j ∧ j ≤ l.length ∧ l.length + 1 ≤ kq + j ∧ L.length = l.length) ∧ Aside0 (L.take i = (l.take j).filter (fun x => !p x)) ∧ Aside0 (L.drop j = l.drop j) ∧ Aside0 (RowB w' gd L rest) ∧ Aside0 (KB gd w w'))
  case atStart => exact ⟨i0, i0 + 1, l, rfl, by simp [hw0], ⟨⟨Nat.lt_succ_self _, HI0.out, by omega, rfl⟩⟩, ⟨HF.out.symm⟩, ⟨rfl⟩, ⟨Below.row HB.out H1.out⟩, ⟨KB.below HB.out⟩⟩
  case round =>
    obtain ⟨i, j, L, rfl, rfl, HK, HT, HD, HW, HKB⟩ := hrel
    by_cases c2 : (j : Int) < (l.length : Int)
    · have c2b0 : decide ((j : Int) < (l.length : Int)) = true := decide_eq_true c2
      have hjl : j < l.length := by omega
      have c2n : (j < l.length) = True := eq_true hjl
      have c2m : decide (j < l.length) = true := decide_eq_true hjl
      have hjL : j < L.length := by have := HK.out; omega
      have c3 : ((0 : Int) ≤ (j : Int)) = True := eq_true (by omega)
      obtain ⟨hx0, hx1, hx2⟩ := HW.out.get j hjL
      have hLl : L[j] = l[j] := by
        have h1 : (L.drop j)[0]? = (l.drop j)[0]? := by rw [HD.out]
        rw [List.getElem?_drop, List.getElem?_drop, Nat.add_zero, List.getElem?_eq_getElem hjL, List.getElem?_eq_getElem hjl] at h1
        exact Option.some.inj h1
      obtain ⟨y, hy⟩ : ∃ y, l[j] = y := ⟨_, rfl⟩
      rw [hLl, hy] at hx0 hx1 hx2
      obtain ⟨t, hpi⟩ : ∃ t, p y = t := ⟨_, rfl⟩
      have HPP := Aside0.mk ((HP.out y).trans hpi)
      have HY : Aside0 (∀ (h : j < l.length), l[j] = y ∧ p l[j] = t) := ⟨fun _ => ⟨hy, by rw [hy]; exact hpi⟩⟩
      have HJ := Aside0.mk hjl
      have hwi : IntKind.i64.wrap ((i : Int) + 1) = ((i + 1 : Nat) : Int) := by have := HK.out; have := HL.out; rw [IntKind.wrap_i64]; omega
      have hwj : IntKind.i64.wrap ((j : Int) + 1) = ((j + 1 : Nat) : Int) := by have := HK.out; have := HL.out; rw [IntKind.wrap_i64]; omega
      replace c2 := eq_true c2
      clear hLl hy hpi hjl hjL
      have HRA : Aside0 (RowB wr ga l0 rest0) := ⟨HKB.out.row H0.out HN.out.1⟩
      have HGA : Aside0 (wr.cell? ⟨g, 0, none⟩ = some (.slice (some ⟨ga, 0, none⟩) l0.length c0)) := ⟨HKB.out.cell HG.out HN.out.2⟩
      have HBA : Aside0 (Below wr.heap.size wr (wr.alloc (.cells #[.int .i64 y.n, .int .i64 y.lo, .int .i64 y.hi] 64))) := ⟨below_alloc (Below.refl _ _) _⟩
      have HBN : Aside0 ((wr.alloc (.cells #[.int .i64 y.n, .int .i64 y.lo, .int .i64 y.hi] 64)).heap[wr.heap.size]? = some (.cells #[.int .i64 y.n, .int .i64 y.lo, .int .i64 y.hi] 64 (0, 0))) := ⟨heap_alloc_new _ _⟩
      cases t with
      | true =>
        go_wp2_with (refine (clos1 ga c0 l0 rest0 g y _ (Below.row HBA.out HRA.out) HC0.out HL0.out ((cellB HBA.out (World.block_lt_of_cell? _ _ HGA.out)).trans HGA.out)).mono ?_; rw [HPP.out]; rintro e w2 ⟨rfl, hb⟩)
        go_roundg (gk - 1)
        case measure => have := HK.out; have := HJ.out; omega
        case rel =>
          refine ⟨i, j + 1, L, rfl, by simp [hwj], ⟨by have := HK.out; have := HJ.out; omega⟩, ⟨?_⟩, ⟨?_⟩, ⟨Below.row hb (Below.row HBA.out HW.out)⟩, ⟨(HKB.out.step HBA.out).step hb⟩⟩
          · rw [filter_take_succ _ _ _ HJ.out, (HY.out HJ.out).2, HT.out]
            simp
          · rw [← List.drop_drop, ← List.drop_drop, HD.out]
      | false =>
        have hi : i < L.length := by have := HK.out; have := HJ.out; omega
        have HIL := Aside0.mk hi
        have cin : (i < l.length) = True := eq_true (by have := HK.out; have := HJ.out; omega)
        have cii : ((i : Int) < (l.length : Int)) = True := eq_true (by have := HK.out; have := HJ.out; omega)
        have ci0 : ((0 : Int) ≤ (i : Int)) = True := eq_true (by omega)
        clear hi
        go_wp2_with (refine (clos1 ga c0 l0 rest0 g y _ (Below.row HBA.out HRA.out) HC0.out HL0.out ((cellB HBA.out (World.block_lt_of_cell? _ _ HGA.out)).trans HGA.out)).mono ?_; rw [HPP.out]; rintro e w2 ⟨rfl, hb⟩; have HB2 := Aside0.mk hb; have hr2 := Below.row hb (Below.row HBA.out HW.out); obtain ⟨⟨q0, e0⟩, ⟨q1, e1⟩, ⟨q2, e2⟩, f0, f1, f2⟩ := hr2.facts i HIL.out; have hbx := blk_below HBN.out hb; have b0 : w2.cell? ⟨wr.heap.size, 0, none⟩ = some (.int .i64 y.n) := (blk_cell hbx 0).trans rfl; have b1 : w2.cell? ⟨wr.heap.size, 1, none⟩ = some (.int .i64 y.lo) := (blk_cell hbx 1).trans rfl; have b2 : w2.cell? ⟨wr.heap.size, 2, none⟩ = some (.int .i64 y.hi) := (blk_cell hbx 2).trans rfl; have HR2 := Aside0.mk hr2; clear hr2 hbx hb)
        go_roundg (gk - 1)
        case measure => have := HK.out; have := HJ.out; omega
        case rel =>
          have hk := HK.out
          have hj := HJ.out
          have hil := HIL.out
          refine ⟨i + 1, j + 1, L.set i y, by simp [hwi], by simp [hwj], ⟨by rw [List.length_set]; omega⟩, ⟨?_⟩, ⟨?_⟩, ⟨HR2.out.put i hil y⟩, ⟨((((HKB.out.step HBA.out).step HB2.out).set _ _).set _ _).set _ _⟩⟩
          · rw [filter_take_succ _ _ _ HJ.out, (HY.out HJ.out).2, (HY.out HJ.out).1, ← HT.out, List.take_add_one, List.getElem?_set_self hil]
            rw [List.take_set_of_le (by omega)]
            rfl
          · rw [List.drop_set_of_lt (by omega), ← List.drop_drop, ← List.drop_drop, HD.out]
    · have c2b0 : decide ((j : Int) < (l.length : Int)) = false := decide_eq_false c2
      have hjl : j = l.length := by have := HK.out; omega
      have c2n : (j < l.length) = False := eq_false (by omega)
      have c2m : decide (j < l.length) = false := decide_eq_false (by omega)
      have cin : (i ≤ l.length) = True := eq_true (by have := HK.out; omega)
      have cii : ((i : Int) ≤ (l.length : Int)) = True := eq_true (by have := HK.out; omega)
      have cid : ((i : Int) ≤ (d0 : Int)) = True := eq_true (by have := HK.out; have := HD0.out; omega)
      have cid' : (i ≤ d0) = True := eq_true (by have := HK.out; have := HD0.out; omega)
      have ci0 : ((0 : Int) ≤ (i : Int)) = True := eq_true (by omega)
      have cdn : (d0 = i) = False := eq_false (by have := HK.out; have := HD0.out; omega)
      obtain ⟨w', rest', hcl, hr', hrl, hkb⟩ := HW.out.clear i (by have := HK.out; omega) (d0 - i)
      rw [HK.out.2.2.2] at hcl hrl
      have hT : L.take i = l.filter (fun x => !p x) := by rw [HT.out, hjl, List.take_length]
      have hn : (l.filter fun x => !p x).length = i := by rw [← hT, List.length_take]; have := HK.out; omega
      have HR := Aside0.mk hr'
      have HRL := Aside0.mk hrl
      have HKB' := Aside0.mk (HKB.out.trans hkb)
      have HTT := Aside0.mk hT
      have HNN := Aside0.mk hn
      have HJ := Aside0.mk hjl
      clear c2 hjl hr' hrl hkb hT hn
      go_wp2
      go_ret
      rw [HTT.out] at HR
      exact ⟨by rw [HNN.out]; rfl, ⟨rest', HR.out, by rw [HNN.out]; exact HRL.out⟩, HKB'.out⟩
set_option maxHeartbeats 4000000 in
theorem del0 (ga c0 : Nat) (l0 : List Rct) (rest0 : List Value) (g gd d0 : Nat) (l : List Rct) (rest : List Value) (p : Rct → Bool) (w : World) (h0 : RowB w ga l0 rest0) (hc0 : l0.length ≤ c0) (hl0 : l0.length < 4611686018427387904 ∧ c0 ≤ maxLen) (hg : w.cell? ⟨g, 0, none⟩ = some (.slice (some ⟨ga, 0, none⟩) l0.length c0))
    (h1 : RowB w gd l rest) (hd0 : l.length ≤ d0 ∧ d0 ≤ maxLen) (hl : l.length < 4611686018427387904) (hp : ∀ x, held l0 x = p x) (hpj : ∀ j (hj : j < l.length), p l[j] = false) :
    Calls Tryz.prog 78 #[.slice (some ⟨gd, 0, none⟩) l.length d0, .func (.func 80) #[] #[.pointer (some ⟨g, 0, none⟩)]] w fun e w' => e = .returned (.slice (some ⟨gd, 0, none⟩) l.length d0) ∧ Below w.heap.size w w' := by
  have hidx : Calls Tryz.prog 117 #[.slice (some ⟨gd, 0, none⟩) l.length d0, .func (.func 80) #[] #[.pointer (some ⟨g, 0, none⟩)]] w fun e w' => e = .returned (.int .i64 (-1)) ∧ Below w.heap.size w w' := by
    refine (idx1 ga c0 l0 rest0 g gd d0 l rest w h0 hc0 hl0 hg h1 hd0 hl).mono ?_
    rintro e w' ⟨rfl, hb⟩
    rw [idxP_none (p := held l0) (fun j hj => by rw [hp, getR hj]; exact hpj j hj)]
    exact ⟨rfl, hb⟩
  have HI := Aside0.mk hidx
  clear h0 hc0 hg h1 hd0 hp hpj hidx
  go_enter Tryz.func78, Tryz.ntmps78
  go_wp2_with (go_at_call 117; refine HI.out.mono ?_; rintro e w1 ⟨rfl, hb⟩; have HB := Aside0.mk hb; clear hb)
  go_ret
  exact ⟨rfl, HB.out⟩
/-- Is place j other than the one ahead? -/
def keepR (l : List Rct) : Nat → Bool
  | 0 => true
  | j + 1 => !eqR (l.getD (j + 1) (default : Rct)) (l.getD j (default : Rct))
/-- Of the first j what is other than the one ahead. -/
def cuR (l : List Rct) : Nat → List Rct
  | 0 => []
  | j + 1 => cuR l j ++ (if keepR l j = true then [l.getD j (default : Rct)] else [])
/-- Without what stands twice, side by side. -/
def cptR (l : List Rct) : List Rct := cuR l l.length
theorem getD_of {l : List Rct} {i : Nat} {x : Rct} (h : l[i]? = some x) : l.getD i (default : Rct) = x := by rw [List.getD_eq_getElem?_getD, h, Option.getD_some]
theorem cuR_take (l : List Rct) : ∀ i, i ≤ l.length → (∀ j, j + 1 < i → keepR l (j + 1) = true) → cuR l i = l.take i
  | 0, _, _ => rfl
  | i + 1, h, hk => by
    have ih := cuR_take l i (by omega) (fun j hj => hk j (by omega))
    have hki : keepR l i = true := by
      cases i with
      | zero => rfl
      | succ i => exact hk i (by omega)
    rw [cuR, ih, hki, if_pos rfl, List.take_add_one, List.getElem?_eq_getElem (by omega), getD_of (List.getElem?_eq_getElem (by omega))]
    rfl
theorem cuR_len (l : List Rct) : ∀ i, (cuR l i).length ≤ i
  | 0 => Nat.le_refl _
  | i + 1 => by
    have := cuR_len l i
    rw [cuR, List.length_append]
    split <;> simp <;> omega
theorem KB.drewN {g : Nat} {a b : World} (h : KB g a b) (n : Nat) : KB g a (b.drewN n) := ⟨h.os, h.tape, h.output, h.size, h.block⟩
theorem eqRects (d : Nat) (w : World) (x0 y0 : Int) (x1 y1 : Int) (x2 y2 : Int) :
    (Op.equalIn (d + 2) 64 (.agg #[.int .i64 x0, .int .i64 x1, .int .i64 x2]) (.agg #[.int .i64 y0, .int .i64 y1, .int .i64 y2])).run Tryz.prog w = .ok ((x0 == y0) && ((x1 == y1) && (x2 == y2))) w := by
  go_simp
  by_cases h0 : x0 = y0 <;> by_cases h1 : x1 = y1 <;> by_cases h2 : x2 = y2 <;> simp [h0, h1, h2]
attribute [local go_sem high] eqRects
set_option maxHeartbeats 4000000 in
set_option maxRecDepth 100000 in
theorem cpt (g d0 : Nat) (l : List Rct) (rest : List Value) (w : World) (h1 : RowB w g l rest) (hd0 : l.length ≤ d0) (hl : l.length ≤ 4611686018427387904) (h2 : 2 ≤ l.length) :
    Calls Tryz.prog 77 #[.slice (some ⟨g, 0, none⟩) l.length d0] w fun e w' => e = .returned (.slice (some ⟨g, 0, none⟩) (cptR l).length d0) ∧ (∃ rest', RowB w' g (cptR l) rest' ∧ rest'.length + 3 * (cptR l).length = rest.length + 3 * l.length) ∧ KB g w w' := by
  have hu2 := Tryz.underlying64
  have H1 := Aside0.mk h1
  have HD0 := Aside0.mk hd0
  have HL := Aside0.mk hl
  have H2 := Aside0.mk h2
  have c1 : decide ((l.length : Int) < 2) = false := decide_eq_false (by omega)
  have c1n : decide (l.length < 2) = false := decide_eq_false (by omega)
  clear h1 hd0 hl h2
  go_enter Tryz.func77, Tryz.ntmps77
  go_wp2
  go_loopg [3] (l.length + 1) (fun kq v3 w' => ∃ (i : Nat), v3 = .int .i64 (i : Nat) ∧ Aside0 (1 ≤ i ∧ i ≤ l.length ∧ l.length + 1 ≤ kq + i) ∧ Aside0 (∀ j, j + 1 < i → keepR l (j + 1) = true) ∧ Aside0 (RowB w' g l rest) ∧ Aside0 (KB g w w'))
  case atStart => exact ⟨1, rfl, ⟨⟨Nat.le_refl _, by have := H2.out; omega, by omega⟩⟩, ⟨fun j h => absurd h (by omega)⟩, H1, ⟨KB.refl _ _⟩⟩
  case round =>
    obtain ⟨i, rfl, HK, HE, HW, HKB⟩ := hrel
    by_cases c2 : i < l.length
    · have c2b0 : decide ((i : Int) < (l.length : Int)) = true := decide_eq_true (by omega)
      have c2i : ((i : Int) < (l.length : Int)) = True := eq_true (by omega)
      have c2m : decide (i < l.length) = true := decide_eq_true c2
      have ci0 : ((0 : Int) ≤ (i : Int)) = True := eq_true (by omega)
      obtain ⟨m, hm⟩ : ∃ m, i = m + 1 := ⟨i - 1, by have := HK.out; omega⟩
      have hml : m < l.length := by omega
      have cm0 : ((0 : Int) ≤ (m : Int)) = True := eq_true (by omega)
      have cmi : ((m : Int) < (l.length : Int)) = True := eq_true (by omega)
      have cmn : (m < l.length) = True := eq_true hml
      have hwm : IntKind.i64.wrap ((i : Int) - 1) = (m : Int) := by have := HL.out; rw [IntKind.wrap_i64]; omega
      have hwi : IntKind.i64.wrap ((i : Int) + 1) = ((i + 1 : Nat) : Int) := by have := HL.out; rw [IntKind.wrap_i64]; omega
      obtain ⟨hx0, hx1, hx2⟩ := HW.out.get i c2
      obtain ⟨hy0, hy1, hy2⟩ := HW.out.get m hml
      obtain ⟨x, hx⟩ : ∃ x, l[i] = x := ⟨_, rfl⟩
      obtain ⟨y, hy⟩ : ∃ y, l[m] = y := ⟨_, rfl⟩
      rw [hx] at hx0 hx1 hx2
      rw [hy] at hy0 hy1 hy2
      have HX : Aside0 (l[i]? = some x) := ⟨by rw [List.getElem?_eq_getElem c2, hx]⟩
      have HY : Aside0 (l[m]? = some y) := ⟨by rw [List.getElem?_eq_getElem hml, hy]⟩
      have HM := Aside0.mk hm
      have HI := Aside0.mk c2
      replace c2 := eq_true c2
      clear hx hy hm hml
      by_cases heq : ((x.n == y.n) && ((x.lo == y.lo) && (x.hi == y.hi))) = true
      · have cdn : (d0 = i) = False := eq_false (by have := HI.out; have := HD0.out; omega)
        have cid : ((i : Int) ≤ (d0 : Int)) = True := eq_true (by have := HI.out; have := HD0.out; omega)
        have cin : (i ≤ l.length) = True := eq_true (by have := HI.out; omega)
        have HU : Aside0 (cuR l (i + 1) = l.take i) := ⟨by
          have hm := HM.out
          rw [cuR, cuR_take l i (by have := HI.out; omega) HE.out]
          have : keepR l i = false := by
            rw [hm]
            show (!eqR (l.getD (m + 1) _) (l.getD m _)) = false
            rw [← hm, getD_of HX.out, getD_of HY.out, show eqR x y = true from heq]
            rfl
          rw [this]
          simp⟩
        go_wp2
        go_quiet (fail)
        clear hx0 hx1 hx2 hy0 hy1 hy2 heq
        go_wp2
        go_loopg [3, 5] (l.length + 1) (fun kq v3 v5 w' => ∃ (a b : Nat) (L : List Rct), v3 = .int .i64 (a : Nat) ∧ v5 = .int .i64 (b : Nat) ∧ Aside0 (1 ≤ b ∧ i + b ≤ l.length ∧ a < i + b ∧ l.length + 1 ≤ kq + i + b ∧ L.length = l.length ∧ a = (cuR l (i + b)).length) ∧ Aside0 (L.take a = cuR l (i + b)) ∧ Aside0 (L.drop (i + b - 1) = l.drop (i + b - 1)) ∧ Aside0 (RowB w' g L rest) ∧ Aside0 (KB g w w'))
        case atStart => exact ⟨i, 1, l, rfl, rfl, ⟨⟨Nat.le_refl _, by have := HI.out; omega, by omega, by omega, rfl, by rw [HU.out, List.length_take]; have := HI.out; omega⟩⟩, ⟨HU.out.symm⟩, ⟨rfl⟩, ⟨HW.out⟩, ⟨HKB.out.drewN _⟩⟩
        case round =>
          clear c2b0 c2i c2m ci0 cm0 cmi cmn hwm hwi HU HE HX HY
          obtain ⟨a, b, L, rfl, rfl, HA, HT, HD, HW2, HKB2⟩ := hrel
          by_cases d2 : b < l.length - i
          · have hk := HA.out
            have d2b0 : decide ((b : Int) < ((l.length - i : Nat) : Int)) = true := decide_eq_true (by omega)
            have d2i : ((b : Int) < ((l.length - i : Nat) : Int)) = True := eq_true (by omega)
            have d2m : decide (b < l.length - i) = true := decide_eq_true d2
            have d2n : (b < l.length - i) = True := eq_true d2
            have db0 : ((0 : Int) ≤ (b : Int)) = True := eq_true (by omega)
            obtain ⟨m2, hm2⟩ : ∃ m2, b = m2 + 1 := ⟨b - 1, by omega⟩
            have dm0 : ((0 : Int) ≤ (m2 : Int)) = True := eq_true (by omega)
            have dmi : ((m2 : Int) < ((l.length - i : Nat) : Int)) = True := eq_true (by omega)
            have dmn : (m2 < l.length - i) = True := eq_true (by omega)
            have da0 : ((0 : Int) ≤ (a : Int)) = True := eq_true (by omega)
            have dai : ((a : Int) < (l.length : Int)) = True := eq_true (by omega)
            have dan : (a < l.length) = True := eq_true (by omega)
            have hwm : IntKind.i64.wrap ((b : Int) - 1) = (m2 : Int) := by have := HL.out; rw [IntKind.wrap_i64]; omega
            have hwb : IntKind.i64.wrap ((b : Int) + 1) = ((b + 1 : Nat) : Int) := by have := HL.out; rw [IntKind.wrap_i64]; omega
            have hwa : IntKind.i64.wrap ((a : Int) + 1) = ((a + 1 : Nat) : Int) := by have := HL.out; rw [IntKind.wrap_i64]; omega
            have hLb : i + b < L.length := by omega
            have hLm : i + m2 < L.length := by omega
            have hLa : a < L.length := by omega
            obtain ⟨hx0, hx1, hx2⟩ := HW2.out.get (i + b) hLb
            obtain ⟨hy0, hy1, hy2⟩ := HW2.out.get (i + m2) hLm
            obtain ⟨⟨q0, e0⟩, ⟨q1, e1⟩, ⟨q2, e2⟩, f0, f1, f2⟩ := HW2.out.facts a hLa
            rw [Nat.add_mul] at hx0 hx1 hx2 hy0 hy1 hy2
            obtain ⟨x, hx⟩ : ∃ x, L[i + b] = x := ⟨_, rfl⟩
            obtain ⟨y, hy⟩ : ∃ y, L[i + m2] = y := ⟨_, rfl⟩
            rw [hx] at hx0 hx1 hx2
            rw [hy] at hy0 hy1 hy2
            have hdr : ∀ j, i + b - 1 ≤ j → L[j]? = l[j]? := fun j hj => by
              have h1 : (L.drop (i + b - 1))[j - (i + b - 1)]? = (l.drop (i + b - 1))[j - (i + b - 1)]? := by rw [HD.out]
              rwa [List.getElem?_drop, List.getElem?_drop, show i + b - 1 + (j - (i + b - 1)) = j by omega] at h1
            have HX : Aside0 (l[i + b]? = some x) := ⟨by rw [← hdr _ (by omega), List.getElem?_eq_getElem hLb, hx]⟩
            have HY : Aside0 (l[i + m2]? = some y) := ⟨by rw [← hdr _ (by omega), List.getElem?_eq_getElem hLm, hy]⟩
            have HB := Aside0.mk d2
            have HM2 := Aside0.mk hm2
            have HLA := Aside0.mk hLa
            have HK2 : Aside0 (keepR l (i + b) = !eqR x y) := ⟨by
              rw [show i + b = (i + m2) + 1 by omega]
              show (!eqR (l.getD (i + m2 + 1) _) (l.getD (i + m2) _)) = _
              rw [show i + m2 + 1 = i + b by omega, getD_of HX.out, getD_of HY.out]⟩
            clear hx hy hdr hLb hLm hLa hk d2 hm2
            by_cases heq : ((x.n == y.n) && ((x.lo == y.lo) && (x.hi == y.hi))) = true
            · go_wp2
              go_quiet (fail)
              go_wp2
              go_roundg (gk - 1)
              case measure => have := HA.out; have := HB.out; omega
              case rel =>
                have hk := HA.out
                have hb := HB.out
                have hu : cuR l (i + (b + 1)) = cuR l (i + b) := by
                  show cuR l (i + b + 1) = _
                  rw [cuR, HK2.out, show eqR x y = true from heq]
                  simp
                refine ⟨a, b + 1, L, rfl, by simp [hwb], ⟨by rw [hu]; omega⟩, ⟨by rw [hu]; exact HT.out⟩, ⟨?_⟩, ⟨HW2.out⟩, ⟨HKB2.out.drewN _⟩⟩
                rw [show i + (b + 1) - 1 = (i + b - 1) + 1 by omega, ← List.drop_drop, ← List.drop_drop, HD.out]
            · replace heq := Bool.eq_false_iff.mpr heq
              go_wp2
              go_quiet (fail)
              go_wp2
              go_roundg (gk - 1)
              case measure => have := HA.out; have := HB.out; omega
              case rel =>
                have hk := HA.out
                have hb := HB.out
                have hla := HLA.out
                have hu : cuR l (i + (b + 1)) = cuR l (i + b) ++ [x] := by
                  show cuR l (i + b + 1) = _
                  rw [cuR, HK2.out, show eqR x y = false from heq, getD_of HX.out]
                  rfl
                refine ⟨a + 1, b + 1, L.set a x, by simp [hwa], by simp [hwb], ⟨by rw [hu, List.length_set, List.length_append, List.length_singleton]; omega⟩, ⟨?_⟩, ⟨?_⟩, ⟨RowB.put (show RowB (wr.drewN nq) g L rest from HW2.out) a hla x⟩, ⟨(((HKB2.out.drewN _).set _ _).set _ _).set _ _⟩⟩
                · rw [hu, ← HT.out, List.take_add_one, List.getElem?_set_self hla, List.take_set_of_le (Nat.le_refl a)]
                  rfl
                · rw [List.drop_set_of_lt (by omega), show i + (b + 1) - 1 = (i + b - 1) + 1 by omega, ← List.drop_drop, ← List.drop_drop, HD.out]
          · have hk := HA.out
            have hb : b = l.length - i := by omega
            have d2b0 : decide ((b : Int) < ((l.length - i : Nat) : Int)) = false := decide_eq_false (by omega)
            have d2i : ((b : Int) < ((l.length - i : Nat) : Int)) = False := eq_false (by omega)
            have d2m : decide (b < l.length - i) = false := decide_eq_false d2
            have d2n : (b < l.length - i) = False := eq_false d2
            have da0 : ((0 : Int) ≤ (a : Int)) = True := eq_true (by omega)
            have dai : ((a : Int) ≤ (l.length : Int)) = True := eq_true (by omega)
            have dan : (a ≤ l.length) = True := eq_true (by omega)
            have dad : ((a : Int) ≤ (d0 : Int)) = True := eq_true (by have := HD0.out; omega)
            have dad' : (a ≤ d0) = True := eq_true (by have := HD0.out; omega)
            have dda : (d0 = a) = False := eq_false (by have := HD0.out; omega)
            obtain ⟨w', rest', hcl, hr', hrl, hkb⟩ := HW2.out.clear a (by omega) (d0 - a)
            rw [hk.2.2.2.2.1] at hcl hrl
            have hT : L.take a = cptR l := by rw [HT.out, show i + b = l.length by omega]; rfl
            have hn : (cptR l).length = a := by rw [← hT, List.length_take]; omega
            have HR := Aside0.mk hr'
            have HRL := Aside0.mk hrl
            have HKB' := Aside0.mk (HKB2.out.trans hkb)
            have HTT := Aside0.mk hT
            have HNN := Aside0.mk hn
            clear d2 hk hb hr' hrl hkb hT hn
            go_wp2
            go_ret
            rw [HTT.out] at HR
            exact ⟨by rw [HNN.out]; rfl, ⟨rest', HR.out, by rw [HNN.out]; exact HRL.out⟩, HKB'.out⟩
      · replace heq := Bool.eq_false_iff.mpr heq
        go_wp2
        go_quiet (fail)
        go_wp2
        go_roundg (gk - 1)
        case measure => have := HK.out; have := HI.out; omega
        case rel =>
          refine ⟨i + 1, by simp [hwi], ⟨by have := HK.out; have := HI.out; omega⟩, ⟨fun j h => ?_⟩, ?_, ?_⟩
          · rcases Nat.lt_or_ge (j + 1) i with h' | h'
            · exact HE.out j h'
            · have e1 : j + 1 = i := by omega
              have e2 : j = m := by have := HM.out; omega
              show (!eqR (l.getD (j + 1) _) (l.getD j _)) = true
              rw [e1, e2, getD_of HX.out, getD_of HY.out, show eqR x y = false from heq]
              rfl
          · exact ⟨HW.out⟩
          · exact ⟨HKB.out.drewN _⟩
    · have c2b0 : decide ((i : Int) < (l.length : Int)) = false := decide_eq_false (by omega)
      have c2m : decide (i < l.length) = false := decide_eq_false c2
      have hU : cptR l = l := by
        have := cuR_take l l.length (Nat.le_refl _) (fun j hj => HE.out j (by omega))
        rw [List.take_length] at this
        exact this
      have HU := Aside0.mk hU
      clear c2 hU
      go_wp2
      go_ret
      rw [HU.out]
      exact ⟨rfl, ⟨rest, HW.out, rfl⟩, HKB.out⟩
set_option maxHeartbeats 2000000 in
set_option maxRecDepth 100000 in
theorem cpt0 (A0 : Option Addr) (n d0 : Nat) (h2 : n < 2) (w : World) :
    Calls Tryz.prog 77 #[.slice A0 n d0] w fun e w' => e = .returned (.slice A0 n d0) ∧ Below w.heap.size w w' := by
  have c1 : decide ((n : Int) < 2) = true := decide_eq_true (by omega)
  have c1n : decide (n < 2) = true := decide_eq_true h2
  have c1p : (n < 2) = True := eq_true h2
  clear h2
  go_enter Tryz.func77, Tryz.ntmps77
  go_wp2
  go_ret
  exact ⟨rfl, Below.refl _ _⟩
theorem cptR_short (l : List Rct) (h : l.length < 2) : cptR l = l := by
  match l, h with
  | [], _ => rfl
  | [x], _ => rfl
abbrev RO (w : World) (base : Nat) (v : Value) (l : List Rct) : Prop := w.ownsRow base 64 3 v l.length (cellsR l)
/-- A row of the call's own: nil, or a block of its own. -/
theorem R_row {w : World} {base : Nat} {v : Value} {l : List Rct} (h : RO w base v l) :
    (v = .slice none 0 0 ∧ l = []) ∨ ∃ g cap rest, v = .slice (some ⟨g, 0, none⟩) l.length cap ∧ base ≤ g ∧ RowB w g l rest ∧ l.length ≤ cap ∧ cap ≤ maxLen ∧ (cellsR l).length + rest.length = cap * 3 := by
  rcases h.2 with ⟨rfl, h0⟩ | ⟨g, cap, cur, rfl, hg, hh, h1, h2, h3, h4⟩
  · exact Or.inl ⟨rfl, List.eq_nil_of_length_eq_zero h0⟩
  · refine Or.inr ⟨g, cap, cur.toList.drop (l.length * 3), rfl, hg, ?_, h1, h2, ?_⟩
    · unfold RowB
      rw [hh]
      congr 2
      apply Array.ext'
      show _ = cellsR l ++ cur.toList.drop (l.length * 3)
      rw [← h4, List.take_append_drop]
    · rw [cellsR_len, List.length_drop, show cur.toList.length = cap * 3 from h3]
      have : l.length * 3 ≤ cap * 3 := Nat.mul_le_mul_right _ h1
      omega
theorem row_R {w : World} {base g cap : Nat} {l : List Rct} {rest : List Value} (h : RowB w g l rest) (hb : base ≤ g) (h1 : l.length ≤ cap) (h2 : cap ≤ maxLen) (h3 : (cellsR l).length + rest.length = cap * 3) : RO w base (.slice (some ⟨g, 0, none⟩) l.length cap) l := by
  refine ⟨cellsR_len l, Or.inr ⟨g, cap, _, rfl, hb, h, h1, h2, ?_, ?_⟩⟩
  · show ((cellsR l ++ rest).toArray).size = cap * 3
    rw [← h3]; simp
  · show (cellsR l ++ rest).take (l.length * 3) = cellsR l
    rw [← cellsR_len l, List.take_left']
    rfl
/-- Of such a one the bytes and the first code are floats without loss. -/
def goodR (r : Rct) : Bool := (decide (0 ≤ r.n) && decide (r.n < 4503599627370496)) && (decide (0 ≤ r.lo) && decide (r.lo < 4503599627370496))
theorem goodR_iff {r : Rct} (h : goodR r = true) : (0 ≤ r.n ∧ r.n < 4503599627370496) ∧ 0 ≤ r.lo ∧ r.lo < 4503599627370496 := by
  simpa [goodR] using h
def ordR (x y : Rct) : Int := ordB (x.n, x.lo, x.hi) (y.n, y.lo, y.hi)
def ltR (x y : Rct) : Bool := decide (ordR x y < 0)
theorem cmpB_lt (a b : Int) : cmpB a b < 0 ↔ a < b := by
  unfold cmpB; split
  · simp [*]
  · split
    · constructor <;> intro h <;> omega
    · constructor <;> intro h <;> omega
theorem cmpB_eq (a b : Int) : cmpB a b = 0 ↔ a = b := by
  unfold cmpB; split
  · constructor <;> intro h <;> omega
  · split <;> constructor <;> intro h <;> omega
theorem ltR_iff (x y : Rct) : ltR x y = true ↔ x.n < y.n ∨ (x.n = y.n ∧ (x.lo < y.lo ∨ (x.lo = y.lo ∧ x.hi < y.hi))) := by
  unfold ltR ordR ordB
  rw [decide_eq_true_iff]
  dsimp only
  by_cases h0 : x.n = y.n
  · rw [if_neg (by simp [(cmpB_eq _ _).mpr h0])]
    by_cases h1 : x.lo = y.lo
    · rw [if_neg (by simp [(cmpB_eq _ _).mpr h1]), cmpB_lt]
      constructor <;> intro h <;> omega
    · rw [if_pos (fun h => h1 ((cmpB_eq _ _).mp h)), cmpB_lt]
      constructor <;> intro h <;> omega
  · rw [if_pos (fun h => h0 ((cmpB_eq _ _).mp h)), cmpB_lt]
    constructor <;> intro h <;> omega
/-- In order. -/
def sortR (l : List Rct) : List Rct := l.mergeSort fun x y => !ltR y x
abbrev GoodR := {r : Rct // goodR r = true}
instance : Inhabited GoodR := ⟨⟨⟨0, 0, 0⟩, by decide⟩⟩
def encG (x : GoodR) : List Value := encR x.1
theorem swoR : Go.Sort.SWO (Go.Proofs.ltOf fun x y : GoodR => ordR x.1 y.1) where
  irrefl x := by
    show ltR x.1 x.1 = false
    rw [Bool.eq_false_iff]; intro h; rw [ltR_iff] at h; omega
  trans x y z h1 h2 := by
    have h1 : ltR x.1 y.1 = true := h1
    have h2 : ltR y.1 z.1 = true := h2
    show ltR x.1 z.1 = true
    rw [ltR_iff] at *; omega
  ntrans x y z h1 h2 := by
    have h1 : ¬ (ltR x.1 y.1 = true) := by rw [show ltR x.1 y.1 = false from h1]; decide
    have h2 : ¬ (ltR y.1 z.1 = true) := by rw [show ltR y.1 z.1 = false from h2]; decide
    show ltR x.1 z.1 = false
    rw [Bool.eq_false_iff]; intro h; rw [ltR_iff] at *; omega
theorem totR (x y : GoodR) (h1 : Go.Proofs.ltOf (fun x y : GoodR => ordR x.1 y.1) x y = false) (h2 : Go.Proofs.ltOf (fun x y : GoodR => ordR x.1 y.1) y x = false) : x = y := by
  have h1 : ¬ (ltR x.1 y.1 = true) := by rw [show ltR x.1 y.1 = false from h1]; decide
  have h2 : ¬ (ltR y.1 x.1 = true) := by rw [show ltR y.1 x.1 = false from h2]; decide
  rw [ltR_iff] at h1 h2
  apply Subtype.ext
  rcases x with ⟨⟨a, b, c⟩, _⟩
  rcases y with ⟨⟨a', b', c'⟩, _⟩
  dsimp only at h1 h2 ⊢
  rw [show a = a' by omega, show b = b' by omega, show c = c' by omega]
theorem cmpLaysR (g off n : Nat) (w : World) : Go.Proofs.CmpLays Tryz.prog 76 #[] encG 3 (fun x y : GoodR => ordR x.1 y.1) g off n w := by
  intro m os dk hs x y
  have hx := goodR_iff x.2
  have hy := goodR_iff y.2
  refine (rect_order.calls x.1.n x.1.lo x.1.hi y.1.n y.1.lo y.1.hi hx.1 hx.2 hy.1 hy.2 _).mono ?_
  rintro e w' ⟨he, hg⟩
  exact ⟨he, hg⟩
def dG (l : List Rct) (h : ∀ r ∈ l, goodR r = true) : Array GoodR := (l.attach.map fun x => (⟨x.1, h x.1 x.2⟩ : GoodR)).toArray
theorem dG_val (l : List Rct) (h : ∀ r ∈ l, goodR r = true) : (dG l h).toList.map (fun x => x.1) = l := by
  unfold dG
  rw [List.toList_toArray, List.map_map]
  exact List.attach_map_subtype_val l
theorem dG_size (l : List Rct) (h : ∀ r ∈ l, goodR r = true) : (dG l h).size = l.length := by simp [dG]
theorem flat_cells (d : Array GoodR) : Go.Sort.flatK encG 3 d = (cellsR (d.toList.map fun x => x.1)).toArray := by
  have hs : (cellsR (d.toList.map fun x => x.1)).length = d.size * 3 := by rw [cellsR_len]; simp
  apply Array.ext
  · rw [Go.Sort.size_flatK]; exact hs.symm
  · intro j h1 h2
    rw [Go.Sort.size_flatK] at h1
    have hi : j / 3 < d.size := by omega
    have hg := cellsR_get (d.toList.map fun x => x.1) (j / 3) (by simpa using hi)
    have hj : j / 3 * 3 + j % 3 = j := by omega
    have hr : j % 3 < 3 := Nat.mod_lt _ (by decide)
    have e : (Go.Sort.flatK encG 3 d)[j]? = (cellsR (d.toList.map fun x => x.1))[j]? := by
      have e1 : (Go.Sort.flatK encG 3 d)[j]? = some ((encG d[j / 3]!)[j % 3]!) := by
        unfold Go.Sort.flatK
        rw [Array.getElem?_map, Array.getElem?_range]
        simp [h1]
      rw [e1, getElem!_pos d (j / 3) hi]
      simp only [List.getElem_map, Array.getElem_toList] at hg
      obtain ⟨g0, g1, g2⟩ := hg
      generalize j / 3 = q at *
      match hq : j % 3, hr with
      | 0, _ => rw [show j = q * 3 by omega, g0]; rfl
      | 1, _ => rw [show j = q * 3 + 1 by omega, g1]; rfl
      | 2, _ => rw [show j = q * 3 + 2 by omega, g2]; rfl
    have e' := e
    rw [Array.getElem?_eq_getElem (by rw [Go.Sort.size_flatK]; exact h1), List.getElem?_eq_getElem (by omega)] at e'
    exact Option.some.inj e'
set_option maxHeartbeats 1000000 in
theorem sortC (g d0 : Nat) (l : List Rct) (rest : List Value) (w : World) (h1 : RowB w g l rest) (hgood : ∀ r ∈ l, goodR r = true) (hl : l.length < 4611686018427387904) :
    Calls Tryz.prog 75 #[.slice (some ⟨g, 0, none⟩) l.length d0, .func (.func 76) #[] #[]] w fun e w' => e = .returned (.tuple #[]) ∧ RowB w' g (sortR l) rest ∧ KB g w w' := by
  have eg : ∀ args w, (callFunc 76 args).run Tryz.prog w = .ok (.enter 76 args) w := enters_of Tryz.func76 (by kernel_rfl) rfl
  have hcl := cellsR_len l
  have hH : Go.Sort.HoldsK encG 3 w g 0 (dG l hgood) := by
    unfold Go.Sort.HoldsK
    rw [flat_cells, dG_val]
    intro j hj
    rw [Nat.zero_add]
    have hj' : j < (cellsR l).length := by simpa using hj
    refine ⟨?_, blk_frozen h1 _⟩
    rw [blk_cell h1, List.getElem?_toArray, List.getElem?_append_left hj', List.getElem?_eq_getElem hj', getElem!_pos _ j (by simpa using hj')]
    simp
  have hcon := Go.Proofs.AnyQ.slices_SortFunc_total Tryz.sortR 3 Tryz.isAgg64 Tryz.sizeOf64 encG (fun _ => rfl) (fun x v hv => by simp [encG, encR] at hv; rcases hv with rfl | rfl | rfl <;> rfl) (fun x y : GoodR => ordR x.1 y.1) swoR 76 #[] g 0 d0 (dG l hgood) w eg (cmpLaysR g 0 _ w) hH (blk_lt h1) (by rw [dG_size]; exact hl) totR
  rw [dG_size] at hcon
  refine Calls.mono (f := 75) hcon ?_
  rintro e w' ⟨he, n, os, hw⟩
  refine ⟨he, ?_, ?_⟩
  · have hs : ((dG l hgood).toList.mergeSort fun x y => !(Go.Proofs.ltOf fun x y : GoodR => ordR x.1 y.1) y x).map (fun x => x.1) = sortR l := by
      refine (List.map_mergeSort (s := fun x y => !ltR y x) (f := fun x : GoodR => x.1) (fun _ _ _ _ => rfl)).trans ?_
      rw [dG_val]
      rfl
    rw [hw]
    unfold Go.Proofs.sortWorldK Go.Sort.putRowK Go.Sort.putRow Go.Sort.mapBlock Go.Sort.grow
    rw [flat_cells, List.toList_toArray, hs]
    have hsl : (sortR l).length = l.length := List.length_mergeSort l
    have hcs := cellsR_len (sortR l)
    unfold RowB
    show (Array.modify w.heap g _ ++ os)[g]? = _
    have hlt := blk_lt h1
    rw [Array.getElem?_append_left (by simpa using hlt), Array.getElem?_modify, if_pos rfl, show w.heap[g]? = _ from h1]
    simp only [Option.map_some, Go.Sort.onCells]
    congr 2
    apply Array.ext
    · simp [Go.Sort.putCells]; omega
    · intro j a1 a2
      simp only [Go.Sort.putCells, Array.getElem_mapIdx, Nat.zero_le, true_and, Nat.zero_add, Nat.sub_zero, List.size_toArray, id]
      split
      · rename_i hj
        rw [getElem!_pos _ j (by simpa using hj)]
        simp only [List.getElem_toArray]
        rw [List.getElem_append_left hj]
      · rename_i hj
        simp only [List.getElem_toArray]
        rw [List.getElem_append_right (by omega), List.getElem_append_right (by omega)]
        congr 1
        omega
  · rw [hw]
    refine ⟨rfl, rfl, rfl, ?_, fun k hk hn => ?_⟩
    · unfold Go.Proofs.sortWorldK Go.Sort.putRowK Go.Sort.putRow Go.Sort.mapBlock Go.Sort.grow
      simp [Go.Sort.ahead]
    · unfold Go.Proofs.sortWorldK Go.Sort.putRowK Go.Sort.putRow Go.Sort.mapBlock Go.Sort.grow
      show (Array.modify w.heap g _ ++ os)[k]? = _
      rw [Array.getElem?_append_left (by simpa using hk), Array.getElem?_modify, if_neg (fun e => hn e.symm)]
theorem cptA (g d0 : Nat) (l : List Rct) (rest : List Value) (w : World) (h1 : RowB w g l rest) (hd0 : l.length ≤ d0) (hl : l.length ≤ 4611686018427387904) :
    Calls Tryz.prog 77 #[.slice (some ⟨g, 0, none⟩) l.length d0] w fun e w' => e = .returned (.slice (some ⟨g, 0, none⟩) (cptR l).length d0) ∧ (∃ rest', RowB w' g (cptR l) rest' ∧ rest'.length + 3 * (cptR l).length = rest.length + 3 * l.length) ∧ KB g w w' := by
  by_cases h2 : 2 ≤ l.length
  · exact cpt g d0 l rest w h1 hd0 hl h2
  · refine (cpt0 _ l.length d0 (by omega) w).mono ?_
    rintro e w' ⟨rfl, hb⟩
    rw [cptR_short l (by omega)]
    exact ⟨rfl, ⟨rest, Below.row hb h1, rfl⟩, KB.below hb⟩
theorem delA (ga c0 : Nat) (l0 : List Rct) (rest0 : List Value) (g gd d0 : Nat) (l : List Rct) (rest : List Value) (p : Rct → Bool) (w : World) (h0 : RowB w ga l0 rest0) (hc0 : l0.length ≤ c0) (hl0 : l0.length < 4611686018427387904 ∧ c0 ≤ maxLen) (hg : w.cell? ⟨g, 0, none⟩ = some (.slice (some ⟨ga, 0, none⟩) l0.length c0))
    (h1 : RowB w gd l rest) (hd0 : l.length ≤ d0 ∧ d0 ≤ maxLen) (hl : l.length < 4611686018427387904) (hn1 : ga ≠ gd) (hn2 : g ≠ gd) (hp : ∀ x, held l0 x = p x) :
    Calls Tryz.prog 78 #[.slice (some ⟨gd, 0, none⟩) l.length d0, .func (.func 80) #[] #[.pointer (some ⟨g, 0, none⟩)]] w fun e w' => e = .returned (.slice (some ⟨gd, 0, none⟩) (l.filter fun x => !p x).length d0) ∧ (∃ rest', RowB w' gd (l.filter fun x => !p x) rest' ∧ rest'.length + 3 * (l.filter fun x => !p x).length = rest.length + 3 * l.length) ∧ KB gd w w' := by
  by_cases hex : ∃ i, ∃ h : i < l.length, p l[i] = true
  · have hfi : l.findIdx p < l.length := by
      obtain ⟨i, hi, hpi⟩ := hex
      exact List.findIdx_lt_length_of_exists ⟨l[i], List.getElem_mem hi, hpi⟩
    exact del1 ga c0 l0 rest0 g gd d0 l rest p w h0 hc0 hl0 hg h1 hd0 hl hn1 hn2 hp (l.findIdx p) hfi (List.findIdx_getElem (w := hfi)) (fun j hj => by
      have := List.not_of_lt_findIdx hj
      simpa using this)
  · have hno : ∀ j (hj : j < l.length), p l[j] = false := fun j hj => Bool.eq_false_iff.mpr fun h => hex ⟨j, hj, h⟩
    refine (del0 ga c0 l0 rest0 g gd d0 l rest p w h0 hc0 hl0 hg h1 hd0 hl hp hno).mono ?_
    rintro e w' ⟨rfl, hb⟩
    have hf : (l.filter fun x => !p x) = l := List.filter_eq_self.mpr fun x hx => by
      obtain ⟨j, hj, rfl⟩ := List.getElem_of_mem hx
      rw [hno j hj]; rfl
    rw [hf]
    exact ⟨rfl, ⟨rest, Below.row hb h1, rfl⟩, KB.below hb⟩
theorem infoR : (Tryz.prog.info? 64).map (fun i => (i.zero, i.size, i.bytes)) = some (some (Value.agg #[.int .i64 0, .int .i64 0, .int .i64 0]), 3, 24) := by kernel_rfl
theorem cloneA (g c : Nat) (l : List Rct) (rest : List Value) (w : World) (h1 : RowB w g l rest) (hl : l.length ≤ 1000000000) :
    Calls Tryz.prog 79 #[.slice (some ⟨g, 0, none⟩) l.length c] w fun e w' => ∃ gd cap rest', e = .returned (.slice (some ⟨gd, 0, none⟩) l.length cap) ∧ w.heap.size ≤ gd ∧ RowB w' gd l rest' ∧ l.length ≤ cap ∧ cap ≤ maxLen ∧ (cellsR l).length + rest'.length = cap * 3 ∧ Below w.heap.size w w' := by
  obtain ⟨i0, hi, hzz⟩ := Option.map_eq_some_iff.mp infoR
  have hz0 : i0.zero = some (.agg #[(.int .i64 0), (.int .i64 0), (.int .i64 0)]) := congrArg (·.1) hzz
  have hz1 : i0.size = 3 := congrArg (·.2.1) hzz
  have hz2 : i0.bytes = 24 := congrArg (·.2.2) hzz
  have hcl := cellsR_len l
  have hcon := Go.Proofs.AnyE.slices_Clone Tryz.cloneR i0 _ 3 24 hi hz0 hz1 hz2 rfl (by decide) Tryz.sizeOf64 g 0 l.length c (cellsR l) w hcl (by unfold maxLen; omega) (by omega) (fun j u hu => by
    rw [Nat.zero_add, blk_cell h1, List.getElem?_toArray, List.getElem?_append_left (List.getElem?_eq_some_iff.1 hu).1]; exact hu) (fun u hu => by
    have : ∀ l : List Rct, ∀ u ∈ cellsR l, u.oneCell' = true := by
      intro l
      induction l with
      | nil => intro u hu; cases hu
      | cons r l ih =>
        intro u hu
        rw [cellsR, List.mem_append] at hu
        rcases hu with hu | hu
        · simp [encR] at hu; rcases hu with rfl | rfl | rfl <;> rfl
        · exact ih u hu
    exact this l u hu)
  refine Calls.mono (f := 79) hcon ?_
  rintro e w' ⟨v', rfl, ho, hne, hb⟩
  have hR : RO w' w.heap.size v' l := ho
  rcases R_row hR with ⟨rfl, _⟩ | ⟨gd, cap, rest', rfl, hbg, hrow, h2, h3, h4⟩
  · exact absurd rfl hne
  · exact ⟨gd, cap, rest', rfl, hbg, hrow, h2, h3, h4, hb⟩
end Go.Abs.Rc
