/- LookLast by the engine (merged). -/
import Derived.Test.YtjoplgehefncbaaGreatAbsSpec
import Derived.WalkKit
import Derived.OpenShut
import Derived.ChangeArms
import Derived.DataReads
import Derived.DataElems
import Derived.SizedLaws
import Derived.Test.YtjoplgehefncbaaGreatADestA
import Derived.Test.YtjoplgehefncbaaGreatATbl
import Derived.Test.YtjoplgehefncbaaGreatAHx
import Derived.Test.YtjoplgehefncbaaGreatASemP
import Derived.Test.YtjoplgehefncbaaGreatASpanK
import Derived.Test.YtjoplgehefncbaaGreatADestD
import Derived.Test.YtjoplgehefncbaaGreatADestFew
import Derived.Test.YtjoplgehefncbaaGreatAMatch
import Derived.Test.YtjoplgehefncbaaGreatAbsCodes
import Derived.Shelf.Strings.Builder1
import Derived.Shelf.Strings.BuilderF
import Derived.Shelf.Strings.BuilderK
import Derived.Shelf.Strings.BuilderRune
import Derived.Test.YtjoplgehefncbaaGreatProg
import Derived.Shelf.Abstract
import Derived.Shelf.RegionOpen
import Derived.LoopN
import Derived.Deep.LoopGhost
import Derived.Test.YtjoplgehefncbaaGreatASpanLa
set_option linter.all false
namespace Go.Abs
open Go.RowKit
section
variable {P : Program} {t e : TypeId} {α β : Type} {f : α → List AV} {f' : β → List AV} {wf : α → Prop} {wf' : β → Prop} {sz sz' : Nat}
/-- The blocks there are. -/
def Sall (w : World) (b : Nat) : Prop := b < w.heap.size
/-- Whatever reads as data at the type t is told by f, and meets wf. -/
def OpA (P : Program) (t : TypeId) {α : Type} (f : α → List AV) (wf : α → Prop) : Prop :=
  ∀ {H : Type} (enc : TypeId × Value → H) (w : World) (base : Nat) (spare : Nat → Bool) (held : Bool) (fuel : Nat) (cs : List Value) (x : DataW H × List MemPlace),
    DataW.trod enc P w base spare held fuel t cs = some x → ∃ a : α, RVs0 w (Sall w) (f a) cs ∧ wf a
theorem rvs1 {w : World} {S : Nat → Prop} {a : AV} {v : Value} (h : RV0 w S a v) : RVs0 w S [a] [v] := ⟨rfl, fun i x u h1 h2 => by
  cases i with
  | zero => simp at h1 h2; subst h1; subst h2; exact h
  | succ i => simp at h1⟩
theorem OpA.int {k : IntKind} (ht : P.underlying t = some (.int k)) : OpA P t (fun n : Int => [.int k n]) (fun n => (Lit.int k n).wf = true) := by
  intro H enc w base spare held fuel cs x h
  obtain ⟨n, rfl, _, hw⟩ := DataW.trod_int ht h
  exact ⟨n, rvs1 (.int _ _), hw⟩
theorem OpA.bool (ht : P.underlying t = some .bool) : OpA P t (fun b : Bool => [.sb b]) (fun _ => True) := by
  intro H enc w base spare held fuel cs x h
  obtain ⟨n, rfl, _⟩ := DataW.trod_bool ht h
  exact ⟨n, rvs1 (.sb _), trivial⟩
theorem OpA.string (ht : P.underlying t = some .string) : OpA P t (fun s : ByteArray => [.str s]) (fun s => s.size ≤ maxLen) := by
  intro H enc w base spare held fuel cs x h
  obtain ⟨n, rfl, _, hw⟩ := DataW.trod_string ht h
  exact ⟨n, rvs1 (.str _), hw⟩
theorem OpA.mono {wf2 : α → Prop} (h : OpA P t f wf) (hm : ∀ a, wf a → wf2 a) : OpA P t f wf2 := by
  intro H enc w base spare held fuel cs x hx
  obtain ⟨a, hk, hw⟩ := h enc w base spare held fuel cs x hx
  exact ⟨a, hk, hm a hw⟩
theorem list_of {n : Nat} {Q : Nat → α → Prop} (h : ∀ i, i < n → ∃ a, Q i a) : ∃ l : List α, l.length = n ∧ ∀ i a, l[i]? = some a → Q i a := by
  induction n with
  | zero => exact ⟨[], rfl, fun i a hi => by simp at hi⟩
  | succ n ih =>
    obtain ⟨l, hl, hq⟩ := ih (fun i hi => h i (by omega))
    obtain ⟨a, ha⟩ := h n (by omega)
    refine ⟨l ++ [a], by simp [hl], fun i b hi => ?_⟩
    by_cases hin : i < n
    · rw [List.getElem?_append_left (by omega)] at hi
      exact hq i b hi
    · have hlt : i < (l ++ [a]).length := (List.getElem?_eq_some_iff.1 hi).1
      obtain rfl : i = n := by simp [hl] at hlt; omega
      rw [List.getElem?_append_right (by omega), hl, Nat.sub_self] at hi
      obtain rfl := Option.some.inj hi
      exact ha
theorem OpA.slice [Inhabited α] (ht : P.underlying t = some (.slice e)) (hc : P.cellsOf e = sz) (hf : Emb f sz) (he : OpA P e f wf) :
    OpA P t (fun l : List α => [aL f sz l]) (fun l => l.length ≤ maxLen ∧ ∀ x ∈ l, wf x) := by
  intro H enc w base spare held fuel cs x h
  rcases DataW.trod_slice ht h with ⟨rfl, _⟩ | ⟨a, len, cap, elems, rest, n, _, rfl, _, hb, hl, hm, hlen, hel, _, _⟩
  · exact ⟨[], rvs1 (.sl _ _ _ none 0 (fun _ _ => undef) (Nat.le_refl _) (Nat.zero_le _) (fun i hi => by simp at hi) (fun i j hi => by simp at hi) (fun i j a hi => by simp at hi)), Nat.zero_le _, fun x hx => by simp at hx⟩
  · have hex : ∀ i, i < len → ∃ b : α, wf b ∧ ∃ c, c.length = sz ∧ RVs0 w (Sall w) (f b) c ∧ ∀ j u, c[j]? = some u → w.cell? (a.add (i * sz + j)) = some u := by
      intro i hi
      have h1 := hel i hi
      rw [List.getElem?_eq_getElem (by omega)] at h1
      obtain ⟨c, hcs, htr⟩ := Option.bind_eq_some_iff.mp h1
      obtain ⟨_, hcl, hat⟩ := World.cells?_some hcs
      obtain ⟨b, hK, hw⟩ := he enc w base spare held n c _ htr
      refine ⟨b, hw, c, by rw [hcl, hc], hK, fun j u hj => ?_⟩
      have hjl : j < c.length := (List.getElem?_eq_some_iff.1 hj).1
      have := hat j (by omega)
      rw [hj, hc] at this
      rw [← this, Addr.add_add]
    obtain ⟨l, hll, hq⟩ := list_of hex
    have hget : ∀ i, i < l.length → l[i]? = some (l.getD i default) := fun i hi => by simp [List.getD, hi]
    refine ⟨l, rvs1 ?_, by omega, fun x hx => ?_⟩
    · subst hll
      refine .sl _ _ _ (some a) cap (fun i j => (w.cell? (a.add (i * sz + j))).getD undef) (by omega) (by omega) (fun i hi => ⟨(hf _).2.2, (hf _).1⟩) (fun i j hi hj => ?_) (fun i j x hi hx => ?_)
      · obtain ⟨_, c, hcl, hK, hcell⟩ := hq i _ (hget i hi)
        have h1 := hcell j c[j] (List.getElem?_eq_getElem (by omega))
        refine ⟨a, rfl, ?_, by rw [h1]; rfl⟩
        have h2 := World.block_lt_of_cell? _ _ h1
        have h3 : (a.add (i * sz + j)).block = a.block := by unfold Addr.add; split <;> rfl
        exact h3 ▸ h2
      · obtain ⟨_, c, hcl, hK, hcell⟩ := hq i _ (hget i hi)
        have hj : j < sz := by rw [← (hf (l.getD i default)).2.2]; exact (List.getElem?_eq_some_iff.1 hx).1
        have h1 := hcell j c[j] (List.getElem?_eq_getElem (by omega))
        rw [h1]
        exact hK.2 j x _ hx (List.getElem?_eq_getElem (by omega))
    · obtain ⟨i, hi, rfl⟩ := List.getElem_of_mem hx
      exact (hq i _ (List.getElem?_eq_getElem hi)).1
/-- A run of a struct's fields, from a cell on. -/
def OpAF (P : Program) (fs : List Field) (off n : Nat) {α : Type} (f : α → List AV) (wf : α → Prop) : Prop :=
  ∀ {H : Type} (enc : TypeId × Value → H) (w : World) (base : Nat) (spare : Nat → Bool) (held : Bool) (fuel : Nat) (cs : List Value),
    (∀ (j : Nat) (fl : Field), fs[j]? = some fl → ∃ y, DataW.trod enc P w base spare held fuel fl.type ((cs.drop fl.offset).take (P.cellsOf fl.type)) = some y) →
    cs.length = off + n → ∃ a : α, RVs0 w (Sall w) (f a) (cs.drop off) ∧ wf a
theorem OpAF.one {fl : Field} {off n : Nat} (hf : OpA P fl.type f wf) (ho : fl.offset = off) (hc : P.cellsOf fl.type = n) : OpAF P [fl] off n f wf := by
  intro H enc w base spare held fuel cs hx hl
  obtain ⟨y, hy⟩ := hx 0 fl rfl
  obtain ⟨a, hK, hw⟩ := hf enc w base spare held fuel _ y hy
  rw [ho, hc, List.take_of_length_le (by rw [List.length_drop]; omega)] at hK
  exact ⟨a, hK, hw⟩
theorem RVs0.append {w : World} {S : Nat → Prop} {xs1 bs : List AV} {us vs : List Value} (h : RVs0 w S xs1 us) (k : RVs0 w S bs vs) : RVs0 w S (xs1 ++ bs) (us ++ vs) := by
  refine ⟨by rw [List.length_append, List.length_append, h.1, k.1], fun i a v h1 h2 => ?_⟩
  by_cases hi : i < xs1.length
  · rw [List.getElem?_append_left hi] at h1
    rw [List.getElem?_append_left (by rw [h.1]; exact hi)] at h2
    exact h.2 i a v h1 h2
  · rw [List.getElem?_append_right (by omega)] at h1
    rw [List.getElem?_append_right (by rw [h.1]; omega), h.1] at h2
    exact k.2 _ a v h1 h2
theorem OpAF.cons {fl : Field} {fs : List Field} {off n m : Nat} (hf : OpA P fl.type f wf) (ho : fl.offset = off) (hc : P.cellsOf fl.type = n) (hr : OpAF P fs (off + n) m f' wf') :
    OpAF P (fl :: fs) off (n + m) (fun x : α × β => f x.1 ++ f' x.2) (fun x => wf x.1 ∧ wf' x.2) := by
  intro H enc w base spare held fuel cs hx hl
  obtain ⟨y, hy⟩ := hx 0 fl rfl
  obtain ⟨a, hK, hw⟩ := hf enc w base spare held fuel _ y hy
  obtain ⟨b, hK2, hw2⟩ := hr enc w base spare held fuel cs (fun j g hg => hx (j + 1) g hg) (by omega)
  rw [ho, hc] at hK
  refine ⟨(a, b), ?_, hw, hw2⟩
  have := RVs0.append hK hK2
  rwa [← List.drop_drop, List.take_append_drop] at this
theorem OpA.struct {fs : Array Field} {n : Nat} (ht : P.underlying t = some (.struct fs)) (hf : OpAF P fs.toList 0 n f wf) (hc : P.cellsOf t = n) : OpA P t f wf := by
  intro H enc w base spare held fuel cs x h
  obtain ⟨xs, m, rfl, _, hlen, hxl, hget⟩ := DataW.trod_struct ht h
  obtain ⟨a, hK, hw⟩ := hf enc w base spare held m cs (fun j fl hj => by
    have hj' : fs[j]? = some fl := by simpa using hj
    have hjl : j < fs.size := (Array.getElem?_eq_some_iff.1 hj').1
    exact ⟨_, (hget j fl hj').trans (List.getElem?_eq_getElem (by omega))⟩) (by omega)
  exact ⟨a, by simpa using hK, hw⟩
theorem OpA.iso {g : β → List AV} (h : OpA P t f wf) (to : α → β) (hg : ∀ a, g (to a) = f a) (hw : ∀ a, wf a → wf' (to a)) : OpA P t g wf' := by
  intro H enc w base spare held fuel cs x hx
  obtain ⟨a, hk, hwf⟩ := h enc w base spare held fuel cs x hx
  exact ⟨to a, by rw [hg]; exact hk, hw a hwf⟩
end
end Go.Abs
namespace Go.Abs
open Go.RowKit
section
variable {P : Program} {t e : TypeId} {α β : Type} {f : α → List AV} {f' : β → List AV} {wf : α → Prop} {wf' : β → Prop} {sz sz' : Nat}
/-- .. where what reads is of a size that can be. -/
def OpZ (P : Program) (t : TypeId) {α : Type} (f : α → List AV) (wf : α → Prop) : Prop :=
  ∀ {H : Type} (enc : TypeId × Value → H) (w : World) (base : Nat) (spare : Nat → Bool) (held : Bool) (fuel : Nat) (cs : List Value) (x : DataW H × List MemPlace),
    DataW.trod enc P w base spare held fuel t cs = some x → (∀ n ∈ x.1.weights P t, n ≤ reachBytes) → ∃ a : α, RVs0 w (Sall w) (f a) cs ∧ wf a
theorem OpA.z (h : OpA P t f wf) : OpZ P t f wf := fun enc w base spare held fuel cs x hx _ => h enc w base spare held fuel cs x hx
theorem OpZ.mono {wf2 : α → Prop} (h : OpZ P t f wf) (hm : ∀ a, wf a → wf2 a) : OpZ P t f wf2 := by
  intro H enc w base spare held fuel cs x hx hz
  obtain ⟨a, hk, hw⟩ := h enc w base spare held fuel cs x hx hz
  exact ⟨a, hk, hm a hw⟩
theorem weightsAll_mem {H : Type} {e : TypeId} : ∀ {l : List (DataW H)} {i : Nat} {d : DataW H}, l[i]? = some d → ∀ n ∈ d.weights P e, n ∈ DataW.weightsAll P e l
  | [], i, d, h => by simp at h
  | c :: l, 0, d, h => fun n hn => by
    simp at h
    subst h
    simp only [DataW.weightsAll, List.mem_append]
    exact .inl hn
  | c :: l, i + 1, d, h => fun n hn => by
    simp only [DataW.weightsAll, List.mem_append]
    exact .inr (weightsAll_mem (l := l) (by simpa using h) n hn)
theorem OpZ.slice [Inhabited α] (ht : P.underlying t = some (.slice e)) (hc : P.cellsOf e = sz) {by_ : Nat} (hby : P.bytesOf e = by_) (hf : Emb f sz) (he : OpZ P e f wf) :
    OpZ P t (fun l : List α => [aL f sz l]) (fun l => (l.length ≤ maxLen ∧ l.length * by_ ≤ reachBytes) ∧ ∀ x ∈ l, wf x) := by
  intro H enc w base spare held fuel cs x h hz
  rcases DataW.trod_slice ht h with ⟨rfl, _⟩ | ⟨a, len, cap, elems, rest, n, _, rfl, hx, hb, hl, hm, hlen, hel, _, _⟩
  · exact ⟨[], rvs1 (.sl _ _ _ none 0 (fun _ _ => undef) (Nat.le_refl _) (Nat.zero_le _) (fun i hi => by simp at hi) (fun i j hi => by simp at hi) (fun i j a hi => by simp at hi)), ⟨Nat.zero_le _, by simp⟩, fun x hx => by simp at hx⟩
  · rw [hx] at hz
    simp only [DataW.weights, ht, List.mem_cons, List.mem_append] at hz
    have hz0 := hz _ (.inl rfl)
    rw [List.length_map, List.length_map, hby, Nat.add_mul] at hz0
    have hex : ∀ i, i < len → ∃ b : α, wf b ∧ ∃ c, c.length = sz ∧ RVs0 w (Sall w) (f b) c ∧ ∀ j u, c[j]? = some u → w.cell? (a.add (i * sz + j)) = some u := by
      intro i hi
      have h1 := hel i hi
      have h9 : (elems.map (·.1))[i]? = some (elems[i]'(by omega)).1 := by rw [List.getElem?_map, List.getElem?_eq_getElem (by omega)]; rfl
      rw [List.getElem?_eq_getElem (by omega)] at h1
      obtain ⟨c, hcs, htr⟩ := Option.bind_eq_some_iff.mp h1
      obtain ⟨_, hcl, hat⟩ := World.cells?_some hcs
      obtain ⟨b, hK, hw⟩ := he enc w base spare held n c _ htr (fun m hm => hz m (.inr (.inl (weightsAll_mem h9 m hm))))
      refine ⟨b, hw, c, by rw [hcl, hc], hK, fun j u hj => ?_⟩
      have hjl : j < c.length := (List.getElem?_eq_some_iff.1 hj).1
      have := hat j (by omega)
      rw [hj, hc] at this
      rw [← this, Addr.add_add]
    obtain ⟨l, hll, hq⟩ := list_of hex
    have hget : ∀ i, i < l.length → l[i]? = some (l.getD i default) := fun i hi => by simp [List.getD, hi]
    refine ⟨l, rvs1 ?_, ⟨by omega, ?_⟩, fun x hx => ?_⟩
    · subst hll
      refine .sl _ _ _ (some a) cap (fun i j => (w.cell? (a.add (i * sz + j))).getD undef) (by omega) (by omega) (fun i hi => ⟨(hf _).2.2, (hf _).1⟩) (fun i j hi hj => ?_) (fun i j x hi hx => ?_)
      · obtain ⟨_, c, hcl, hK, hcell⟩ := hq i _ (hget i hi)
        have h1 := hcell j c[j] (List.getElem?_eq_getElem (by omega))
        refine ⟨a, rfl, ?_, by rw [h1]; rfl⟩
        have h2 := World.block_lt_of_cell? _ _ h1
        have h3 : (a.add (i * sz + j)).block = a.block := by unfold Addr.add; split <;> rfl
        exact h3 ▸ h2
      · obtain ⟨_, c, hcl, hK, hcell⟩ := hq i _ (hget i hi)
        have hj : j < sz := by rw [← (hf (l.getD i default)).2.2]; exact (List.getElem?_eq_some_iff.1 hx).1
        have h1 := hcell j c[j] (List.getElem?_eq_getElem (by omega))
        rw [h1]
        exact hK.2 j x _ hx (List.getElem?_eq_getElem (by omega))
    · rw [hll, ← hlen]
      omega
    · obtain ⟨i, hi, rfl⟩ := List.getElem_of_mem hx
      exact (hq i _ (List.getElem?_eq_getElem hi)).1
def OpZF (P : Program) (fs : List Field) (off n : Nat) {α : Type} (f : α → List AV) (wf : α → Prop) : Prop :=
  ∀ {H : Type} (enc : TypeId × Value → H) (w : World) (base : Nat) (spare : Nat → Bool) (held : Bool) (fuel : Nat) (cs : List Value),
    (∀ (j : Nat) (fl : Field), fs[j]? = some fl → ∃ y, DataW.trod enc P w base spare held fuel fl.type ((cs.drop fl.offset).take (P.cellsOf fl.type)) = some y ∧ ∀ n ∈ y.1.weights P fl.type, n ≤ reachBytes) →
    cs.length = off + n → ∃ a : α, RVs0 w (Sall w) (f a) (cs.drop off) ∧ wf a
theorem OpZF.one {fl : Field} {off n : Nat} (hf : OpZ P fl.type f wf) (ho : fl.offset = off) (hc : P.cellsOf fl.type = n) : OpZF P [fl] off n f wf := by
  intro H enc w base spare held fuel cs hx hl
  obtain ⟨y, hy, hz⟩ := hx 0 fl rfl
  obtain ⟨a, hK, hw⟩ := hf enc w base spare held fuel _ y hy hz
  rw [ho, hc, List.take_of_length_le (by rw [List.length_drop]; omega)] at hK
  exact ⟨a, hK, hw⟩
theorem OpZF.cons {fl : Field} {fs : List Field} {off n m : Nat} (hf : OpZ P fl.type f wf) (ho : fl.offset = off) (hc : P.cellsOf fl.type = n) (hr : OpZF P fs (off + n) m f' wf') :
    OpZF P (fl :: fs) off (n + m) (fun x : α × β => f x.1 ++ f' x.2) (fun x => wf x.1 ∧ wf' x.2) := by
  intro H enc w base spare held fuel cs hx hl
  obtain ⟨y, hy, hz⟩ := hx 0 fl rfl
  obtain ⟨a, hK, hw⟩ := hf enc w base spare held fuel _ y hy hz
  obtain ⟨b, hK2, hw2⟩ := hr enc w base spare held fuel cs (fun j g hg => hx (j + 1) g hg) (by omega)
  rw [ho, hc] at hK
  refine ⟨(a, b), ?_, hw, hw2⟩
  have := RVs0.append hK hK2
  rwa [← List.drop_drop, List.take_append_drop] at this
theorem OpZ.struct {fs : Array Field} {n : Nat} (ht : P.underlying t = some (.struct fs)) (hf : OpZF P fs.toList 0 n f wf) (hc : P.cellsOf t = n) : OpZ P t f wf := by
  intro H enc w base spare held fuel cs x h hz
  obtain ⟨xs, m, rfl, rfl, hlen, hxl, hget⟩ := DataW.trod_struct ht h
  simp only [DataW.weights, ht] at hz
  obtain ⟨a, hK, hw⟩ := hf enc w base spare held m cs (fun j fl hj => by
    have hj' : fs[j]? = some fl := by simpa using hj
    have hjl : j < fs.size := (Array.getElem?_eq_some_iff.1 hj').1
    refine ⟨_, (hget j fl hj').trans (List.getElem?_eq_getElem (by omega)), fun n hn => hz n ?_⟩
    refine DataW.weights_mem_each (j := j) (t := fl.type) (d := (xs[j]'(by omega)).1) ?_ ?_ n hn
    · rw [List.getElem?_map, hj]; rfl
    · rw [List.getElem?_map, List.getElem?_eq_getElem (by omega)]; rfl) (by omega)
  exact ⟨a, by simpa using hK, hw⟩
theorem OpZ.iso {g : β → List AV} (h : OpZ P t f wf) (to : α → β) (hg : ∀ a, g (to a) = f a) (hw : ∀ a, wf a → wf' (to a)) : OpZ P t g wf' := by
  intro H enc w base spare held fuel cs x hx hz
  obtain ⟨a, hk, hwf⟩ := h enc w base spare held fuel cs x hx hz
  exact ⟨to a, by rw [hg]; exact hk, hw a hwf⟩
end
end Go.Abs
set_option maxRecDepth 100000
namespace Go.Abs.Dest
open Go.RowKit Go.Proofs
abbrev wfI (n : Int) : Prop := (Lit.int .i64 n).wf = true
def wfIs (l : List Int) : Prop := l.length ≤ maxLen ∧ ∀ x ∈ l, wfI x
def wfB (b : Bf) : Prop := wfI b.n ∧ wfI b.lo ∧ wfI b.hi ∧ wfIs b.to
theorem opInt : OpA Tryz.prog 3 (fun n : Int => [.int .i64 n]) wfI := OpA.int Tryz.underlying3
theorem opInts : OpA Tryz.prog 35 (fun l : List Int => [aI l]) wfIs := OpA.slice Tryz.underlying35 (by kernel_rfl) ci_emb opInt
theorem opBf : OpA Tryz.prog 70 cBf wfB :=
  OpA.iso (OpA.struct (n := 1 + (1 + (1 + 1))) Tryz.underlying70 (OpAF.cons opInt rfl (by kernel_rfl) (OpAF.cons opInt rfl (by kernel_rfl) (OpAF.cons opInt rfl (by kernel_rfl) (OpAF.one opInts rfl (by kernel_rfl))))) (by kernel_rfl)) (fun a => ⟨a.1, a.2.1, a.2.2.1, a.2.2.2⟩) (fun _ => rfl) (fun _ h => h)
theorem opBfs : OpA Tryz.prog 24 (fun l : List Bf => [aB l]) (fun l => l.length ≤ maxLen ∧ ∀ x ∈ l, wfB x) := OpA.slice Tryz.underlying24 (by kernel_rfl) cBf_emb opBf
theorem opCode : OpA Tryz.prog 28 (fun x : Int × Int => [.int .i64 x.1, .int .i64 x.2]) (fun x => wfI x.1 ∧ wfI x.2) :=
  OpA.iso (OpA.struct (n := 1 + 1) Tryz.underlying28 (OpAF.cons opInt rfl (by kernel_rfl) (OpAF.one opInt rfl (by kernel_rfl))) (by kernel_rfl)) (fun a => a) (fun _ => rfl) (fun _ h => h)
end Go.Abs.Dest
set_option maxRecDepth 100000
namespace Go.Abs.Coll
open Go.RowKit Go.Proofs Go.Abs.Dest Go.Abs.Span
theorem wfI_rng {n : Int} (h : wfI n) : -9223372036854775808 ≤ n ∧ n ≤ 9223372036854775807 := by
  have h : (decide (IntKind.i64.min ≤ n) && decide (n ≤ IntKind.i64.max)) = true := h
  rw [Bool.and_eq_true, decide_eq_true_eq, decide_eq_true_eq] at h
  exact h
def wfR (r : Rct) : Prop := wfI r.n ∧ wfI r.lo ∧ wfI r.hi
def wfS (s : Spn) : Prop := wfI s.n ∧ wfI s.lo ∧ wfI s.hi ∧ wfI s.to
def wfT (t : Tbl) : Prop := t.name.size ≤ maxLen ∧ wfI t.wmode ∧ (t.spaces.length ≤ maxLen ∧ ∀ x ∈ t.spaces, wfR x) ∧ (t.cids.length ≤ maxLen ∧ ∀ x ∈ t.cids, wfS x) ∧ (t.nots.length ≤ maxLen ∧ ∀ x ∈ t.nots, wfS x) ∧ (t.bfs.length ≤ maxLen ∧ ∀ x ∈ t.bfs, wfB x)
theorem opStr : OpA Tryz.prog 9 (fun s : ByteArray => [.str s]) (fun s => s.size ≤ maxLen) := OpA.string Tryz.underlying9
theorem opRct : OpA Tryz.prog 68 cR wfR :=
  OpA.iso (OpA.struct (n := 1 + (1 + 1)) Tryz.underlying68 (OpAF.cons opInt rfl (by kernel_rfl) (OpAF.cons opInt rfl (by kernel_rfl) (OpAF.one opInt rfl (by kernel_rfl)))) (by kernel_rfl)) (fun a => ⟨a.1, a.2.1, a.2.2⟩) (fun _ => rfl) (fun _ h => h)
theorem opSpn : OpA Tryz.prog 72 cSp wfS :=
  OpA.iso (OpA.struct (n := 1 + (1 + (1 + 1))) Tryz.underlying72 (OpAF.cons opInt rfl (by kernel_rfl) (OpAF.cons opInt rfl (by kernel_rfl) (OpAF.cons opInt rfl (by kernel_rfl) (OpAF.one opInt rfl (by kernel_rfl))))) (by kernel_rfl)) (fun a => ⟨a.1, a.2.1, a.2.2.1, a.2.2.2⟩) (fun _ => rfl) (fun _ h => h)
theorem opRcts : OpA Tryz.prog 22 (fun l : List Rct => [aR l]) (fun l => l.length ≤ maxLen ∧ ∀ x ∈ l, wfR x) := OpA.slice Tryz.underlying22 (by kernel_rfl) cR_emb opRct
theorem opSpns : OpA Tryz.prog 23 (fun l : List Spn => [aS l]) (fun l => l.length ≤ maxLen ∧ ∀ x ∈ l, wfS x) := OpA.slice Tryz.underlying23 (by kernel_rfl) cSp_emb opSpn
theorem opTbl : OpA Tryz.prog 26 cT wfT :=
  OpA.iso (OpA.struct (n := 1 + (1 + (1 + (1 + (1 + 1))))) Tryz.underlying26 (OpAF.cons opStr rfl (by kernel_rfl) (OpAF.cons opInt rfl (by kernel_rfl) (OpAF.cons opRcts rfl (by kernel_rfl) (OpAF.cons opSpns rfl (by kernel_rfl) (OpAF.cons opSpns rfl (by kernel_rfl) (OpAF.one opBfs rfl (by kernel_rfl))))))) (by kernel_rfl)) (fun a => ⟨a.1, a.2.1, a.2.2.1, a.2.2.2.1, a.2.2.2.2.1, a.2.2.2.2.2⟩) (fun _ => rfl) (fun _ h => h)
end Go.Abs.Coll
set_option maxRecDepth 100000
namespace Go.Abs.Hx
open Go.RowKit Go.Proofs
abbrev wf8 (n : Int) : Prop := (Lit.int .u8 n).wf = true
theorem wf8_rng {n : Int} (h : wf8 n) : 0 ≤ n ∧ n ≤ 255 := by
  have h : (decide (IntKind.u8.min ≤ n) && decide (n ≤ IntKind.u8.max)) = true := h
  rw [Bool.and_eq_true, decide_eq_true_eq, decide_eq_true_eq] at h
  exact h
theorem opB8 : OpA Tryz.prog 29 (fun l : List Int => [a8 l]) (fun l => l.length ≤ maxLen ∧ ∀ x ∈ l, wf8 x) := OpA.slice Tryz.underlying29 (by kernel_rfl) c8_emb (OpA.int Tryz.underlying5)
end Go.Abs.Hx
set_option maxRecDepth 100000
namespace Go.Abs.Sm
open Go.RowKit Go.Proofs Go.Abs.Tab Go.Abs.Dest Go.Abs.Span Go.Abs.Coll Go.Abs.Hx Go.Abs.Mt Go.Abs.Rc
def cU (u : List Int) : List AV := [aI u]
theorem cU_emb : Emb cU 1 := fun x => ⟨rfl, ⟨⟨⟨rfl⟩, els_of ci_emb (n := 0) (fun _ _ => rfl)⟩, trivial⟩, rfl⟩
def cE (e : Ent) : List AV := [.int .i64 e.ln, .int .i64 e.lv, .int .i64 e.hn, .int .i64 e.hv, .int .i64 e.to, aI e.u, aL cU 1 e.l]
theorem cE_emb : Emb cE 7 := fun x => ⟨rfl, ⟨⟨rfl⟩, ⟨rfl⟩, ⟨rfl⟩, ⟨rfl⟩, ⟨rfl⟩, ⟨⟨rfl⟩, els_of ci_emb (n := 0) (fun _ _ => rfl)⟩, ⟨⟨rfl⟩, els_of cU_emb (n := 0) (fun _ _ => rfl)⟩, trivial⟩, rfl⟩
abbrev aE (l : List Ent) : AV := aL cE 7 l
def cX (x : Itm) : List AV := [.int .i64 x.kind, .int .i64 x.at_, .str x.name, .int .i64 x.tk, .int .i64 x.ta, .int .i64 x.tn, .str x.ts, aE x.ents]
theorem cX_emb : Emb cX 8 := fun x => ⟨rfl, ⟨⟨rfl⟩, ⟨rfl⟩, ⟨rfl⟩, ⟨rfl⟩, ⟨rfl⟩, ⟨rfl⟩, ⟨rfl⟩, ⟨⟨rfl⟩, els_of cE_emb (n := 0) (fun _ _ => rfl)⟩, trivial⟩, rfl⟩
abbrev aX (l : List Itm) : AV := aL cX 8 l
theorem getE {l : List Ent} {i : Nat} (h : i < l.length) : l.getD i default = l[i] := by simp [List.getD, h]
theorem getX {l : List Itm} {i : Nat} (h : i < l.length) : l.getD i default = l[i] := by simp [List.getD, h]
theorem str_eq (a b : ByteArray) : (a.toList == b.toList) = true ↔ a = b := by
  rw [beq_iff_eq, ByteArray.toList_eq, ByteArray.toList_eq]
  exact ⟨fun h => ByteArray.ext (Array.ext' h), fun h => by rw [h]⟩
theorem str_ne (a b : ByteArray) : (a.toList == b.toList) = false ↔ a ≠ b := by
  rw [← Bool.not_eq_true, str_eq]
/-! ### Definitions -/
def defT (t : Tbl) (x : Itm) : Tbl := ⟨if isName x then x.ts else t.name, if isMode x then x.tn else t.wmode, t.spaces, t.cids, t.nots, t.bfs⟩
def SDef : Sp := ⟨Tbl × Itm, fun _ => True, fun (t, x) => [.agg (cT t), .agg (cX x)], fun (t, x) => .st (.agg (cT (defT t x)))⟩
set_option maxHeartbeats 8000000 in
theorem define : SpOK Tryz.prog 68 SDef := fun ⟨t, x⟩ _ => by
  have hC := base
  have q1 : (x.name.toList == nameK.toList) = true ↔ x.name = nameK := str_eq _ _
  have q2 : (x.name.toList == modeK.toList) = true ↔ x.name = modeK := str_eq _ _
  by_cases hN : isName x
  · have hM := not_both hN
    show Fn _ _ _ (.st (.agg (cT (defT t x))))
    rw [show defT t x = ⟨x.ts, t.wmode, t.spaces, t.cids, t.nots, t.bfs⟩ by unfold defT; rw [if_pos hN, if_neg hM]]
    have h1 := q1.2 hN.1
    have h2 : (x.tk == 2) = true := by rw [beq_iff_eq]; exact hN.2
    unfold nameK at h1
    ((refine Fn.ofF hC Tryz.func68 Tryz.ntmps68 rfl rfl rfl ?_); (repeat' first | (with_reducible exact trivial) | (with_reducible rfl) | (refine And.intro ?_ ?_) | (refine Need.mk ?_) | exact True.intro | (first | (refine ⟨_, Told.refl _, ?_, ?_⟩) | (refine ⟨⟨_, _⟩, Told.refl _, ?_, ?_⟩) | (refine ⟨⟨_, _, _⟩, Told.refl _, ?_, ?_⟩) | (refine ⟨⟨_, _, _, _⟩, Told.refl _, ?_, ?_⟩) | (refine ⟨⟨_, _, _, _, _⟩, Told.refl _, ?_, ?_⟩) | (refine ⟨(), Told.refl _, ?_, ?_⟩)) | (with_reducible intro _) | (refine fun (_ : Bool) => ?_)))
    all_goals first
      | rfl
      | (exfalso; simp_all; done)
  · by_cases hM : isMode x
    · show Fn _ _ _ (.st (.agg (cT (defT t x))))
      rw [show defT t x = ⟨t.name, x.tn, t.spaces, t.cids, t.nots, t.bfs⟩ by unfold defT; rw [if_neg hN, if_pos hM]]
      have h1 := q2.2 hM.1
      have h2 : (x.tk == 1) = true := by rw [beq_iff_eq]; exact hM.2.1
      have h3 : (x.tn == 0) = true ∨ (x.tn == 1) = true := by rw [beq_iff_eq, beq_iff_eq]; exact hM.2.2
      have h4 : ¬ ((x.name.toList == nameK.toList) = true ∧ (x.tk == 2) = true) := fun ⟨a, b⟩ => hN ⟨q1.1 a, by simpa using b⟩
      unfold modeK at h1
      unfold nameK at h4
      ((refine Fn.ofF hC Tryz.func68 Tryz.ntmps68 rfl rfl rfl ?_); (repeat' first | (with_reducible exact trivial) | (with_reducible rfl) | (refine And.intro ?_ ?_) | (refine Need.mk ?_) | exact True.intro | (first | (refine ⟨_, Told.refl _, ?_, ?_⟩) | (refine ⟨⟨_, _⟩, Told.refl _, ?_, ?_⟩) | (refine ⟨⟨_, _, _⟩, Told.refl _, ?_, ?_⟩) | (refine ⟨⟨_, _, _, _⟩, Told.refl _, ?_, ?_⟩) | (refine ⟨⟨_, _, _, _, _⟩, Told.refl _, ?_, ?_⟩) | (refine ⟨(), Told.refl _, ?_, ?_⟩)) | (with_reducible intro _) | (refine fun (_ : Bool) => ?_)))
      all_goals first
        | rfl
        | (exfalso; simp_all; done)
    · show Fn _ _ _ (.st (.agg (cT (defT t x))))
      rw [show defT t x = t by unfold defT; rw [if_neg hN, if_neg hM]]
      have h4 : ¬ ((x.name.toList == nameK.toList) = true ∧ (x.tk == 2) = true) := fun ⟨a, b⟩ => hN ⟨q1.1 a, by simpa using b⟩
      have h5 : ¬ ((x.name.toList == modeK.toList) = true ∧ (x.tk == 1) = true ∧ ((x.tn == 0) = true ∨ (x.tn == 1) = true)) := fun ⟨a, b, c⟩ => hM ⟨q2.1 a, by simpa using b, by simpa using c⟩
      unfold nameK at h4
      unfold modeK at h5
      ((refine Fn.ofF hC Tryz.func68 Tryz.ntmps68 rfl rfl rfl ?_); (repeat' first | (with_reducible exact trivial) | (with_reducible rfl) | (refine And.intro ?_ ?_) | (refine Need.mk ?_) | exact True.intro | (first | (refine ⟨_, Told.refl _, ?_, ?_⟩) | (refine ⟨⟨_, _⟩, Told.refl _, ?_, ?_⟩) | (refine ⟨⟨_, _, _⟩, Told.refl _, ?_, ?_⟩) | (refine ⟨⟨_, _, _, _⟩, Told.refl _, ?_, ?_⟩) | (refine ⟨⟨_, _, _, _, _⟩, Told.refl _, ?_, ?_⟩) | (refine ⟨(), Told.refl _, ?_, ?_⟩)) | (with_reducible intro _) | (refine fun (_ : Bool) => ?_)))
      all_goals first
        | rfl
        | (exfalso; simp_all; done)
/-! ### Entries -/
def SRectOf : Sp := ⟨Ent, fun _ => True, fun e => [.agg (cE e)], fun e => .row 68 3 1 (els cR [rectE e])⟩
theorem rectOf : SpOK Tryz.prog 70 SRectOf := fun (e : Ent) _ => by
  have hC := base
  ((refine Fn.ofF hC Tryz.func70 Tryz.ntmps70 rfl rfl rfl ?_); (repeat' first | (with_reducible exact trivial) | (with_reducible rfl) | (refine And.intro ?_ ?_) | (refine Need.mk ?_) | exact True.intro | (first | (refine ⟨_, Told.refl _, ?_, ?_⟩) | (refine ⟨⟨_, _⟩, Told.refl _, ?_, ?_⟩) | (refine ⟨⟨_, _, _⟩, Told.refl _, ?_, ?_⟩) | (refine ⟨⟨_, _, _, _⟩, Told.refl _, ?_, ?_⟩) | (refine ⟨⟨_, _, _, _, _⟩, Told.refl _, ?_, ?_⟩) | (refine ⟨(), Told.refl _, ?_, ?_⟩)) | (with_reducible intro _) | (refine fun (_ : Bool) => ?_)))
  all_goals first
    | rfl
    | (rename_i i hi
       obtain rfl : i = 0 := by omega
       exact (cR_emb (rectE e)).2.1)
    | (rename_i i hi
       exact els_of cR_emb (l := [rectE e]) (n := 0) (elt_list [rectE e]) i hi)
def SSpanOf : Sp := ⟨Ent, fun _ => True, fun e => [.agg (cE e)], fun e => .row 72 4 1 (els cSp [spanE e])⟩
theorem spanOf : SpOK Tryz.prog 72 SSpanOf := fun (e : Ent) _ => by
  have hC := base
  ((refine Fn.ofF hC Tryz.func72 Tryz.ntmps72 rfl rfl rfl ?_); (repeat' first | (with_reducible exact trivial) | (with_reducible rfl) | (refine And.intro ?_ ?_) | (refine Need.mk ?_) | exact True.intro | (first | (refine ⟨_, Told.refl _, ?_, ?_⟩) | (refine ⟨⟨_, _⟩, Told.refl _, ?_, ?_⟩) | (refine ⟨⟨_, _, _⟩, Told.refl _, ?_, ?_⟩) | (refine ⟨⟨_, _, _, _⟩, Told.refl _, ?_, ?_⟩) | (refine ⟨⟨_, _, _, _, _⟩, Told.refl _, ?_, ?_⟩) | (refine ⟨(), Told.refl _, ?_, ?_⟩)) | (with_reducible intro _) | (refine fun (_ : Bool) => ?_)))
  all_goals first
    | rfl
    | (rename_i i hi
       exact els_of cSp_emb (l := [spanE e]) (n := 0) (elt_list [spanE e]) i hi)
def bfK (e : Ent) (k : Nat) : Bf := ⟨e.ln, IntKind.i64.wrap (e.lv + (k : Int)), IntKind.i64.wrap (e.lv + (k : Int)), e.l.getD k default⟩
def bfN (e : Ent) (k : Nat) : List Bf := (List.range k).map (bfK e)
theorem bfN_next (e : Ent) (k : Nat) : bfN e (k + 1) = bfN e k ++ [bfK e k] := by unfold bfN; rw [List.range_succ, List.map_append]; rfl
theorem bfN_len (e : Ent) (k : Nat) : (bfN e k).length = k := by unfold bfN; simp
def SBfsOf : Sp := ⟨Ent, fun e => e.l.length ≤ 1000000, fun e => [.agg (cE e)], fun e => .row 70 4 (bfsE e).length (els cBf (bfsE e))⟩
set_option maxHeartbeats 8000000 in
theorem bfsOf : SpOK Tryz.prog 74 SBfsOf := fun (e : Ent) hl => by
  have hC := base
  have hl : e.l.length ≤ 1000000 := hl
  by_cases h0 : e.l.length = 0
  · show Fn _ _ _ (.row 70 4 (bfsE e).length (els cBf (bfsE e)))
    rw [show bfsE e = [⟨e.ln, e.lv, e.hv, e.u⟩] from if_pos h0]
    have hd : ((e.l.length : Int) == 0) = true := by rw [beq_iff_eq]; omega
    ((refine Fn.ofF hC Tryz.func74 Tryz.ntmps74 rfl rfl rfl ?_); (repeat' first | (with_reducible exact trivial) | (with_reducible rfl) | (refine And.intro ?_ ?_) | (refine Need.mk ?_) | exact True.intro | (first | (refine ⟨_, Told.refl _, ?_, ?_⟩) | (refine ⟨⟨_, _⟩, Told.refl _, ?_, ?_⟩) | (refine ⟨⟨_, _, _⟩, Told.refl _, ?_, ?_⟩) | (refine ⟨⟨_, _, _, _⟩, Told.refl _, ?_, ?_⟩) | (refine ⟨⟨_, _, _, _, _⟩, Told.refl _, ?_, ?_⟩) | (refine ⟨(), Told.refl _, ?_, ?_⟩)) | (with_reducible intro _) | (refine fun (_ : Bool) => ?_)))
    all_goals first
      | rfl
      | (exfalso; simp_all; done)
      | (rename_i i hi
         exact els_of cBf_emb (l := [(⟨e.ln, e.lv, e.hv, e.u⟩ : Bf)]) (n := 0) (elt_list [(⟨e.ln, e.lv, e.hv, e.u⟩ : Bf)]) i hi)
      | (exact absurd ‹((e.l.length : Int) == 0) = false› (by rw [hd]; decide))
  · show Fn _ _ _ (.row 70 4 (bfsE e).length (els cBf (bfsE e)))
    rw [show bfsE e = bfN e e.l.length from if_neg h0]
    have hd : ((e.l.length : Int) == 0) = false := by rw [beq_eq_false_iff_ne]; omega
    ((refine Fn.ofF hC Tryz.func74 Tryz.ntmps74 rfl rfl rfl ?_); (repeat' first | (with_reducible exact trivial) | (with_reducible rfl) | (refine And.intro ?_ ?_) | (refine Need.mk ?_) | exact True.intro | (first | (refine ⟨_, Told.refl _, ?_, ?_⟩) | (refine ⟨⟨_, _⟩, Told.refl _, ?_, ?_⟩) | (refine ⟨⟨_, _, _⟩, Told.refl _, ?_, ?_⟩) | (refine ⟨⟨_, _, _, _⟩, Told.refl _, ?_, ?_⟩) | (refine ⟨⟨_, _, _, _, _⟩, Told.refl _, ?_, ?_⟩) | (refine ⟨(), Told.refl _, ?_, ?_⟩)) | (with_reducible intro _) | (refine fun (_ : Bool) => ?_)))
    all_goals first | (exact absurd ‹((e.l.length : Int) == 0) = true› (by rw [hd]; decide)) | skip
    refine AW.loop (I := fun k : Nat => ⟨51, [(1, .ptr 0 0), (3, .own 1), (24, aL cU 1 e.l), (25, .int .i64 e.l.length), (26, .int .i64 k)], [.box 106 (cE e), .row 70 4 (bfN e k).length (els cBf (bfN e k))]⟩) (fun k => k ≤ e.l.length) (fun k => e.l.length - k) 0 (Nat.zero_le _) ?_ ?_
    · (repeat' first | (with_reducible exact trivial) | (with_reducible rfl) | (refine And.intro ?_ ?_) | (refine Need.mk ?_) | exact True.intro | (first | (refine ⟨_, Told.refl _, ?_, ?_⟩) | (refine ⟨⟨_, _⟩, Told.refl _, ?_, ?_⟩) | (refine ⟨⟨_, _, _⟩, Told.refl _, ?_, ?_⟩) | (refine ⟨⟨_, _, _, _⟩, Told.refl _, ?_, ?_⟩) | (refine ⟨⟨_, _, _, _, _⟩, Told.refl _, ?_, ?_⟩) | (refine ⟨(), Told.refl _, ?_, ?_⟩)) | (with_reducible intro _) | (refine fun (_ : Bool) => ?_))
      all_goals rfl
    · intro k hk
      have hml := bfN_len e k
      rcases Nat.lt_or_ge k e.l.length with hlt | hge
      · have hd : decide ((k : Int) < (e.l.length : Int)) = true := decide_eq_true (by omega)
        have hw := iw (n := (k : Int) + 1) (by omega) (by omega)
        have hnx := bfN_next e k
        ((refine AW.byF ‹_› ?_); (repeat' first | (with_reducible exact trivial) | (with_reducible rfl) | (refine And.intro ?_ ?_) | (refine Need.mk ?_) | exact True.intro | (first | (refine ⟨_, Told.refl _, ?_, ?_⟩) | (refine ⟨⟨_, _⟩, Told.refl _, ?_, ?_⟩) | (refine ⟨⟨_, _, _⟩, Told.refl _, ?_, ?_⟩) | (refine ⟨⟨_, _, _, _⟩, Told.refl _, ?_, ?_⟩) | (refine ⟨⟨_, _, _, _, _⟩, Told.refl _, ?_, ?_⟩) | (refine ⟨(), Told.refl _, ?_, ?_⟩)) | (with_reducible intro _) | (refine fun (_ : Bool) => ?_)))
        all_goals first | (exact absurd ‹decide ((k : Int) < (e.l.length : Int)) = false› (by rw [hd]; decide)) | skip
        any_goals (refine Exists.intro ((k + 1 : Nat)) (And.intro ?_ (And.intro ?_ ?_)); all_goals (repeat' first | (with_reducible exact trivial) | (with_reducible rfl) | (refine And.intro ?_ ?_) | (refine Need.mk ?_) | exact True.intro | (first | (refine ⟨_, Told.refl _, ?_, ?_⟩) | (refine ⟨⟨_, _⟩, Told.refl _, ?_, ?_⟩) | (refine ⟨⟨_, _, _⟩, Told.refl _, ?_, ?_⟩) | (refine ⟨⟨_, _, _, _⟩, Told.refl _, ?_, ?_⟩) | (refine ⟨⟨_, _, _, _, _⟩, Told.refl _, ?_, ?_⟩) | (refine ⟨(), Told.refl _, ?_, ?_⟩)) | (with_reducible intro _) | (refine fun (_ : Bool) => ?_)))
        all_goals try simp only [Int.toNat_natCast] at *
        all_goals first
          | omega
          | (rw [hw]; rfl)
          | (rw [hnx, List.length_append]; rfl)
          | (rename_i z hz
             rw [hnx] at hz ⊢
             exact els_of cBf_emb (n := 0) (cat_snoc rfl) z hz)
      · obtain rfl : k = e.l.length := by omega
        have hd : decide ((e.l.length : Int) < (e.l.length : Int)) = false := decide_eq_false (by omega)
        ((refine AW.byF ‹_› ?_); (repeat' first | (with_reducible exact trivial) | (with_reducible rfl) | (refine And.intro ?_ ?_) | (refine Need.mk ?_) | exact True.intro | (first | (refine ⟨_, Told.refl _, ?_, ?_⟩) | (refine ⟨⟨_, _⟩, Told.refl _, ?_, ?_⟩) | (refine ⟨⟨_, _, _⟩, Told.refl _, ?_, ?_⟩) | (refine ⟨⟨_, _, _, _⟩, Told.refl _, ?_, ?_⟩) | (refine ⟨⟨_, _, _, _, _⟩, Told.refl _, ?_, ?_⟩) | (refine ⟨(), Told.refl _, ?_, ?_⟩)) | (with_reducible intro _) | (refine fun (_ : Bool) => ?_)))
        all_goals first | (exact absurd ‹decide ((e.l.length : Int) < (e.l.length : Int)) = true› (by rw [hd]; decide)) | skip
/-! ### Rows, cloned -/
def SClR : Sp := ⟨List Rct, fun l => l.length ≤ 1000000000, fun l => [aR l], fun l => .row 68 3 l.length (els cR l)⟩
theorem cloneR : SpOK Tryz.prog 111 SClR := fun (l : List Rct) h => by
  have hC := base
  have h : l.length ≤ 1000000000 := h
  ((refine Fn.ofF hC Tryz.func111 Tryz.ntmps111 rfl rfl rfl ?_); (repeat' first | (with_reducible exact trivial) | (with_reducible rfl) | (refine And.intro ?_ ?_) | (refine Need.mk ?_) | exact True.intro | (first | (refine ⟨_, Told.refl _, ?_, ?_⟩) | (refine ⟨⟨_, _⟩, Told.refl _, ?_, ?_⟩) | (refine ⟨⟨_, _, _⟩, Told.refl _, ?_, ?_⟩) | (refine ⟨⟨_, _, _, _⟩, Told.refl _, ?_, ?_⟩) | (refine ⟨⟨_, _, _, _, _⟩, Told.refl _, ?_, ?_⟩) | (refine ⟨(), Told.refl _, ?_, ?_⟩)) | (with_reducible intro _) | (refine fun (_ : Bool) => ?_)))
  · rename_i q1 q2
    exact q1 q2
  · dsimp only
    omega
  · omega
  all_goals rfl
def SClS : Sp := ⟨List Spn, fun l => l.length ≤ 1000000000, fun l => [aS l], fun l => .row 72 4 l.length (els cSp l)⟩
theorem cloneS : SpOK Tryz.prog 112 SClS := fun (l : List Spn) h => by
  have hC := base
  have h : l.length ≤ 1000000000 := h
  ((refine Fn.ofF hC Tryz.func112 Tryz.ntmps112 rfl rfl rfl ?_); (repeat' first | (with_reducible exact trivial) | (with_reducible rfl) | (refine And.intro ?_ ?_) | (refine Need.mk ?_) | exact True.intro | (first | (refine ⟨_, Told.refl _, ?_, ?_⟩) | (refine ⟨⟨_, _⟩, Told.refl _, ?_, ?_⟩) | (refine ⟨⟨_, _, _⟩, Told.refl _, ?_, ?_⟩) | (refine ⟨⟨_, _, _, _⟩, Told.refl _, ?_, ?_⟩) | (refine ⟨⟨_, _, _, _, _⟩, Told.refl _, ?_, ?_⟩) | (refine ⟨(), Told.refl _, ?_, ?_⟩)) | (with_reducible intro _) | (refine fun (_ : Bool) => ?_)))
  · rename_i q1 q2
    exact q1 q2
  · dsimp only
    omega
  · omega
  all_goals rfl
def SClB : Sp := ⟨List Bf, fun l => l.length ≤ 1000000000, fun l => [aB l], fun l => .row 70 4 l.length (els cBf l)⟩
theorem cloneB : SpOK Tryz.prog 113 SClB := fun (l : List Bf) h => by
  have hC := base
  have h : l.length ≤ 1000000000 := h
  ((refine Fn.ofF hC Tryz.func113 Tryz.ntmps113 rfl rfl rfl ?_); (repeat' first | (with_reducible exact trivial) | (with_reducible rfl) | (refine And.intro ?_ ?_) | (refine Need.mk ?_) | exact True.intro | (first | (refine ⟨_, Told.refl _, ?_, ?_⟩) | (refine ⟨⟨_, _⟩, Told.refl _, ?_, ?_⟩) | (refine ⟨⟨_, _, _⟩, Told.refl _, ?_, ?_⟩) | (refine ⟨⟨_, _, _, _⟩, Told.refl _, ?_, ?_⟩) | (refine ⟨⟨_, _, _, _, _⟩, Told.refl _, ?_, ?_⟩) | (refine ⟨(), Told.refl _, ?_, ?_⟩)) | (with_reducible intro _) | (refine fun (_ : Bool) => ?_)))
  · rename_i q1 q2
    exact q1 q2
  · dsimp only
    omega
  · omega
  all_goals first
    | rfl
    | (exact els_of ci_emb (n := 0) (fun _ _ => rfl) _ ‹_›)
/-! ### What entries say, behind a list -/
theorem take_nextE {l : List Ent} {k : Nat} (hk : k < l.length) : l.take (k + 1) = l.take k ++ [l.getD k default] := by
  rw [List.take_succ_eq_append_getElem hk, getE hk]
def SListR : Sp := ⟨List Rct × Itm, fun (l, x) => l.length ≤ 1000000 ∧ x.ents.length ≤ 1000000, fun (l, x) => [aR l, .agg (cX x), .fn 70 []], fun (l, x) => .row 68 3 (l ++ x.ents.map rectE).length (els cR (l ++ x.ents.map rectE))⟩
set_option maxHeartbeats 8000000 in
theorem listedR : SpOK Tryz.prog 69 SListR := fun ⟨l, x⟩ ⟨h1, h2⟩ => by
  have hC : COK Tryz.prog (cfg [(111, SClR), (70, SRectOf)]) := Ty.ty.cfg ⟨cloneR, rectOf, trivial⟩
  have h1 : l.length ≤ 1000000 := h1
  have h2 : x.ents.length ≤ 1000000 := h2
  ((refine Fn.ofF hC Tryz.func69 Tryz.ntmps69 rfl rfl rfl ?_); (repeat' first | (with_reducible exact trivial) | (with_reducible rfl) | (refine And.intro ?_ ?_) | (refine Need.mk ?_) | exact True.intro | (first | (refine ⟨_, Told.refl _, ?_, ?_⟩) | (refine ⟨⟨_, _⟩, Told.refl _, ?_, ?_⟩) | (refine ⟨⟨_, _, _⟩, Told.refl _, ?_, ?_⟩) | (refine ⟨⟨_, _, _, _⟩, Told.refl _, ?_, ?_⟩) | (refine ⟨⟨_, _, _, _, _⟩, Told.refl _, ?_, ?_⟩) | (refine ⟨(), Told.refl _, ?_, ?_⟩)) | (with_reducible intro _) | (refine fun (_ : Bool) => ?_)))
  · show l.length ≤ 1000000000
    omega
  refine AW.loop (I := fun k : Nat => ⟨26, [(2, .fn 70 []), (7, .own 0), (13, aE x.ents), (14, .int .i64 x.ents.length), (15, .int .i64 k)], [.row 68 3 (l ++ (x.ents.take k).map rectE).length (els cR (l ++ (x.ents.take k).map rectE))]⟩) (fun k => k ≤ x.ents.length) (fun k => x.ents.length - k) 0 (Nat.zero_le _) ?_ ?_
  · (repeat' first | (with_reducible exact trivial) | (with_reducible rfl) | (refine And.intro ?_ ?_) | (refine Need.mk ?_) | exact True.intro | (first | (refine ⟨_, Told.refl _, ?_, ?_⟩) | (refine ⟨⟨_, _⟩, Told.refl _, ?_, ?_⟩) | (refine ⟨⟨_, _, _⟩, Told.refl _, ?_, ?_⟩) | (refine ⟨⟨_, _, _, _⟩, Told.refl _, ?_, ?_⟩) | (refine ⟨⟨_, _, _, _, _⟩, Told.refl _, ?_, ?_⟩) | (refine ⟨(), Told.refl _, ?_, ?_⟩)) | (with_reducible intro _) | (refine fun (_ : Bool) => ?_))
    all_goals first
      | rfl
      | (simp; done)
      | (rename_i z hz
         exact els_of cR_emb (n := 0) (fun _ _ => by simp [els]) z hz)
  · intro k hk
    have hml : (l ++ (x.ents.take k).map rectE).length = l.length + k := by rw [List.length_append, List.length_map, List.length_take]; omega
    rcases Nat.lt_or_ge k x.ents.length with hlt | hge
    · have hd : decide ((k : Int) < (x.ents.length : Int)) = true := decide_eq_true (by omega)
      have hw := iw (n := (k : Int) + 1) (by omega) (by omega)
      have hnx : l ++ (x.ents.take (k + 1)).map rectE = l ++ (x.ents.take k).map rectE ++ [rectE (x.ents.getD k default)] := by rw [take_nextE hlt, List.map_append, List.append_assoc]; rfl
      ((refine AW.byF ‹_› ?_); (repeat' first | (with_reducible exact trivial) | (with_reducible rfl) | (refine And.intro ?_ ?_) | (refine Need.mk ?_) | exact True.intro | (first | (refine ⟨_, Told.refl _, ?_, ?_⟩) | (refine ⟨⟨_, _⟩, Told.refl _, ?_, ?_⟩) | (refine ⟨⟨_, _, _⟩, Told.refl _, ?_, ?_⟩) | (refine ⟨⟨_, _, _, _⟩, Told.refl _, ?_, ?_⟩) | (refine ⟨⟨_, _, _, _, _⟩, Told.refl _, ?_, ?_⟩) | (refine ⟨(), Told.refl _, ?_, ?_⟩)) | (with_reducible intro _) | (refine fun (_ : Bool) => ?_)))
      all_goals first | (exact absurd ‹decide ((k : Int) < (x.ents.length : Int)) = false› (by rw [hd]; decide)) | skip
      any_goals (refine Exists.intro ((k + 1 : Nat)) (And.intro ?_ (And.intro ?_ ?_)); all_goals (repeat' first | (with_reducible exact trivial) | (with_reducible rfl) | (refine And.intro ?_ ?_) | (refine Need.mk ?_) | exact True.intro | (first | (refine ⟨_, Told.refl _, ?_, ?_⟩) | (refine ⟨⟨_, _⟩, Told.refl _, ?_, ?_⟩) | (refine ⟨⟨_, _, _⟩, Told.refl _, ?_, ?_⟩) | (refine ⟨⟨_, _, _, _⟩, Told.refl _, ?_, ?_⟩) | (refine ⟨⟨_, _, _, _, _⟩, Told.refl _, ?_, ?_⟩) | (refine ⟨(), Told.refl _, ?_, ?_⟩)) | (with_reducible intro _) | (refine fun (_ : Bool) => ?_)))
      all_goals try simp only [Int.toNat_natCast] at *
      all_goals first
        | omega
        | (rw [hw]; rfl)
        | (rw [hnx]; simp only [List.length_append, List.length_singleton]; done)
        | (rename_i z hz
           rw [hnx] at hz ⊢
           exact els_of cR_emb (n := 0) (cat_app rfl) z hz)
    · obtain rfl : k = x.ents.length := by omega
      have hd : decide ((x.ents.length : Int) < (x.ents.length : Int)) = false := decide_eq_false (by omega)
      ((refine AW.byF ‹_› ?_); (repeat' first | (with_reducible exact trivial) | (with_reducible rfl) | (refine And.intro ?_ ?_) | (refine Need.mk ?_) | exact True.intro | (first | (refine ⟨_, Told.refl _, ?_, ?_⟩) | (refine ⟨⟨_, _⟩, Told.refl _, ?_, ?_⟩) | (refine ⟨⟨_, _, _⟩, Told.refl _, ?_, ?_⟩) | (refine ⟨⟨_, _, _, _⟩, Told.refl _, ?_, ?_⟩) | (refine ⟨⟨_, _, _, _, _⟩, Told.refl _, ?_, ?_⟩) | (refine ⟨(), Told.refl _, ?_, ?_⟩)) | (with_reducible intro _) | (refine fun (_ : Bool) => ?_)))
      all_goals first | (exact absurd ‹decide ((x.ents.length : Int) < (x.ents.length : Int)) = true› (by rw [hd]; decide)) | skip
      all_goals rw [List.take_length]
      all_goals try rfl
def SListS : Sp := ⟨List Spn × Itm, fun (l, x) => l.length ≤ 1000000 ∧ x.ents.length ≤ 1000000, fun (l, x) => [aS l, .agg (cX x), .fn 72 []], fun (l, x) => .row 72 4 (l ++ x.ents.map spanE).length (els cSp (l ++ x.ents.map spanE))⟩
set_option maxHeartbeats 8000000 in
theorem listedS : SpOK Tryz.prog 71 SListS := fun ⟨l, x⟩ ⟨h1, h2⟩ => by
  have hC : COK Tryz.prog (cfg [(112, SClS), (72, SSpanOf)]) := Ty.ty.cfg ⟨cloneS, spanOf, trivial⟩
  have h1 : l.length ≤ 1000000 := h1
  have h2 : x.ents.length ≤ 1000000 := h2
  ((refine Fn.ofF hC Tryz.func71 Tryz.ntmps71 rfl rfl rfl ?_); (repeat' first | (with_reducible exact trivial) | (with_reducible rfl) | (refine And.intro ?_ ?_) | (refine Need.mk ?_) | exact True.intro | (first | (refine ⟨_, Told.refl _, ?_, ?_⟩) | (refine ⟨⟨_, _⟩, Told.refl _, ?_, ?_⟩) | (refine ⟨⟨_, _, _⟩, Told.refl _, ?_, ?_⟩) | (refine ⟨⟨_, _, _, _⟩, Told.refl _, ?_, ?_⟩) | (refine ⟨⟨_, _, _, _, _⟩, Told.refl _, ?_, ?_⟩) | (refine ⟨(), Told.refl _, ?_, ?_⟩)) | (with_reducible intro _) | (refine fun (_ : Bool) => ?_)))
  · show l.length ≤ 1000000000
    omega
  refine AW.loop (I := fun k : Nat => ⟨26, [(2, .fn 72 []), (7, .own 0), (13, aE x.ents), (14, .int .i64 x.ents.length), (15, .int .i64 k)], [.row 72 4 (l ++ (x.ents.take k).map spanE).length (els cSp (l ++ (x.ents.take k).map spanE))]⟩) (fun k => k ≤ x.ents.length) (fun k => x.ents.length - k) 0 (Nat.zero_le _) ?_ ?_
  · (repeat' first | (with_reducible exact trivial) | (with_reducible rfl) | (refine And.intro ?_ ?_) | (refine Need.mk ?_) | exact True.intro | (first | (refine ⟨_, Told.refl _, ?_, ?_⟩) | (refine ⟨⟨_, _⟩, Told.refl _, ?_, ?_⟩) | (refine ⟨⟨_, _, _⟩, Told.refl _, ?_, ?_⟩) | (refine ⟨⟨_, _, _, _⟩, Told.refl _, ?_, ?_⟩) | (refine ⟨⟨_, _, _, _, _⟩, Told.refl _, ?_, ?_⟩) | (refine ⟨(), Told.refl _, ?_, ?_⟩)) | (with_reducible intro _) | (refine fun (_ : Bool) => ?_))
    all_goals first
      | rfl
      | (simp; done)
      | (rename_i z hz
         exact els_of cSp_emb (n := 0) (fun _ _ => by simp [els]) z hz)
  · intro k hk
    have hml : (l ++ (x.ents.take k).map spanE).length = l.length + k := by rw [List.length_append, List.length_map, List.length_take]; omega
    rcases Nat.lt_or_ge k x.ents.length with hlt | hge
    · have hd : decide ((k : Int) < (x.ents.length : Int)) = true := decide_eq_true (by omega)
      have hw := iw (n := (k : Int) + 1) (by omega) (by omega)
      have hnx : l ++ (x.ents.take (k + 1)).map spanE = l ++ (x.ents.take k).map spanE ++ [spanE (x.ents.getD k default)] := by rw [take_nextE hlt, List.map_append, List.append_assoc]; rfl
      ((refine AW.byF ‹_› ?_); (repeat' first | (with_reducible exact trivial) | (with_reducible rfl) | (refine And.intro ?_ ?_) | (refine Need.mk ?_) | exact True.intro | (first | (refine ⟨_, Told.refl _, ?_, ?_⟩) | (refine ⟨⟨_, _⟩, Told.refl _, ?_, ?_⟩) | (refine ⟨⟨_, _, _⟩, Told.refl _, ?_, ?_⟩) | (refine ⟨⟨_, _, _, _⟩, Told.refl _, ?_, ?_⟩) | (refine ⟨⟨_, _, _, _, _⟩, Told.refl _, ?_, ?_⟩) | (refine ⟨(), Told.refl _, ?_, ?_⟩)) | (with_reducible intro _) | (refine fun (_ : Bool) => ?_)))
      all_goals first | (exact absurd ‹decide ((k : Int) < (x.ents.length : Int)) = false› (by rw [hd]; decide)) | skip
      any_goals (refine Exists.intro ((k + 1 : Nat)) (And.intro ?_ (And.intro ?_ ?_)); all_goals (repeat' first | (with_reducible exact trivial) | (with_reducible rfl) | (refine And.intro ?_ ?_) | (refine Need.mk ?_) | exact True.intro | (first | (refine ⟨_, Told.refl _, ?_, ?_⟩) | (refine ⟨⟨_, _⟩, Told.refl _, ?_, ?_⟩) | (refine ⟨⟨_, _, _⟩, Told.refl _, ?_, ?_⟩) | (refine ⟨⟨_, _, _, _⟩, Told.refl _, ?_, ?_⟩) | (refine ⟨⟨_, _, _, _, _⟩, Told.refl _, ?_, ?_⟩) | (refine ⟨(), Told.refl _, ?_, ?_⟩)) | (with_reducible intro _) | (refine fun (_ : Bool) => ?_)))
      all_goals try simp only [Int.toNat_natCast] at *
      all_goals first
        | omega
        | (rw [hw]; rfl)
        | (rw [hnx]; simp only [List.length_append, List.length_singleton]; done)
        | (rename_i z hz
           rw [hnx] at hz ⊢
           exact els_of cSp_emb (n := 0) (cat_app rfl) z hz)
    · obtain rfl : k = x.ents.length := by omega
      have hd : decide ((x.ents.length : Int) < (x.ents.length : Int)) = false := decide_eq_false (by omega)
      ((refine AW.byF ‹_› ?_); (repeat' first | (with_reducible exact trivial) | (with_reducible rfl) | (refine And.intro ?_ ?_) | (refine Need.mk ?_) | exact True.intro | (first | (refine ⟨_, Told.refl _, ?_, ?_⟩) | (refine ⟨⟨_, _⟩, Told.refl _, ?_, ?_⟩) | (refine ⟨⟨_, _, _⟩, Told.refl _, ?_, ?_⟩) | (refine ⟨⟨_, _, _, _⟩, Told.refl _, ?_, ?_⟩) | (refine ⟨⟨_, _, _, _, _⟩, Told.refl _, ?_, ?_⟩) | (refine ⟨(), Told.refl _, ?_, ?_⟩)) | (with_reducible intro _) | (refine fun (_ : Bool) => ?_)))
      all_goals first | (exact absurd ‹decide ((x.ents.length : Int) < (x.ents.length : Int)) = true› (by rw [hd]; decide)) | skip
      all_goals rw [List.take_length]
      all_goals try rfl
theorem bfsE_len (e : Ent) : (bfsE e).length = if e.l.length = 0 then 1 else e.l.length := by
  unfold bfsE
  by_cases h : e.l.length = 0
  · rw [if_pos h, if_pos h]; rfl
  · rw [if_neg h, if_neg h]; simp
theorem flat_take {l : List Ent} (k : Nat) : ((l.take k).flatMap bfsE).length ≤ (l.flatMap bfsE).length := by
  have : l.flatMap bfsE = (l.take k).flatMap bfsE ++ (l.drop k).flatMap bfsE := by rw [← List.flatMap_append, List.take_append_drop]
  rw [this, List.length_append]
  omega
theorem flat_at {l : List Ent} {k : Nat} (hk : k < l.length) : (bfsE (l.getD k default)).length ≤ (l.flatMap bfsE).length := by
  have h := flat_take (l := l) (k + 1)
  rw [take_nextE hk, List.flatMap_append, List.length_append] at h
  simp at h ⊢
  omega
def SListB : Sp := ⟨List Bf × Itm, fun (l, x) => l.length ≤ 1000000 ∧ x.ents.length ≤ 1000000 ∧ (x.ents.flatMap bfsE).length ≤ 1000000, fun (l, x) => [aB l, .agg (cX x), .fn 74 []], fun (l, x) => .row 70 4 (l ++ x.ents.flatMap bfsE).length (els cBf (l ++ x.ents.flatMap bfsE))⟩
set_option maxHeartbeats 8000000 in
theorem listedB : SpOK Tryz.prog 73 SListB := fun ⟨l, x⟩ ⟨h1, h2, h3⟩ => by
  have hC : COK Tryz.prog (cfg [(113, SClB), (74, SBfsOf)]) := Ty.ty.cfg ⟨cloneB, bfsOf, trivial⟩
  have h1 : l.length ≤ 1000000 := h1
  have h2 : x.ents.length ≤ 1000000 := h2
  have h3 : (x.ents.flatMap bfsE).length ≤ 1000000 := h3
  ((refine Fn.ofF hC Tryz.func73 Tryz.ntmps73 rfl rfl rfl ?_); (repeat' first | (with_reducible exact trivial) | (with_reducible rfl) | (refine And.intro ?_ ?_) | (refine Need.mk ?_) | exact True.intro | (first | (refine ⟨_, Told.refl _, ?_, ?_⟩) | (refine ⟨⟨_, _⟩, Told.refl _, ?_, ?_⟩) | (refine ⟨⟨_, _, _⟩, Told.refl _, ?_, ?_⟩) | (refine ⟨⟨_, _, _, _⟩, Told.refl _, ?_, ?_⟩) | (refine ⟨⟨_, _, _, _, _⟩, Told.refl _, ?_, ?_⟩) | (refine ⟨(), Told.refl _, ?_, ?_⟩)) | (with_reducible intro _) | (refine fun (_ : Bool) => ?_)))
  · show l.length ≤ 1000000000
    omega
  refine AW.loop (I := fun k : Nat => ⟨26, [(2, .fn 74 []), (7, .own 0), (13, aE x.ents), (14, .int .i64 x.ents.length), (15, .int .i64 k)], [.row 70 4 (l ++ (x.ents.take k).flatMap bfsE).length (els cBf (l ++ (x.ents.take k).flatMap bfsE))]⟩) (fun k => k ≤ x.ents.length) (fun k => x.ents.length - k) 0 (Nat.zero_le _) ?_ ?_
  · (repeat' first | (with_reducible exact trivial) | (with_reducible rfl) | (refine And.intro ?_ ?_) | (refine Need.mk ?_) | exact True.intro | (first | (refine ⟨_, Told.refl _, ?_, ?_⟩) | (refine ⟨⟨_, _⟩, Told.refl _, ?_, ?_⟩) | (refine ⟨⟨_, _, _⟩, Told.refl _, ?_, ?_⟩) | (refine ⟨⟨_, _, _, _⟩, Told.refl _, ?_, ?_⟩) | (refine ⟨⟨_, _, _, _, _⟩, Told.refl _, ?_, ?_⟩) | (refine ⟨(), Told.refl _, ?_, ?_⟩)) | (with_reducible intro _) | (refine fun (_ : Bool) => ?_))
    all_goals first
      | rfl
      | (simp; done)
      | (rename_i z hz
         exact els_of cBf_emb (n := 0) (fun _ _ => by simp [els]) z hz)
  · intro k hk
    have hml : (l ++ (x.ents.take k).flatMap bfsE).length ≤ 2000000 := by
      have := flat_take (l := x.ents) k
      rw [List.length_append]
      omega
    rcases Nat.lt_or_ge k x.ents.length with hlt | hge
    · have hd : decide ((k : Int) < (x.ents.length : Int)) = true := decide_eq_true (by omega)
      have hw := iw (n := (k : Int) + 1) (by omega) (by omega)
      have hnx : l ++ (x.ents.take (k + 1)).flatMap bfsE = l ++ (x.ents.take k).flatMap bfsE ++ bfsE (x.ents.getD k default) := by rw [take_nextE hlt, List.flatMap_append, List.append_assoc]; simp
      have hbl := flat_at hlt
      have hel : (x.ents.getD k default).l.length ≤ 1000000 := by
        have := bfsE_len (x.ents.getD k default)
        split at this <;> omega
      ((refine AW.byF ‹_› ?_); (repeat' first | (with_reducible exact trivial) | (with_reducible rfl) | (refine And.intro ?_ ?_) | (refine Need.mk ?_) | exact True.intro | (first | (refine ⟨_, Told.refl _, ?_, ?_⟩) | (refine ⟨⟨_, _⟩, Told.refl _, ?_, ?_⟩) | (refine ⟨⟨_, _, _⟩, Told.refl _, ?_, ?_⟩) | (refine ⟨⟨_, _, _, _⟩, Told.refl _, ?_, ?_⟩) | (refine ⟨⟨_, _, _, _, _⟩, Told.refl _, ?_, ?_⟩) | (refine ⟨(), Told.refl _, ?_, ?_⟩)) | (with_reducible intro _) | (refine fun (_ : Bool) => ?_)))
      all_goals first | (exact absurd ‹decide ((k : Int) < (x.ents.length : Int)) = false› (by rw [hd]; decide)) | skip
      any_goals (refine Exists.intro ((k + 1 : Nat)) (And.intro ?_ (And.intro ?_ ?_)); all_goals (repeat' first | (with_reducible exact trivial) | (with_reducible rfl) | (refine And.intro ?_ ?_) | (refine Need.mk ?_) | exact True.intro | (first | (refine ⟨_, Told.refl _, ?_, ?_⟩) | (refine ⟨⟨_, _⟩, Told.refl _, ?_, ?_⟩) | (refine ⟨⟨_, _, _⟩, Told.refl _, ?_, ?_⟩) | (refine ⟨⟨_, _, _, _⟩, Told.refl _, ?_, ?_⟩) | (refine ⟨⟨_, _, _, _, _⟩, Told.refl _, ?_, ?_⟩) | (refine ⟨(), Told.refl _, ?_, ?_⟩)) | (with_reducible intro _) | (refine fun (_ : Bool) => ?_)))
      all_goals try simp only [Int.toNat_natCast] at *
      all_goals first
        | omega
        | exact hel
        | (rw [hw]; rfl)
        | (rw [hnx]; simp only [List.length_append]; done)
        | (rename_i z hz
           rw [hnx] at hz ⊢
           exact els_of cBf_emb (n := 0) (cat_app rfl) z hz)
    · obtain rfl : k = x.ents.length := by omega
      have hd : decide ((x.ents.length : Int) < (x.ents.length : Int)) = false := decide_eq_false (by omega)
      ((refine AW.byF ‹_› ?_); (repeat' first | (with_reducible exact trivial) | (with_reducible rfl) | (refine And.intro ?_ ?_) | (refine Need.mk ?_) | exact True.intro | (first | (refine ⟨_, Told.refl _, ?_, ?_⟩) | (refine ⟨⟨_, _⟩, Told.refl _, ?_, ?_⟩) | (refine ⟨⟨_, _, _⟩, Told.refl _, ?_, ?_⟩) | (refine ⟨⟨_, _, _, _⟩, Told.refl _, ?_, ?_⟩) | (refine ⟨⟨_, _, _, _, _⟩, Told.refl _, ?_, ?_⟩) | (refine ⟨(), Told.refl _, ?_, ?_⟩)) | (with_reducible intro _) | (refine fun (_ : Bool) => ?_)))
      all_goals first | (exact absurd ‹decide ((x.ents.length : Int) < (x.ents.length : Int)) = true› (by rw [hd]; decide)) | skip
      all_goals rw [List.take_length]
      all_goals try rfl
end Go.Abs.Sm
set_option maxRecDepth 100000
namespace Go.Abs.Sm
open Go.RowKit Go.Proofs Go.Abs.Tab Go.Abs.Dest Go.Abs.Span Go.Abs.Coll Go.Abs.Hx Go.Abs.Mt Go.Abs.Rc
def few6 (t : Tbl) : Prop := t.spaces.length ≤ 1000000 ∧ t.cids.length ≤ 1000000 ∧ t.nots.length ≤ 1000000 ∧ t.bfs.length ≤ 1000000
/-! ### Lists put together -/
def SBuilt : Sp := ⟨Tbl × Int, fun (t, _) => few6 t, fun (t, k) => [.agg (cT t), .int .i64 k], fun (t, k) => .st (.agg (cT (builtT t k)))⟩
abbrev bL : List (FuncId × Sp) := [(105, SCanR), (107, SBuildS), (110, Dest.SBuild)]
theorem bC_ok {c1 c2 c3 c4 : Code} (h1 : Tryz.f104.body = some c1) (h2 : Tryz.f106.body = some c2) (h3 : Tryz.f108.body = some c3) (h4 : Tryz.f109.body = some c4) :
    COK Tryz.prog (cfgN [(104, ⟨5, [], c1⟩), (106, ⟨5, [], c2⟩), (108, ⟨5, [], c3⟩), (109, ⟨5, [], c4⟩)] bL) :=
  Ty.ty.cfgN ⟨⟨_, Tryz.func104, rfl, h1, rfl, rfl⟩, ⟨_, Tryz.func106, rfl, h2, rfl, rfl⟩, ⟨_, Tryz.func108, rfl, h3, rfl, rfl⟩, ⟨_, Tryz.func109, rfl, h4, rfl, rfl⟩, trivial⟩ ⟨rectCanon, buildS, Dest.build, trivial⟩
set_option maxHeartbeats 16000000 in
theorem built2 (t : Tbl) (h : few6 t) : Fn Tryz.prog 67 [.agg (cT t), .int .i64 2] (.st (.agg (cT ⟨t.name, t.wmode, canR t.spaces, t.cids, t.nots, t.bfs⟩))) := by
  have hC := bC_ok rfl rfl rfl rfl
  obtain ⟨h1, h2, h3, h4⟩ := h
  ((refine Fn.ofF hC Tryz.func67 Tryz.ntmps67 rfl rfl rfl ?_); (repeat' first | (with_reducible exact trivial) | (with_reducible rfl) | (refine And.intro ?_ ?_) | (refine Need.mk ?_) | exact True.intro | (first | (refine ⟨_, Told.refl _, ?_, ?_⟩) | (refine ⟨⟨_, _⟩, Told.refl _, ?_, ?_⟩) | (refine ⟨⟨_, _, _⟩, Told.refl _, ?_, ?_⟩) | (refine ⟨⟨_, _, _, _⟩, Told.refl _, ?_, ?_⟩) | (refine ⟨⟨_, _, _, _, _⟩, Told.refl _, ?_, ?_⟩) | (refine ⟨(), Told.refl _, ?_, ?_⟩)) | (with_reducible intro _) | (refine fun (_ : Bool) => ?_)))
  all_goals first | (clear hC; exfalso; simp [IntKind.wrap_i64] at *; done) | skip
  refine fun (tm : Array Value) => ?_
  ((refine AW.byF ‹_› ?_); (repeat' first | (with_reducible exact trivial) | (with_reducible rfl) | (refine And.intro ?_ ?_) | (refine Need.mk ?_) | exact True.intro | (first | (refine ⟨_, Told.refl _, ?_, ?_⟩) | (refine ⟨⟨_, _⟩, Told.refl _, ?_, ?_⟩) | (refine ⟨⟨_, _, _⟩, Told.refl _, ?_, ?_⟩) | (refine ⟨⟨_, _, _, _⟩, Told.refl _, ?_, ?_⟩) | (refine ⟨⟨_, _, _, _, _⟩, Told.refl _, ?_, ?_⟩) | (refine ⟨(), Told.refl _, ?_, ?_⟩)) | (with_reducible intro _) | (refine fun (_ : Bool) => ?_)))
  all_goals first
    | exact h1
    | (show _ ≤ 100000000; omega)
    | rfl
    | skip
set_option maxHeartbeats 16000000 in
theorem built3 (t : Tbl) (h : few6 t) : Fn Tryz.prog 67 [.agg (cT t), .int .i64 3] (.st (.agg (cT ⟨t.name, t.wmode, t.spaces, (ES true).build t.cids, t.nots, t.bfs⟩))) := by
  have hC := bC_ok rfl rfl rfl rfl
  obtain ⟨h1, h2, h3, h4⟩ := h
  ((refine Fn.ofF hC Tryz.func67 Tryz.ntmps67 rfl rfl rfl ?_); (repeat' first | (with_reducible exact trivial) | (with_reducible rfl) | (refine And.intro ?_ ?_) | (refine Need.mk ?_) | exact True.intro | (first | (refine ⟨_, Told.refl _, ?_, ?_⟩) | (refine ⟨⟨_, _⟩, Told.refl _, ?_, ?_⟩) | (refine ⟨⟨_, _, _⟩, Told.refl _, ?_, ?_⟩) | (refine ⟨⟨_, _, _, _⟩, Told.refl _, ?_, ?_⟩) | (refine ⟨⟨_, _, _, _, _⟩, Told.refl _, ?_, ?_⟩) | (refine ⟨(), Told.refl _, ?_, ?_⟩)) | (with_reducible intro _) | (refine fun (_ : Bool) => ?_)))
  all_goals first | (clear hC; exfalso; simp [IntKind.wrap_i64] at *; done) | skip
  refine fun (tm : Array Value) => ?_
  ((refine AW.byF ‹_› ?_); (repeat' first | (with_reducible exact trivial) | (with_reducible rfl) | (refine And.intro ?_ ?_) | (refine Need.mk ?_) | exact True.intro | (first | (refine ⟨_, Told.refl _, ?_, ?_⟩) | (refine ⟨⟨_, _⟩, Told.refl _, ?_, ?_⟩) | (refine ⟨⟨_, _, _⟩, Told.refl _, ?_, ?_⟩) | (refine ⟨⟨_, _, _, _⟩, Told.refl _, ?_, ?_⟩) | (refine ⟨⟨_, _, _, _, _⟩, Told.refl _, ?_, ?_⟩) | (refine ⟨(), Told.refl _, ?_, ?_⟩)) | (with_reducible intro _) | (refine fun (_ : Bool) => ?_)))
  all_goals first
    | exact h2
    | (show _ ≤ 100000000; omega)
    | rfl
    | skip
set_option maxHeartbeats 16000000 in
theorem built4 (t : Tbl) (h : few6 t) : Fn Tryz.prog 67 [.agg (cT t), .int .i64 4] (.st (.agg (cT ⟨t.name, t.wmode, t.spaces, (ES true).build t.cids, t.nots, t.bfs⟩))) := by
  have hC := bC_ok rfl rfl rfl rfl
  obtain ⟨h1, h2, h3, h4⟩ := h
  ((refine Fn.ofF hC Tryz.func67 Tryz.ntmps67 rfl rfl rfl ?_); (repeat' first | (with_reducible exact trivial) | (with_reducible rfl) | (refine And.intro ?_ ?_) | (refine Need.mk ?_) | exact True.intro | (first | (refine ⟨_, Told.refl _, ?_, ?_⟩) | (refine ⟨⟨_, _⟩, Told.refl _, ?_, ?_⟩) | (refine ⟨⟨_, _, _⟩, Told.refl _, ?_, ?_⟩) | (refine ⟨⟨_, _, _, _⟩, Told.refl _, ?_, ?_⟩) | (refine ⟨⟨_, _, _, _, _⟩, Told.refl _, ?_, ?_⟩) | (refine ⟨(), Told.refl _, ?_, ?_⟩)) | (with_reducible intro _) | (refine fun (_ : Bool) => ?_)))
  all_goals first | (clear hC; exfalso; simp [IntKind.wrap_i64] at *; done) | skip
  refine fun (tm : Array Value) => ?_
  ((refine AW.byF ‹_› ?_); (repeat' first | (with_reducible exact trivial) | (with_reducible rfl) | (refine And.intro ?_ ?_) | (refine Need.mk ?_) | exact True.intro | (first | (refine ⟨_, Told.refl _, ?_, ?_⟩) | (refine ⟨⟨_, _⟩, Told.refl _, ?_, ?_⟩) | (refine ⟨⟨_, _, _⟩, Told.refl _, ?_, ?_⟩) | (refine ⟨⟨_, _, _, _⟩, Told.refl _, ?_, ?_⟩) | (refine ⟨⟨_, _, _, _, _⟩, Told.refl _, ?_, ?_⟩) | (refine ⟨(), Told.refl _, ?_, ?_⟩)) | (with_reducible intro _) | (refine fun (_ : Bool) => ?_)))
  all_goals first
    | exact h2
    | (show _ ≤ 100000000; omega)
    | rfl
    | skip
set_option maxHeartbeats 16000000 in
theorem built5 (t : Tbl) (h : few6 t) : Fn Tryz.prog 67 [.agg (cT t), .int .i64 5] (.st (.agg (cT ⟨t.name, t.wmode, t.spaces, t.cids, (ES false).build t.nots, t.bfs⟩))) := by
  have hC := bC_ok rfl rfl rfl rfl
  obtain ⟨h1, h2, h3, h4⟩ := h
  ((refine Fn.ofF hC Tryz.func67 Tryz.ntmps67 rfl rfl rfl ?_); (repeat' first | (with_reducible exact trivial) | (with_reducible rfl) | (refine And.intro ?_ ?_) | (refine Need.mk ?_) | exact True.intro | (first | (refine ⟨_, Told.refl _, ?_, ?_⟩) | (refine ⟨⟨_, _⟩, Told.refl _, ?_, ?_⟩) | (refine ⟨⟨_, _, _⟩, Told.refl _, ?_, ?_⟩) | (refine ⟨⟨_, _, _, _⟩, Told.refl _, ?_, ?_⟩) | (refine ⟨⟨_, _, _, _, _⟩, Told.refl _, ?_, ?_⟩) | (refine ⟨(), Told.refl _, ?_, ?_⟩)) | (with_reducible intro _) | (refine fun (_ : Bool) => ?_)))
  all_goals first | (clear hC; exfalso; simp [IntKind.wrap_i64] at *; done) | skip
  refine fun (tm : Array Value) => ?_
  ((refine AW.byF ‹_› ?_); (repeat' first | (with_reducible exact trivial) | (with_reducible rfl) | (refine And.intro ?_ ?_) | (refine Need.mk ?_) | exact True.intro | (first | (refine ⟨_, Told.refl _, ?_, ?_⟩) | (refine ⟨⟨_, _⟩, Told.refl _, ?_, ?_⟩) | (refine ⟨⟨_, _, _⟩, Told.refl _, ?_, ?_⟩) | (refine ⟨⟨_, _, _, _⟩, Told.refl _, ?_, ?_⟩) | (refine ⟨⟨_, _, _, _, _⟩, Told.refl _, ?_, ?_⟩) | (refine ⟨(), Told.refl _, ?_, ?_⟩)) | (with_reducible intro _) | (refine fun (_ : Bool) => ?_)))
  all_goals first
    | exact h3
    | (show _ ≤ 100000000; omega)
    | rfl
    | skip
set_option maxHeartbeats 16000000 in
theorem built6 (t : Tbl) (h : few6 t) : Fn Tryz.prog 67 [.agg (cT t), .int .i64 6] (.st (.agg (cT ⟨t.name, t.wmode, t.spaces, t.cids, (ES false).build t.nots, t.bfs⟩))) := by
  have hC := bC_ok rfl rfl rfl rfl
  obtain ⟨h1, h2, h3, h4⟩ := h
  ((refine Fn.ofF hC Tryz.func67 Tryz.ntmps67 rfl rfl rfl ?_); (repeat' first | (with_reducible exact trivial) | (with_reducible rfl) | (refine And.intro ?_ ?_) | (refine Need.mk ?_) | exact True.intro | (first | (refine ⟨_, Told.refl _, ?_, ?_⟩) | (refine ⟨⟨_, _⟩, Told.refl _, ?_, ?_⟩) | (refine ⟨⟨_, _, _⟩, Told.refl _, ?_, ?_⟩) | (refine ⟨⟨_, _, _, _⟩, Told.refl _, ?_, ?_⟩) | (refine ⟨⟨_, _, _, _, _⟩, Told.refl _, ?_, ?_⟩) | (refine ⟨(), Told.refl _, ?_, ?_⟩)) | (with_reducible intro _) | (refine fun (_ : Bool) => ?_)))
  all_goals first | (clear hC; exfalso; simp [IntKind.wrap_i64] at *; done) | skip
  refine fun (tm : Array Value) => ?_
  ((refine AW.byF ‹_› ?_); (repeat' first | (with_reducible exact trivial) | (with_reducible rfl) | (refine And.intro ?_ ?_) | (refine Need.mk ?_) | exact True.intro | (first | (refine ⟨_, Told.refl _, ?_, ?_⟩) | (refine ⟨⟨_, _⟩, Told.refl _, ?_, ?_⟩) | (refine ⟨⟨_, _, _⟩, Told.refl _, ?_, ?_⟩) | (refine ⟨⟨_, _, _, _⟩, Told.refl _, ?_, ?_⟩) | (refine ⟨⟨_, _, _, _, _⟩, Told.refl _, ?_, ?_⟩) | (refine ⟨(), Told.refl _, ?_, ?_⟩)) | (with_reducible intro _) | (refine fun (_ : Bool) => ?_)))
  all_goals first
    | exact h3
    | (show _ ≤ 100000000; omega)
    | rfl
    | skip
set_option maxHeartbeats 16000000 in
theorem built7 (t : Tbl) (h : few6 t) : Fn Tryz.prog 67 [.agg (cT t), .int .i64 7] (.st (.agg (cT ⟨t.name, t.wmode, t.spaces, t.cids, t.nots, EB.build t.bfs⟩))) := by
  have hC := bC_ok rfl rfl rfl rfl
  obtain ⟨h1, h2, h3, h4⟩ := h
  ((refine Fn.ofF hC Tryz.func67 Tryz.ntmps67 rfl rfl rfl ?_); (repeat' first | (with_reducible exact trivial) | (with_reducible rfl) | (refine And.intro ?_ ?_) | (refine Need.mk ?_) | exact True.intro | (first | (refine ⟨_, Told.refl _, ?_, ?_⟩) | (refine ⟨⟨_, _⟩, Told.refl _, ?_, ?_⟩) | (refine ⟨⟨_, _, _⟩, Told.refl _, ?_, ?_⟩) | (refine ⟨⟨_, _, _, _⟩, Told.refl _, ?_, ?_⟩) | (refine ⟨⟨_, _, _, _, _⟩, Told.refl _, ?_, ?_⟩) | (refine ⟨(), Told.refl _, ?_, ?_⟩)) | (with_reducible intro _) | (refine fun (_ : Bool) => ?_)))
  all_goals first | (clear hC; exfalso; simp [IntKind.wrap_i64] at *; done) | skip
  refine fun (tm : Array Value) => ?_
  ((refine AW.byF ‹_› ?_); (repeat' first | (with_reducible exact trivial) | (with_reducible rfl) | (refine And.intro ?_ ?_) | (refine Need.mk ?_) | exact True.intro | (first | (refine ⟨_, Told.refl _, ?_, ?_⟩) | (refine ⟨⟨_, _⟩, Told.refl _, ?_, ?_⟩) | (refine ⟨⟨_, _, _⟩, Told.refl _, ?_, ?_⟩) | (refine ⟨⟨_, _, _, _⟩, Told.refl _, ?_, ?_⟩) | (refine ⟨⟨_, _, _, _, _⟩, Told.refl _, ?_, ?_⟩) | (refine ⟨(), Told.refl _, ?_, ?_⟩)) | (with_reducible intro _) | (refine fun (_ : Bool) => ?_)))
  all_goals first
    | exact h4
    | (show _ ≤ 100000000; omega)
    | rfl
    | skip
set_option maxHeartbeats 16000000 in
theorem built8 (t : Tbl) (h : few6 t) : Fn Tryz.prog 67 [.agg (cT t), .int .i64 8] (.st (.agg (cT ⟨t.name, t.wmode, t.spaces, t.cids, t.nots, EB.build t.bfs⟩))) := by
  have hC := bC_ok rfl rfl rfl rfl
  obtain ⟨h1, h2, h3, h4⟩ := h
  ((refine Fn.ofF hC Tryz.func67 Tryz.ntmps67 rfl rfl rfl ?_); (repeat' first | (with_reducible exact trivial) | (with_reducible rfl) | (refine And.intro ?_ ?_) | (refine Need.mk ?_) | exact True.intro | (first | (refine ⟨_, Told.refl _, ?_, ?_⟩) | (refine ⟨⟨_, _⟩, Told.refl _, ?_, ?_⟩) | (refine ⟨⟨_, _, _⟩, Told.refl _, ?_, ?_⟩) | (refine ⟨⟨_, _, _, _⟩, Told.refl _, ?_, ?_⟩) | (refine ⟨⟨_, _, _, _, _⟩, Told.refl _, ?_, ?_⟩) | (refine ⟨(), Told.refl _, ?_, ?_⟩)) | (with_reducible intro _) | (refine fun (_ : Bool) => ?_)))
  all_goals first | (clear hC; exfalso; simp [IntKind.wrap_i64] at *; done) | skip
  refine fun (tm : Array Value) => ?_
  ((refine AW.byF ‹_› ?_); (repeat' first | (with_reducible exact trivial) | (with_reducible rfl) | (refine And.intro ?_ ?_) | (refine Need.mk ?_) | exact True.intro | (first | (refine ⟨_, Told.refl _, ?_, ?_⟩) | (refine ⟨⟨_, _⟩, Told.refl _, ?_, ?_⟩) | (refine ⟨⟨_, _, _⟩, Told.refl _, ?_, ?_⟩) | (refine ⟨⟨_, _, _, _⟩, Told.refl _, ?_, ?_⟩) | (refine ⟨⟨_, _, _, _, _⟩, Told.refl _, ?_, ?_⟩) | (refine ⟨(), Told.refl _, ?_, ?_⟩)) | (with_reducible intro _) | (refine fun (_ : Bool) => ?_)))
  all_goals first
    | exact h4
    | (show _ ≤ 100000000; omega)
    | rfl
    | skip
set_option maxHeartbeats 16000000 in
theorem builtN (t : Tbl) (k : Int) (hk : k ≠ 2 ∧ k ≠ 3 ∧ k ≠ 4 ∧ k ≠ 5 ∧ k ≠ 6 ∧ k ≠ 7 ∧ k ≠ 8) : Fn Tryz.prog 67 [.agg (cT t), .int .i64 k] (.st (.agg (cT t))) := by
  have hC := bC_ok rfl rfl rfl rfl
  obtain ⟨k2, k3, k4, k5, k6, k7, k8⟩ := hk
  ((refine Fn.ofF hC Tryz.func67 Tryz.ntmps67 rfl rfl rfl ?_); (repeat' first | (with_reducible exact trivial) | (with_reducible rfl) | (refine And.intro ?_ ?_) | (refine Need.mk ?_) | exact True.intro | (first | (refine ⟨_, Told.refl _, ?_, ?_⟩) | (refine ⟨⟨_, _⟩, Told.refl _, ?_, ?_⟩) | (refine ⟨⟨_, _, _⟩, Told.refl _, ?_, ?_⟩) | (refine ⟨⟨_, _, _, _⟩, Told.refl _, ?_, ?_⟩) | (refine ⟨⟨_, _, _, _, _⟩, Told.refl _, ?_, ?_⟩) | (refine ⟨(), Told.refl _, ?_, ?_⟩)) | (with_reducible intro _) | (refine fun (_ : Bool) => ?_)))
  all_goals first | (clear hC; exfalso; simp only [beq_iff_eq, beq_eq_false_iff_ne, ne_eq] at *; omega) | skip
  all_goals rfl
theorem semBuilt : SpOK Tryz.prog 67 SBuilt := fun ⟨t, k⟩ h => by
  have h : few6 t := h
  show Fn _ _ _ (.st (.agg (cT (builtT t k))))
  have hk : k = 2 ∨ k = 3 ∨ k = 4 ∨ k = 5 ∨ k = 6 ∨ k = 7 ∨ k = 8 ∨ (k ≠ 2 ∧ k ≠ 3 ∧ k ≠ 4 ∧ k ≠ 5 ∧ k ≠ 6 ∧ k ≠ 7 ∧ k ≠ 8) := by omega
  rcases hk with rfl | rfl | rfl | rfl | rfl | rfl | rfl | hk
  · rw [show builtT t 2 = ⟨t.name, t.wmode, canR t.spaces, t.cids, t.nots, t.bfs⟩ by unfold builtT; simp]
    exact built2 t h
  · rw [show builtT t 3 = ⟨t.name, t.wmode, t.spaces, (ES true).build t.cids, t.nots, t.bfs⟩ by unfold builtT; simp]
    exact built3 t h
  · rw [show builtT t 4 = ⟨t.name, t.wmode, t.spaces, (ES true).build t.cids, t.nots, t.bfs⟩ by unfold builtT; simp]
    exact built4 t h
  · rw [show builtT t 5 = ⟨t.name, t.wmode, t.spaces, t.cids, (ES false).build t.nots, t.bfs⟩ by unfold builtT; simp]
    exact built5 t h
  · rw [show builtT t 6 = ⟨t.name, t.wmode, t.spaces, t.cids, (ES false).build t.nots, t.bfs⟩ by unfold builtT; simp]
    exact built6 t h
  · rw [show builtT t 7 = ⟨t.name, t.wmode, t.spaces, t.cids, t.nots, EB.build t.bfs⟩ by unfold builtT; simp]
    exact built7 t h
  · rw [show builtT t 8 = ⟨t.name, t.wmode, t.spaces, t.cids, t.nots, EB.build t.bfs⟩ by unfold builtT; simp]
    exact built8 t h
  · have := builtN t k hk
    obtain ⟨k2, k3, k4, k5, k6, k7, k8⟩ := hk
    rw [show builtT t k = t by unfold builtT; simp [k2, k3, k4, k5, k6, k7, k8]]
    exact this
end Go.Abs.Sm
set_option maxRecDepth 100000
namespace Go.Abs.Sm
open Go.RowKit Go.Proofs Go.Abs.Tab Go.Abs.Dest Go.Abs.Span Go.Abs.Coll Go.Abs.Hx Go.Abs.Mt Go.Abs.Rc
def SList : Sp := ⟨Tbl × Itm, fun (t, x) => few6 t ∧ x.ents.length ≤ 1000000 ∧ (x.ents.flatMap bfsE).length ≤ 1000000, fun (t, x) => [.agg (cT t), .agg (cX x)], fun (t, x) => .st (.agg (cT (listT t x)))⟩
set_option maxHeartbeats 16000000 in
theorem semList : SpOK Tryz.prog 39 SList := fun ⟨t, x⟩ ⟨⟨h1, h2, h3, h4⟩, h5, h6⟩ => by
  have hC : COK Tryz.prog (cfg [(68, SDef), (69, SListR), (71, SListS), (73, SListB)]) := Ty.ty.cfg ⟨define, listedR, listedS, listedB, trivial⟩
  have h5 : x.ents.length ≤ 1000000 := h5
  have h6 : (x.ents.flatMap bfsE).length ≤ 1000000 := h6
  show Fn _ _ _ (.st (.agg (cT (listT t x))))
  have hk : (x.kind = 0 ∨ x.kind = 2 ∨ x.kind = 3 ∨ x.kind = 4 ∨ x.kind = 5 ∨ x.kind = 6 ∨ x.kind = 7 ∨ x.kind = 8) ∨ (x.kind ≠ 0 ∧ x.kind ≠ 2 ∧ x.kind ≠ 3 ∧ x.kind ≠ 4 ∧ x.kind ≠ 5 ∧ x.kind ≠ 6 ∧ x.kind ≠ 7 ∧ x.kind ≠ 8) := by omega
  rcases hk with (hk | hk | hk | hk | hk | hk | hk | hk) | ⟨k0, k2, k3, k4, k5, k6, k7, k8⟩
  · rw [show listT t x = defT t x by unfold listT defT nameX modeX rectsX cidsX notsX bfsX; simp [hk]]
    ((refine Fn.ofF hC Tryz.func39 Tryz.ntmps39 rfl rfl rfl ?_); (repeat' first | (with_reducible exact trivial) | (with_reducible rfl) | (refine And.intro ?_ ?_) | (refine Need.mk ?_) | exact True.intro | (first | (refine ⟨_, Told.refl _, ?_, ?_⟩) | (refine ⟨⟨_, _⟩, Told.refl _, ?_, ?_⟩) | (refine ⟨⟨_, _, _⟩, Told.refl _, ?_, ?_⟩) | (refine ⟨⟨_, _, _, _⟩, Told.refl _, ?_, ?_⟩) | (refine ⟨⟨_, _, _, _, _⟩, Told.refl _, ?_, ?_⟩) | (refine ⟨(), Told.refl _, ?_, ?_⟩)) | (with_reducible intro _) | (refine fun (_ : Bool) => ?_)))
    all_goals first
      | rfl
      | omega
      | (exfalso; simp_all; done)
      | (unfold defT; rfl)
  · rw [show listT t x = ⟨t.name, t.wmode, t.spaces ++ x.ents.map rectE, t.cids, t.nots, t.bfs⟩ by unfold listT nameX modeX rectsX cidsX notsX bfsX; simp [hk]]
    ((refine Fn.ofF hC Tryz.func39 Tryz.ntmps39 rfl rfl rfl ?_); (repeat' first | (with_reducible exact trivial) | (with_reducible rfl) | (refine And.intro ?_ ?_) | (refine Need.mk ?_) | exact True.intro | (first | (refine ⟨_, Told.refl _, ?_, ?_⟩) | (refine ⟨⟨_, _⟩, Told.refl _, ?_, ?_⟩) | (refine ⟨⟨_, _, _⟩, Told.refl _, ?_, ?_⟩) | (refine ⟨⟨_, _, _, _⟩, Told.refl _, ?_, ?_⟩) | (refine ⟨⟨_, _, _, _, _⟩, Told.refl _, ?_, ?_⟩) | (refine ⟨(), Told.refl _, ?_, ?_⟩)) | (with_reducible intro _) | (refine fun (_ : Bool) => ?_)))
    all_goals first
      | rfl
      | omega
      | exact h1
      | (exfalso; simp_all; done)
  · rw [show listT t x = ⟨t.name, t.wmode, t.spaces, t.cids ++ x.ents.map spanE, t.nots, t.bfs⟩ by unfold listT nameX modeX rectsX cidsX notsX bfsX; simp [hk]]
    ((refine Fn.ofF hC Tryz.func39 Tryz.ntmps39 rfl rfl rfl ?_); (repeat' first | (with_reducible exact trivial) | (with_reducible rfl) | (refine And.intro ?_ ?_) | (refine Need.mk ?_) | exact True.intro | (first | (refine ⟨_, Told.refl _, ?_, ?_⟩) | (refine ⟨⟨_, _⟩, Told.refl _, ?_, ?_⟩) | (refine ⟨⟨_, _, _⟩, Told.refl _, ?_, ?_⟩) | (refine ⟨⟨_, _, _, _⟩, Told.refl _, ?_, ?_⟩) | (refine ⟨⟨_, _, _, _, _⟩, Told.refl _, ?_, ?_⟩) | (refine ⟨(), Told.refl _, ?_, ?_⟩)) | (with_reducible intro _) | (refine fun (_ : Bool) => ?_)))
    all_goals first
      | rfl
      | omega
      | exact h2
      | (exfalso; simp_all; done)
  · rw [show listT t x = ⟨t.name, t.wmode, t.spaces, t.cids ++ x.ents.map spanE, t.nots, t.bfs⟩ by unfold listT nameX modeX rectsX cidsX notsX bfsX; simp [hk]]
    ((refine Fn.ofF hC Tryz.func39 Tryz.ntmps39 rfl rfl rfl ?_); (repeat' first | (with_reducible exact trivial) | (with_reducible rfl) | (refine And.intro ?_ ?_) | (refine Need.mk ?_) | exact True.intro | (first | (refine ⟨_, Told.refl _, ?_, ?_⟩) | (refine ⟨⟨_, _⟩, Told.refl _, ?_, ?_⟩) | (refine ⟨⟨_, _, _⟩, Told.refl _, ?_, ?_⟩) | (refine ⟨⟨_, _, _, _⟩, Told.refl _, ?_, ?_⟩) | (refine ⟨⟨_, _, _, _, _⟩, Told.refl _, ?_, ?_⟩) | (refine ⟨(), Told.refl _, ?_, ?_⟩)) | (with_reducible intro _) | (refine fun (_ : Bool) => ?_)))
    all_goals first
      | rfl
      | omega
      | exact h2
      | (exfalso; simp_all; done)
  · rw [show listT t x = ⟨t.name, t.wmode, t.spaces, t.cids, t.nots ++ x.ents.map spanE, t.bfs⟩ by unfold listT nameX modeX rectsX cidsX notsX bfsX; simp [hk]]
    ((refine Fn.ofF hC Tryz.func39 Tryz.ntmps39 rfl rfl rfl ?_); (repeat' first | (with_reducible exact trivial) | (with_reducible rfl) | (refine And.intro ?_ ?_) | (refine Need.mk ?_) | exact True.intro | (first | (refine ⟨_, Told.refl _, ?_, ?_⟩) | (refine ⟨⟨_, _⟩, Told.refl _, ?_, ?_⟩) | (refine ⟨⟨_, _, _⟩, Told.refl _, ?_, ?_⟩) | (refine ⟨⟨_, _, _, _⟩, Told.refl _, ?_, ?_⟩) | (refine ⟨⟨_, _, _, _, _⟩, Told.refl _, ?_, ?_⟩) | (refine ⟨(), Told.refl _, ?_, ?_⟩)) | (with_reducible intro _) | (refine fun (_ : Bool) => ?_)))
    all_goals first
      | rfl
      | omega
      | exact h3
      | (exfalso; simp_all; done)
  · rw [show listT t x = ⟨t.name, t.wmode, t.spaces, t.cids, t.nots ++ x.ents.map spanE, t.bfs⟩ by unfold listT nameX modeX rectsX cidsX notsX bfsX; simp [hk]]
    ((refine Fn.ofF hC Tryz.func39 Tryz.ntmps39 rfl rfl rfl ?_); (repeat' first | (with_reducible exact trivial) | (with_reducible rfl) | (refine And.intro ?_ ?_) | (refine Need.mk ?_) | exact True.intro | (first | (refine ⟨_, Told.refl _, ?_, ?_⟩) | (refine ⟨⟨_, _⟩, Told.refl _, ?_, ?_⟩) | (refine ⟨⟨_, _, _⟩, Told.refl _, ?_, ?_⟩) | (refine ⟨⟨_, _, _, _⟩, Told.refl _, ?_, ?_⟩) | (refine ⟨⟨_, _, _, _, _⟩, Told.refl _, ?_, ?_⟩) | (refine ⟨(), Told.refl _, ?_, ?_⟩)) | (with_reducible intro _) | (refine fun (_ : Bool) => ?_)))
    all_goals first
      | rfl
      | omega
      | exact h3
      | (exfalso; simp_all; done)
  · rw [show listT t x = ⟨t.name, t.wmode, t.spaces, t.cids, t.nots, t.bfs ++ x.ents.flatMap bfsE⟩ by unfold listT nameX modeX rectsX cidsX notsX bfsX; simp [hk]]
    ((refine Fn.ofF hC Tryz.func39 Tryz.ntmps39 rfl rfl rfl ?_); (repeat' first | (with_reducible exact trivial) | (with_reducible rfl) | (refine And.intro ?_ ?_) | (refine Need.mk ?_) | exact True.intro | (first | (refine ⟨_, Told.refl _, ?_, ?_⟩) | (refine ⟨⟨_, _⟩, Told.refl _, ?_, ?_⟩) | (refine ⟨⟨_, _, _⟩, Told.refl _, ?_, ?_⟩) | (refine ⟨⟨_, _, _, _⟩, Told.refl _, ?_, ?_⟩) | (refine ⟨⟨_, _, _, _, _⟩, Told.refl _, ?_, ?_⟩) | (refine ⟨(), Told.refl _, ?_, ?_⟩)) | (with_reducible intro _) | (refine fun (_ : Bool) => ?_)))
    all_goals first
      | rfl
      | omega
      | exact h4
      | (exfalso; simp_all; done)
  · rw [show listT t x = ⟨t.name, t.wmode, t.spaces, t.cids, t.nots, t.bfs ++ x.ents.flatMap bfsE⟩ by unfold listT nameX modeX rectsX cidsX notsX bfsX; simp [hk]]
    ((refine Fn.ofF hC Tryz.func39 Tryz.ntmps39 rfl rfl rfl ?_); (repeat' first | (with_reducible exact trivial) | (with_reducible rfl) | (refine And.intro ?_ ?_) | (refine Need.mk ?_) | exact True.intro | (first | (refine ⟨_, Told.refl _, ?_, ?_⟩) | (refine ⟨⟨_, _⟩, Told.refl _, ?_, ?_⟩) | (refine ⟨⟨_, _, _⟩, Told.refl _, ?_, ?_⟩) | (refine ⟨⟨_, _, _, _⟩, Told.refl _, ?_, ?_⟩) | (refine ⟨⟨_, _, _, _, _⟩, Told.refl _, ?_, ?_⟩) | (refine ⟨(), Told.refl _, ?_, ?_⟩)) | (with_reducible intro _) | (refine fun (_ : Bool) => ?_)))
    all_goals first
      | rfl
      | omega
      | exact h4
      | (exfalso; simp_all; done)
  · rw [show listT t x = t by unfold listT nameX modeX rectsX cidsX notsX bfsX; simp [k0, k2, k3, k4, k5, k6, k7, k8]]
    ((refine Fn.ofF hC Tryz.func39 Tryz.ntmps39 rfl rfl rfl ?_); (repeat' first | (with_reducible exact trivial) | (with_reducible rfl) | (refine And.intro ?_ ?_) | (refine Need.mk ?_) | exact True.intro | (first | (refine ⟨_, Told.refl _, ?_, ?_⟩) | (refine ⟨⟨_, _⟩, Told.refl _, ?_, ?_⟩) | (refine ⟨⟨_, _, _⟩, Told.refl _, ?_, ?_⟩) | (refine ⟨⟨_, _, _, _⟩, Told.refl _, ?_, ?_⟩) | (refine ⟨⟨_, _, _, _, _⟩, Told.refl _, ?_, ?_⟩) | (refine ⟨(), Told.refl _, ?_, ?_⟩)) | (with_reducible intro _) | (refine fun (_ : Bool) => ?_)))
    all_goals first
      | rfl
      | omega
      | (exfalso; simp_all; done)
/-! ### Items -/
def cntX (x : Itm) : Nat := x.ents.length + (x.ents.flatMap bfsE).length
def cntL (l : List Itm) : Nat := (l.map cntX).sum
theorem cntL_app (a b : List Itm) : cntL (a ++ b) = cntL a + cntL b := by unfold cntL; rw [List.map_append, List.sum_append]
theorem cntL_take (l : List Itm) (k : Nat) : cntL (l.take k) ≤ cntL l := by
  have h := cntL_app (l.take k) (l.drop k)
  rw [List.take_append_drop] at h
  omega
theorem cntL_at {l : List Itm} {k : Nat} (hk : k < l.length) : cntX (l.getD k default) ≤ cntL l := by
  have h := cntL_app (l.take k) (l.drop k)
  rw [List.take_append_drop, List.drop_eq_getElem_cons hk, ← getX hk] at h
  have : cntL (l.getD k default :: l.drop (k + 1)) = cntX (l.getD k default) + cntL (l.drop (k + 1)) := by unfold cntL; rw [List.map_cons, List.sum_cons]
  omega
theorem flat_le {β : Type} (g : Itm → List β) (hg : ∀ x, (g x).length ≤ cntX x) : ∀ l : List Itm, (l.flatMap g).length ≤ cntL l
  | [] => Nat.le_refl _
  | x :: l => by
    have := flat_le g hg l
    have := hg x
    have e : cntL (x :: l) = cntX x + cntL l := by unfold cntL; rw [List.map_cons, List.sum_cons]
    rw [List.flatMap_cons, List.length_append, e]
    omega
theorem lists_len (l : List Itm) : (listsT l).spaces.length ≤ cntL l ∧ (listsT l).cids.length ≤ cntL l ∧ (listsT l).nots.length ≤ cntL l ∧ (listsT l).bfs.length ≤ cntL l := by
  rw [lists_eq]
  refine ⟨flat_le _ (fun x => ?_) l, flat_le _ (fun x => ?_) l, flat_le _ (fun x => ?_) l, flat_le _ (fun x => ?_) l⟩
  all_goals first | unfold rectsX | unfold cidsX | unfold notsX | unfold bfsX
  all_goals unfold cntX
  all_goals split
  all_goals simp
theorem all_len (l : List Itm) : (allT l).spaces.length ≤ 2 * cntL l ∧ (allT l).cids.length ≤ 2 * cntL l ∧ (allT l).nots.length ≤ 2 * cntL l ∧ (allT l).bfs.length ≤ 2 * cntL l := by
  obtain ⟨h1, h2, h3, h4⟩ := lists_len l
  rw [all_eq]
  refine ⟨?_, ?_, ?_, ?_⟩
  · have := canR_len (listsT l).spaces
    show (canR _).length ≤ _
    omega
  · have := ((ES true).build_ok (listsT l).cids).2.1
    show ((ES true).build _).length ≤ _
    omega
  · have := ((ES false).build_ok (listsT l).nots).2.1
    show ((ES false).build _).length ≤ _
    omega
  · have := (EB.build_ok (listsT l).bfs).2.1
    show (EB.build _).length ≤ _
    omega
theorem list_few (t : Tbl) (x : Itm) (n m : Nat) (h : t.spaces.length ≤ n ∧ t.cids.length ≤ n ∧ t.nots.length ≤ n ∧ t.bfs.length ≤ n) (hx : cntX x ≤ m) : (listT t x).spaces.length ≤ n + m ∧ (listT t x).cids.length ≤ n + m ∧ (listT t x).nots.length ≤ n + m ∧ (listT t x).bfs.length ≤ n + m := by
  obtain ⟨h1, h2, h3, h4⟩ := h
  unfold cntX at hx
  unfold listT rectsX cidsX notsX bfsX
  refine ⟨?_, ?_, ?_, ?_⟩
  all_goals dsimp only
  all_goals rw [List.length_append]
  all_goals split
  all_goals (try simp only [List.length_map, List.length_nil])
  all_goals omega
def few5 (t : Tbl) : Prop := t.spaces.length ≤ 500000 ∧ t.cids.length ≤ 500000 ∧ t.nots.length ≤ 500000 ∧ t.bfs.length ≤ 500000
def SDo : Sp := ⟨Tbl × Itm, fun (t, x) => few5 t ∧ cntX x ≤ 500000, fun (t, x) => [.agg (cT t), .agg (cX x)], fun (t, x) => .st (.agg (cT (doT t x)))⟩
set_option maxHeartbeats 8000000 in
theorem semDo : SpOK Tryz.prog 38 SDo := fun ⟨t, x⟩ ⟨h, hx⟩ => by
  have hC : COK Tryz.prog (cfg [(39, SList), (67, SBuilt)]) := Ty.ty.cfg ⟨semList, semBuilt, trivial⟩
  have hl := list_few t x 500000 500000 h hx
  have hx : cntX x ≤ 500000 := hx
  unfold cntX at hx
  obtain ⟨a1, a2, a3, a4⟩ : few5 t := h
  obtain ⟨b1, b2, b3, b4⟩ := hl
  show Fn _ _ _ (.st (.agg (cT (builtT (listT t x) x.kind))))
  ((refine Fn.ofF hC Tryz.func38 Tryz.ntmps38 rfl rfl rfl ?_); (repeat' first | (with_reducible exact trivial) | (with_reducible rfl) | (refine And.intro ?_ ?_) | (refine Need.mk ?_) | exact True.intro | (first | (refine ⟨_, Told.refl _, ?_, ?_⟩) | (refine ⟨⟨_, _⟩, Told.refl _, ?_, ?_⟩) | (refine ⟨⟨_, _, _⟩, Told.refl _, ?_, ?_⟩) | (refine ⟨⟨_, _, _, _⟩, Told.refl _, ?_, ?_⟩) | (refine ⟨⟨_, _, _, _, _⟩, Told.refl _, ?_, ?_⟩) | (refine ⟨(), Told.refl _, ?_, ?_⟩)) | (with_reducible intro _) | (refine fun (_ : Bool) => ?_)))
  all_goals first
    | rfl
    | omega
    | exact b1
    | exact b2
    | exact b3
    | exact b4
    | (show x.ents.length ≤ 1000000; omega)
    | (show (x.ents.flatMap bfsE).length ≤ 1000000; omega)
theorem take_nextX {l : List Itm} {k : Nat} (hk : k < l.length) : l.take (k + 1) = l.take k ++ [l.getD k default] := by
  rw [List.take_succ_eq_append_getElem hk, getX hk]
theorem all_next {l : List Itm} {k : Nat} (hk : k < l.length) : allT (l.take (k + 1)) = doT (allT (l.take k)) (l.getD k default) := by
  rw [take_nextX hk]
  unfold allT
  rw [List.foldl_append]
  rfl
theorem lists_next {l : List Itm} {k : Nat} (hk : k < l.length) : listsT (l.take (k + 1)) = listT (listsT (l.take k)) (l.getD k default) := by
  rw [take_nextX hk]
  unfold listsT
  rw [List.foldl_append]
  rfl
def fewL (l : List Itm) : Prop := l.length ≤ 1000000 ∧ cntL l ≤ 100000
def SAllX : Sp := ⟨List Itm, fewL, fun l => [aX l], fun l => .st (.agg (cT (allT l)))⟩
set_option maxHeartbeats 8000000 in
theorem semAll : SpOK Tryz.prog 21 SAllX := fun (l : List Itm) ⟨h1, h2⟩ => by
  have hC : COK Tryz.prog (cfg [(38, SDo)]) := Ty.ty.cfg ⟨semDo, trivial⟩
  ((refine Fn.ofF hC Tryz.func21 Tryz.ntmps21 rfl rfl rfl ?_); (repeat' first | (with_reducible exact trivial) | (with_reducible rfl) | (refine And.intro ?_ ?_) | (refine Need.mk ?_) | exact True.intro | (first | (refine ⟨_, Told.refl _, ?_, ?_⟩) | (refine ⟨⟨_, _⟩, Told.refl _, ?_, ?_⟩) | (refine ⟨⟨_, _, _⟩, Told.refl _, ?_, ?_⟩) | (refine ⟨⟨_, _, _, _⟩, Told.refl _, ?_, ?_⟩) | (refine ⟨⟨_, _, _, _, _⟩, Told.refl _, ?_, ?_⟩) | (refine ⟨(), Told.refl _, ?_, ?_⟩)) | (with_reducible intro _) | (refine fun (_ : Bool) => ?_)))
  refine AW.loop (I := fun k : Nat => ⟨17, [(2, .ptr 0 0), (3, .ptr 1 0), (6, aX l), (7, .int .i64 l.length), (8, .int .i64 k)], [.box 40 (cT T0), .box 40 (cT (allT (l.take k)))]⟩) (fun k => k ≤ l.length) (fun k => l.length - k) 0 (Nat.zero_le _) ?_ ?_
  · (repeat' first | (with_reducible exact trivial) | (with_reducible rfl) | (refine And.intro ?_ ?_) | (refine Need.mk ?_) | exact True.intro | (first | (refine ⟨_, Told.refl _, ?_, ?_⟩) | (refine ⟨⟨_, _⟩, Told.refl _, ?_, ?_⟩) | (refine ⟨⟨_, _, _⟩, Told.refl _, ?_, ?_⟩) | (refine ⟨⟨_, _, _, _⟩, Told.refl _, ?_, ?_⟩) | (refine ⟨⟨_, _, _, _, _⟩, Told.refl _, ?_, ?_⟩) | (refine ⟨(), Told.refl _, ?_, ?_⟩)) | (with_reducible intro _) | (refine fun (_ : Bool) => ?_))
    all_goals first
      | rfl
      | (rename_i z hz; exact absurd hz (Nat.not_lt_zero z))
  · intro k hk
    rcases Nat.lt_or_ge k l.length with hlt | hge
    · have hd : decide ((k : Int) < (l.length : Int)) = true := decide_eq_true (by omega)
      have hw := iw (n := (k : Int) + 1) (by omega) (by omega)
      have hnx := all_next hlt
      have hal := all_len (l.take k)
      have hct := cntL_take l k
      have hca := cntL_at hlt
      obtain ⟨a1, a2, a3, a4⟩ := hal
      ((refine AW.byF ‹_› ?_); (repeat' first | (with_reducible exact trivial) | (with_reducible rfl) | (refine And.intro ?_ ?_) | (refine Need.mk ?_) | exact True.intro | (first | (refine ⟨_, Told.refl _, ?_, ?_⟩) | (refine ⟨⟨_, _⟩, Told.refl _, ?_, ?_⟩) | (refine ⟨⟨_, _, _⟩, Told.refl _, ?_, ?_⟩) | (refine ⟨⟨_, _, _, _⟩, Told.refl _, ?_, ?_⟩) | (refine ⟨⟨_, _, _, _, _⟩, Told.refl _, ?_, ?_⟩) | (refine ⟨(), Told.refl _, ?_, ?_⟩)) | (with_reducible intro _) | (refine fun (_ : Bool) => ?_)))
      all_goals first | (exact absurd ‹decide ((k : Int) < (l.length : Int)) = false› (by rw [hd]; decide)) | skip
      any_goals (refine Exists.intro ((k + 1 : Nat)) (And.intro ?_ (And.intro ?_ ?_)); all_goals (repeat' first | (with_reducible exact trivial) | (with_reducible rfl) | (refine And.intro ?_ ?_) | (refine Need.mk ?_) | exact True.intro | (first | (refine ⟨_, Told.refl _, ?_, ?_⟩) | (refine ⟨⟨_, _⟩, Told.refl _, ?_, ?_⟩) | (refine ⟨⟨_, _, _⟩, Told.refl _, ?_, ?_⟩) | (refine ⟨⟨_, _, _, _⟩, Told.refl _, ?_, ?_⟩) | (refine ⟨⟨_, _, _, _, _⟩, Told.refl _, ?_, ?_⟩) | (refine ⟨(), Told.refl _, ?_, ?_⟩)) | (with_reducible intro _) | (refine fun (_ : Bool) => ?_)))
      all_goals try simp only [Int.toNat_natCast] at *
      all_goals first
        | omega
        | (show cntX (l.getD k default) ≤ 500000; omega)
        | (rw [hw]; rfl)
        | (rw [hnx]; done)
        | (rw [hnx]; exact els_of cR_emb (n := 0) (fun _ _ => rfl) _ (by rw [← hnx]; assumption))
        | skip
    · obtain rfl : k = l.length := by omega
      have hd : decide ((l.length : Int) < (l.length : Int)) = false := decide_eq_false (by omega)
      ((refine AW.byF ‹_› ?_); (repeat' first | (with_reducible exact trivial) | (with_reducible rfl) | (refine And.intro ?_ ?_) | (refine Need.mk ?_) | exact True.intro | (first | (refine ⟨_, Told.refl _, ?_, ?_⟩) | (refine ⟨⟨_, _⟩, Told.refl _, ?_, ?_⟩) | (refine ⟨⟨_, _, _⟩, Told.refl _, ?_, ?_⟩) | (refine ⟨⟨_, _, _, _⟩, Told.refl _, ?_, ?_⟩) | (refine ⟨⟨_, _, _, _, _⟩, Told.refl _, ?_, ?_⟩) | (refine ⟨(), Told.refl _, ?_, ?_⟩)) | (with_reducible intro _) | (refine fun (_ : Bool) => ?_)))
      all_goals first | (exact absurd ‹decide ((l.length : Int) < (l.length : Int)) = true› (by rw [hd]; decide)) | skip
      all_goals rw [List.take_length]
      all_goals try rfl
end Go.Abs.Sm
set_option maxRecDepth 100000
namespace Go.Abs.Sm
open Go.RowKit Go.Proofs Go.Abs.Tab Go.Abs.Dest Go.Abs.Span Go.Abs.Coll Go.Abs.Hx Go.Abs.Mt Go.Abs.Rc
/-! ### Lists -/
def SListsX : Sp := ⟨List Itm, fewL, fun l => [aX l], fun l => .st (.agg (cT (listsT l)))⟩
set_option maxHeartbeats 8000000 in
theorem semLists : SpOK Tryz.prog 23 SListsX := fun (l : List Itm) ⟨h1, h2⟩ => by
  have hC : COK Tryz.prog (cfg [(39, SList)]) := Ty.ty.cfg ⟨semList, trivial⟩
  ((refine Fn.ofF hC Tryz.func23 Tryz.ntmps23 rfl rfl rfl ?_); (repeat' first | (with_reducible exact trivial) | (with_reducible rfl) | (refine And.intro ?_ ?_) | (refine Need.mk ?_) | exact True.intro | (first | (refine ⟨_, Told.refl _, ?_, ?_⟩) | (refine ⟨⟨_, _⟩, Told.refl _, ?_, ?_⟩) | (refine ⟨⟨_, _, _⟩, Told.refl _, ?_, ?_⟩) | (refine ⟨⟨_, _, _, _⟩, Told.refl _, ?_, ?_⟩) | (refine ⟨⟨_, _, _, _, _⟩, Told.refl _, ?_, ?_⟩) | (refine ⟨(), Told.refl _, ?_, ?_⟩)) | (with_reducible intro _) | (refine fun (_ : Bool) => ?_)))
  refine AW.loop (I := fun k : Nat => ⟨17, [(2, .ptr 0 0), (3, .ptr 1 0), (6, aX l), (7, .int .i64 l.length), (8, .int .i64 k)], [.box 40 (cT T0), .box 40 (cT (listsT (l.take k)))]⟩) (fun k => k ≤ l.length) (fun k => l.length - k) 0 (Nat.zero_le _) ?_ ?_
  · (repeat' first | (with_reducible exact trivial) | (with_reducible rfl) | (refine And.intro ?_ ?_) | (refine Need.mk ?_) | exact True.intro | (first | (refine ⟨_, Told.refl _, ?_, ?_⟩) | (refine ⟨⟨_, _⟩, Told.refl _, ?_, ?_⟩) | (refine ⟨⟨_, _, _⟩, Told.refl _, ?_, ?_⟩) | (refine ⟨⟨_, _, _, _⟩, Told.refl _, ?_, ?_⟩) | (refine ⟨⟨_, _, _, _, _⟩, Told.refl _, ?_, ?_⟩) | (refine ⟨(), Told.refl _, ?_, ?_⟩)) | (with_reducible intro _) | (refine fun (_ : Bool) => ?_))
    all_goals first
      | rfl
      | (rename_i z hz; exact absurd hz (Nat.not_lt_zero z))
  · intro k hk
    rcases Nat.lt_or_ge k l.length with hlt | hge
    · have hd : decide ((k : Int) < (l.length : Int)) = true := decide_eq_true (by omega)
      have hw := iw (n := (k : Int) + 1) (by omega) (by omega)
      have hnx := lists_next hlt
      have hal := lists_len (l.take k)
      have hct := cntL_take l k
      have hca := cntL_at hlt
      obtain ⟨a1, a2, a3, a4⟩ := hal
      have hc1 : (l.getD k default).ents.length ≤ 1000000 := by unfold cntX at hca; omega
      have hc2 : ((l.getD k default).ents.flatMap bfsE).length ≤ 1000000 := by unfold cntX at hca; omega
      ((refine AW.byF ‹_› ?_); (repeat' first | (with_reducible exact trivial) | (with_reducible rfl) | (refine And.intro ?_ ?_) | (refine Need.mk ?_) | exact True.intro | (first | (refine ⟨_, Told.refl _, ?_, ?_⟩) | (refine ⟨⟨_, _⟩, Told.refl _, ?_, ?_⟩) | (refine ⟨⟨_, _, _⟩, Told.refl _, ?_, ?_⟩) | (refine ⟨⟨_, _, _, _⟩, Told.refl _, ?_, ?_⟩) | (refine ⟨⟨_, _, _, _, _⟩, Told.refl _, ?_, ?_⟩) | (refine ⟨(), Told.refl _, ?_, ?_⟩)) | (with_reducible intro _) | (refine fun (_ : Bool) => ?_)))
      all_goals first | (exact absurd ‹decide ((k : Int) < (l.length : Int)) = false› (by rw [hd]; decide)) | skip
      any_goals (refine Exists.intro ((k + 1 : Nat)) (And.intro ?_ (And.intro ?_ ?_)); all_goals (repeat' first | (with_reducible exact trivial) | (with_reducible rfl) | (refine And.intro ?_ ?_) | (refine Need.mk ?_) | exact True.intro | (first | (refine ⟨_, Told.refl _, ?_, ?_⟩) | (refine ⟨⟨_, _⟩, Told.refl _, ?_, ?_⟩) | (refine ⟨⟨_, _, _⟩, Told.refl _, ?_, ?_⟩) | (refine ⟨⟨_, _, _, _⟩, Told.refl _, ?_, ?_⟩) | (refine ⟨⟨_, _, _, _, _⟩, Told.refl _, ?_, ?_⟩) | (refine ⟨(), Told.refl _, ?_, ?_⟩)) | (with_reducible intro _) | (refine fun (_ : Bool) => ?_)))
      all_goals try simp only [Int.toNat_natCast] at *
      all_goals first
        | omega
        | exact hc1
        | exact hc2
        | (rw [hw]; rfl)
        | (rw [hnx]; done)
        | (rw [hnx]; exact els_of cR_emb (n := 0) (fun _ _ => rfl) _ (by rw [← hnx]; assumption))
        | skip
    · obtain rfl : k = l.length := by omega
      have hd : decide ((l.length : Int) < (l.length : Int)) = false := decide_eq_false (by omega)
      ((refine AW.byF ‹_› ?_); (repeat' first | (with_reducible exact trivial) | (with_reducible rfl) | (refine And.intro ?_ ?_) | (refine Need.mk ?_) | exact True.intro | (first | (refine ⟨_, Told.refl _, ?_, ?_⟩) | (refine ⟨⟨_, _⟩, Told.refl _, ?_, ?_⟩) | (refine ⟨⟨_, _, _⟩, Told.refl _, ?_, ?_⟩) | (refine ⟨⟨_, _, _, _⟩, Told.refl _, ?_, ?_⟩) | (refine ⟨⟨_, _, _, _, _⟩, Told.refl _, ?_, ?_⟩) | (refine ⟨(), Told.refl _, ?_, ?_⟩)) | (with_reducible intro _) | (refine fun (_ : Bool) => ?_)))
      all_goals first | (exact absurd ‹decide ((l.length : Int) < (l.length : Int)) = true› (by rw [hd]; decide)) | skip
      all_goals rw [List.take_length]
      all_goals try rfl
end Go.Abs.Sm
set_option maxRecDepth 100000
namespace Go.Abs.Sm
open Go.RowKit Go.Proofs Go.Abs.Tab Go.Abs.Dest Go.Abs.Span Go.Abs.Coll Go.Abs.Hx Go.Abs.Mt Go.Abs.Rc
def fits (l : List Itm) : Prop := l.length ≤ 2199023255552 ∧ ∀ x ∈ l, x.ents.length ≤ 2199023255552 ∧ ∀ e ∈ x.ents, e.l.length ≤ 8796093022208
def SOurs : Sp := ⟨List Itm, fun l => l.length ≤ 1000000 ∧ ∀ x ∈ l, x.ents.length ≤ 1000000, fun l => [aX l], fun l => .row 104 8 l.length (els cX l)⟩
set_option maxHeartbeats 16000000 in
theorem ours12 : SpOK Tryz.prog 22 SOurs := fun (l : List Itm) ⟨h1, h2⟩ => by
  have hC := base
  have h1 : l.length ≤ 1000000 := h1
  have h2 : ∀ x ∈ l, x.ents.length ≤ 1000000 := h2
  ((refine Fn.ofF hC Tryz.func22 Tryz.ntmps22 rfl rfl rfl ?_); (repeat' first | (with_reducible exact trivial) | (with_reducible rfl) | (refine And.intro ?_ ?_) | (refine Need.mk ?_) | exact True.intro | (first | (refine ⟨_, Told.refl _, ?_, ?_⟩) | (refine ⟨⟨_, _⟩, Told.refl _, ?_, ?_⟩) | (refine ⟨⟨_, _, _⟩, Told.refl _, ?_, ?_⟩) | (refine ⟨⟨_, _, _, _⟩, Told.refl _, ?_, ?_⟩) | (refine ⟨⟨_, _, _, _, _⟩, Told.refl _, ?_, ?_⟩) | (refine ⟨(), Told.refl _, ?_, ?_⟩)) | (with_reducible intro _) | (refine fun (_ : Bool) => ?_)))
  refine AW.loop (I := fun i : Nat => ⟨74, [(0, aX l), (3, .own 0), (4, .int .i64 i)], [.row 104 8 (l.take i).length (els cX (l.take i))]⟩) (fun i => i ≤ l.length) (fun i => l.length - i) 0 (Nat.zero_le _) ?_ ?_
  · (repeat' first | (with_reducible exact trivial) | (with_reducible rfl) | (refine And.intro ?_ ?_) | (refine Need.mk ?_) | exact True.intro | (first | (refine ⟨_, Told.refl _, ?_, ?_⟩) | (refine ⟨⟨_, _⟩, Told.refl _, ?_, ?_⟩) | (refine ⟨⟨_, _, _⟩, Told.refl _, ?_, ?_⟩) | (refine ⟨⟨_, _, _, _⟩, Told.refl _, ?_, ?_⟩) | (refine ⟨⟨_, _, _, _, _⟩, Told.refl _, ?_, ?_⟩) | (refine ⟨(), Told.refl _, ?_, ?_⟩)) | (with_reducible intro _) | (refine fun (_ : Bool) => ?_))
    all_goals rfl
  · intro i hi
    have hil : (l.take i).length = i := by rw [List.length_take]; omega
    rcases Nat.lt_or_ge i l.length with hlt | hge
    · have hd : decide ((i : Int) < (l.length : Int)) = true := decide_eq_true (by omega)
      have hw := iw (n := (i : Int) + 1) (by omega) (by omega)
      have hnx := take_nextX hlt
      have hxe := h2 (l.getD i default) (by rw [getX hlt]; exact List.getElem_mem hlt)
      ((refine AW.byF ‹_› ?_); (repeat' first | (with_reducible exact trivial) | (with_reducible rfl) | (refine And.intro ?_ ?_) | (refine Need.mk ?_) | exact True.intro | (first | (refine ⟨_, Told.refl _, ?_, ?_⟩) | (refine ⟨⟨_, _⟩, Told.refl _, ?_, ?_⟩) | (refine ⟨⟨_, _, _⟩, Told.refl _, ?_, ?_⟩) | (refine ⟨⟨_, _, _, _⟩, Told.refl _, ?_, ?_⟩) | (refine ⟨⟨_, _, _, _, _⟩, Told.refl _, ?_, ?_⟩) | (refine ⟨(), Told.refl _, ?_, ?_⟩)) | (with_reducible intro _) | (refine fun (_ : Bool) => ?_)))
      all_goals first | (exact absurd ‹decide ((i : Int) < (l.length : Int)) = false› (by rw [hd]; decide)) | skip
      all_goals try simp only [Int.toNat_natCast] at *
      all_goals first
        | omega
        | skip
      refine AW.loop (I := fun k : Nat => ⟨74, [(0, aX l), (3, .own 0), (4, .int .i64 i), (5, .ptr 1 0), (6, .int .i64 k)], [.row 104 8 (l.take i).length (els cX (l.take i)), .box 104 [.int .i64 (l.getD i default).kind, .int .i64 (l.getD i default).at_, .str (l.getD i default).name, .int .i64 (l.getD i default).tk, .int .i64 (l.getD i default).ta, .int .i64 (l.getD i default).tn, .str (l.getD i default).ts, .own 2], .row 106 7 ((l.getD i default).ents.take k).length (els cE ((l.getD i default).ents.take k))]⟩) (fun k => k ≤ (l.getD i default).ents.length) (fun k => (l.getD i default).ents.length - k) 0 (Nat.zero_le _) ?_ ?_
      · (repeat' first | (with_reducible exact trivial) | (with_reducible rfl) | (refine And.intro ?_ ?_) | (refine Need.mk ?_) | exact True.intro | (first | (refine ⟨_, Told.refl _, ?_, ?_⟩) | (refine ⟨⟨_, _⟩, Told.refl _, ?_, ?_⟩) | (refine ⟨⟨_, _, _⟩, Told.refl _, ?_, ?_⟩) | (refine ⟨⟨_, _, _, _⟩, Told.refl _, ?_, ?_⟩) | (refine ⟨⟨_, _, _, _, _⟩, Told.refl _, ?_, ?_⟩) | (refine ⟨(), Told.refl _, ?_, ?_⟩)) | (with_reducible intro _) | (refine fun (_ : Bool) => ?_))
        all_goals first
          | rfl
          | (rename_i z hz; exact els_of cX_emb (n := 0) (fun _ _ => rfl) z hz)
      · intro k hk
        have hkl : ((l.getD i default).ents.take k).length = k := by rw [List.length_take]; omega
        rcases Nat.lt_or_ge k (l.getD i default).ents.length with hlk | hgk
        · have hd2 : decide ((k : Int) < ((l.getD i default).ents.length : Int)) = true := decide_eq_true (by omega)
          have hw2 := iw (n := (k : Int) + 1) (by omega) (by omega)
          have hnk := take_nextE hlk
          ((refine AW.byF ‹_› ?_); (repeat' first | (with_reducible exact trivial) | (with_reducible rfl) | (refine And.intro ?_ ?_) | (refine Need.mk ?_) | exact True.intro | (first | (refine ⟨_, Told.refl _, ?_, ?_⟩) | (refine ⟨⟨_, _⟩, Told.refl _, ?_, ?_⟩) | (refine ⟨⟨_, _, _⟩, Told.refl _, ?_, ?_⟩) | (refine ⟨⟨_, _, _, _⟩, Told.refl _, ?_, ?_⟩) | (refine ⟨⟨_, _, _, _, _⟩, Told.refl _, ?_, ?_⟩) | (refine ⟨(), Told.refl _, ?_, ?_⟩)) | (with_reducible intro _) | (refine fun (_ : Bool) => ?_)))
          all_goals first | (exact absurd ‹decide ((k : Int) < ((l.getD i default).ents.length : Int)) = false› (by rw [hd2]; decide)) | skip
          any_goals (first | (refine Exists.intro ((k + 1 : Nat)) (And.intro ?_ (And.intro ?_ ?_)); all_goals (repeat' first | (with_reducible exact trivial) | (with_reducible rfl) | (refine And.intro ?_ ?_) | (refine Need.mk ?_) | exact True.intro | (first | (refine ⟨_, Told.refl _, ?_, ?_⟩) | (refine ⟨⟨_, _⟩, Told.refl _, ?_, ?_⟩) | (refine ⟨⟨_, _, _⟩, Told.refl _, ?_, ?_⟩) | (refine ⟨⟨_, _, _, _⟩, Told.refl _, ?_, ?_⟩) | (refine ⟨⟨_, _, _, _, _⟩, Told.refl _, ?_, ?_⟩) | (refine ⟨(), Told.refl _, ?_, ?_⟩)) | (with_reducible intro _) | (refine fun (_ : Bool) => ?_))) | fail)
          all_goals try simp only [Int.toNat_natCast] at *
          all_goals first
            | omega
            | (rw [hw2]; rfl)
            | (rw [hnk]; simp only [List.length_append, List.length_singleton]; done)
            | (rename_i z hz; exact els_of cX_emb (n := 0) (fun _ _ => rfl) z hz)
            | (rename_i z hz
               rw [hnk] at hz ⊢
               exact els_of cE_emb (n := 0) (cat_snoc rfl) z hz)
        · obtain rfl : k = (l.getD i default).ents.length := by omega
          have hd2 : decide (((l.getD i default).ents.length : Int) < ((l.getD i default).ents.length : Int)) = false := decide_eq_false (by omega)
          ((refine AW.byF ‹_› ?_); (repeat' first | (with_reducible exact trivial) | (with_reducible rfl) | (refine And.intro ?_ ?_) | (refine Need.mk ?_) | exact True.intro | (first | (refine ⟨_, Told.refl _, ?_, ?_⟩) | (refine ⟨⟨_, _⟩, Told.refl _, ?_, ?_⟩) | (refine ⟨⟨_, _, _⟩, Told.refl _, ?_, ?_⟩) | (refine ⟨⟨_, _, _, _⟩, Told.refl _, ?_, ?_⟩) | (refine ⟨⟨_, _, _, _, _⟩, Told.refl _, ?_, ?_⟩) | (refine ⟨(), Told.refl _, ?_, ?_⟩)) | (with_reducible intro _) | (refine fun (_ : Bool) => ?_)))
          all_goals first | (exact absurd ‹decide (((l.getD i default).ents.length : Int) < ((l.getD i default).ents.length : Int)) = true› (by rw [hd2]; decide)) | skip
          any_goals (first | (refine Exists.intro ((i + 1 : Nat)) (And.intro ?_ (And.intro ?_ ?_)); all_goals (repeat' first | (with_reducible exact trivial) | (with_reducible rfl) | (refine And.intro ?_ ?_) | (refine Need.mk ?_) | exact True.intro | (first | (refine ⟨_, Told.refl _, ?_, ?_⟩) | (refine ⟨⟨_, _⟩, Told.refl _, ?_, ?_⟩) | (refine ⟨⟨_, _, _⟩, Told.refl _, ?_, ?_⟩) | (refine ⟨⟨_, _, _, _⟩, Told.refl _, ?_, ?_⟩) | (refine ⟨⟨_, _, _, _, _⟩, Told.refl _, ?_, ?_⟩) | (refine ⟨(), Told.refl _, ?_, ?_⟩)) | (with_reducible intro _) | (refine fun (_ : Bool) => ?_))) | fail)
          all_goals try simp only [Int.toNat_natCast, List.take_length] at *
          all_goals first
            | omega
            | (rw [hw]; rfl)
            | (rw [hnx]; simp only [List.length_append, List.length_singleton]; done)
            | (rename_i z hz
               rw [hnx] at hz ⊢
               exact els_of cX_emb (n := 0) (cat_snoc rfl) z hz)
            | skip
    · obtain rfl : i = l.length := by omega
      have hd : decide ((l.length : Int) < (l.length : Int)) = false := decide_eq_false (by omega)
      ((refine AW.byF ‹_› ?_); (repeat' first | (with_reducible exact trivial) | (with_reducible rfl) | (refine And.intro ?_ ?_) | (refine Need.mk ?_) | exact True.intro | (first | (refine ⟨_, Told.refl _, ?_, ?_⟩) | (refine ⟨⟨_, _⟩, Told.refl _, ?_, ?_⟩) | (refine ⟨⟨_, _, _⟩, Told.refl _, ?_, ?_⟩) | (refine ⟨⟨_, _, _, _⟩, Told.refl _, ?_, ?_⟩) | (refine ⟨⟨_, _, _, _, _⟩, Told.refl _, ?_, ?_⟩) | (refine ⟨(), Told.refl _, ?_, ?_⟩)) | (with_reducible intro _) | (refine fun (_ : Bool) => ?_)))
      all_goals first | (exact absurd ‹decide ((l.length : Int) < (l.length : Int)) = true› (by rw [hd]; decide)) | skip
      all_goals rw [List.take_length]
      all_goals try rfl
/-! ### Are they few? -/
def sumK (x : Itm) (k : Nat) : Nat := ((x.ents.take k).map fun e => e.l.length).sum
def wX (x : Itm) : Nat := x.ents.length + sumK x (min x.ents.length 120)
def sumL (l : List Itm) (i : Nat) : Nat := ((l.take i).map wX).sum
def okE (e : Ent) : Bool := !(decide ((e.u.length : Int) > 70)) && few [⟨0, 0, 0, e.u⟩]
def okX (x : Itm) : Bool := (x.ents.take (min x.ents.length 120)).all okE
def shortL (l : List Itm) : Bool := (l.take (min l.length 60)).all okX && (decide ((l.length : Int) ≤ 60) && decide ((sumL l (min l.length 60) : Int) ≤ 120))
theorem sumK_next {x : Itm} {k : Nat} (hk : k < x.ents.length) : sumK x (k + 1) = sumK x k + (x.ents.getD k default).l.length := by
  unfold sumK
  rw [take_nextE hk, List.map_append, List.sum_append]
  simp
theorem sumL_next {l : List Itm} {i : Nat} (hi : i < l.length) : sumL l (i + 1) = sumL l i + wX (l.getD i default) := by
  unfold sumL
  rw [take_nextX hi, List.map_append, List.sum_append]
  simp
theorem sumK_le {x : Itm} (h : ∀ e ∈ x.ents, e.l.length ≤ 8796093022208) : ∀ k, k ≤ x.ents.length → sumK x k ≤ k * 8796093022208
  | 0, _ => by simp [sumK]
  | k + 1, hk => by
    have := sumK_le h k (by omega)
    have := h (x.ents.getD k default) (by rw [getE (by omega)]; exact List.getElem_mem _)
    rw [sumK_next (by omega)]
    omega
theorem wX_le {x : Itm} (h0 : x.ents.length ≤ 2199023255552) (h : ∀ e ∈ x.ents, e.l.length ≤ 8796093022208) : wX x ≤ 2199023255552 + 120 * 8796093022208 := by
  have := sumK_le h (min x.ents.length 120) (by omega)
  unfold wX
  omega
theorem sumL_le {l : List Itm} (h : fits l) : ∀ i, i ≤ l.length → sumL l i ≤ i * (2199023255552 + 120 * 8796093022208)
  | 0, _ => by simp [sumL]
  | i + 1, hi => by
    have := sumL_le h i (by omega)
    obtain ⟨a, b⟩ := h.2 (l.getD i default) (by rw [getX (by omega)]; exact List.getElem_mem _)
    have := wX_le a b
    rw [sumL_next (by omega)]
    omega
theorem all_next' {α : Type} {l : List α} {p : α → Bool} {x : α} (h : l.all p = true) (hx : p x = true) : (l ++ [x]).all p = true := by
  rw [List.all_append, h]
  simp [hx]
theorem okX_no {x : Itm} {k : Nat} (hk : k < min x.ents.length 120) (h : okE (x.ents.getD k default) = false) : okX x = false := by
  unfold okX
  rw [List.all_eq_false]
  refine ⟨x.ents.getD k default, ?_, by rw [h]; decide⟩
  rw [getE (by omega), List.mem_iff_getElem]
  exact ⟨k, by rw [List.length_take]; omega, by rw [List.getElem_take]⟩
theorem shortL_no {l : List Itm} {i : Nat} (hi : i < min l.length 60) (h : okX (l.getD i default) = false) : shortL l = false := by
  unfold shortL
  have : (l.take (min l.length 60)).all okX = false := by
    rw [List.all_eq_false]
    refine ⟨l.getD i default, ?_, by rw [h]; decide⟩
    rw [getX (by omega), List.mem_iff_getElem]
    exact ⟨i, by rw [List.length_take]; omega, by rw [List.getElem_take]⟩
  rw [this, Bool.false_and]
theorem short_len {l : List Itm} (h : shortL l = true) : l.length ≤ 60 ∧ sumL l l.length ≤ 120 := by
  unfold shortL at h
  simp only [Bool.and_eq_true, decide_eq_true_eq] at h
  obtain ⟨_, h1, h2⟩ := h
  rw [show min l.length 60 = l.length by omega] at h2
  exact ⟨by omega, by omega⟩
theorem cnt_le (x : Itm) (h : wX x ≤ 120) : cntX x ≤ 2 * wX x := by
  unfold wX at h
  unfold wX cntX
  have e : min x.ents.length 120 = x.ents.length := by omega
  rw [e]
  have key : ∀ l : List Ent, (l.flatMap bfsE).length ≤ l.length + (l.map fun e => e.l.length).sum := by
    intro l
    induction l with
    | nil => exact Nat.le_refl _
    | cons a l ih =>
      have := bfsE_len a
      rw [List.flatMap_cons, List.length_append, List.length_cons, List.map_cons, List.sum_cons]
      split at this <;> omega
  have := key x.ents
  unfold sumK
  rw [List.take_length]
  omega
theorem short_few {l : List Itm} (h : shortL l = true) : l.length ≤ 60 ∧ cntL l ≤ 240 := by
  obtain ⟨h1, h2⟩ := short_len h
  refine ⟨h1, ?_⟩
  unfold sumL at h2
  rw [List.take_length] at h2
  clear h h1
  have key : ∀ l : List Itm, (l.map wX).sum ≤ 120 → cntL l ≤ 2 * (l.map wX).sum := by
    intro l
    induction l with
    | nil => intro _; exact Nat.le_refl _
    | cons x l ih =>
      intro h
      rw [List.map_cons, List.sum_cons] at h ⊢
      have := ih (by omega)
      have := cnt_le x (by omega)
      have e : cntL (x :: l) = cntX x + cntL l := by unfold cntL; rw [List.map_cons, List.sum_cons]
      omega
  have := key l h2
  omega
def SShortL : Sp := ⟨List Itm, fits, fun l => [aX l], fun l => .st (.sb (shortL l))⟩
set_option maxHeartbeats 16000000 in
theorem rshort : SpOK Tryz.prog 20 SShortL := fun (l : List Itm) hf => by
  have hC : COK Tryz.prog (cfg [(25, SFew)]) := Ty.ty.cfg ⟨rfew, trivial⟩
  have hl := hf.1
  ((refine Fn.ofF hC Tryz.func20 Tryz.ntmps20 rfl rfl rfl ?_); (repeat' first | (with_reducible exact trivial) | (with_reducible rfl) | (refine And.intro ?_ ?_) | (refine Need.mk ?_) | exact True.intro | (first | (refine ⟨_, Told.refl _, ?_, ?_⟩) | (refine ⟨⟨_, _⟩, Told.refl _, ?_, ?_⟩) | (refine ⟨⟨_, _, _⟩, Told.refl _, ?_, ?_⟩) | (refine ⟨⟨_, _, _, _⟩, Told.refl _, ?_, ?_⟩) | (refine ⟨⟨_, _, _, _, _⟩, Told.refl _, ?_, ?_⟩) | (refine ⟨(), Told.refl _, ?_, ?_⟩)) | (with_reducible intro _) | (refine fun (_ : Bool) => ?_)))
  refine AW.loop (I := fun i : Nat => ⟨83, [(0, aX l), (3, .int .i64 (sumL l i)), (4, .int .i64 i)], []⟩) (fun i => i ≤ min l.length 60 ∧ (l.take i).all okX = true) (fun i => min l.length 60 - i) 0 ⟨Nat.zero_le _, rfl⟩ ?_ ?_
  · (repeat' first | (with_reducible exact trivial) | (with_reducible rfl) | (refine And.intro ?_ ?_) | (refine Need.mk ?_) | exact True.intro | (first | (refine ⟨_, Told.refl _, ?_, ?_⟩) | (refine ⟨⟨_, _⟩, Told.refl _, ?_, ?_⟩) | (refine ⟨⟨_, _, _⟩, Told.refl _, ?_, ?_⟩) | (refine ⟨⟨_, _, _, _⟩, Told.refl _, ?_, ?_⟩) | (refine ⟨⟨_, _, _, _, _⟩, Told.refl _, ?_, ?_⟩) | (refine ⟨(), Told.refl _, ?_, ?_⟩)) | (with_reducible intro _) | (refine fun (_ : Bool) => ?_))
    all_goals rfl
  · intro i ⟨hi, hok⟩
    have hsl := sumL_le hf i (by omega)
    have hsl2 : i * (2199023255552 + 120 * 8796093022208) ≤ 60 * (2199023255552 + 120 * 8796093022208) := Nat.mul_le_mul_right _ (by omega)
    rcases Nat.lt_or_ge i (min l.length 60) with hlt | hge
    · have hd : decide ((i : Int) < (l.length : Int)) = true := decide_eq_true (by omega)
      have hd' : decide ((i : Int) < 60) = true := decide_eq_true (by omega)
      have hw := iw (n := (i : Int) + 1) (by omega) (by omega)
      have hil : i < l.length := by omega
      have hnx := take_nextX hil
      have hsn := sumL_next hil
      obtain ⟨hx1, hx2⟩ := hf.2 (l.getD i default) (by rw [getX hil]; exact List.getElem_mem _)
      have hsn2 := sumK_le hx2
      have hw3 := iw (n := ((sumL l i : Nat) : Int) + ((l.getD i default).ents.length : Int)) (by omega) (by omega)
      have hno := fun h => shortL_no hlt h
      ((refine AW.byF ‹_› ?_); (repeat' first | (with_reducible exact trivial) | (with_reducible rfl) | (refine And.intro ?_ ?_) | (refine Need.mk ?_) | exact True.intro | (first | (refine ⟨_, Told.refl _, ?_, ?_⟩) | (refine ⟨⟨_, _⟩, Told.refl _, ?_, ?_⟩) | (refine ⟨⟨_, _, _⟩, Told.refl _, ?_, ?_⟩) | (refine ⟨⟨_, _, _, _⟩, Told.refl _, ?_, ?_⟩) | (refine ⟨⟨_, _, _, _, _⟩, Told.refl _, ?_, ?_⟩) | (refine ⟨(), Told.refl _, ?_, ?_⟩)) | (with_reducible intro _) | (refine fun (_ : Bool) => ?_)))
      all_goals first | (exact absurd ‹decide ((i : Int) < (l.length : Int)) = false› (by rw [hd]; decide)) | (exact absurd ‹decide ((i : Int) < 60) = false› (by rw [hd']; decide)) | skip
      all_goals try simp only [Int.toNat_natCast] at *
      all_goals first
        | omega
        | skip
      refine AW.loop (I := fun k : Nat => ⟨83, [(0, aX l), (3, .int .i64 (((sumL l i + (l.getD i default).ents.length + sumK (l.getD i default) k : Nat)) : Int)), (4, .int .i64 i), (5, .int .i64 k)], []⟩) (fun k => k ≤ min (l.getD i default).ents.length 120 ∧ ((l.getD i default).ents.take k).all okE = true) (fun k => min (l.getD i default).ents.length 120 - k) 0 ⟨Nat.zero_le _, rfl⟩ ?_ ?_
      · (repeat' first | (with_reducible exact trivial) | (with_reducible rfl) | (refine And.intro ?_ ?_) | (refine Need.mk ?_) | exact True.intro | (first | (refine ⟨_, Told.refl _, ?_, ?_⟩) | (refine ⟨⟨_, _⟩, Told.refl _, ?_, ?_⟩) | (refine ⟨⟨_, _, _⟩, Told.refl _, ?_, ?_⟩) | (refine ⟨⟨_, _, _, _⟩, Told.refl _, ?_, ?_⟩) | (refine ⟨⟨_, _, _, _, _⟩, Told.refl _, ?_, ?_⟩) | (refine ⟨(), Told.refl _, ?_, ?_⟩)) | (with_reducible intro _) | (refine fun (_ : Bool) => ?_))
        all_goals first
          | rfl
          | (rw [hw3]; simp [sumK]; done)
      · intro k ⟨hk, hokk⟩
        have hs2 := hsn2 k (by omega)
        have hs3 : k * 8796093022208 ≤ 120 * 8796093022208 := Nat.mul_le_mul_right _ (by omega)
        rcases Nat.lt_or_ge k (min (l.getD i default).ents.length 120) with hlk | hgk
        · have hd2 : decide ((k : Int) < ((l.getD i default).ents.length : Int)) = true := decide_eq_true (by omega)
          have hd2' : decide ((k : Int) < 120) = true := decide_eq_true (by omega)
          have hw2 := iw (n := (k : Int) + 1) (by omega) (by omega)
          have hke : k < (l.getD i default).ents.length := by omega
          have hnk := take_nextE hke
          have hsk := sumK_next hke
          have hle := hx2 ((l.getD i default).ents.getD k default) (by rw [getE hke]; exact List.getElem_mem _)
          have hw4 := iw (n := (((sumL l i + (l.getD i default).ents.length + sumK (l.getD i default) k : Nat)) : Int) + (((l.getD i default).ents.getD k default).l.length : Int)) (by omega) (by omega)
          have hnoK := fun h => hno (okX_no hlk h)
          ((refine AW.byF ‹_› ?_); (repeat' first | (with_reducible exact trivial) | (with_reducible rfl) | (refine And.intro ?_ ?_) | (refine Need.mk ?_) | exact True.intro | (first | (refine ⟨_, Told.refl _, ?_, ?_⟩) | (refine ⟨⟨_, _⟩, Told.refl _, ?_, ?_⟩) | (refine ⟨⟨_, _, _⟩, Told.refl _, ?_, ?_⟩) | (refine ⟨⟨_, _, _, _⟩, Told.refl _, ?_, ?_⟩) | (refine ⟨⟨_, _, _, _, _⟩, Told.refl _, ?_, ?_⟩) | (refine ⟨(), Told.refl _, ?_, ?_⟩)) | (with_reducible intro _) | (refine fun (_ : Bool) => ?_)))
          all_goals first | (exact absurd ‹decide ((k : Int) < ((l.getD i default).ents.length : Int)) = false› (by rw [hd2]; decide)) | (exact absurd ‹decide ((k : Int) < 120) = false› (by rw [hd2']; decide)) | skip
          any_goals (first | (refine Exists.intro [⟨0, 0, 0, ((l.getD i default).ents.getD k default).u⟩] (And.intro (Told.of (lit_sub cBf_emb [(⟨0, 0, 0, ((l.getD i default).ents.getD k default).u⟩ : Bf)])) (And.intro trivial ?_)); (repeat' first | (with_reducible exact trivial) | (with_reducible rfl) | (refine And.intro ?_ ?_) | (refine Need.mk ?_) | exact True.intro | (first | (refine ⟨_, Told.refl _, ?_, ?_⟩) | (refine ⟨⟨_, _⟩, Told.refl _, ?_, ?_⟩) | (refine ⟨⟨_, _, _⟩, Told.refl _, ?_, ?_⟩) | (refine ⟨⟨_, _, _, _⟩, Told.refl _, ?_, ?_⟩) | (refine ⟨⟨_, _, _, _, _⟩, Told.refl _, ?_, ?_⟩) | (refine ⟨(), Told.refl _, ?_, ?_⟩)) | (with_reducible intro _) | (refine fun (_ : Bool) => ?_))) | fail)
          any_goals (first | (refine Exists.intro ((k + 1 : Nat)) (And.intro ?_ (And.intro ?_ ?_)); all_goals (repeat' first | (with_reducible exact trivial) | (with_reducible rfl) | (refine And.intro ?_ ?_) | (refine Need.mk ?_) | exact True.intro | (first | (refine ⟨_, Told.refl _, ?_, ?_⟩) | (refine ⟨⟨_, _⟩, Told.refl _, ?_, ?_⟩) | (refine ⟨⟨_, _, _⟩, Told.refl _, ?_, ?_⟩) | (refine ⟨⟨_, _, _, _⟩, Told.refl _, ?_, ?_⟩) | (refine ⟨⟨_, _, _, _, _⟩, Told.refl _, ?_, ?_⟩) | (refine ⟨(), Told.refl _, ?_, ?_⟩)) | (with_reducible intro _) | (refine fun (_ : Bool) => ?_))) | fail)
          all_goals try simp only [Int.toNat_natCast] at *
          all_goals first
            | omega
            | (rw [hw2]; rfl)
            | (rw [hw4, hsk]; omega)
            | (rw [hnk]
               refine all_next' hokk ?_
               unfold okE
               simp_all; done)
            | (refine (hnoK ?_).symm
               unfold okE
               simp_all; done)
            | skip
        · obtain rfl : k = min (l.getD i default).ents.length 120 := by omega
          have hd2 : ¬ (decide (((min (l.getD i default).ents.length 120 : Nat) : Int) < ((l.getD i default).ents.length : Int)) = true ∧ decide (((min (l.getD i default).ents.length 120 : Nat) : Int) < 120) = true) := fun ⟨a, b⟩ => by
            have := of_decide_eq_true a
            have := of_decide_eq_true b
            omega
          ((refine AW.byF ‹_› ?_); (repeat' first | (with_reducible exact trivial) | (with_reducible rfl) | (refine And.intro ?_ ?_) | (refine Need.mk ?_) | exact True.intro | (first | (refine ⟨_, Told.refl _, ?_, ?_⟩) | (refine ⟨⟨_, _⟩, Told.refl _, ?_, ?_⟩) | (refine ⟨⟨_, _, _⟩, Told.refl _, ?_, ?_⟩) | (refine ⟨⟨_, _, _, _⟩, Told.refl _, ?_, ?_⟩) | (refine ⟨⟨_, _, _, _, _⟩, Told.refl _, ?_, ?_⟩) | (refine ⟨(), Told.refl _, ?_, ?_⟩)) | (with_reducible intro _) | (refine fun (_ : Bool) => ?_)))
          all_goals first | (exact absurd (And.intro ‹decide (((min (l.getD i default).ents.length 120 : Nat) : Int) < ((l.getD i default).ents.length : Int)) = true› ‹decide (((min (l.getD i default).ents.length 120 : Nat) : Int) < 120) = true›) hd2) | skip
          any_goals (first | (refine Exists.intro ((i + 1 : Nat)) (And.intro ?_ (And.intro ?_ ?_)); all_goals (repeat' first | (with_reducible exact trivial) | (with_reducible rfl) | (refine And.intro ?_ ?_) | (refine Need.mk ?_) | exact True.intro | (first | (refine ⟨_, Told.refl _, ?_, ?_⟩) | (refine ⟨⟨_, _⟩, Told.refl _, ?_, ?_⟩) | (refine ⟨⟨_, _, _⟩, Told.refl _, ?_, ?_⟩) | (refine ⟨⟨_, _, _, _⟩, Told.refl _, ?_, ?_⟩) | (refine ⟨⟨_, _, _, _, _⟩, Told.refl _, ?_, ?_⟩) | (refine ⟨(), Told.refl _, ?_, ?_⟩)) | (with_reducible intro _) | (refine fun (_ : Bool) => ?_))) | fail)
          all_goals try simp only [Int.toNat_natCast] at *
          all_goals first
            | omega
            | (rw [hw]; rfl)
            | (rw [hnx]; exact all_next' hok hokk)
            | (rw [hsn]; unfold wX; omega)
            | skip
    · obtain rfl : i = min l.length 60 := by omega
      have hd2 : ¬ (decide (((min l.length 60 : Nat) : Int) < (l.length : Int)) = true ∧ decide (((min l.length 60 : Nat) : Int) < 60) = true) := fun ⟨a, b⟩ => by
        have := of_decide_eq_true a
        have := of_decide_eq_true b
        omega
      ((refine AW.byF ‹_› ?_); (repeat' first | (with_reducible exact trivial) | (with_reducible rfl) | (refine And.intro ?_ ?_) | (refine Need.mk ?_) | exact True.intro | (first | (refine ⟨_, Told.refl _, ?_, ?_⟩) | (refine ⟨⟨_, _⟩, Told.refl _, ?_, ?_⟩) | (refine ⟨⟨_, _, _⟩, Told.refl _, ?_, ?_⟩) | (refine ⟨⟨_, _, _, _⟩, Told.refl _, ?_, ?_⟩) | (refine ⟨⟨_, _, _, _, _⟩, Told.refl _, ?_, ?_⟩) | (refine ⟨(), Told.refl _, ?_, ?_⟩)) | (with_reducible intro _) | (refine fun (_ : Bool) => ?_)))
      all_goals first | (exact absurd (And.intro ‹decide (((min l.length 60 : Nat) : Int) < (l.length : Int)) = true› ‹decide (((min l.length 60 : Nat) : Int) < 60) = true›) hd2) | skip
      all_goals (unfold shortL; simp_all; try (intros; omega))
end Go.Abs.Sm
set_option maxRecDepth 100000
namespace Go.Abs.Sm
open Go.RowKit Go.Proofs Go.Abs.Tab Go.Abs.Dest Go.Abs.Span Go.Abs.Coll Go.Abs.Hx Go.Abs.Mt Go.Abs.Rc
def wfE (e : Ent) : Prop := (wfI e.ln ∧ wfI e.lv) ∧ (wfI e.hn ∧ wfI e.hv) ∧ wfI e.to ∧ wfIs e.u ∧ ((e.l.length ≤ maxLen ∧ e.l.length * 24 ≤ reachBytes) ∧ ∀ x ∈ e.l, wfIs x)
def wfX (x : Itm) : Prop := wfI x.kind ∧ wfI x.at_ ∧ x.name.size ≤ maxLen ∧ (wfI x.tk ∧ wfI x.ta ∧ wfI x.tn ∧ x.ts.size ≤ maxLen) ∧ ((x.ents.length ≤ maxLen ∧ x.ents.length * 88 ≤ reachBytes) ∧ ∀ e ∈ x.ents, wfE e)
theorem opLL : OpZ Tryz.prog 99 (fun l : List (List Int) => [aL cU 1 l]) (fun l => (l.length ≤ maxLen ∧ l.length * 24 ≤ reachBytes) ∧ ∀ x ∈ l, wfIs x) := OpZ.slice Tryz.underlying99 (by kernel_rfl) (by kernel_rfl) cU_emb (OpA.z opInts)
theorem opTok : OpZ Tryz.prog 95 (fun a : Int × Int × Int × ByteArray => [.int .i64 a.1, .int .i64 a.2.1, .int .i64 a.2.2.1, .str a.2.2.2]) (fun a => wfI a.1 ∧ wfI a.2.1 ∧ wfI a.2.2.1 ∧ a.2.2.2.size ≤ maxLen) :=
  OpA.z (OpA.struct (n := 1 + (1 + (1 + 1))) Tryz.underlying95 (OpAF.cons opInt rfl (by kernel_rfl) (OpAF.cons opInt rfl (by kernel_rfl) (OpAF.cons opInt rfl (by kernel_rfl) (OpAF.one opStr rfl (by kernel_rfl))))) (by kernel_rfl))
theorem opEnt : OpZ Tryz.prog 101 cE wfE :=
  OpZ.iso (OpZ.struct (n := 2 + (2 + (1 + (1 + 1)))) Tryz.underlying101 (OpZF.cons opCode.z rfl (by kernel_rfl) (OpZF.cons opCode.z rfl (by kernel_rfl) (OpZF.cons opInt.z rfl (by kernel_rfl) (OpZF.cons opInts.z rfl (by kernel_rfl) (OpZF.one opLL rfl (by kernel_rfl)))))) (by kernel_rfl)) (fun a => ⟨a.1.1, a.1.2, a.2.1.1, a.2.1.2, a.2.2.1, a.2.2.2.1, a.2.2.2.2⟩) (fun _ => rfl) (fun _ h => h)
theorem opEnts : OpZ Tryz.prog 96 (fun l : List Ent => [aE l]) (fun l => (l.length ≤ maxLen ∧ l.length * 88 ≤ reachBytes) ∧ ∀ x ∈ l, wfE x) := OpZ.slice Tryz.underlying96 (by kernel_rfl) (by kernel_rfl) cE_emb opEnt
theorem opItm : OpZ Tryz.prog 98 cX wfX :=
  OpZ.iso (OpZ.struct (n := 1 + (1 + (1 + (4 + 1)))) Tryz.underlying98 (OpZF.cons opInt.z rfl (by kernel_rfl) (OpZF.cons opInt.z rfl (by kernel_rfl) (OpZF.cons opStr.z rfl (by kernel_rfl) (OpZF.cons opTok rfl (by kernel_rfl) (OpZF.one opEnts rfl (by kernel_rfl)))))) (by kernel_rfl)) (fun a => ⟨a.1, a.2.1, a.2.2.1, a.2.2.2.1.1, a.2.2.2.1.2.1, a.2.2.2.1.2.2.1, a.2.2.2.1.2.2.2, a.2.2.2.2⟩) (fun _ => rfl) (fun _ h => h)
theorem opItms : OpZ Tryz.prog 56 (fun l : List Itm => [aX l]) (fun l => (l.length ≤ maxLen ∧ l.length * 96 ≤ reachBytes) ∧ ∀ x ∈ l, wfX x) := OpZ.slice Tryz.underlying56 (by kernel_rfl) (by kernel_rfl) cX_emb opItm
theorem fits_of {l : List Itm} (h : (l.length ≤ maxLen ∧ l.length * 96 ≤ reachBytes) ∧ ∀ x ∈ l, wfX x) : fits l := by
  have hr : reachBytes = 140737488351232 := rfl
  obtain ⟨⟨_, h1⟩, h2⟩ := h
  refine ⟨by omega, fun x hx => ?_⟩
  obtain ⟨_, _, _, _, ⟨_, h3⟩, h4⟩ := h2 x hx
  refine ⟨by omega, fun e he => ?_⟩
  obtain ⟨_, _, _, _, ⟨_, h5⟩, _⟩ := h4 e he
  omega
end Go.Abs.Sm
set_option maxRecDepth 100000
namespace Go.Abs.Coll
open Go.RowKit Go.Proofs Go.Abs.Tab Go.Abs.Dest Go.Abs.Span
def SSrc1 : Sp := ⟨Tbl × Int × Int, fun (t, n, v) => t.cids.length < 4611686018427387904, fun (t, n, v) => [aCode n v, .rptr (cT t)], fun (t, n, v) => rI ((ES true).find t.cids n v)⟩
def SSrc2 : Sp := ⟨Tbl × Int × Int, fun (t, n, v) => t.nots.length < 4611686018427387904, fun (t, n, v) => [aCode n v, .rptr (cT t)], fun (t, n, v) => rI ((ES false).find t.nots n v)⟩
set_option maxHeartbeats 4000000 in
theorem src1 : SpOK Tryz.prog 42 SSrc1 := fun ⟨t, n, v⟩ hl => by
  have hC : COK Tryz.prog (cfg [(43, SFindS)]) := Ty.ty.cfg ⟨Span.find, trivial⟩
  ((refine Fn.ofF hC Tryz.func42 Tryz.ntmps42 rfl rfl rfl ?_); (repeat' first | (with_reducible exact trivial) | (with_reducible rfl) | (refine And.intro ?_ ?_) | (refine Need.mk ?_) | exact True.intro | (first | (refine ⟨_, Told.refl _, ?_, ?_⟩) | (refine ⟨⟨_, _⟩, Told.refl _, ?_, ?_⟩) | (refine ⟨⟨_, _, _⟩, Told.refl _, ?_, ?_⟩) | (refine ⟨⟨_, _, _, _⟩, Told.refl _, ?_, ?_⟩) | (refine ⟨⟨_, _, _, _, _⟩, Told.refl _, ?_, ?_⟩) | (refine ⟨(), Told.refl _, ?_, ?_⟩)) | (with_reducible intro _) | (refine fun (_ : Bool) => ?_)))
  exact hl
set_option maxHeartbeats 4000000 in
theorem src2 : SpOK Tryz.prog 44 SSrc2 := fun ⟨t, n, v⟩ hl => by
  have hC : COK Tryz.prog (cfg [(43, SFindS)]) := Ty.ty.cfg ⟨Span.find, trivial⟩
  ((refine Fn.ofF hC Tryz.func44 Tryz.ntmps44 rfl rfl rfl ?_); (repeat' first | (with_reducible exact trivial) | (with_reducible rfl) | (refine And.intro ?_ ?_) | (refine Need.mk ?_) | exact True.intro | (first | (refine ⟨_, Told.refl _, ?_, ?_⟩) | (refine ⟨⟨_, _⟩, Told.refl _, ?_, ?_⟩) | (refine ⟨⟨_, _, _⟩, Told.refl _, ?_, ?_⟩) | (refine ⟨⟨_, _, _, _⟩, Told.refl _, ?_, ?_⟩) | (refine ⟨⟨_, _, _, _, _⟩, Told.refl _, ?_, ?_⟩) | (refine ⟨(), Told.refl _, ?_, ?_⟩)) | (with_reducible intro _) | (refine fun (_ : Bool) => ?_)))
  exact hl
theorem cT_emb : Emb cT 6 := fun x => ⟨rfl, ⟨⟨rfl⟩, ⟨rfl⟩, ⟨⟨rfl⟩, fun _ _ => (cR_emb _).2.1⟩, ⟨⟨rfl⟩, fun _ _ => (cSp_emb _).2.1⟩, ⟨⟨rfl⟩, fun _ _ => (cSp_emb _).2.1⟩, ⟨⟨rfl⟩, fun _ _ => (cBf_emb _).2.1⟩, trivial⟩, rfl⟩
theorem srcEls (t : Tbl) : ∀ i, i < 2 → cond (ones (elt [[.int .i64 1, .fn 42 [.rptr (cT t)]], [.int .i64 2, .fn 44 [.rptr (cT t)]]] i)) (subs0 (elt [[.int .i64 1, .fn 42 [.rptr (cT t)]], [.int .i64 2, .fn 44 [.rptr (cT t)]]] i) (elt [[.int .i64 1, .fn 42 [.rptr (cT t)]], [.int .i64 2, .fn 44 [.rptr (cT t)]]] i)) False := fun i hi => by
  have hc : i = 0 ∨ i = 1 := by omega
  rcases hc with rfl | rfl
  · exact ⟨⟨rfl⟩, ⟨(cT_emb t).2.1, trivial⟩, trivial⟩
  · exact ⟨⟨rfl⟩, ⟨(cT_emb t).2.1, trivial⟩, trivial⟩
def SSrcs : Sp := ⟨Tbl, fun _ => True, fun t => [.agg (cT t)], fun t => .row 78 2 2 (elt [[.int .i64 1, .fn 42 [.rptr (cT t)]], [.int .i64 2, .fn 44 [.rptr (cT t)]]])⟩
set_option maxHeartbeats 4000000 in
theorem srcs : SpOK Tryz.prog 26 SSrcs := fun (t : Tbl) _ => by
  have hC := base
  ((refine Fn.ofF hC Tryz.func26 Tryz.ntmps26 rfl rfl rfl ?_); (repeat' first | (with_reducible exact trivial) | (with_reducible rfl) | (refine And.intro ?_ ?_) | (refine Need.mk ?_) | exact True.intro | (first | (refine ⟨_, Told.refl _, ?_, ?_⟩) | (refine ⟨⟨_, _⟩, Told.refl _, ?_, ?_⟩) | (refine ⟨⟨_, _, _⟩, Told.refl _, ?_, ?_⟩) | (refine ⟨⟨_, _, _, _⟩, Told.refl _, ?_, ?_⟩) | (refine ⟨⟨_, _, _, _, _⟩, Told.refl _, ?_, ?_⟩) | (refine ⟨(), Told.refl _, ?_, ?_⟩)) | (with_reducible intro _) | (refine fun (_ : Bool) => ?_)))
  rename_i i hi
  have hi : i < 2 := hi
  have hc : i = 0 ∨ i = 1 := by omega
  rcases hc with rfl | rfl
  · exact srcEls t 0 (by decide)
  · exact srcEls t 1 (by decide)
/-- A code's number, and where it is from. -/
def numT (t : Tbl) (n v : Int) : Int × Int := match (ES true).find t.cids n v with
  | some x => (x, 1)
  | none => match (ES false).find t.nots n v with
    | some x => (x, 2)
    | none => (0, 0)
def SNum : Sp := ⟨Tbl × Int × Int, fun (t, n, v) => t.cids.length < 4611686018427387904 ∧ t.nots.length < 4611686018427387904, fun (t, n, v) => [.agg (cT t), aCode n v], fun (t, n, v) => .st (.tup [.int .i64 (numT t n v).1, .int .i64 (numT t n v).2])⟩
set_option maxHeartbeats 16000000 in
theorem num : SpOK Tryz.prog 7 SNum := fun ⟨t, n, v⟩ ⟨h1, h2⟩ => by
  have hC : COK Tryz.prog (cfg [(26, SSrcs), (42, SSrc1), (44, SSrc2)]) := Ty.ty.cfg ⟨srcs, src1, src2, trivial⟩
  ((refine Fn.ofF hC Tryz.func7 Tryz.ntmps7 rfl rfl rfl ?_); (repeat' first | (with_reducible exact trivial) | (with_reducible rfl) | (refine And.intro ?_ ?_) | (refine Need.mk ?_) | exact True.intro | (first | (refine ⟨_, Told.refl _, ?_, ?_⟩) | (refine ⟨⟨_, _⟩, Told.refl _, ?_, ?_⟩) | (refine ⟨⟨_, _, _⟩, Told.refl _, ?_, ?_⟩) | (refine ⟨⟨_, _, _, _⟩, Told.refl _, ?_, ?_⟩) | (refine ⟨⟨_, _, _, _, _⟩, Told.refl _, ?_, ?_⟩) | (refine ⟨(), Told.refl _, ?_, ?_⟩)) | (with_reducible intro _) | (refine fun (_ : Bool) => ?_)))
  refine AW.loop (I := fun k : Nat => ⟨29, [(3, .ptr 0 0), (11, .own 1), (12, .int .i64 2), (13, .int .i64 k)], [.box 28 [.int .i64 n, .int .i64 v], .row 78 2 2 (elt [[.int .i64 1, .fn 42 [.rptr (cT t)]], [.int .i64 2, .fn 44 [.rptr (cT t)]]])]⟩) (fun k => k ≤ 2 ∧ (0 < k → (ES true).find t.cids n v = none) ∧ (1 < k → (ES false).find t.nots n v = none)) (fun k => 2 - k) 0 ⟨Nat.zero_le _, fun h => by omega, fun h => by omega⟩ ?_ ?_
  · (repeat' first | (with_reducible exact trivial) | (with_reducible rfl) | (refine And.intro ?_ ?_) | (refine Need.mk ?_) | exact True.intro | (first | (refine ⟨_, Told.refl _, ?_, ?_⟩) | (refine ⟨⟨_, _⟩, Told.refl _, ?_, ?_⟩) | (refine ⟨⟨_, _, _⟩, Told.refl _, ?_, ?_⟩) | (refine ⟨⟨_, _, _, _⟩, Told.refl _, ?_, ?_⟩) | (refine ⟨⟨_, _, _, _, _⟩, Told.refl _, ?_, ?_⟩) | (refine ⟨(), Told.refl _, ?_, ?_⟩)) | (with_reducible intro _) | (refine fun (_ : Bool) => ?_))
    all_goals first | rfl | exact srcEls t _ ‹_›
  · intro k ⟨hk, g1, g2⟩
    have hc : k = 0 ∨ k = 1 ∨ k = 2 := by omega
    rcases hc with rfl | rfl | rfl
    · cases hf : (ES true).find t.cids n v with
      | some x =>
        have hn : numT t n v = (x, 1) := by unfold numT; rw [hf]
        ((refine AW.byF ‹_› ?_); (repeat' first | (with_reducible exact trivial) | (with_reducible rfl) | (refine And.intro ?_ ?_) | (refine Need.mk ?_) | exact True.intro | (first | (refine ⟨_, Told.refl _, ?_, ?_⟩) | (refine ⟨⟨_, _⟩, Told.refl _, ?_, ?_⟩) | (refine ⟨⟨_, _, _⟩, Told.refl _, ?_, ?_⟩) | (refine ⟨⟨_, _, _, _⟩, Told.refl _, ?_, ?_⟩) | (refine ⟨⟨_, _, _, _, _⟩, Told.refl _, ?_, ?_⟩) | (refine ⟨(), Told.refl _, ?_, ?_⟩)) | (with_reducible intro _) | (refine fun (_ : Bool) => ?_)))
        all_goals first | omega | exact h1 | decide | skip
        all_goals first | (exact absurd ‹((ES true).find t.cids n v).isSome = false› (by rw [hf]; simp)) | (exact absurd ‹decide (((0 : Nat) : Int) < 2) = false› (by decide)) | skip
        all_goals (rw [hn]; try first | rfl | (rw [hf]; rfl))
      | none =>
        ((refine AW.byF ‹_› ?_); (repeat' first | (with_reducible exact trivial) | (with_reducible rfl) | (refine And.intro ?_ ?_) | (refine Need.mk ?_) | exact True.intro | (first | (refine ⟨_, Told.refl _, ?_, ?_⟩) | (refine ⟨⟨_, _⟩, Told.refl _, ?_, ?_⟩) | (refine ⟨⟨_, _, _⟩, Told.refl _, ?_, ?_⟩) | (refine ⟨⟨_, _, _, _⟩, Told.refl _, ?_, ?_⟩) | (refine ⟨⟨_, _, _, _, _⟩, Told.refl _, ?_, ?_⟩) | (refine ⟨(), Told.refl _, ?_, ?_⟩)) | (with_reducible intro _) | (refine fun (_ : Bool) => ?_)))
        all_goals first | omega | exact h1 | decide | skip
        all_goals first | (exact absurd ‹((ES true).find t.cids n v).isSome = true› (by rw [hf]; decide)) | (exact absurd ‹decide (((0 : Nat) : Int) < 2) = false› (by decide)) | skip
        any_goals (refine Exists.intro (1) (And.intro ?_ (And.intro ?_ ?_)); all_goals (repeat' first | (with_reducible exact trivial) | (with_reducible rfl) | (refine And.intro ?_ ?_) | (refine Need.mk ?_) | exact True.intro | (first | (refine ⟨_, Told.refl _, ?_, ?_⟩) | (refine ⟨⟨_, _⟩, Told.refl _, ?_, ?_⟩) | (refine ⟨⟨_, _, _⟩, Told.refl _, ?_, ?_⟩) | (refine ⟨⟨_, _, _, _⟩, Told.refl _, ?_, ?_⟩) | (refine ⟨⟨_, _, _, _, _⟩, Told.refl _, ?_, ?_⟩) | (refine ⟨(), Told.refl _, ?_, ?_⟩)) | (with_reducible intro _) | (refine fun (_ : Bool) => ?_)))
        all_goals first
          | rfl
          | exact srcEls t _ ‹_›
          | decide
          | exact fun _ => hf
          | exact fun h => absurd h (by decide)
          | omega
    · have g1 := g1 (by decide)
      cases hf : (ES false).find t.nots n v with
      | some x =>
        have hn : numT t n v = (x, 2) := by unfold numT; rw [g1, hf]
        ((refine AW.byF ‹_› ?_); (repeat' first | (with_reducible exact trivial) | (with_reducible rfl) | (refine And.intro ?_ ?_) | (refine Need.mk ?_) | exact True.intro | (first | (refine ⟨_, Told.refl _, ?_, ?_⟩) | (refine ⟨⟨_, _⟩, Told.refl _, ?_, ?_⟩) | (refine ⟨⟨_, _, _⟩, Told.refl _, ?_, ?_⟩) | (refine ⟨⟨_, _, _, _⟩, Told.refl _, ?_, ?_⟩) | (refine ⟨⟨_, _, _, _, _⟩, Told.refl _, ?_, ?_⟩) | (refine ⟨(), Told.refl _, ?_, ?_⟩)) | (with_reducible intro _) | (refine fun (_ : Bool) => ?_)))
        all_goals first | omega | exact h2 | decide | skip
        all_goals first | (exact absurd ‹((ES false).find t.nots n v).isSome = false› (by rw [hf]; simp)) | (exact absurd ‹decide (((1 : Nat) : Int) < 2) = false› (by decide)) | skip
        all_goals (rw [hn]; try first | rfl | (rw [hf]; rfl))
      | none =>
        ((refine AW.byF ‹_› ?_); (repeat' first | (with_reducible exact trivial) | (with_reducible rfl) | (refine And.intro ?_ ?_) | (refine Need.mk ?_) | exact True.intro | (first | (refine ⟨_, Told.refl _, ?_, ?_⟩) | (refine ⟨⟨_, _⟩, Told.refl _, ?_, ?_⟩) | (refine ⟨⟨_, _, _⟩, Told.refl _, ?_, ?_⟩) | (refine ⟨⟨_, _, _, _⟩, Told.refl _, ?_, ?_⟩) | (refine ⟨⟨_, _, _, _, _⟩, Told.refl _, ?_, ?_⟩) | (refine ⟨(), Told.refl _, ?_, ?_⟩)) | (with_reducible intro _) | (refine fun (_ : Bool) => ?_)))
        all_goals first | omega | exact h2 | decide | skip
        all_goals first | (exact absurd ‹((ES false).find t.nots n v).isSome = true› (by rw [hf]; decide)) | (exact absurd ‹decide (((1 : Nat) : Int) < 2) = false› (by decide)) | skip
        any_goals (refine Exists.intro (2) (And.intro ?_ (And.intro ?_ ?_)); all_goals (repeat' first | (with_reducible exact trivial) | (with_reducible rfl) | (refine And.intro ?_ ?_) | (refine Need.mk ?_) | exact True.intro | (first | (refine ⟨_, Told.refl _, ?_, ?_⟩) | (refine ⟨⟨_, _⟩, Told.refl _, ?_, ?_⟩) | (refine ⟨⟨_, _, _⟩, Told.refl _, ?_, ?_⟩) | (refine ⟨⟨_, _, _, _⟩, Told.refl _, ?_, ?_⟩) | (refine ⟨⟨_, _, _, _, _⟩, Told.refl _, ?_, ?_⟩) | (refine ⟨(), Told.refl _, ?_, ?_⟩)) | (with_reducible intro _) | (refine fun (_ : Bool) => ?_)))
        all_goals first
          | rfl
          | exact srcEls t _ ‹_›
          | decide
          | exact fun _ => hf
          | exact fun _ => g1
          | omega
    · have hn : numT t n v = (0, 0) := by unfold numT; rw [g1 (by decide), g2 (by decide)]
      ((refine AW.byF ‹_› ?_); (repeat' first | (with_reducible exact trivial) | (with_reducible rfl) | (refine And.intro ?_ ?_) | (refine Need.mk ?_) | exact True.intro | (first | (refine ⟨_, Told.refl _, ?_, ?_⟩) | (refine ⟨⟨_, _⟩, Told.refl _, ?_, ?_⟩) | (refine ⟨⟨_, _, _⟩, Told.refl _, ?_, ?_⟩) | (refine ⟨⟨_, _, _, _⟩, Told.refl _, ?_, ?_⟩) | (refine ⟨⟨_, _, _, _, _⟩, Told.refl _, ?_, ?_⟩) | (refine ⟨(), Told.refl _, ?_, ?_⟩)) | (with_reducible intro _) | (refine fun (_ : Bool) => ?_)))
      all_goals first | omega | decide | skip
      all_goals first | (exact absurd ‹decide (((2 : Nat) : Int) < 2) = true› (by decide)) | skip
      all_goals (rw [hn])
end Go.Abs.Coll
set_option maxRecDepth 100000
namespace Go.Abs.Lk
open Go.RowKit Go.Proofs Go.Abs.Tab Go.Abs.Dest Go.Abs.Span Go.Abs.Coll Go.Abs.Hx Go.Abs.Mt
def SUniL : Sp := ⟨Tbl × Int × Int, fun (t, n, v) => t.bfs.length < 4611686018427387904, fun (t, n, v) => [.agg (cT t), aCode n v], fun (t, n, v) => rO (EB.find t.bfs n v)⟩
theorem uniL : SpOK Tryz.prog 10 SUniL := fun ⟨t, n, v⟩ ht => by
  have hC : COK Tryz.prog (cfg [(28, SFind)]) := Ty.ty.cfg ⟨Dest.find, trivial⟩
  ((refine Fn.ofF hC Tryz.func10 Tryz.ntmps10 rfl rfl rfl ?_); (repeat' first | (with_reducible exact trivial) | (with_reducible rfl) | (refine And.intro ?_ ?_) | (refine Need.mk ?_) | exact True.intro | (first | (refine ⟨_, Told.refl _, ?_, ?_⟩) | (refine ⟨⟨_, _⟩, Told.refl _, ?_, ?_⟩) | (refine ⟨⟨_, _, _⟩, Told.refl _, ?_, ?_⟩) | (refine ⟨⟨_, _, _, _⟩, Told.refl _, ?_, ?_⟩) | (refine ⟨⟨_, _, _, _, _⟩, Told.refl _, ?_, ?_⟩) | (refine ⟨(), Told.refl _, ?_, ?_⟩)) | (with_reducible intro _) | (refine fun (_ : Bool) => ?_)))
  exact ht
structure Sg where
  p : Pc
  kind : Int
  cid : Int
  u : List Int
  has : Bool
instance : Inhabited Sg := ⟨⟨default, 0, 0, [], false⟩⟩
def cG (s : Sg) : List AV := [.int .i64 s.p.at_, .int .i64 s.p.n, .sb s.p.full, .int .i64 s.p.cn, .int .i64 s.p.cv, .int .i64 s.kind, .int .i64 s.cid, aI s.u, .sb s.has]
theorem cG_emb : Emb cG 9 := fun x => ⟨rfl, ⟨⟨rfl⟩, ⟨rfl⟩, ⟨rfl⟩, ⟨rfl⟩, ⟨rfl⟩, ⟨rfl⟩, ⟨rfl⟩, ⟨⟨rfl⟩, els_of ci_emb (n := 0) (fun _ _ => rfl)⟩, ⟨rfl⟩, trivial⟩, rfl⟩
abbrev aG (l : List Sg) : AV := aL cG 9 l
def sgOf (t : Tbl) (p : Pc) : Sg := if p.full = true then ⟨p, (numT t p.cn p.cv).2, (numT t p.cn p.cv).1, (EB.find t.bfs p.cn p.cv).getD [], (EB.find t.bfs p.cn p.cv).isSome⟩ else ⟨p, 0, 0, [], false⟩
def sgs (t : Tbl) (s : List Int) : List Sg := (allAt t.spaces s 0).map (sgOf t)
def smallT (t : Tbl) : Prop := t.spaces.length < 1000000000 ∧ t.cids.length < 1000000000 ∧ t.nots.length < 1000000000 ∧ t.bfs.length < 1000000000
def SLook : Sp := ⟨Tbl × List Int, fun (t, s) => smallT t ∧ s.length < 1000000000 ∧ B8 s, fun (t, s) => [.agg (cT t), a8 s], fun (t, s) => .row 63 9 (sgs t s).length (els cG (sgs t s))⟩
theorem getP {l : List Pc} {i : Nat} (h : i < l.length) : l.getD i default = l[i] := by simp [List.getD, h]
theorem map_next {t : Tbl} {L : List Pc} {k : Nat} (hk : k < L.length) : (L.take (k + 1)).map (sgOf t) = (L.take k).map (sgOf t) ++ [sgOf t (L.getD k default)] := by
  rw [List.take_succ_eq_append_getElem hk, List.map_append, getP hk]
  rfl
set_option maxHeartbeats 16000000 in
theorem look : SpOK Tryz.prog 15 SLook := fun ⟨t, s⟩ ⟨ht, hs, h8⟩ => by
  have hC : COK Tryz.prog (cfg [(30, SAll), (7, SNum), (10, SUniL)]) := Ty.ty.cfg ⟨all, num, uniL, trivial⟩
  obtain ⟨t1, t2, t3, t4⟩ := ht
  have hlen := allAt_len (l := t.spaces) (s := s) (s.length - 0) 0 rfl
  have t4' : t.bfs.length < 4611686018427387904 := by omega
  obtain ⟨L, hL⟩ : ∃ L, L = allAt t.spaces s 0 := ⟨_, rfl⟩
  rw [← hL] at hlen
  ((refine Fn.ofF hC Tryz.func15 Tryz.ntmps15 rfl rfl rfl ?_); (repeat' first | (with_reducible exact trivial) | (with_reducible rfl) | (refine And.intro ?_ ?_) | (refine Need.mk ?_) | exact True.intro | (first | (refine ⟨_, Told.refl _, ?_, ?_⟩) | (refine ⟨⟨_, _⟩, Told.refl _, ?_, ?_⟩) | (refine ⟨⟨_, _, _⟩, Told.refl _, ?_, ?_⟩) | (refine ⟨⟨_, _, _, _⟩, Told.refl _, ?_, ?_⟩) | (refine ⟨⟨_, _, _, _, _⟩, Told.refl _, ?_, ?_⟩) | (refine ⟨(), Told.refl _, ?_, ?_⟩)) | (with_reducible intro _) | (refine fun (_ : Bool) => ?_)))
  any_goals first | exact t1 | exact hs | exact h8
  refine AW.loop (I := fun k : Nat => ⟨46, [(2, .ptr 0 0), (5, .own 2), (12, .own 1), (13, .int .i64 L.length), (14, .int .i64 k)], [.box 40 (cT t), .row 61 5 L.length (els cP L), .row 63 9 ((L.take k).map (sgOf t)).length (els cG ((L.take k).map (sgOf t)))]⟩) (fun k => k ≤ L.length) (fun k => L.length - k) 0 (Nat.zero_le _) ?_ ?_
  · clear hlen
    subst hL
    (repeat' first | (with_reducible exact trivial) | (with_reducible rfl) | (refine And.intro ?_ ?_) | (refine Need.mk ?_) | exact True.intro | (first | (refine ⟨_, Told.refl _, ?_, ?_⟩) | (refine ⟨⟨_, _⟩, Told.refl _, ?_, ?_⟩) | (refine ⟨⟨_, _, _⟩, Told.refl _, ?_, ?_⟩) | (refine ⟨⟨_, _, _, _⟩, Told.refl _, ?_, ?_⟩) | (refine ⟨⟨_, _, _, _, _⟩, Told.refl _, ?_, ?_⟩) | (refine ⟨(), Told.refl _, ?_, ?_⟩)) | (with_reducible intro _) | (refine fun (_ : Bool) => ?_))
    all_goals first | rfl
  · intro k hk
    rcases Nat.lt_or_ge k L.length with hlt | hge
    · have hd : decide ((k : Int) < (L.length : Int)) = true := decide_eq_true (by omega)
      have hw := iw (n := (k : Int) + 1) (by omega) (by omega)
      have hnx := map_next (t := t) hlt
      have hml : ((L.take k).map (sgOf t)).length ≤ L.length := by rw [List.length_map, List.length_take]; omega
      ((refine AW.byF ‹_› ?_); (repeat' first | (with_reducible exact trivial) | (with_reducible rfl) | (refine And.intro ?_ ?_) | (refine Need.mk ?_) | exact True.intro | (first | (refine ⟨_, Told.refl _, ?_, ?_⟩) | (refine ⟨⟨_, _⟩, Told.refl _, ?_, ?_⟩) | (refine ⟨⟨_, _, _⟩, Told.refl _, ?_, ?_⟩) | (refine ⟨⟨_, _, _, _⟩, Told.refl _, ?_, ?_⟩) | (refine ⟨⟨_, _, _, _, _⟩, Told.refl _, ?_, ?_⟩) | (refine ⟨(), Told.refl _, ?_, ?_⟩)) | (with_reducible intro _) | (refine fun (_ : Bool) => ?_)))
      all_goals first | (exact absurd ‹decide ((k : Int) < (L.length : Int)) = false› (by rw [hd]; decide)) | skip
      any_goals (refine Exists.intro (k + 1) (And.intro ?_ (And.intro ?_ ?_)); all_goals (repeat' first | (with_reducible exact trivial) | (with_reducible rfl) | (refine And.intro ?_ ?_) | (refine Need.mk ?_) | exact True.intro | (first | (refine ⟨_, Told.refl _, ?_, ?_⟩) | (refine ⟨⟨_, _⟩, Told.refl _, ?_, ?_⟩) | (refine ⟨⟨_, _, _⟩, Told.refl _, ?_, ?_⟩) | (refine ⟨⟨_, _, _, _⟩, Told.refl _, ?_, ?_⟩) | (refine ⟨⟨_, _, _, _, _⟩, Told.refl _, ?_, ?_⟩) | (refine ⟨(), Told.refl _, ?_, ?_⟩)) | (with_reducible intro _) | (refine fun (_ : Bool) => ?_)))
      all_goals try simp only [Int.toNat_natCast] at *
      all_goals first
        | omega
        | exact t4'
        | (show (((L.take k).map (sgOf t)).length + 1) * 88 ≤ _; omega)
        | (rw [hw]; rfl)
        | (rw [hnx, List.length_append]; rfl)
        | (have q := ‹(L.getD k default).full = true›
           have hp : sgOf t (L.getD k default) = ⟨L.getD k default, (numT t (L.getD k default).cn (L.getD k default).cv).2, (numT t (L.getD k default).cn (L.getD k default).cv).1, (EB.find t.bfs (L.getD k default).cn (L.getD k default).cv).getD [], (EB.find t.bfs (L.getD k default).cn (L.getD k default).cv).isSome⟩ := if_pos q
           rename_i z hz
           rw [hnx, hp] at hz ⊢
           refine snoc_sub cG_emb rfl ?_ z hz
           refine ⟨⟨rfl⟩, ⟨rfl⟩, ⟨rfl⟩, ⟨rfl⟩, ⟨rfl⟩, ⟨rfl⟩, ⟨rfl⟩, ?_, ⟨rfl⟩, trivial⟩
           exact ⟨⟨rfl⟩, els_of ci_emb (n := 0) (fun _ _ => rfl)⟩)
        | (have q := ‹(L.getD k default).full = false›
           have hp : sgOf t (L.getD k default) = ⟨L.getD k default, 0, 0, [], false⟩ := if_neg (by rw [q]; decide)
           rename_i z hz
           rw [hnx, hp] at hz ⊢
           refine snoc_sub cG_emb rfl ?_ z hz
           exact ⟨⟨rfl⟩, ⟨rfl⟩, ⟨rfl⟩, ⟨rfl⟩, ⟨rfl⟩, ⟨rfl⟩, ⟨rfl⟩, ⟨rfl⟩, ⟨rfl⟩, trivial⟩)

    · obtain rfl : k = L.length := by omega
      have hd : decide ((L.length : Int) < (L.length : Int)) = false := decide_eq_false (by omega)
      have hr : (L.take L.length).map (sgOf t) = sgs t s := by rw [List.take_length, hL]; rfl
      ((refine AW.byF ‹_› ?_); (repeat' first | (with_reducible exact trivial) | (with_reducible rfl) | (refine And.intro ?_ ?_) | (refine Need.mk ?_) | exact True.intro | (first | (refine ⟨_, Told.refl _, ?_, ?_⟩) | (refine ⟨⟨_, _⟩, Told.refl _, ?_, ?_⟩) | (refine ⟨⟨_, _, _⟩, Told.refl _, ?_, ?_⟩) | (refine ⟨⟨_, _, _, _⟩, Told.refl _, ?_, ?_⟩) | (refine ⟨⟨_, _, _, _, _⟩, Told.refl _, ?_, ?_⟩) | (refine ⟨(), Told.refl _, ?_, ?_⟩)) | (with_reducible intro _) | (refine fun (_ : Bool) => ?_)))
      all_goals first | (exact absurd ‹decide ((L.length : Int) < (L.length : Int)) = true› (by rw [hd]; decide)) | skip
      all_goals rw [hr]
end Go.Abs.Lk
set_option maxRecDepth 100000
namespace Go.Abs.Utf
open Go.RowKit Go.Proofs
def goodB (x : Int) : Bool := decide (0 ≤ x ∧ x ≤ 1114111 ∧ (x < 55296 ∨ 57343 < x))
def gd (x : Int) : Int := if goodB x = true then x else 65533
def highB (x : Int) : Bool := decide (55296 ≤ x ∧ x ≤ 56319)
def lowB (x : Int) : Bool := decide (56320 ≤ x ∧ x ≤ 57343)
def oneU (x : Int) : Int := if x > 65535 then 65533 else gd x
def decU : List Int → List Int
  | [] => []
  | [a] => [oneU a]
  | a :: b :: r => if highB a = true ∧ lowB b = true then (65536 + (a - 55296) * 1024 + b - 56320) :: decU r else oneU a :: decU (b :: r)
theorem decU_pair {a b : Int} {r : List Int} (h1 : highB a = true) (h2 : lowB b = true) : decU (a :: b :: r) = (65536 + (a - 55296) * 1024 + b - 56320) :: decU r := by
  rw [decU, if_pos ⟨h1, h2⟩]
theorem decU_one {a : Int} {r : List Int} (h : ∀ b r', r = b :: r' → ¬ (highB a = true ∧ lowB b = true)) : decU (a :: r) = oneU a :: decU r := by
  cases r with
  | nil => simp [decU]
  | cons b r => rw [decU, if_neg (h b r rfl)]
theorem decU_len : ∀ l : List Int, (decU l).length ≤ l.length
  | [] => Nat.le_refl _
  | [a] => Nat.le_refl _
  | a :: b :: r => by
    have h1 := decU_len r
    have h2 := decU_len (b :: r)
    rw [decU]
    split
    · simp only [List.length_cons]
      omega
    · simp only [List.length_cons] at *
      omega
def SGood : Sp := ⟨Int, fun _ => True, fun n => [.int .i64 n], fun n => .st (.sb (goodB n))⟩
def SGd : Sp := ⟨Int, fun _ => True, fun n => [.int .i64 n], fun n => .st (.int .i64 (gd n))⟩
def SHigh : Sp := ⟨Int, fun _ => True, fun n => [.int .i64 n], fun n => .st (.sb (highB n))⟩
def SLow : Sp := ⟨Int, fun _ => True, fun n => [.int .i64 n], fun n => .st (.sb (lowB n))⟩
def SOneU : Sp := ⟨Int, fun _ => True, fun n => [.int .i64 n], fun n => .st (.int .i64 (oneU n))⟩
theorem good : SpOK Tryz.prog 102 SGood := fun (n : Int) _ => by
  have hC := base
  ((refine Fn.ofF hC Tryz.func102 Tryz.ntmps102 rfl rfl rfl ?_); (repeat' first | (with_reducible exact trivial) | (with_reducible rfl) | (refine And.intro ?_ ?_) | (refine Need.mk ?_) | exact True.intro | (first | (refine ⟨_, Told.refl _, ?_, ?_⟩) | (refine ⟨⟨_, _⟩, Told.refl _, ?_, ?_⟩) | (refine ⟨⟨_, _, _⟩, Told.refl _, ?_, ?_⟩) | (refine ⟨⟨_, _, _, _⟩, Told.refl _, ?_, ?_⟩) | (refine ⟨⟨_, _, _, _, _⟩, Told.refl _, ?_, ?_⟩) | (refine ⟨(), Told.refl _, ?_, ?_⟩)) | (with_reducible intro _) | (refine fun (_ : Bool) => ?_)))
  all_goals
    unfold goodB
    ((try dsimp only at *); (try simp only [decide_eq_true_eq, decide_eq_false_iff_not, beq_iff_eq, bne_iff_ne, beq_eq_false_iff_ne, bne_eq_false_iff_eq, ne_eq, Decidable.not_not, ge_iff_le, gt_iff_lt, Bool.not_eq_true', Bool.not_eq_false', Int.not_lt, Int.not_le, Nat.not_lt, Nat.not_le] at *))
    first
      | (rw [decide_eq_true (by omega)]; exact decide_eq_true (by omega))
      | (symm; rw [decide_eq_false_iff_not]; omega)
      | (rw [Bool.eq_iff_iff, decide_eq_true_eq, decide_eq_true_eq]; omega)
      | (symm; rw [decide_eq_true_eq]; omega)
theorem rgood : SpOK Tryz.prog 103 SGood := fun (n : Int) _ => by
  have hC := base
  ((refine Fn.ofF hC Tryz.func103 Tryz.ntmps103 rfl rfl rfl ?_); (repeat' first | (with_reducible exact trivial) | (with_reducible rfl) | (refine And.intro ?_ ?_) | (refine Need.mk ?_) | exact True.intro | (first | (refine ⟨_, Told.refl _, ?_, ?_⟩) | (refine ⟨⟨_, _⟩, Told.refl _, ?_, ?_⟩) | (refine ⟨⟨_, _, _⟩, Told.refl _, ?_, ?_⟩) | (refine ⟨⟨_, _, _, _⟩, Told.refl _, ?_, ?_⟩) | (refine ⟨⟨_, _, _, _, _⟩, Told.refl _, ?_, ?_⟩) | (refine ⟨(), Told.refl _, ?_, ?_⟩)) | (with_reducible intro _) | (refine fun (_ : Bool) => ?_)))
  all_goals
    unfold goodB
    ((try dsimp only at *); (try simp only [decide_eq_true_eq, decide_eq_false_iff_not, beq_iff_eq, bne_iff_ne, beq_eq_false_iff_ne, bne_eq_false_iff_eq, ne_eq, Decidable.not_not, ge_iff_le, gt_iff_lt, Bool.not_eq_true', Bool.not_eq_false', Int.not_lt, Int.not_le, Nat.not_lt, Nat.not_le] at *))
    first
      | (rw [decide_eq_true (by omega)]; exact decide_eq_true (by omega))
      | (symm; rw [decide_eq_false_iff_not]; omega)
      | (rw [Bool.eq_iff_iff, decide_eq_true_eq, decide_eq_true_eq]; omega)
      | (symm; rw [decide_eq_true_eq]; omega)
theorem gdf : SpOK Tryz.prog 62 SGd := fun (n : Int) _ => by
  have hC : COK Tryz.prog (cfg [(102, SGood)]) := Ty.ty.cfg ⟨good, trivial⟩
  ((refine Fn.ofF hC Tryz.func62 Tryz.ntmps62 rfl rfl rfl ?_); (repeat' first | (with_reducible exact trivial) | (with_reducible rfl) | (refine And.intro ?_ ?_) | (refine Need.mk ?_) | exact True.intro | (first | (refine ⟨_, Told.refl _, ?_, ?_⟩) | (refine ⟨⟨_, _⟩, Told.refl _, ?_, ?_⟩) | (refine ⟨⟨_, _, _⟩, Told.refl _, ?_, ?_⟩) | (refine ⟨⟨_, _, _, _⟩, Told.refl _, ?_, ?_⟩) | (refine ⟨⟨_, _, _, _, _⟩, Told.refl _, ?_, ?_⟩) | (refine ⟨(), Told.refl _, ?_, ?_⟩)) | (with_reducible intro _) | (refine fun (_ : Bool) => ?_)))
  all_goals
    unfold gd
    first
      | (rw [if_pos ‹_›]; done)
      | (rw [if_neg (by simp [‹goodB n = false›])]; done)
theorem rgdf : SpOK Tryz.prog 64 SGd := fun (n : Int) _ => by
  have hC : COK Tryz.prog (cfg [(103, SGood)]) := Ty.ty.cfg ⟨rgood, trivial⟩
  ((refine Fn.ofF hC Tryz.func64 Tryz.ntmps64 rfl rfl rfl ?_); (repeat' first | (with_reducible exact trivial) | (with_reducible rfl) | (refine And.intro ?_ ?_) | (refine Need.mk ?_) | exact True.intro | (first | (refine ⟨_, Told.refl _, ?_, ?_⟩) | (refine ⟨⟨_, _⟩, Told.refl _, ?_, ?_⟩) | (refine ⟨⟨_, _, _⟩, Told.refl _, ?_, ?_⟩) | (refine ⟨⟨_, _, _, _⟩, Told.refl _, ?_, ?_⟩) | (refine ⟨⟨_, _, _, _, _⟩, Told.refl _, ?_, ?_⟩) | (refine ⟨(), Told.refl _, ?_, ?_⟩)) | (with_reducible intro _) | (refine fun (_ : Bool) => ?_)))
  all_goals
    unfold gd
    ((try dsimp only at *); (try simp only [decide_eq_true_eq, decide_eq_false_iff_not, beq_iff_eq, bne_iff_ne, beq_eq_false_iff_ne, bne_eq_false_iff_eq, ne_eq, Decidable.not_not, ge_iff_le, gt_iff_lt, Bool.not_eq_true', Bool.not_eq_false', Int.not_lt, Int.not_le, Nat.not_lt, Nat.not_le] at *))
    first
      | (rw [if_pos ‹_›]; done)
      | (rw [if_neg (by simp [‹goodB n = false›])]; done)
theorem high : SpOK Tryz.prog 57 SHigh := fun (n : Int) _ => by
  have hC := base
  ((refine Fn.ofF hC Tryz.func57 Tryz.ntmps57 rfl rfl rfl ?_); (repeat' first | (with_reducible exact trivial) | (with_reducible rfl) | (refine And.intro ?_ ?_) | (refine Need.mk ?_) | exact True.intro | (first | (refine ⟨_, Told.refl _, ?_, ?_⟩) | (refine ⟨⟨_, _⟩, Told.refl _, ?_, ?_⟩) | (refine ⟨⟨_, _, _⟩, Told.refl _, ?_, ?_⟩) | (refine ⟨⟨_, _, _, _⟩, Told.refl _, ?_, ?_⟩) | (refine ⟨⟨_, _, _, _, _⟩, Told.refl _, ?_, ?_⟩) | (refine ⟨(), Told.refl _, ?_, ?_⟩)) | (with_reducible intro _) | (refine fun (_ : Bool) => ?_)))
  all_goals
    unfold highB
    ((try dsimp only at *); (try simp only [decide_eq_true_eq, decide_eq_false_iff_not, beq_iff_eq, bne_iff_ne, beq_eq_false_iff_ne, bne_eq_false_iff_eq, ne_eq, Decidable.not_not, ge_iff_le, gt_iff_lt, Bool.not_eq_true', Bool.not_eq_false', Int.not_lt, Int.not_le, Nat.not_lt, Nat.not_le] at *))
    first
      | (symm; rw [decide_eq_false_iff_not]; omega)
      | (rw [Bool.eq_iff_iff, decide_eq_true_eq, decide_eq_true_eq]; omega)
theorem rhigh : SpOK Tryz.prog 65 SHigh := fun (n : Int) _ => by
  have hC := base
  ((refine Fn.ofF hC Tryz.func65 Tryz.ntmps65 rfl rfl rfl ?_); (repeat' first | (with_reducible exact trivial) | (with_reducible rfl) | (refine And.intro ?_ ?_) | (refine Need.mk ?_) | exact True.intro | (first | (refine ⟨_, Told.refl _, ?_, ?_⟩) | (refine ⟨⟨_, _⟩, Told.refl _, ?_, ?_⟩) | (refine ⟨⟨_, _, _⟩, Told.refl _, ?_, ?_⟩) | (refine ⟨⟨_, _, _, _⟩, Told.refl _, ?_, ?_⟩) | (refine ⟨⟨_, _, _, _, _⟩, Told.refl _, ?_, ?_⟩) | (refine ⟨(), Told.refl _, ?_, ?_⟩)) | (with_reducible intro _) | (refine fun (_ : Bool) => ?_)))
  all_goals
    unfold highB
    ((try dsimp only at *); (try simp only [decide_eq_true_eq, decide_eq_false_iff_not, beq_iff_eq, bne_iff_ne, beq_eq_false_iff_ne, bne_eq_false_iff_eq, ne_eq, Decidable.not_not, ge_iff_le, gt_iff_lt, Bool.not_eq_true', Bool.not_eq_false', Int.not_lt, Int.not_le, Nat.not_lt, Nat.not_le] at *))
    first
      | (symm; rw [decide_eq_false_iff_not]; omega)
      | (rw [Bool.eq_iff_iff, decide_eq_true_eq, decide_eq_true_eq]; omega)
theorem low : SpOK Tryz.prog 58 SLow := fun (n : Int) _ => by
  have hC := base
  ((refine Fn.ofF hC Tryz.func58 Tryz.ntmps58 rfl rfl rfl ?_); (repeat' first | (with_reducible exact trivial) | (with_reducible rfl) | (refine And.intro ?_ ?_) | (refine Need.mk ?_) | exact True.intro | (first | (refine ⟨_, Told.refl _, ?_, ?_⟩) | (refine ⟨⟨_, _⟩, Told.refl _, ?_, ?_⟩) | (refine ⟨⟨_, _, _⟩, Told.refl _, ?_, ?_⟩) | (refine ⟨⟨_, _, _, _⟩, Told.refl _, ?_, ?_⟩) | (refine ⟨⟨_, _, _, _, _⟩, Told.refl _, ?_, ?_⟩) | (refine ⟨(), Told.refl _, ?_, ?_⟩)) | (with_reducible intro _) | (refine fun (_ : Bool) => ?_)))
  all_goals
    unfold lowB
    ((try dsimp only at *); (try simp only [decide_eq_true_eq, decide_eq_false_iff_not, beq_iff_eq, bne_iff_ne, beq_eq_false_iff_ne, bne_eq_false_iff_eq, ne_eq, Decidable.not_not, ge_iff_le, gt_iff_lt, Bool.not_eq_true', Bool.not_eq_false', Int.not_lt, Int.not_le, Nat.not_lt, Nat.not_le] at *))
    first
      | (symm; rw [decide_eq_false_iff_not]; omega)
      | (rw [Bool.eq_iff_iff, decide_eq_true_eq, decide_eq_true_eq]; omega)
theorem rlow : SpOK Tryz.prog 66 SLow := fun (n : Int) _ => by
  have hC := base
  ((refine Fn.ofF hC Tryz.func66 Tryz.ntmps66 rfl rfl rfl ?_); (repeat' first | (with_reducible exact trivial) | (with_reducible rfl) | (refine And.intro ?_ ?_) | (refine Need.mk ?_) | exact True.intro | (first | (refine ⟨_, Told.refl _, ?_, ?_⟩) | (refine ⟨⟨_, _⟩, Told.refl _, ?_, ?_⟩) | (refine ⟨⟨_, _, _⟩, Told.refl _, ?_, ?_⟩) | (refine ⟨⟨_, _, _, _⟩, Told.refl _, ?_, ?_⟩) | (refine ⟨⟨_, _, _, _, _⟩, Told.refl _, ?_, ?_⟩) | (refine ⟨(), Told.refl _, ?_, ?_⟩)) | (with_reducible intro _) | (refine fun (_ : Bool) => ?_)))
  all_goals
    unfold lowB
    ((try dsimp only at *); (try simp only [decide_eq_true_eq, decide_eq_false_iff_not, beq_iff_eq, bne_iff_ne, beq_eq_false_iff_ne, bne_eq_false_iff_eq, ne_eq, Decidable.not_not, ge_iff_le, gt_iff_lt, Bool.not_eq_true', Bool.not_eq_false', Int.not_lt, Int.not_le, Nat.not_lt, Nat.not_le] at *))
    first
      | (symm; rw [decide_eq_false_iff_not]; omega)
      | (rw [Bool.eq_iff_iff, decide_eq_true_eq, decide_eq_true_eq]; omega)
theorem oneF : SpOK Tryz.prog 59 SOneU := fun (n : Int) _ => by
  have hC : COK Tryz.prog (cfg [(62, SGd)]) := Ty.ty.cfg ⟨gdf, trivial⟩
  ((refine Fn.ofF hC Tryz.func59 Tryz.ntmps59 rfl rfl rfl ?_); (repeat' first | (with_reducible exact trivial) | (with_reducible rfl) | (refine And.intro ?_ ?_) | (refine Need.mk ?_) | exact True.intro | (first | (refine ⟨_, Told.refl _, ?_, ?_⟩) | (refine ⟨⟨_, _⟩, Told.refl _, ?_, ?_⟩) | (refine ⟨⟨_, _, _⟩, Told.refl _, ?_, ?_⟩) | (refine ⟨⟨_, _, _, _⟩, Told.refl _, ?_, ?_⟩) | (refine ⟨⟨_, _, _, _, _⟩, Told.refl _, ?_, ?_⟩) | (refine ⟨(), Told.refl _, ?_, ?_⟩)) | (with_reducible intro _) | (refine fun (_ : Bool) => ?_)))
  all_goals
    unfold oneU
    ((try dsimp only at *); (try simp only [decide_eq_true_eq, decide_eq_false_iff_not, beq_iff_eq, bne_iff_ne, beq_eq_false_iff_ne, bne_eq_false_iff_eq, ne_eq, Decidable.not_not, ge_iff_le, gt_iff_lt, Bool.not_eq_true', Bool.not_eq_false', Int.not_lt, Int.not_le, Nat.not_lt, Nat.not_le] at *))
    first
      | (rw [if_pos (by omega)]; done)
      | (rw [if_neg (by omega)]; done)
def SDec : Sp := ⟨List Int, fun l => l.length ≤ 1000000000, fun l => [aI l], fun l => .row 3 1 (decU l).length (els ci (decU l))⟩
theorem getD_drop (l : List Int) (k i : Nat) : (l.drop k).getD i default = l.getD (k + i) default := by
  simp [List.getD, List.getElem?_drop]
def pairX (a b : Int) : Int := IntKind.i64.wrap (IntKind.i64.wrap (IntKind.i64.wrap (65536 + IntKind.i64.wrap (IntKind.i64.wrap (a - 55296) * 2 ^ min (Int.toNat 10) IntKind.i64.bits)) + b) - 56320)
theorem pairW {a b : Int} (h1 : highB a = true) (h2 : lowB b = true) : pairX a b = 65536 + (a - 55296) * 1024 + b - 56320 := by
  unfold pairX
  unfold highB at h1
  unfold lowB at h2
  rw [decide_eq_true_eq] at h1 h2
  rw [show (2 : Int) ^ min (Int.toNat 10) IntKind.i64.bits = 1024 from rfl]
  simp only [IntKind.wrap_i64]
  omega
set_option maxHeartbeats 4000000 in
theorem dec16 : SpOK Tryz.prog 32 SDec := fun (l : List Int) hl => by
  have hC : COK Tryz.prog (cfg [(57, SHigh), (58, SLow), (59, SOneU)]) := Ty.ty.cfg ⟨high, low, oneF, trivial⟩
  have hl : l.length ≤ 1000000000 := hl
  ((refine Fn.ofF hC Tryz.func32 Tryz.ntmps32 rfl rfl rfl ?_); (repeat' first | (with_reducible exact trivial) | (with_reducible rfl) | (refine And.intro ?_ ?_) | (refine Need.mk ?_) | exact True.intro | (first | (refine ⟨_, Told.refl _, ?_, ?_⟩) | (refine ⟨⟨_, _⟩, Told.refl _, ?_, ?_⟩) | (refine ⟨⟨_, _, _⟩, Told.refl _, ?_, ?_⟩) | (refine ⟨⟨_, _, _, _⟩, Told.refl _, ?_, ?_⟩) | (refine ⟨⟨_, _, _, _, _⟩, Told.refl _, ?_, ?_⟩) | (refine ⟨(), Told.refl _, ?_, ?_⟩)) | (with_reducible intro _) | (refine fun (_ : Bool) => ?_)))
  refine AW.loop (I := fun x : List Int × List Int => ⟨48, [(0, aI x.1), (3, .own 0)], [.row 3 1 x.2.length (els ci x.2)]⟩) (fun x => x.1.length + x.2.length ≤ l.length ∧ decU l = x.2 ++ decU x.1) (fun x => x.1.length) (l, []) ⟨Nat.le_refl _, rfl⟩ ?_ ?_
  · (repeat' first | (with_reducible exact trivial) | (with_reducible rfl) | (refine And.intro ?_ ?_) | (refine Need.mk ?_) | exact True.intro | (first | (refine ⟨_, Told.refl _, ?_, ?_⟩) | (refine ⟨⟨_, _⟩, Told.refl _, ?_, ?_⟩) | (refine ⟨⟨_, _, _⟩, Told.refl _, ?_, ?_⟩) | (refine ⟨⟨_, _, _, _⟩, Told.refl _, ?_, ?_⟩) | (refine ⟨⟨_, _, _, _, _⟩, Told.refl _, ?_, ?_⟩) | (refine ⟨(), Told.refl _, ?_, ?_⟩)) | (with_reducible intro _) | (refine fun (_ : Bool) => ?_))
    all_goals rfl
  · rintro ⟨u, out⟩ ⟨h1, h2⟩
    dsimp only at h1 h2 ⊢
    rcases u with _ | ⟨a, u⟩
    · have h3 : decU l = out := by rw [h2]; simp [decU]
      ((refine AW.byF ‹_› ?_); (repeat' first | (with_reducible exact trivial) | (with_reducible rfl) | (refine And.intro ?_ ?_) | (refine Need.mk ?_) | exact True.intro | (first | (refine ⟨_, Told.refl _, ?_, ?_⟩) | (refine ⟨⟨_, _⟩, Told.refl _, ?_, ?_⟩) | (refine ⟨⟨_, _, _⟩, Told.refl _, ?_, ?_⟩) | (refine ⟨⟨_, _, _, _⟩, Told.refl _, ?_, ?_⟩) | (refine ⟨⟨_, _, _, _, _⟩, Told.refl _, ?_, ?_⟩) | (refine ⟨(), Told.refl _, ?_, ?_⟩)) | (with_reducible intro _) | (refine fun (_ : Bool) => ?_)))
      all_goals first | (exact absurd ‹decide ((([] : List Int).length : Int) > 0) = true› (by decide)) | skip
      all_goals rw [h3]
    · have hdl := decU_len (a :: u)
      have hd : decide (((a :: u).length : Int) > 0) = true := by simp
      have hd2 : ∀ i : Nat, (a :: u).getD (1 + i) default = u.getD i default := fun i => by rw [Nat.add_comm]; rfl
      rcases u with _ | ⟨b, u⟩
      · have h5 : decU l = (out ++ [oneU a]) ++ decU [] := by rw [h2]; simp [decU]
        ((refine AW.byF ‹_› ?_); (repeat' first | (with_reducible exact trivial) | (with_reducible rfl) | (refine And.intro ?_ ?_) | (refine Need.mk ?_) | exact True.intro | (first | (refine ⟨_, Told.refl _, ?_, ?_⟩) | (refine ⟨⟨_, _⟩, Told.refl _, ?_, ?_⟩) | (refine ⟨⟨_, _, _⟩, Told.refl _, ?_, ?_⟩) | (refine ⟨⟨_, _, _, _⟩, Told.refl _, ?_, ?_⟩) | (refine ⟨⟨_, _, _, _, _⟩, Told.refl _, ?_, ?_⟩) | (refine ⟨(), Told.refl _, ?_, ?_⟩)) | (with_reducible intro _) | (refine fun (_ : Bool) => ?_)))
        all_goals first | (exact absurd ‹decide ((([a] : List Int).length : Int) > 1) = true› (by simp)) | (exact absurd ‹decide ((([a] : List Int).length : Int) > 0) = false› (by rw [hd]; decide)) | skip
        any_goals (refine Exists.intro (([], out ++ [oneU a]) : List Int × List Int) (And.intro ?_ (And.intro ?_ ?_)); all_goals (repeat' first | (with_reducible exact trivial) | (with_reducible rfl) | (refine And.intro ?_ ?_) | (refine Need.mk ?_) | exact True.intro | (first | (refine ⟨_, Told.refl _, ?_, ?_⟩) | (refine ⟨⟨_, _⟩, Told.refl _, ?_, ?_⟩) | (refine ⟨⟨_, _, _⟩, Told.refl _, ?_, ?_⟩) | (refine ⟨⟨_, _, _, _⟩, Told.refl _, ?_, ?_⟩) | (refine ⟨⟨_, _, _, _, _⟩, Told.refl _, ?_, ?_⟩) | (refine ⟨(), Told.refl _, ?_, ?_⟩)) | (with_reducible intro _) | (refine fun (_ : Bool) => ?_)))
        all_goals first
          | (exact h5)
          | (rename_i i hi; exact els_of ci_emb (n := 0) (cat_snoc rfl) i hi)
          | (rw [List.length_append]; rfl)
          | (rename_i i hi; exact absurd hi (Nat.not_lt_zero _))
          | omega | (simp only [List.length_cons, List.length_nil, List.length_append] at h1 ⊢; omega) | (simp only [List.length_cons, List.length_nil, List.length_append]; omega) | (simp only [List.length_cons, List.length_nil, List.length_append] at h1 hl hdl ⊢; dsimp only [] at *; omega)
      · have hd3 : decide (((a :: b :: u).length : Int) > 1) = true := by
          rw [decide_eq_true_eq]
          simp only [List.length_cons]
          omega
        by_cases hp : highB a = true ∧ lowB b = true
        · have h5 : decU l = (out ++ [pairX a b]) ++ decU u := by
            rw [h2, decU_pair hp.1 hp.2, pairW hp.1 hp.2, List.append_assoc]
            rfl
          ((refine AW.byF ‹_› ?_); (repeat' first | (with_reducible exact trivial) | (with_reducible rfl) | (refine And.intro ?_ ?_) | (refine Need.mk ?_) | exact True.intro | (first | (refine ⟨_, Told.refl _, ?_, ?_⟩) | (refine ⟨⟨_, _⟩, Told.refl _, ?_, ?_⟩) | (refine ⟨⟨_, _, _⟩, Told.refl _, ?_, ?_⟩) | (refine ⟨⟨_, _, _, _⟩, Told.refl _, ?_, ?_⟩) | (refine ⟨⟨_, _, _, _, _⟩, Told.refl _, ?_, ?_⟩) | (refine ⟨(), Told.refl _, ?_, ?_⟩)) | (with_reducible intro _) | (refine fun (_ : Bool) => ?_)))
          all_goals first | (exact absurd ‹decide (((a :: b :: u).length : Int) > 1) = false› (by rw [hd3]; decide)) | (exact absurd ‹decide (((a :: b :: u).length : Int) > 0) = false› (by rw [hd]; decide)) | skip
          all_goals first | (exact absurd ‹highB ((a :: b :: u).getD (Int.toNat 0) default) = false› (by rw [show (a :: b :: u).getD (Int.toNat 0) default = a from rfl, hp.1]; decide)) | (exact absurd ‹lowB ((a :: b :: u).getD (Int.toNat 1) default) = false› (by rw [show (a :: b :: u).getD (Int.toNat 1) default = b from rfl, hp.2]; decide)) | skip
          any_goals (refine Exists.intro ((u, out ++ [pairX a b]) : List Int × List Int) (And.intro ?_ (And.intro ?_ ?_)); all_goals (repeat' first | (with_reducible exact trivial) | (with_reducible rfl) | (refine And.intro ?_ ?_) | (refine Need.mk ?_) | exact True.intro | (first | (refine ⟨_, Told.refl _, ?_, ?_⟩) | (refine ⟨⟨_, _⟩, Told.refl _, ?_, ?_⟩) | (refine ⟨⟨_, _, _⟩, Told.refl _, ?_, ?_⟩) | (refine ⟨⟨_, _, _, _⟩, Told.refl _, ?_, ?_⟩) | (refine ⟨⟨_, _, _, _, _⟩, Told.refl _, ?_, ?_⟩) | (refine ⟨(), Told.refl _, ?_, ?_⟩)) | (with_reducible intro _) | (refine fun (_ : Bool) => ?_)))
          all_goals first
            | (exact h5)
            | (rename_i i hi; exact els_of ci_emb (n := 0) (cat_snoc rfl) i hi)
            | (rw [List.length_append]; rfl)
            | (rw [show Int.toNat 1 + _ = _ + 1 from Nat.add_comm _ _]; rfl)
            | (rw [show Int.toNat 2 + _ = _ + 1 + 1 from Nat.add_comm _ _]; rfl)
            | omega | (simp only [List.length_cons, List.length_nil, List.length_append] at h1 ⊢; omega) | (simp only [List.length_cons, List.length_nil, List.length_append]; omega) | (simp only [List.length_cons, List.length_nil, List.length_append] at h1 hl hdl ⊢; dsimp only [] at *; omega)
        · have h5 : decU l = (out ++ [oneU a]) ++ decU (b :: u) := by
            rw [h2, decU_one (fun b' r' e hh => by
              injection e with e1 e2
              subst e1
              exact hp hh), List.append_assoc]
            rfl
          ((refine AW.byF ‹_› ?_); (repeat' first | (with_reducible exact trivial) | (with_reducible rfl) | (refine And.intro ?_ ?_) | (refine Need.mk ?_) | exact True.intro | (first | (refine ⟨_, Told.refl _, ?_, ?_⟩) | (refine ⟨⟨_, _⟩, Told.refl _, ?_, ?_⟩) | (refine ⟨⟨_, _, _⟩, Told.refl _, ?_, ?_⟩) | (refine ⟨⟨_, _, _, _⟩, Told.refl _, ?_, ?_⟩) | (refine ⟨⟨_, _, _, _, _⟩, Told.refl _, ?_, ?_⟩) | (refine ⟨(), Told.refl _, ?_, ?_⟩)) | (with_reducible intro _) | (refine fun (_ : Bool) => ?_)))
          all_goals first | (exact absurd ‹decide (((a :: b :: u).length : Int) > 1) = false› (by rw [hd3]; decide)) | (exact absurd ‹decide (((a :: b :: u).length : Int) > 0) = false› (by rw [hd]; decide)) | skip
          all_goals first | (exact absurd (And.intro ‹highB ((a :: b :: u).getD (Int.toNat 0) default) = true› ‹lowB ((a :: b :: u).getD (Int.toNat 1) default) = true›) hp) | skip
          any_goals (refine Exists.intro ((b :: u, out ++ [oneU a]) : List Int × List Int) (And.intro ?_ (And.intro ?_ ?_)); all_goals (repeat' first | (with_reducible exact trivial) | (with_reducible rfl) | (refine And.intro ?_ ?_) | (refine Need.mk ?_) | exact True.intro | (first | (refine ⟨_, Told.refl _, ?_, ?_⟩) | (refine ⟨⟨_, _⟩, Told.refl _, ?_, ?_⟩) | (refine ⟨⟨_, _, _⟩, Told.refl _, ?_, ?_⟩) | (refine ⟨⟨_, _, _, _⟩, Told.refl _, ?_, ?_⟩) | (refine ⟨⟨_, _, _, _, _⟩, Told.refl _, ?_, ?_⟩) | (refine ⟨(), Told.refl _, ?_, ?_⟩)) | (with_reducible intro _) | (refine fun (_ : Bool) => ?_)))
          all_goals first
            | (exact h5)
            | (rename_i i hi; exact els_of ci_emb (n := 0) (cat_snoc rfl) i hi)
            | (rw [List.length_append]; rfl)
            | (rw [show Int.toNat 1 + _ = _ + 1 from Nat.add_comm _ _]; rfl)
            | (rw [show Int.toNat 2 + _ = _ + 1 + 1 from Nat.add_comm _ _]; rfl)
            | omega | (simp only [List.length_cons, List.length_nil, List.length_append] at h1 ⊢; omega) | (simp only [List.length_cons, List.length_nil, List.length_append]; omega) | (simp only [List.length_cons, List.length_nil, List.length_append] at h1 hl hdl ⊢; dsimp only [] at *; omega)
end Go.Abs.Utf
set_option maxRecDepth 100000
namespace Go.Proofs
open Go.Shelf Go.RowKit
def Tryz.lays169_ren : Go.Shelf.Ren := ⟨fun | 169 => 35 | n => n, fun | 0 => 0 | 3 => 3 | 9 => 9 | 37 => 29 | 70 => 84 | 72 => 86 | 127 => 122 | 5 => 5 | n => n, fun | n => n⟩
theorem Tryz.lays169 : Go.Proofs.Lays.n169 Tryz.prog Tryz.lays169_ren := {
  mixed := by kernel_rfl
  f169 := Tryz.func35.trans (congrArg some (by kernel_rfl))
  t0 := Tryz.underlying0
  a0 := Tryz.isAgg0
  z0 := Tryz.sizeOf0
  v0 := Tryz.zeroValue0
  t3 := Tryz.underlying3
  a3 := Tryz.isAgg3
  z3 := Tryz.sizeOf3
  v3 := Tryz.zeroValue3
  t9 := Tryz.underlying9
  a9 := Tryz.isAgg9
  z9 := Tryz.sizeOf9
  v9 := Tryz.zeroValue9
  t37 := Tryz.underlying29
  a37 := Tryz.isAgg29
  z37 := Tryz.sizeOf29
  v37 := Tryz.zeroValue29
  t70 := Tryz.underlying84
  a70 := Tryz.isAgg84
  z70 := Tryz.sizeOf84
  v70 := Tryz.zeroValue84
  t72 := Tryz.underlying86
  a72 := Tryz.isAgg86
  z72 := Tryz.sizeOf86
  v72 := Tryz.zeroValue86
  t127 := Tryz.underlying122
  a127 := Tryz.isAgg122
  z127 := Tryz.sizeOf122
  v127 := Tryz.zeroValue122 }
theorem Tryz.Builder_Extra_169 : Builder.Extra Tryz.prog Tryz.lays169_ren := {
  sizeBuilder := by kernel_rfl
  liesBuilder := by kernel_rfl
  t5 := Tryz.underlying5
  a5 := Tryz.isAgg5
  z5 := Tryz.sizeOf5
  v5 := Tryz.zeroValue5
  infoByte := by kernel_rfl
  cellsByte := by kernel_rfl
  sizeByte := by kernel_rfl
  neB5 := by decide }
theorem Tryz.Builder_String_any_k (B b : Nat) (l : List UInt8) (w : World) (h : Lib.IsBuilderF 86 5 B b (Lib.byteCells l) w) (hBw : B ≤ w.heap.size) :
    Calls Tryz.prog 35 #[.pointer (some ⟨b, 0, none⟩)] w fun e w' => e = .returned (.string ⟨l.toArray⟩) ∧ (Lib.IsBuilderF 86 5 B b (Lib.byteCells l) w' ∧ Below B w w' ∧ Lib.OthersKept 5 (some b) w w') := Any.Builder_String_any_k Tryz.lays169 Tryz.Builder_Extra_169 B b l w h hBw
def Tryz.lays168_ren : Go.Shelf.Ren := ⟨fun | 168 => 61 | 240 => 60 | 242 => 101 | 276 => 100 | 278 => 133 | n => n, fun | 0 => 0 | 3 => 3 | 4 => 4 | 5 => 5 | 9 => 9 | 20 => 20 | 21 => 21 | 37 => 29 | 46 => 119 | 51 => 169 | 70 => 84 | 72 => 86 | 75 => 89 | 164 => 150 | 80 => 93 | n => n, fun | n => n⟩
theorem Tryz.lays168 : Go.Proofs.Lays.n168 Tryz.prog Tryz.lays168_ren := {
  mixed := by kernel_rfl
  f168 := Tryz.func61.trans (congrArg some (by kernel_rfl))
  f240 := Tryz.func60.trans (congrArg some (by kernel_rfl))
  f242 := Tryz.func101.trans (congrArg some (by kernel_rfl))
  f276 := Tryz.func100.trans (congrArg some (by kernel_rfl))
  f278 := Tryz.func133.trans (congrArg some (by kernel_rfl))
  t0 := Tryz.underlying0
  a0 := Tryz.isAgg0
  z0 := Tryz.sizeOf0
  v0 := Tryz.zeroValue0
  t3 := Tryz.underlying3
  a3 := Tryz.isAgg3
  z3 := Tryz.sizeOf3
  v3 := Tryz.zeroValue3
  t4 := Tryz.underlying4
  a4 := Tryz.isAgg4
  z4 := Tryz.sizeOf4
  v4 := Tryz.zeroValue4
  t5 := Tryz.underlying5
  a5 := Tryz.isAgg5
  z5 := Tryz.sizeOf5
  v5 := Tryz.zeroValue5
  t9 := Tryz.underlying9
  a9 := Tryz.isAgg9
  z9 := Tryz.sizeOf9
  v9 := Tryz.zeroValue9
  t20 := Tryz.underlying20
  a20 := Tryz.isAgg20
  z20 := Tryz.sizeOf20
  v20 := Tryz.zeroValue20
  t21 := Tryz.underlying21
  a21 := Tryz.isAgg21
  z21 := Tryz.sizeOf21
  v21 := Tryz.zeroValue21
  t37 := Tryz.underlying29
  a37 := Tryz.isAgg29
  z37 := Tryz.sizeOf29
  v37 := Tryz.zeroValue29
  t46 := Tryz.underlying119
  a46 := Tryz.isAgg119
  z46 := Tryz.sizeOf119
  v46 := Tryz.zeroValue119
  t51 := Tryz.underlying169
  a51 := Tryz.isAgg169
  z51 := Tryz.sizeOf169
  v51 := Tryz.zeroValue169
  t70 := Tryz.underlying84
  a70 := Tryz.isAgg84
  z70 := Tryz.sizeOf84
  v70 := Tryz.zeroValue84
  t72 := Tryz.underlying86
  a72 := Tryz.isAgg86
  z72 := Tryz.sizeOf86
  v72 := Tryz.zeroValue86
  t75 := Tryz.underlying89
  a75 := Tryz.isAgg89
  z75 := Tryz.sizeOf89
  v75 := Tryz.zeroValue89
  t164 := Tryz.underlying150
  a164 := Tryz.isAgg150
  z164 := Tryz.sizeOf150
  v164 := Tryz.zeroValue150 }
theorem Tryz.Builder_Extra_168 : Builder.Extra Tryz.prog Tryz.lays168_ren := {
  sizeBuilder := by kernel_rfl
  liesBuilder := by kernel_rfl
  t5 := Tryz.underlying5
  a5 := Tryz.isAgg5
  z5 := Tryz.sizeOf5
  v5 := Tryz.zeroValue5
  infoByte := by kernel_rfl
  cellsByte := by kernel_rfl
  sizeByte := by kernel_rfl
  neB5 := by decide }
theorem Tryz.Builder_WriteRune_k (B b : Nat) (bs : List Value) (r : Int) (hr0 : -2147483648 ≤ r) (hr1 : r ≤ 2147483647) (w : World) (h : Lib.IsBuilderF 86 5 B b bs w) (hlen : bs.length + 4 ≤ 140737488355328) (hBw : B ≤ w.heap.size) :
    Calls Tryz.prog 61 #[.pointer (some ⟨b, 0, none⟩), .int .i32 r] w fun e w' => e = .returned (.tuple #[.int .i64 (Lib.runeCells r).length, .nilIface]) ∧ (Lib.BuilderAtF 86 5 B b (.pointer (some ⟨b, 0, none⟩)) (bs ++ Lib.runeCells r) w' ∧ Below B w w' ∧ Lib.OthersKept 5 (some b) w w') := Any.Builder_WriteRune_k Tryz.lays168 Tryz.Builder_Extra_168 B b bs r hr0 hr1 w h hlen hBw
def Tryz.lays166_ren : Go.Shelf.Ren := ⟨fun | 166 => 33 | 240 => 60 | 276 => 100 | n => n, fun | 0 => 0 | 3 => 3 | 4 => 4 | 9 => 9 | 20 => 20 | 37 => 29 | 70 => 84 | 72 => 86 | 75 => 89 | 164 => 150 | 80 => 93 | 5 => 5 | n => n, fun | n => n⟩
theorem Tryz.lays166 : Go.Proofs.Lays.n166 Tryz.prog Tryz.lays166_ren := {
  mixed := by kernel_rfl
  f166 := Tryz.func33.trans (congrArg some (by kernel_rfl))
  f240 := Tryz.func60.trans (congrArg some (by kernel_rfl))
  f276 := Tryz.func100.trans (congrArg some (by kernel_rfl))
  t0 := Tryz.underlying0
  a0 := Tryz.isAgg0
  z0 := Tryz.sizeOf0
  v0 := Tryz.zeroValue0
  t3 := Tryz.underlying3
  a3 := Tryz.isAgg3
  z3 := Tryz.sizeOf3
  v3 := Tryz.zeroValue3
  t4 := Tryz.underlying4
  a4 := Tryz.isAgg4
  z4 := Tryz.sizeOf4
  v4 := Tryz.zeroValue4
  t9 := Tryz.underlying9
  a9 := Tryz.isAgg9
  z9 := Tryz.sizeOf9
  v9 := Tryz.zeroValue9
  t20 := Tryz.underlying20
  a20 := Tryz.isAgg20
  z20 := Tryz.sizeOf20
  v20 := Tryz.zeroValue20
  t37 := Tryz.underlying29
  a37 := Tryz.isAgg29
  z37 := Tryz.sizeOf29
  v37 := Tryz.zeroValue29
  t70 := Tryz.underlying84
  a70 := Tryz.isAgg84
  z70 := Tryz.sizeOf84
  v70 := Tryz.zeroValue84
  t72 := Tryz.underlying86
  a72 := Tryz.isAgg86
  z72 := Tryz.sizeOf86
  v72 := Tryz.zeroValue86
  t75 := Tryz.underlying89
  a75 := Tryz.isAgg89
  z75 := Tryz.sizeOf89
  v75 := Tryz.zeroValue89
  t164 := Tryz.underlying150
  a164 := Tryz.isAgg150
  z164 := Tryz.sizeOf150
  v164 := Tryz.zeroValue150 }
theorem Tryz.Builder_Extra_166 : Builder.Extra Tryz.prog Tryz.lays166_ren := {
  sizeBuilder := by kernel_rfl
  liesBuilder := by kernel_rfl
  t5 := Tryz.underlying5
  a5 := Tryz.isAgg5
  z5 := Tryz.sizeOf5
  v5 := Tryz.zeroValue5
  infoByte := by kernel_rfl
  cellsByte := by kernel_rfl
  sizeByte := by kernel_rfl
  neB5 := by decide }
theorem Tryz.Builder_WriteString_k (B b : Nat) (bs : List Value) (s : ByteArray) (w : World) (h : Lib.IsBuilderF 86 5 B b bs w) (hlen : bs.length + s.size ≤ 140737488355328) (hBw : B ≤ w.heap.size) :
    Calls Tryz.prog 33 #[.pointer (some ⟨b, 0, none⟩), .string s] w fun e w' => e = .returned (.tuple #[.int .i64 s.size, .nilIface]) ∧ (Lib.BuilderAtF 86 5 B b (.pointer (some ⟨b, 0, none⟩)) (bs ++ Lib.strCells s) w' ∧ Below B w w' ∧ Lib.OthersKept 5 (some b) w w') := Any.Builder_WriteString_k Tryz.lays166 Tryz.Builder_Extra_166 B b bs s w h hlen hBw
end Go.Proofs
set_option maxRecDepth 100000
namespace Go.Abs.Txt
open Go.RowKit Go.Proofs Go.Abs.Utf
attribute [local go_sem] Oper.semAt_some
structure Aside0 (p : Prop) : Prop where mk :: (out : p)
theorem isB_below {T e : TypeId} {B b : Nat} {bs : List Value} {w w' : World} (h : Lib.IsBuilderF T e B b bs w) (hb : Below w.heap.size w w') : Lib.IsBuilderF T e B b bs w' := by
  have key : ∀ p, Lib.BuilderAtF T e B b p bs w → Lib.BuilderAtF T e B b p bs w' := fun p h => by
    have hlt := h.lt
    obtain ⟨hB, v, hbk, hown, hne⟩ := h
    exact ⟨hB, v, (hb.block b hlt).trans hbk, hown.kept (row := none) ⟨hb.os, hb.tape, hb.output, hb.size, fun k hk _ => hb.block k hk⟩ (by cases hv : v.ownBlock <;> simp), hne⟩
  exact h.elim (fun h => .inl (key _ h)) (fun h => .inr (key _ h))
theorem gd_range (x : Int) : 0 ≤ gd x ∧ gd x ≤ 1114111 := by
  unfold gd goodB
  split
  · rename_i h
    rw [decide_eq_true_eq] at h
    omega
  · omega
def enc (l : List Int) : List UInt8 := l.flatMap fun x => Lib.encodeRune (gd x)
def encB (l : List Int) : ByteArray := ⟨(enc l).toArray⟩
theorem enc_len : ∀ l : List Int, (enc l).length ≤ 4 * l.length
  | [] => by simp [enc]
  | x :: l => by
    have h := enc_len l
    have h2 := Lib.runeCells_le (gd x)
    rw [Lib.runeCells_length] at h2
    unfold enc at h ⊢
    rw [List.flatMap_cons, List.length_append, List.length_cons]
    omega
theorem goodC (x : Int) (w : World) : Calls Tryz.prog 62 #[.int .i64 x] w fun e w' => e = .returned (.int .i64 (gd x)) ∧ Below w.heap.size w w' := by
  refine ((gdf x trivial).2 w (fun _ => False) [.int .i64 x] (fun _ h => h.elim) ⟨rfl, fun i a v h1 h2 => ?_⟩).mono ?_
  · match i, h1, h2 with
    | 0, h1, h2 =>
      obtain rfl := Option.some.inj h1
      obtain rfl := Option.some.inj h2
      exact .int _ _
  · rintro e w' ⟨v, S', rfl, hr, _, _, hb⟩
    cases hr
    exact ⟨rfl, hb⟩
/-- The cells of a row of numbers. -/
theorem intCells {w : World} {S : Nat → Prop} {l : List Int} {v : Value} (h : RV0 w S (aI l) v) : ∃ A c, v = .slice A l.length c ∧ l.length ≤ c ∧ c ≤ maxLen ∧ ∀ i, i < l.length → ∃ ad, A = some ad ∧ S ad.block ∧ w.cell? (ad.add i) = some (.int .i64 (l.getD i default)) := by
  generalize ha : aI l = a at h
  cases h with
  | sl sz n el A cap g hcap hmax hl hm hr =>
    unfold aI at ha
    injection ha with h1 h2 h3
    subst h1 h2 h3
    refine ⟨A, cap, rfl, hcap, hmax, fun i hi => ?_⟩
    obtain ⟨ad, e1, e2, e3⟩ := hm i 0 hi (by omega)
    have e4 := hr i 0 (.int .i64 (l.getD i default)) hi rfl
    generalize hg : g i 0 = u at e3 e4
    cases e4
    refine ⟨ad, e1, e2, ?_⟩
    rw [← e3]
    simp
  | _ => exact absurd ha (by unfold aI; intro h; cases h)
def SText : Sp := ⟨List Int, fun l => l.length < 4398046511104, fun l => [aI l], fun l => .st (.str (encB l))⟩
set_option maxHeartbeats 4000000 in
theorem textC (A0 : Option Addr) (c0 : Nat) (l0 : List Int) (S : Nat → Prop) (w : World) (hS : ∀ b, S b → b < w.heap.size) (hr0 : ∀ i, i < l0.length → ∃ ad, A0 = some ad ∧ S ad.block ∧ w.cell? (ad.add i) = some (.int .i64 (l0.getD i default))) (hc0 : l0.length ≤ c0) (hl : l0.length < 4398046511104) :
    Calls Tryz.prog 34 #[.slice A0 l0.length c0] w fun e w' => e = .returned (.string (encB l0)) ∧ Below w.heap.size w w' := by
  have HL := Aside0.mk hl
  have HR0 := Aside0.mk hr0
  have HC0 := Aside0.mk hc0
  have HS := Aside0.mk hS
  clear hl hr0 hc0 hS
  go_enter Tryz.func34, Tryz.ntmps34
  go_wp2
  go_loopg [8] (l0.length + 1) (fun kq v8 w' => ∃ (i : Nat), v8 = .int .i64 (i : Nat) ∧ Aside0 (i ≤ l0.length ∧ l0.length + 1 ≤ kq + i) ∧ Aside0 (Lib.IsBuilderF 86 5 w.heap.size w.heap.size (Lib.byteCells (enc (l0.take i))) w') ∧ Aside0 (Below w.heap.size w w'))
  case atStart => exact ⟨0, rfl, ⟨by omega⟩, ⟨Lib.IsBuilderF.of (Lib.fresh_isBuilder 86 5 w)⟩, ⟨(Below.refl _ w).alloc (Nat.le_refl _) _⟩⟩
  case round =>
    obtain ⟨i, rfl, HI, HO, HB⟩ := hrel
    cases gk with
    | zero => have := HI.out; omega
    | succ k1 =>
      by_cases hi : i < l0.length
      · obtain ⟨ad, ead, hsb, hcell0⟩ := HR0.out i hi
        have hcell : wr.cell? (ad.add i) = some (.int .i64 l0[i]) := by
          rw [World.cell?_of_block (w := w) (by
            have : (ad.add i).block = ad.block := by unfold Addr.add; split <;> rfl
            rw [this]
            exact HB.out.block _ (HS.out _ hsb)), hcell0]
          simp [List.getD, hi]
        clear hcell0
        subst ead
        have htk : enc (l0.take (i + 1)) = enc (l0.take i) ++ Lib.encodeRune (gd l0[i]) := by rw [List.take_succ_eq_append_getElem hi]; unfold enc; rw [List.flatMap_append]; simp
        have hln := enc_len (l0.take i)
        have hl2 : (enc (l0.take i)).length ≤ 4 * i := by rw [List.length_take] at hln; omega
        have hg := gd_range l0[i]
        have p0 : (0 ≤ (i : Int)) = True := eq_true (by omega)
        have p1 : ((i : Int) < (l0.length : Int)) = True := eq_true (by omega)
        have HTK := Aside0.mk htk
        have HL2 := Aside0.mk hl2
        have HLi := Aside0.mk hi
        have hgd := goodC l0[i]
        clear htk hln hl2
        generalize gd l0[i] = y at *
        generalize l0[i] = x at *
        have hg0 := hg.1
        have hg1 := hg.2
        have HG := Aside0.mk hg
        have HGD := Aside0.mk hgd
        clear hg hgd
        go_wp2_with (first | (go_at_call 62; refine (HGD.out _).mono ?_; rintro e w1 ⟨rfl, hb1⟩; have HB1 := Aside0.mk hb1; clear hb1) | (go_at_call 61; have hbn := Aside0.mk (HB.out.trans (HB1.out.mono HB.out.size)); refine (Tryz.Builder_WriteRune_k w.heap.size w.heap.size (Lib.byteCells (enc (l0.take i))) y (by have := HG.out; omega) (by have := HG.out; omega) _ (isB_below HO.out HB1.out) (by rw [Lib.byteCells_length]; have := HL.out; have := HL2.out; have := HLi.out; omega) hbn.out.size).mono ?_; rintro e W1 ⟨rfl, h1, b1, _⟩))
        go_roundg k1
        case measure => have := HI.out; omega
        case rel => exact ⟨i + 1, (by first | rfl | (have := HL.out; have := HLi.out; congr 1; unfold wrap64; omega) | (have := HL.out; have := HLi.out; simp [wrap64]; omega)), ⟨by have := HI.out; omega⟩, ⟨by rw [HTK.out, Lib.byteCells_append, Lib.byteCells_encodeRune]; exact Or.inr h1⟩, ⟨hbn.out.trans b1⟩⟩
      · obtain rfl : i = l0.length := by have := HI.out; omega
        have ho := HO.out
        rw [List.take_length] at ho
        clear HO
        have HO := Aside0.mk ho
        clear ho
        go_wp2_with (go_at_call 35; refine (Tryz.Builder_String_any_k w.heap.size w.heap.size (enc l0) _ HO.out (HB.out.size)).mono ?_; rintro e W1 ⟨rfl, _, b1, _⟩)
        go_ret
        exact ⟨rfl, HB.out.trans b1⟩
theorem text : SpOK Tryz.prog 34 SText := fun (l : List Int) hl => by
  refine ⟨⟨_, Tryz.func34, rfl, rfl⟩, fun w S vs hS hv => ?_⟩
  obtain ⟨hl1, hv2⟩ := hv
  match vs, hl1, hv2 with
  | [v], hl1, hv2 =>
    obtain ⟨A, c, rfl, h1, h2, h3⟩ := intCells (hv2 0 _ _ rfl rfl)
    refine (textC A c l S w hS h3 h1 hl).mono ?_
    rintro e w' ⟨rfl, hb⟩
    exact ⟨_, S, rfl, .str _, fun _ q => q, fun b q => ⟨Nat.lt_of_lt_of_le (hS b q) hb.size, .inl q⟩, hb⟩
end Go.Abs.Txt
set_option maxRecDepth 100000
namespace Go.Abs.Lk
open Go.RowKit Go.Proofs Go.Abs.Tab Go.Abs.Dest Go.Abs.Span Go.Abs.Coll Go.Abs.Hx Go.Abs.Mt Go.Abs.Utf Go.Abs.Txt
attribute [local go_sem] Oper.semAt_some
theorem decC {u : List Int} {v : Value} {S : Nat → Prop} {w : World} (hu : u.length ≤ 1000000000) (hS : ∀ b, S b → b < w.heap.size) (h : RV0 w S (aI u) v) : Calls Tryz.prog 32 #[v] w fun e w' => ∃ x S2, e = .returned x ∧ RV0 w' S2 (aI (decU u)) x ∧ (∀ b, S2 b → b < w'.heap.size) ∧ Below w.heap.size w w' := by
  refine ((dec16 u hu).2 w S [v] hS ⟨rfl, fun i a x h1 h2 => ?_⟩).mono ?_
  · match i, h1, h2 with
    | 0, h1, h2 =>
      obtain rfl := Option.some.inj h1
      obtain rfl := Option.some.inj h2
      exact h
  · rintro e w' ⟨x, S', rfl, hr, _, hs', hb⟩
    refine ⟨x, fun b => S' b ∨ x.ownBlock = some b, rfl, row_sl (ρ := []) hr (fun b q => .inl q) (fun b q => .inr q), fun b q => ?_, hb⟩
    rcases q with q | q
    · exact (hs' b q).1
    · obtain ⟨⟨inner, hown, _⟩, _⟩ := hr
      rcases hown.2 with ⟨rfl, _⟩ | ⟨g, cap, cur, rfl, hbg, hg, _⟩
      · cases q
      · simp [Value.ownBlock] at q
        subst q
        exact (Array.getElem?_eq_some_iff.1 hg).1
theorem txtC {u : List Int} {v : Value} {S : Nat → Prop} {w : World} (hu : u.length < 4398046511104) (hS : ∀ b, S b → b < w.heap.size) (h : RV0 w S (aI u) v) : Calls Tryz.prog 34 #[v] w fun e w' => e = .returned (.string (encB u)) ∧ Below w.heap.size w w' := by
  refine ((text u hu).2 w S [v] hS ⟨rfl, fun i a x h1 h2 => ?_⟩).mono ?_
  · match i, h1, h2 with
    | 0, h1, h2 =>
      obtain rfl := Option.some.inj h1
      obtain rfl := Option.some.inj h2
      exact h
  · rintro e w' ⟨x, S', rfl, hr, _, _, hb⟩
    cases hr
    exact ⟨rfl, hb⟩
def oneS (rp : Int) (s : Sg) : List Int := if s.has = true then decU s.u else [rp]
def encS (rp : Int) (l : List Sg) : List UInt8 := l.flatMap fun s => enc (oneS rp s)
def txtS (rp : Int) (l : List Sg) : ByteArray := ⟨(encS rp l).toArray⟩
theorem encS_len (rp : Int) : ∀ (l : List Sg), (∀ s ∈ l, s.u.length ≤ 1000000) → (encS rp l).length ≤ 4000004 * l.length
  | [], _ => by simp [encS]
  | s :: l, h => by
    have ih := encS_len rp l (fun x hx => h x (List.mem_cons_of_mem _ hx))
    have h1 := enc_len (oneS rp s)
    have h2 : (oneS rp s).length ≤ 1000001 := by
      unfold oneS
      have := decU_len s.u
      have := h s List.mem_cons_self
      split
      · omega
      · simp
    unfold encS at ih ⊢
    rw [List.flatMap_cons, List.length_append, List.length_cons]
    omega
theorem sgCells {w : World} {S : Nat → Prop} {l : List Sg} {v : Value} (h : RV0 w S (aG l) v) : ∃ A c, v = .slice A l.length c ∧ l.length ≤ c ∧ ∀ i, i < l.length → ∃ ad uv, A = some ad ∧ S ad.block ∧ RV0 w S (aI (l.getD i default).u) uv ∧ ∀ j x, ([.int .i64 (l.getD i default).p.at_, .int .i64 (l.getD i default).p.n, .bool (l.getD i default).p.full, .int .i64 (l.getD i default).p.cn, .int .i64 (l.getD i default).p.cv, .int .i64 (l.getD i default).kind, .int .i64 (l.getD i default).cid, uv, .bool (l.getD i default).has] : List Value)[j]? = some x → w.cell? (ad.add (i * 9 + j)) = some x := by
  generalize ha : aG l = a at h
  cases h with
  | sl sz n el A cap g hcap hmax hl hm hr =>
    unfold aG at ha
    injection ha with h1 h2 h3
    subst h1 h2 h3
    refine ⟨A, cap, rfl, hcap, fun i hi => ?_⟩
    obtain ⟨ad, e1, e2, _⟩ := hm i 0 hi (by omega)
    have hc : ∀ j, j < 9 → w.cell? (ad.add (i * 9 + j)) = some (g i j) := fun j hj => by
      obtain ⟨ad', q1, _, q3⟩ := hm i j hi hj
      rw [e1] at q1
      cases q1
      exact q3
    have r0 := hr i 0 _ hi rfl
    have r1 := hr i 1 _ hi rfl
    have r2 := hr i 2 _ hi rfl
    have r3 := hr i 3 _ hi rfl
    have r4 := hr i 4 _ hi rfl
    have r5 := hr i 5 _ hi rfl
    have r6 := hr i 6 _ hi rfl
    have r7 := hr i 7 _ hi rfl
    have r8 := hr i 8 _ hi rfl
    refine ⟨ad, g i 7, e1, e2, r7, fun j x hx => ?_⟩
    have hj : j < 9 := (List.getElem?_eq_some_iff.1 hx).1
    rw [hc j hj]
    have hj' : j = 0 ∨ j = 1 ∨ j = 2 ∨ j = 3 ∨ j = 4 ∨ j = 5 ∨ j = 6 ∨ j = 7 ∨ j = 8 := by omega
    clear hm hc hr
    rcases hj' with rfl | rfl | rfl | rfl | rfl | rfl | rfl | rfl | rfl
    all_goals obtain rfl := Option.some.inj hx
    · generalize g i 0 = y at r0; cases r0; rfl
    · generalize g i 1 = y at r1; cases r1; rfl
    · generalize g i 2 = y at r2; cases r2; rfl
    · generalize g i 3 = y at r3; cases r3; rfl
    · generalize g i 4 = y at r4; cases r4; rfl
    · generalize g i 5 = y at r5; cases r5; rfl
    · generalize g i 6 = y at r6; cases r6; rfl
    · rfl
    · generalize g i 8 = y at r8; cases r8; rfl
  | _ => exact absurd ha (by unfold aG; intro h; cases h)
theorem intRow1 {w : World} {b : Nat} {c : Nat} {x : Int} (hc : 1 ≤ c) (hm : c ≤ maxLen) (h : w.cell? ⟨b, 0, none⟩ = some (.int .i64 x)) : RV0 w (fun k => k = b) (aI [x]) (.slice (some ⟨b, 0, none⟩) 1 c) := by
  refine .sl 1 1 _ _ c (fun _ _ => .int .i64 x) hc hm (fun i hi => ⟨rfl, rfl⟩) (fun i j hi hj => ?_) (fun i j a hi h1 => ?_)
  · obtain rfl : i = 0 := by omega
    obtain rfl : j = 0 := by omega
    exact ⟨_, rfl, rfl, h⟩
  · obtain rfl : i = 0 := by omega
    cases j with
    | zero =>
      obtain rfl := Option.some.inj h1
      exact .int _ _
    | succ j => simp [els, ci] at h1
theorem b_alloc {B : Nat} {a w : World} (h : Below B a w) (hB : B ≤ a.heap.size) (o : Obj) : Below B a (w.alloc o) := h.alloc (Nat.le_trans hB h.size) o
theorem enc_one (rp : Int) (s : Sg) (h : s.u.length ≤ 1000000) : (encB (oneS rp s)).size ≤ 4000004 := by
  have h1 := enc_len (oneS rp s)
  have h2 : (oneS rp s).length ≤ 1000001 := by
    unfold oneS
    have := decU_len s.u
    split
    · omega
    · simp
  show (enc (oneS rp s)).toArray.size ≤ _
  rw [List.size_toArray]
  omega
theorem strCells_enc (l : List Int) : Lib.strCells (encB l) = Lib.byteCells (enc l) := rfl
theorem txtNew (rp : Int) (wr : World) (o1 : Obj) : Calls Tryz.prog 34 #[.slice (some ⟨wr.heap.size + 1, 0, none⟩) 1 1] ((wr.alloc o1).alloc (.cells #[.int .i64 rp] 3)) fun e w' => e = .returned (.string (encB [rp])) ∧ Below ((wr.alloc o1).alloc (.cells #[.int .i64 rp] 3)).heap.size ((wr.alloc o1).alloc (.cells #[.int .i64 rp] 3)) w' := by
  have hsz : (wr.alloc o1).heap.size = wr.heap.size + 1 := Array.size_push ..
  have hsz2 : ((wr.alloc o1).alloc (.cells #[.int .i64 rp] 3)).heap.size = wr.heap.size + 2 := (Array.size_push ..).trans (congrArg (· + 1) hsz)
  have hnew := heap_alloc_new (wr.alloc o1) (.cells #[.int .i64 rp] 3)
  rw [hsz] at hnew
  refine txtC (u := [rp]) (S := fun k => k = wr.heap.size + 1) (by show 1 < 4398046511104; omega) (fun b q => by rw [hsz2]; omega) (intRow1 (Nat.le_refl _) (by decide) ?_)
  unfold World.cell?
  rw [hnew]
  rfl
set_option maxHeartbeats 8000000 in
theorem lookTextC (A0 : Option Addr) (c0 : Nat) (rp : Int) (l0 : List Sg) (S : Nat → Prop) (w : World) (hS : ∀ b, S b → b < w.heap.size) (hv : RV0 w S (aG l0) (.slice A0 l0.length c0)) (hl : l0.length ≤ 1000000) (hu : ∀ s ∈ l0, s.u.length ≤ 1000000) :
    Calls Tryz.prog 17 #[.slice A0 l0.length c0, .int .i64 rp] w fun e w' => e = .returned (.string (txtS rp l0)) ∧ Below w.heap.size w w' := by
  obtain ⟨A1, c1, e, hc, hcell⟩ := sgCells hv
  injection e with e1 e2 e3
  subst e1 e3
  have HL := Aside0.mk hl
  have HC := Aside0.mk hcell
  have HU := Aside0.mk hu
  have HS := Aside0.mk hS
  clear hl hcell hc hu hS hv
  go_enter Tryz.func17, Tryz.ntmps17
  go_wp2
  go_loopg [11] (l0.length + 1) (fun kq v8 w' => ∃ (i : Nat), v8 = .int .i64 (i : Nat) ∧ Aside0 (i ≤ l0.length ∧ l0.length + 1 ≤ kq + i) ∧ Aside0 (Lib.IsBuilderF 86 5 w.heap.size w.heap.size (Lib.byteCells (encS rp (l0.take i))) w') ∧ Aside0 (Below w.heap.size w w'))
  case atStart => exact ⟨0, rfl, ⟨by omega⟩, ⟨Lib.IsBuilderF.of (Lib.fresh_isBuilder 86 5 w)⟩, ⟨(Below.refl _ w).alloc (Nat.le_refl _) _⟩⟩
  case round =>
    obtain ⟨i, rfl, HI, HO, HB⟩ := hrel
    cases gk with
    | zero => have := HI.out; omega
    | succ k1 =>
      by_cases hi : i < l0.length
      · obtain ⟨ad, uv, ead, hsb, hru, hcl⟩ := HC.out i hi
        subst ead
        have hw : ∀ p : Addr, p.block = ad.block → wr.cell? p = w.cell? p := fun p hp => World.cell?_of_block (by rw [hp]; exact HB.out.block _ (HS.out _ hsb))
        obtain ⟨sg, hsg⟩ : ∃ sg, sg = l0.getD i default := ⟨_, rfl⟩
        rw [← hsg] at hru hcl
        have hab : ∀ n, (ad.add n).block = ad.block := fun n => by unfold Addr.add; split <;> rfl
        have hao : (ad.add (i * 9)).off = ad.off + i * 9 := by unfold Addr.add; split <;> first | rfl | (rename_i h; omega)
        have hadd : ∀ j, 0 < j → (⟨(ad.add (i * 9)).block, (ad.add (i * 9)).off + j, none⟩ : Addr) = ad.add (i * 9 + j) := fun j hj => by
          rw [hab, hao]
          unfold Addr.add
          rw [if_neg (by omega), Nat.add_assoc]
        have hx0 : wr.cell? (ad.add (i * 9)) = some (.int .i64 sg.p.at_) := (hw _ (hab _)).trans (hcl 0 _ rfl)
        have hx1 : wr.cell? ⟨(ad.add (i * 9)).block, (ad.add (i * 9)).off + 1, none⟩ = some (.int .i64 sg.p.n) := by rw [hadd 1 (by omega)]; exact (hw _ (hab _)).trans (hcl 1 _ rfl)
        have hx2 : wr.cell? ⟨(ad.add (i * 9)).block, (ad.add (i * 9)).off + 2, none⟩ = some (.bool sg.p.full) := by rw [hadd 2 (by omega)]; exact (hw _ (hab _)).trans (hcl 2 _ rfl)
        have hx3 : wr.cell? ⟨(ad.add (i * 9)).block, (ad.add (i * 9)).off + 3, none⟩ = some (.int .i64 sg.p.cn) := by rw [hadd 3 (by omega)]; exact (hw _ (hab _)).trans (hcl 3 _ rfl)
        have hx4 : wr.cell? ⟨(ad.add (i * 9)).block, (ad.add (i * 9)).off + 4, none⟩ = some (.int .i64 sg.p.cv) := by rw [hadd 4 (by omega)]; exact (hw _ (hab _)).trans (hcl 4 _ rfl)
        have hx5 : wr.cell? ⟨(ad.add (i * 9)).block, (ad.add (i * 9)).off + 5, none⟩ = some (.int .i64 sg.kind) := by rw [hadd 5 (by omega)]; exact (hw _ (hab _)).trans (hcl 5 _ rfl)
        have hx6 : wr.cell? ⟨(ad.add (i * 9)).block, (ad.add (i * 9)).off + 6, none⟩ = some (.int .i64 sg.cid) := by rw [hadd 6 (by omega)]; exact (hw _ (hab _)).trans (hcl 6 _ rfl)
        have hx7 : wr.cell? ⟨(ad.add (i * 9)).block, (ad.add (i * 9)).off + 7, none⟩ = some uv := by rw [hadd 7 (by omega)]; exact (hw _ (hab _)).trans (hcl 7 _ rfl)
        have hx8 : wr.cell? ⟨(ad.add (i * 9)).block, (ad.add (i * 9)).off + 8, none⟩ = some (.bool sg.has) := by rw [hadd 8 (by omega)]; exact (hw _ (hab _)).trans (hcl 8 _ rfl)
        have htk : encS rp (l0.take (i + 1)) = encS rp (l0.take i) ++ enc (oneS rp sg) := by
          rw [List.take_succ_eq_append_getElem hi, hsg]
          unfold encS
          rw [List.flatMap_append]
          simp [List.getD, hi]
        have hsu : sg.u.length ≤ 1000000 := by
          rw [hsg]
          have : l0.getD i default = l0[i] := by simp [List.getD, hi]
          rw [this]
          exact HU.out _ (List.getElem_mem hi)
        obtain ⟨Au, cu, rfl, _⟩ := intCells hru
        have p0 : (0 ≤ (i : Int)) = True := eq_true (by omega)
        have p1 : ((i : Int) < (l0.length : Int)) = True := eq_true (by omega)
        have HTK := Aside0.mk htk
        have HLi := Aside0.mk hi
        have HSU := Aside0.mk hsu
        have HRU := Aside0.mk hru
        clear htk hsu hsg hcl hru hw hadd hab hao hsb
        have hln := encS_len rp (l0.take i) (fun x hx => HU.out x (List.mem_of_mem_take hx))
        rw [List.length_take] at hln
        have HLN := Aside0.mk (show (encS rp (l0.take i)).length ≤ 4000004 * i by omega)
        have HEN := Aside0.mk (enc_one rp sg HSU.out)
        clear hln
        have HBA := Aside0.mk (show ∀ o1 o2, Below w.heap.size w ((wr.alloc o1).alloc o2) from fun o1 o2 => b_alloc (b_alloc HB.out (Nat.le_refl _) o1) (Nat.le_refl _) o2)
        have HOA := Aside0.mk (show ∀ o1 o2, Lib.IsBuilderF 86 5 w.heap.size w.heap.size (Lib.byteCells (encS rp (l0.take i))) ((wr.alloc o1).alloc o2) from fun o1 o2 => (HO.out.alloc o1).alloc o2)
        cases hb : sg.has with
        | true =>
          rw [hb] at hx8
          have ho1 : oneS rp sg = decU sg.u := if_pos hb
          have HO1 := Aside0.mk ho1
          clear ho1
          go_wp2_with (first | (go_at_call 32; refine (decC (u := sg.u) (S := S) (by have := HSU.out; omega) (fun b q => Nat.lt_of_lt_of_le (HS.out b q) (HBA.out _ _).size) (HRU.out.mono (fun _ q => q) (fun b q => (HBA.out _ _).block b (HS.out b q)))).mono ?_; rintro e w1 ⟨x, S2, rfl, hx, hs2, hb1⟩; have HX := Aside0.mk hx; have HS2 := Aside0.mk hs2; have HB1 := Aside0.mk hb1; clear hx hs2 hb1) | (go_at_call 34; refine (txtC (u := decU sg.u) (S := S2) (by have := HSU.out; have := decU_len sg.u; omega) HS2.out HX.out).mono ?_; rw [← HO1.out]; rintro e w2 ⟨rfl, hb2⟩; have HB2 := Aside0.mk hb2; have HBM := Aside0.mk ((HBA.out _ _).trans (HB1.out.mono (HBA.out _ _).size)); have HBN := Aside0.mk (HBM.out.trans (HB2.out.mono HBM.out.size)); have HOB := Aside0.mk (isB_below (isB_below (HOA.out _ _) HB1.out) HB2.out); clear hb2) | (go_at_call 33; refine (Tryz.Builder_WriteString_k w.heap.size w.heap.size (Lib.byteCells (encS rp (l0.take i))) (encB (oneS rp sg)) _ HOB.out (by rw [Lib.byteCells_length]; have := HL.out; have := HLN.out; have := HEN.out; omega) HBN.out.size).mono ?_; rintro e W1 ⟨rfl, h1, b1, _⟩))
          go_roundg k1
          case measure => have := HI.out; omega
          case rel => exact ⟨i + 1, (by first | rfl | (have := HL.out; have := HLi.out; congr 1; unfold wrap64; omega) | (have := HL.out; have := HLi.out; simp [wrap64]; omega)), ⟨by have := HI.out; omega⟩, ⟨by rw [HTK.out, Lib.byteCells_append, ← strCells_enc]; exact Or.inr h1⟩, ⟨HBN.out.trans b1⟩⟩
        | false =>
          rw [hb] at hx8
          have ho1 : oneS rp sg = [rp] := if_neg (by rw [hb]; decide)
          have HO1 := Aside0.mk ho1
          clear ho1
          go_wp2_with (first | (go_at_call 34; refine (txtNew rp wr _).mono ?_; rw [← HO1.out]; rintro e w2 ⟨rfl, hb2⟩; have HB2 := Aside0.mk hb2; have HBN := Aside0.mk ((HBA.out _ _).trans (HB2.out.mono (HBA.out _ _).size)); have HOB := Aside0.mk (isB_below (HOA.out _ _) HB2.out); clear hb2) | (go_at_call 33; refine (Tryz.Builder_WriteString_k w.heap.size w.heap.size (Lib.byteCells (encS rp (l0.take i))) (encB (oneS rp sg)) _ HOB.out (by rw [Lib.byteCells_length]; have := HL.out; have := HLN.out; have := HEN.out; omega) HBN.out.size).mono ?_; rintro e W1 ⟨rfl, h1, b1, _⟩))
          go_roundg k1
          case measure => have := HI.out; omega
          case rel => exact ⟨i + 1, (by first | rfl | (have := HL.out; have := HLi.out; congr 1; unfold wrap64; omega) | (have := HL.out; have := HLi.out; simp [wrap64]; omega)), ⟨by have := HI.out; omega⟩, ⟨by rw [HTK.out, Lib.byteCells_append, ← strCells_enc]; exact Or.inr h1⟩, ⟨HBN.out.trans b1⟩⟩
      · obtain rfl : i = l0.length := by have := HI.out; omega
        have ho := HO.out
        rw [List.take_length] at ho
        clear HO
        have HO := Aside0.mk ho
        clear ho
        go_wp2_with (go_at_call 35; refine (Tryz.Builder_String_any_k w.heap.size w.heap.size (encS rp l0) _ HO.out (HB.out.size)).mono ?_; rintro e W1 ⟨rfl, _, b1, _⟩)
        go_ret
        exact ⟨rfl, HB.out.trans b1⟩
def STxtS : Sp := ⟨List Sg × Int, fun (l, rp) => l.length ≤ 1000000 ∧ ∀ s ∈ l, s.u.length ≤ 1000000, fun (l, rp) => [aG l, .int .i64 rp], fun (l, rp) => .st (.str (txtS rp l))⟩
theorem lookText : SpOK Tryz.prog 17 STxtS := fun ⟨l, rp⟩ ⟨hl, hu⟩ => by
  refine ⟨⟨_, Tryz.func17, rfl, rfl⟩, fun w S vs hS hv => ?_⟩
  obtain ⟨hl1, hv2⟩ := hv
  match vs, hl1, hv2 with
  | [v, u], hl1, hv2 =>
    have h0 := hv2 0 _ _ rfl rfl
    have h1 := hv2 1 _ _ rfl rfl
    cases h1
    obtain ⟨A, c, rfl, _, _⟩ := sgCells h0
    refine (lookTextC A c rp l S w hS h0 hl hu).mono ?_
    rintro e w' ⟨rfl, hb⟩
    exact ⟨_, S, rfl, .str _, fun _ q => q, fun b q => ⟨Nat.lt_of_lt_of_le (hS b q) hb.size, .inl q⟩, hb⟩
end Go.Abs.Lk
set_option maxRecDepth 100000
namespace Go.Abs.Lk
open Go.RowKit Go.Proofs Go.Abs.Tab Go.Abs.Dest Go.Abs.Span Go.Abs.Coll Go.Abs.Hx Go.Abs.Mt Go.Abs.Utf Go.Abs.Txt
theorem aL_refl {α : Type} [Inhabited α] {f : α → List AV} {sz : Nat} (hf : Emb f sz) (l : List α) : sub0 (aL f sz l) (aL f sz l) := by
  show cond (Nat.beq sz sz) _ False
  rw [Nat.beq_refl]
  exact ⟨⟨rfl⟩, els_of hf (n := 0) (fun _ _ => rfl)⟩
theorem aL_lit {α : Type} [Inhabited α] {f : α → List AV} {sz : Nat} (hf : Emb f sz) (l : List α) : sub0 (aL f sz l) (.sl sz l.length (elt (l.map f))) := (lit_sub hf l).1
set_option maxHeartbeats 4000000 in
theorem table12 : SpOK Tryz.prog 8 STab := fun (t : Tbl) _ => by
  have hC := base
  ((refine Fn.ofF hC Tryz.func8 Tryz.ntmps8 rfl rfl rfl ?_); (repeat' first | (with_reducible exact trivial) | (with_reducible rfl) | (refine And.intro ?_ ?_) | (refine Need.mk ?_) | exact True.intro | (first | (refine ⟨_, Told.refl _, ?_, ?_⟩) | (refine ⟨⟨_, _⟩, Told.refl _, ?_, ?_⟩) | (refine ⟨⟨_, _, _⟩, Told.refl _, ?_, ?_⟩) | (refine ⟨⟨_, _, _, _⟩, Told.refl _, ?_, ?_⟩) | (refine ⟨⟨_, _, _, _, _⟩, Told.refl _, ?_, ?_⟩) | (refine ⟨(), Told.refl _, ?_, ?_⟩)) | (with_reducible intro _) | (refine fun (_ : Bool) => ?_)))
def SAwakeL : Sp := ⟨Unit, fun _ => True, fun _ => [], fun _ => .st (.lit true)⟩
def tL : Tbl := ⟨ByteArray.empty, 0, [⟨1, 0, 255⟩], [⟨1, 65, 66, 7⟩], [], [⟨1, 65, 65, [913]⟩]⟩
def SLookA (L : List Sg) : Sp := ⟨Unit, fun _ => True, fun _ => [.agg (cT tL), a8 [65, 66]], fun _ => .row 63 9 L.length (els cG L)⟩
set_option maxHeartbeats 16000000 in
theorem awake12 : SpOK Tryz.prog 5 SAwakeL := fun _ _ => by
  obtain ⟨L, hL⟩ : ∃ L, L = sgs tL [65, 66] := ⟨_, rfl⟩
  have hA : SpOK Tryz.prog 15 (SLookA L) := fun _ _ => by
    have := look (tL, [65, 66]) ⟨⟨by decide, by decide, by decide, by decide⟩, by decide, fun x hx => by
      simp only [List.mem_cons, List.not_mem_nil, or_false] at hx
      rcases hx with rfl | rfl <;> decide⟩
    rw [hL]
    exact this
  have hC : COK Tryz.prog (cfg [(15, SLookA L), (17, STxtS)]) := Ty.ty.cfg ⟨hA, lookText, trivial⟩
  have h0 : (sgs tL [65, 66]).length = 2 := by decide +kernel
  have h1 : ((sgs tL [65, 66]).getD 0 default).has = true := by decide +kernel
  have h2 : ((sgs tL [65, 66]).getD 0 default).cid = 7 := by decide +kernel
  have h3 : ((sgs tL [65, 66]).getD 0 default).kind = 1 := by decide +kernel
  have h4 : ((sgs tL [65, 66]).getD 1 default).has = false := by decide +kernel
  have h5 : ((sgs tL [65, 66]).getD 1 default).cid = 8 := by decide +kernel
  have h6 : (txtS 63 (sgs tL [65, 66]) == (⟨#[206, 145, 63]⟩ : ByteArray)) = true := by decide +kernel
  have h7 : ∀ s ∈ sgs tL [65, 66], s.u.length ≤ 1000000 := by decide +kernel
  rw [beq_toListBytes] at h6
  rw [← hL] at h0 h1 h2 h3 h4 h5 h6 h7
  ((refine Fn.ofF hC Tryz.func5 Tryz.ntmps5 rfl rfl rfl ?_); (repeat' first | (with_reducible exact trivial) | (with_reducible rfl) | (refine And.intro ?_ ?_) | (refine Need.mk ?_) | exact True.intro | (first | (refine ⟨_, Told.refl _, ?_, ?_⟩) | (refine ⟨⟨_, _⟩, Told.refl _, ?_, ?_⟩) | (refine ⟨⟨_, _, _⟩, Told.refl _, ?_, ?_⟩) | (refine ⟨⟨_, _, _, _⟩, Told.refl _, ?_, ?_⟩) | (refine ⟨⟨_, _, _, _, _⟩, Told.refl _, ?_, ?_⟩) | (refine ⟨(), Told.refl _, ?_, ?_⟩)) | (with_reducible intro _) | (refine fun (_ : Bool) => ?_)))
  refine Exists.intro () (And.intro (Told.of ?_) (And.intro ?_ ?_))
  · refine ⟨⟨⟨rfl⟩, ⟨rfl⟩, aL_lit cR_emb [⟨1, 0, 255⟩], aL_lit cSp_emb [⟨1, 65, 66, 7⟩], ⟨rfl⟩, ⟨⟨rfl⟩, fun i hi => ?_⟩, trivial⟩, aL_lit c8_emb [65, 66], trivial⟩
    have hi : i < 1 := hi
    obtain rfl : i = 0 := by omega
    exact ⟨⟨rfl⟩, ⟨rfl⟩, ⟨rfl⟩, aL_lit ci_emb [913], trivial⟩
  · trivial
  (repeat' first | (with_reducible exact trivial) | (with_reducible rfl) | (refine And.intro ?_ ?_) | (refine Need.mk ?_) | exact True.intro | (first | (refine ⟨_, Told.refl _, ?_, ?_⟩) | (refine ⟨⟨_, _⟩, Told.refl _, ?_, ?_⟩) | (refine ⟨⟨_, _, _⟩, Told.refl _, ?_, ?_⟩) | (refine ⟨⟨_, _, _, _⟩, Told.refl _, ?_, ?_⟩) | (refine ⟨⟨_, _, _, _, _⟩, Told.refl _, ?_, ?_⟩) | (refine ⟨(), Told.refl _, ?_, ?_⟩)) | (with_reducible intro _) | (refine fun (_ : Bool) => ?_))
  all_goals first
    | omega
    | exact h7 _ ‹_›
    | exact h6
    | (exact absurd ‹((L.length : Int) == 2) = false› (by rw [h0]; decide))
    | (exact absurd ‹(L.getD (Int.toNat 0) default).has = false› (by rw [show (L.getD (Int.toNat 0) default).has = true from h1]; decide))
    | (exact absurd ‹((L.getD (Int.toNat 0) default).cid == 7) = false› (by rw [show (L.getD (Int.toNat 0) default).cid = 7 from h2]; decide))
    | (exact absurd ‹((L.getD (Int.toNat 0) default).kind == 1) = false› (by rw [show (L.getD (Int.toNat 0) default).kind = 1 from h3]; decide))
    | (exact absurd ‹(!(L.getD (Int.toNat 1) default).has) = false› (by rw [show (L.getD (Int.toNat 1) default).has = false from h4]; decide))
    | (exact absurd ‹((L.getD (Int.toNat 1) default).cid == 8) = false› (by rw [show (L.getD (Int.toNat 1) default).cid = 8 from h5]; decide))
theorem findS_nil (st : Bool) (n v : Int) : (ES st).find [] n v = none := by
  unfold En.find
  split <;> rfl
def SKinds : Sp := ⟨Tbl × Int × Int, fun _ => True, fun (t, n, v) => [.agg (cT t), aCode n v], fun _ => .st (.lit true)⟩
end Go.Abs.Lk
set_option maxRecDepth 100000
namespace Go.Abs.Lk
open Go.RowKit Go.Proofs Go.Abs.Tab Go.Abs.Dest Go.Abs.Span Go.Abs.Coll Go.Abs.Hx Go.Abs.Mt Go.Abs.Utf Go.Abs.Txt
theorem getG {l : List Sg} {i : Nat} (h : i < l.length) : l.getD i default = l[i] := by simp [List.getD, h]
theorem find_short {l : List Bf} {n v : Int} {a : List Int} (h : EB.find l n v = some a) : a.length ≤ 64 := by
  have hc : EB.canon l = true := by
    unfold En.find at h
    split at h
    · assumption
    · cases h
  have htab := (EB.canon_iff l).1 hc
  rw [EB.find_tab htab] at h
  obtain ⟨b, hb, ⟨h1, h2, h3⟩, rfl⟩ := Tb.get_mem _ h
  have r := rngB (htab.1 b hb)
  show (fur b.to (v - b.lo)).length ≤ 64
  rw [fur_len]
  omega
theorem sg_short (t : Tbl) (s : List Int) : ∀ x ∈ sgs t s, x.u.length ≤ 64 := by
  intro x hx
  obtain ⟨p, _, rfl⟩ := List.mem_map.1 hx
  unfold sgOf
  split
  · show ((EB.find t.bfs p.cn p.cv).getD []).length ≤ 64
    cases h : EB.find t.bfs p.cn p.cv with
    | none => exact Nat.zero_le _
    | some a => exact find_short h
  · exact Nat.zero_le _
theorem sgs_len (t : Tbl) (s : List Int) : (sgs t s).length ≤ s.length := by
  unfold sgs
  rw [List.length_map]
  exact allAt_len _ 0 rfl
theorem few_small {t : Tbl} (h : (!fewT t) = false) : smallT t := by
  have := (fewT_iff t).1 (by simpa using h)
  exact ⟨by omega, by omega, by omega, by omega⟩
theorem sgs_mode (t : Tbl) (name : ByteArray) (mode : Int) (s : List Int) : sgs ⟨name, mode, t.spaces, t.cids, t.nots, t.bfs⟩ s = sgs t s := rfl
def SModes : Sp := ⟨Tbl × List Int × ByteArray × Int, fun (t, s, nm, md) => B8 s, fun (t, s, nm, md) => [.agg (cT t), a8 s, .str nm, .int .i64 md], fun _ => .st (.lit true)⟩
end Go.Abs.Lk
set_option maxRecDepth 100000
namespace Go.Abs.Sm
open Go.RowKit Go.Proofs Go.Abs.Tab Go.Abs.Dest Go.Abs.Span Go.Abs.Coll Go.Abs.Hx Go.Abs.Mt Go.Abs.Rc Go.Abs.Lk Go.Abs.Utf Go.Abs.Txt
theorem find_lastL {α V : Type} [Inhabited α] (E : En α V) (l : List α) (n v : Int) : E.find (E.build l) n v = E.last l n v := by
  rw [E.find_tab (E.build_ok l).1, ← En.last_tab E (E.build_ok l).1, En.last_build]
/-- What the lists say of a sign. -/
def goodSg (l : List Itm) (x : Sg) : Prop := x.p.full = true →
  (x.kind = (if ((ES true).last (listsT l).cids x.p.cn x.p.cv).isSome = true then 1 else if ((ES false).last (listsT l).nots x.p.cn x.p.cv).isSome = true then 2 else 0)) ∧
  (x.cid = (if ((ES true).last (listsT l).cids x.p.cn x.p.cv).isSome = true then ((ES true).last (listsT l).cids x.p.cn x.p.cv).getD 0 else if ((ES false).last (listsT l).nots x.p.cn x.p.cv).isSome = true then ((ES false).last (listsT l).nots x.p.cn x.p.cv).getD 0 else 0)) ∧
  x.u = (EB.find (allT l).bfs x.p.cn x.p.cv).getD [] ∧ x.has = (EB.find (allT l).bfs x.p.cn x.p.cv).isSome
theorem good_all (l : List Itm) (s : List Int) : ∀ x ∈ sgs (allT l) s, goodSg l x := by
  intro x hx
  obtain ⟨p, _, rfl⟩ := List.mem_map.1 hx
  intro hf
  have hp : (sgOf (allT l) p).p = p := by unfold sgOf; split <;> rfl
  rw [hp] at hf ⊢
  have g1 : (ES true).find (allT l).cids p.cn p.cv = (ES true).last (listsT l).cids p.cn p.cv := by rw [all_eq]; exact find_lastL _ _ _ _
  have g2 : (ES false).find (allT l).nots p.cn p.cv = (ES false).last (listsT l).nots p.cn p.cv := by rw [all_eq]; exact find_lastL _ _ _ _
  have e : sgOf (allT l) p = ⟨p, (numT (allT l) p.cn p.cv).2, (numT (allT l) p.cn p.cv).1, (EB.find (allT l).bfs p.cn p.cv).getD [], (EB.find (allT l).bfs p.cn p.cv).isSome⟩ := if_pos hf
  rw [e]
  unfold numT
  rw [g1, g2]
  cases (ES true).last (listsT l).cids p.cn p.cv with
  | some a => exact ⟨rfl, rfl, rfl, rfl⟩
  | none =>
    cases (ES false).last (listsT l).nots p.cn p.cv with
    | some b => exact ⟨rfl, rfl, rfl, rfl⟩
    | none => exact ⟨rfl, rfl, rfl, rfl⟩
theorem sgs_few (t : Tbl) (s : List Int) : (sgs t s).length ≤ s.length := by
  unfold sgs
  rw [List.length_map]
  exact allAt_len (s.length - 0) 0 rfl
theorem find_lenL (l : List Bf) (n v : Int) : ((EB.find l n v).getD []).length ≤ 64 := by
  cases h : EB.find l n v with
  | none => exact Nat.zero_le _
  | some a => exact find_short h
theorem ents_leL {l : List Itm} {n : Nat} (h : cntL l ≤ n) : ∀ x ∈ l, x.ents.length ≤ n := fun x hx => by
  obtain ⟨i, hi, rfl⟩ := List.getElem_of_mem hx
  have := cntL_at hi
  rw [getX hi] at this
  unfold cntX at this
  omega
def SLookLast : Sp := ⟨List Itm × List Int, fun (l, s) => fits l ∧ B8 s, fun (l, s) => [aX l, a8 s], fun _ => .st (.lit true)⟩
set_option maxHeartbeats 32000000 in
theorem lookLast : SpOK Tryz.prog 4 SLookLast := fun ⟨l, s⟩ ⟨hf, h8⟩ => by
  have hC : COK Tryz.prog (cfg [(5, SAwakeL), (20, SShortL), (22, SOurs), (21, SAllX), (23, SListsX), (15, SLook), (10, SUniL), (24, SLastSp), (12, SSame)]) := Ty.ty.cfg ⟨awake12, rshort, ours12, semAll, semLists, Lk.look, uniL, lastS, refSame, trivial⟩
  have hf : fits l := hf
  have h8 : B8 s := h8
  have hgd := good_all l s
  have hln := sgs_few (allT l) s
  have hsh := sg_short (allT l) s
  ((refine Fn.ofF hC Tryz.func4 Tryz.ntmps4 rfl rfl rfl ?_); (repeat' first | (with_reducible exact trivial) | (with_reducible rfl) | (refine And.intro ?_ ?_) | (refine Need.mk ?_) | exact True.intro | (first | (refine ⟨_, Told.refl _, ?_, ?_⟩) | (refine ⟨⟨_, _⟩, Told.refl _, ?_, ?_⟩) | (refine ⟨⟨_, _, _⟩, Told.refl _, ?_, ?_⟩) | (refine ⟨⟨_, _, _, _⟩, Told.refl _, ?_, ?_⟩) | (refine ⟨⟨_, _, _, _, _⟩, Told.refl _, ?_, ?_⟩) | (refine ⟨(), Told.refl _, ?_, ?_⟩)) | (with_reducible intro _) | (refine fun (_ : Bool) => ?_)))
  all_goals try exact hf.1
  all_goals try exact (hf.2 _ ‹_›).1
  all_goals try exact (hf.2 _ ‹_ ∈ l›).2 _ ‹_›
  all_goals obtain ⟨s1, s2⟩ := short_few (l := l) (by simpa using ‹(!shortL l) = false›)
  all_goals have s3 := ents_leL (l := l) s2
  all_goals obtain ⟨q1, q2, q3, q4⟩ := all_len l
  all_goals obtain ⟨r1, r2, r3, r4⟩ := lists_len l
  all_goals have hsl := of_decide_eq_false ‹decide ((s.length : Int) > 60) = false›
  all_goals first
    | (show l.length ≤ 1000000; omega)
    | (show cntL l ≤ 100000; omega)
    | (have := s3 _ ‹_›; omega)
    | omega
    | exact h8
    | exact ⟨by omega, by omega, by omega, by omega⟩
    | skip
  obtain ⟨L, hL⟩ : ∃ L, L = sgs (allT l) s := ⟨_, rfl⟩
  rw [← hL] at hgd hln hsh
  refine AW.loop (I := fun k : Nat => ⟨117, [(5, .lit true), (6, .ptr 0 0), (7, .ptr 1 0), (8, .own 2), (9, .int .i64 k)], [.box 40 (cT (allT l)), .box 40 (cT (listsT l)), .row 63 9 L.length (els cG L)]⟩) (fun k => k ≤ L.length) (fun k => L.length - k) 0 (Nat.zero_le _) ?_ ?_
  · clear hgd hln hsh
    subst hL
    (repeat' first | (with_reducible exact trivial) | (with_reducible rfl) | (refine And.intro ?_ ?_) | (refine Need.mk ?_) | exact True.intro | (first | (refine ⟨_, Told.refl _, ?_, ?_⟩) | (refine ⟨⟨_, _⟩, Told.refl _, ?_, ?_⟩) | (refine ⟨⟨_, _, _⟩, Told.refl _, ?_, ?_⟩) | (refine ⟨⟨_, _, _, _⟩, Told.refl _, ?_, ?_⟩) | (refine ⟨⟨_, _, _, _, _⟩, Told.refl _, ?_, ?_⟩) | (refine ⟨(), Told.refl _, ?_, ?_⟩)) | (with_reducible intro _) | (refine fun (_ : Bool) => ?_))
    all_goals rfl
  · clear hL
    intro k hk
    rcases Nat.lt_or_ge k L.length with hlt | hge
    · have hd : decide ((k : Int) < (L.length : Int)) = true := decide_eq_true (by omega)
      have hw := iw (n := (k : Int) + 1) (by omega) (by omega)
      have hg := hgd (L.getD k default) (by rw [getG hlt]; exact List.getElem_mem hlt)
      have hu := hsh (L.getD k default) (by rw [getG hlt]; exact List.getElem_mem hlt)
      have hfl := find_lenL (allT l).bfs (L.getD k default).p.cn (L.getD k default).p.cv
      ((refine AW.byF ‹_› ?_); (repeat' first | (with_reducible exact trivial) | (with_reducible rfl) | (refine And.intro ?_ ?_) | (refine Need.mk ?_) | exact True.intro | (first | (refine ⟨_, Told.refl _, ?_, ?_⟩) | (refine ⟨⟨_, _⟩, Told.refl _, ?_, ?_⟩) | (refine ⟨⟨_, _, _⟩, Told.refl _, ?_, ?_⟩) | (refine ⟨⟨_, _, _, _⟩, Told.refl _, ?_, ?_⟩) | (refine ⟨⟨_, _, _, _, _⟩, Told.refl _, ?_, ?_⟩) | (refine ⟨(), Told.refl _, ?_, ?_⟩)) | (with_reducible intro _) | (refine fun (_ : Bool) => ?_)))
      all_goals first | (exact absurd ‹decide ((k : Int) < (L.length : Int)) = false› (by rw [hd]; decide)) | skip
      any_goals (first | (refine Exists.intro ((k + 1 : Nat)) (And.intro ?_ (And.intro ?_ ?_)); all_goals (repeat' first | (with_reducible exact trivial) | (with_reducible rfl) | (refine And.intro ?_ ?_) | (refine Need.mk ?_) | exact True.intro | (first | (refine ⟨_, Told.refl _, ?_, ?_⟩) | (refine ⟨⟨_, _⟩, Told.refl _, ?_, ?_⟩) | (refine ⟨⟨_, _, _⟩, Told.refl _, ?_, ?_⟩) | (refine ⟨⟨_, _, _, _⟩, Told.refl _, ?_, ?_⟩) | (refine ⟨⟨_, _, _, _, _⟩, Told.refl _, ?_, ?_⟩) | (refine ⟨(), Told.refl _, ?_, ?_⟩)) | (with_reducible intro _) | (refine fun (_ : Bool) => ?_))) | fail)
      all_goals try simp only [Int.toNat_natCast] at *
      all_goals first
        | omega
        | (rw [hw]; rfl)
        | (show (listsT l).cids.length < 1000000000; omega)
        | (show (listsT l).nots.length < 1000000000; omega)
        | (show (allT l).bfs.length < 4611686018427387904; omega)
        | (show (L.getD k default).u.length < 9223372036854775807; omega)
        | (exfalso
           obtain ⟨k1, k2, k3, k4⟩ := hg (by simpa using ‹(!(L.getD k default).p.full) = false›)
           simp_all
           done)
        | skip
    · obtain rfl : k = L.length := by omega
      have hd : decide ((L.length : Int) < (L.length : Int)) = false := decide_eq_false (by omega)
      ((refine AW.byF ‹_› ?_); (repeat' first | (with_reducible exact trivial) | (with_reducible rfl) | (refine And.intro ?_ ?_) | (refine Need.mk ?_) | exact True.intro | (first | (refine ⟨_, Told.refl _, ?_, ?_⟩) | (refine ⟨⟨_, _⟩, Told.refl _, ?_, ?_⟩) | (refine ⟨⟨_, _, _⟩, Told.refl _, ?_, ?_⟩) | (refine ⟨⟨_, _, _, _⟩, Told.refl _, ?_, ?_⟩) | (refine ⟨⟨_, _, _, _, _⟩, Told.refl _, ?_, ?_⟩) | (refine ⟨(), Told.refl _, ?_, ?_⟩)) | (with_reducible intro _) | (refine fun (_ : Bool) => ?_)))
      all_goals first | (exact absurd ‹decide ((L.length : Int) < (L.length : Int)) = true› (by rw [hd]; decide)) | skip
end Go.Abs.Sm
