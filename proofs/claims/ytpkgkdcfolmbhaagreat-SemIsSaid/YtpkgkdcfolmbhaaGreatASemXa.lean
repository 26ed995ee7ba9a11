/- Several texts of this claim, merged (ASemXa). -/
import Derived.Test.YtpkgkdcfolmbhaaGreatAbsSpec
import Derived.WalkKit
import Derived.OpenShut
import Derived.ChangeArms
import Derived.DataReads
import Derived.DataElems
import Derived.SizedLaws
import Derived.Test.YtpkgkdcfolmbhaaGreatADestA
import Derived.Test.YtpkgkdcfolmbhaaGreatATbl
import Derived.Test.YtpkgkdcfolmbhaaGreatASemP
import Derived.Test.YtpkgkdcfolmbhaaGreatASpanK
import Derived.Test.YtpkgkdcfolmbhaaGreatADestD
import Derived.Lib.AppendZerosOnto
import Derived.Deep.Draws
import Derived.OwnWalk
import Derived.OrdersHeld
import Derived.Shelf.Spec.SlicesInsertGrow
import Derived.Test.YtpkgkdcfolmbhaaGreatADestFew
import Derived.Test.YtpkgkdcfolmbhaaGreatASane
import Derived.Test.YtpkgkdcfolmbhaaGreatADestR
set_option linter.all false
namespace Go.Abs
open Go.RowKit
section
variable {P : Program} {t e : TypeId} {α β : Type} {f : α → List AV} {f' : β → List AV} {wf : α → Prop} {wf' : β → Prop} {sz sz' : Nat}
/-- The blocks there are. -/
def Sall (w : World) (b : Nat) : Prop := b < w.heap.size
/-- Whatever reads as data at the type t is told by f, and meets wf. -/
def OpA (P : Program) (t : TypeId) {α : Type} (f : α → List AV) (wf : α → Prop) : Prop :=
  ∀ {H : Type} (enc : TypeId × Value → H) (w : World) (base : Nat) (spare : Nat → Bool) (held : Bool) (fuel : Nat) (cs : List Value) (x : DataW H × List MemPlace),
    DataW.trod enc P w base spare held fuel t cs = some x → ∃ a : α, RVs0 w (Sall w) (f a) cs ∧ wf a
theorem rvs1 {w : World} {S : Nat → Prop} {a : AV} {v : Value} (h : RV0 w S a v) : RVs0 w S [a] [v] := ⟨rfl, fun i x u h1 h2 => by
  cases i with
  | zero => simp at h1 h2; subst h1; subst h2; exact h
  | succ i => simp at h1⟩
theorem OpA.int {k : IntKind} (ht : P.underlying t = some (.int k)) : OpA P t (fun n : Int => [.int k n]) (fun n => (Lit.int k n).wf = true) := by
  intro H enc w base spare held fuel cs x h
  obtain ⟨n, rfl, _, hw⟩ := DataW.trod_int ht h
  exact ⟨n, rvs1 (.int _ _), hw⟩
theorem OpA.bool (ht : P.underlying t = some .bool) : OpA P t (fun b : Bool => [.sb b]) (fun _ => True) := by
  intro H enc w base spare held fuel cs x h
  obtain ⟨n, rfl, _⟩ := DataW.trod_bool ht h
  exact ⟨n, rvs1 (.sb _), trivial⟩
theorem OpA.string (ht : P.underlying t = some .string) : OpA P t (fun s : ByteArray => [.str s]) (fun s => s.size ≤ maxLen) := by
  intro H enc w base spare held fuel cs x h
  obtain ⟨n, rfl, _, hw⟩ := DataW.trod_string ht h
  exact ⟨n, rvs1 (.str _), hw⟩
theorem OpA.mono {wf2 : α → Prop} (h : OpA P t f wf) (hm : ∀ a, wf a → wf2 a) : OpA P t f wf2 := by
  intro H enc w base spare held fuel cs x hx
  obtain ⟨a, hk, hw⟩ := h enc w base spare held fuel cs x hx
  exact ⟨a, hk, hm a hw⟩
theorem list_of {n : Nat} {Q : Nat → α → Prop} (h : ∀ i, i < n → ∃ a, Q i a) : ∃ l : List α, l.length = n ∧ ∀ i a, l[i]? = some a → Q i a := by
  induction n with
  | zero => exact ⟨[], rfl, fun i a hi => by simp at hi⟩
  | succ n ih =>
    obtain ⟨l, hl, hq⟩ := ih (fun i hi => h i (by omega))
    obtain ⟨a, ha⟩ := h n (by omega)
    refine ⟨l ++ [a], by simp [hl], fun i b hi => ?_⟩
    by_cases hin : i < n
    · rw [List.getElem?_append_left (by omega)] at hi
      exact hq i b hi
    · have hlt : i < (l ++ [a]).length := (List.getElem?_eq_some_iff.1 hi).1
      obtain rfl : i = n := by simp [hl] at hlt; omega
      rw [List.getElem?_append_right (by omega), hl, Nat.sub_self] at hi
      obtain rfl := Option.some.inj hi
      exact ha
theorem OpA.slice [Inhabited α] (ht : P.underlying t = some (.slice e)) (hc : P.cellsOf e = sz) (hf : Emb f sz) (he : OpA P e f wf) :
    OpA P t (fun l : List α => [aL f sz l]) (fun l => l.length ≤ maxLen ∧ ∀ x ∈ l, wf x) := by
  intro H enc w base spare held fuel cs x h
  rcases DataW.trod_slice ht h with ⟨rfl, _⟩ | ⟨a, len, cap, elems, rest, n, _, rfl, _, hb, hl, hm, hlen, hel, _, _⟩
  · exact ⟨[], rvs1 (.sl _ _ _ none 0 (fun _ _ => undef) (Nat.le_refl _) (Nat.zero_le _) (fun i hi => by simp at hi) (fun i j hi => by simp at hi) (fun i j a hi => by simp at hi)), Nat.zero_le _, fun x hx => by simp at hx⟩
  · have hex : ∀ i, i < len → ∃ b : α, wf b ∧ ∃ c, c.length = sz ∧ RVs0 w (Sall w) (f b) c ∧ ∀ j u, c[j]? = some u → w.cell? (a.add (i * sz + j)) = some u := by
      intro i hi
      have h1 := hel i hi
      rw [List.getElem?_eq_getElem (by omega)] at h1
      obtain ⟨c, hcs, htr⟩ := Option.bind_eq_some_iff.mp h1
      obtain ⟨_, hcl, hat⟩ := World.cells?_some hcs
      obtain ⟨b, hK, hw⟩ := he enc w base spare held n c _ htr
      refine ⟨b, hw, c, by rw [hcl, hc], hK, fun j u hj => ?_⟩
      have hjl : j < c.length := (List.getElem?_eq_some_iff.1 hj).1
      have := hat j (by omega)
      rw [hj, hc] at this
      rw [← this, Addr.add_add]
    obtain ⟨l, hll, hq⟩ := list_of hex
    have hget : ∀ i, i < l.length → l[i]? = some (l.getD i default) := fun i hi => by simp [List.getD, hi]
    refine ⟨l, rvs1 ?_, by omega, fun x hx => ?_⟩
    · subst hll
      refine .sl _ _ _ (some a) cap (fun i j => (w.cell? (a.add (i * sz + j))).getD undef) (by omega) (by omega) (fun i hi => ⟨(hf _).2.2, (hf _).1⟩) (fun i j hi hj => ?_) (fun i j x hi hx => ?_)
      · obtain ⟨_, c, hcl, hK, hcell⟩ := hq i _ (hget i hi)
        have h1 := hcell j c[j] (List.getElem?_eq_getElem (by omega))
        refine ⟨a, rfl, ?_, by rw [h1]; rfl⟩
        have h2 := World.block_lt_of_cell? _ _ h1
        have h3 : (a.add (i * sz + j)).block = a.block := by unfold Addr.add; split <;> rfl
        exact h3 ▸ h2
      · obtain ⟨_, c, hcl, hK, hcell⟩ := hq i _ (hget i hi)
        have hj : j < sz := by rw [← (hf (l.getD i default)).2.2]; exact (List.getElem?_eq_some_iff.1 hx).1
        have h1 := hcell j c[j] (List.getElem?_eq_getElem (by omega))
        rw [h1]
        exact hK.2 j x _ hx (List.getElem?_eq_getElem (by omega))
    · obtain ⟨i, hi, rfl⟩ := List.getElem_of_mem hx
      exact (hq i _ (List.getElem?_eq_getElem hi)).1
/-- A run of a struct's fields, from a cell on. -/
def OpAF (P : Program) (fs : List Field) (off n : Nat) {α : Type} (f : α → List AV) (wf : α → Prop) : Prop :=
  ∀ {H : Type} (enc : TypeId × Value → H) (w : World) (base : Nat) (spare : Nat → Bool) (held : Bool) (fuel : Nat) (cs : List Value),
    (∀ (j : Nat) (fl : Field), fs[j]? = some fl → ∃ y, DataW.trod enc P w base spare held fuel fl.type ((cs.drop fl.offset).take (P.cellsOf fl.type)) = some y) →
    cs.length = off + n → ∃ a : α, RVs0 w (Sall w) (f a) (cs.drop off) ∧ wf a
theorem OpAF.one {fl : Field} {off n : Nat} (hf : OpA P fl.type f wf) (ho : fl.offset = off) (hc : P.cellsOf fl.type = n) : OpAF P [fl] off n f wf := by
  intro H enc w base spare held fuel cs hx hl
  obtain ⟨y, hy⟩ := hx 0 fl rfl
  obtain ⟨a, hK, hw⟩ := hf enc w base spare held fuel _ y hy
  rw [ho, hc, List.take_of_length_le (by rw [List.length_drop]; omega)] at hK
  exact ⟨a, hK, hw⟩
theorem RVs0.append {w : World} {S : Nat → Prop} {xs1 bs : List AV} {us vs : List Value} (h : RVs0 w S xs1 us) (k : RVs0 w S bs vs) : RVs0 w S (xs1 ++ bs) (us ++ vs) := by
  refine ⟨by rw [List.length_append, List.length_append, h.1, k.1], fun i a v h1 h2 => ?_⟩
  by_cases hi : i < xs1.length
  · rw [List.getElem?_append_left hi] at h1
    rw [List.getElem?_append_left (by rw [h.1]; exact hi)] at h2
    exact h.2 i a v h1 h2
  · rw [List.getElem?_append_right (by omega)] at h1
    rw [List.getElem?_append_right (by rw [h.1]; omega), h.1] at h2
    exact k.2 _ a v h1 h2
theorem OpAF.cons {fl : Field} {fs : List Field} {off n m : Nat} (hf : OpA P fl.type f wf) (ho : fl.offset = off) (hc : P.cellsOf fl.type = n) (hr : OpAF P fs (off + n) m f' wf') :
    OpAF P (fl :: fs) off (n + m) (fun x : α × β => f x.1 ++ f' x.2) (fun x => wf x.1 ∧ wf' x.2) := by
  intro H enc w base spare held fuel cs hx hl
  obtain ⟨y, hy⟩ := hx 0 fl rfl
  obtain ⟨a, hK, hw⟩ := hf enc w base spare held fuel _ y hy
  obtain ⟨b, hK2, hw2⟩ := hr enc w base spare held fuel cs (fun j g hg => hx (j + 1) g hg) (by omega)
  rw [ho, hc] at hK
  refine ⟨(a, b), ?_, hw, hw2⟩
  have := RVs0.append hK hK2
  rwa [← List.drop_drop, List.take_append_drop] at this
theorem OpA.struct {fs : Array Field} {n : Nat} (ht : P.underlying t = some (.struct fs)) (hf : OpAF P fs.toList 0 n f wf) (hc : P.cellsOf t = n) : OpA P t f wf := by
  intro H enc w base spare held fuel cs x h
  obtain ⟨xs, m, rfl, _, hlen, hxl, hget⟩ := DataW.trod_struct ht h
  obtain ⟨a, hK, hw⟩ := hf enc w base spare held m cs (fun j fl hj => by
    have hj' : fs[j]? = some fl := by simpa using hj
    have hjl : j < fs.size := (Array.getElem?_eq_some_iff.1 hj').1
    exact ⟨_, (hget j fl hj').trans (List.getElem?_eq_getElem (by omega))⟩) (by omega)
  exact ⟨a, by simpa using hK, hw⟩
theorem OpA.iso {g : β → List AV} (h : OpA P t f wf) (to : α → β) (hg : ∀ a, g (to a) = f a) (hw : ∀ a, wf a → wf' (to a)) : OpA P t g wf' := by
  intro H enc w base spare held fuel cs x hx
  obtain ⟨a, hk, hwf⟩ := h enc w base spare held fuel cs x hx
  exact ⟨to a, by rw [hg]; exact hk, hw a hwf⟩
end
end Go.Abs
namespace Go.Abs
open Go.RowKit
section
variable {P : Program} {t e : TypeId} {α β : Type} {f : α → List AV} {f' : β → List AV} {wf : α → Prop} {wf' : β → Prop} {sz sz' : Nat}
/-- .. where what reads is of a size that can be. -/
def OpZ (P : Program) (t : TypeId) {α : Type} (f : α → List AV) (wf : α → Prop) : Prop :=
  ∀ {H : Type} (enc : TypeId × Value → H) (w : World) (base : Nat) (spare : Nat → Bool) (held : Bool) (fuel : Nat) (cs : List Value) (x : DataW H × List MemPlace),
    DataW.trod enc P w base spare held fuel t cs = some x → (∀ n ∈ x.1.weights P t, n ≤ reachBytes) → ∃ a : α, RVs0 w (Sall w) (f a) cs ∧ wf a
theorem OpA.z (h : OpA P t f wf) : OpZ P t f wf := fun enc w base spare held fuel cs x hx _ => h enc w base spare held fuel cs x hx
theorem OpZ.mono {wf2 : α → Prop} (h : OpZ P t f wf) (hm : ∀ a, wf a → wf2 a) : OpZ P t f wf2 := by
  intro H enc w base spare held fuel cs x hx hz
  obtain ⟨a, hk, hw⟩ := h enc w base spare held fuel cs x hx hz
  exact ⟨a, hk, hm a hw⟩
theorem weightsAll_mem {H : Type} {e : TypeId} : ∀ {l : List (DataW H)} {i : Nat} {d : DataW H}, l[i]? = some d → ∀ n ∈ d.weights P e, n ∈ DataW.weightsAll P e l
  | [], i, d, h => by simp at h
  | c :: l, 0, d, h => fun n hn => by
    simp at h
    subst h
    simp only [DataW.weightsAll, List.mem_append]
    exact .inl hn
  | c :: l, i + 1, d, h => fun n hn => by
    simp only [DataW.weightsAll, List.mem_append]
    exact .inr (weightsAll_mem (l := l) (by simpa using h) n hn)
theorem OpZ.slice [Inhabited α] (ht : P.underlying t = some (.slice e)) (hc : P.cellsOf e = sz) {by_ : Nat} (hby : P.bytesOf e = by_) (hf : Emb f sz) (he : OpZ P e f wf) :
    OpZ P t (fun l : List α => [aL f sz l]) (fun l => (l.length ≤ maxLen ∧ l.length * by_ ≤ reachBytes) ∧ ∀ x ∈ l, wf x) := by
  intro H enc w base spare held fuel cs x h hz
  rcases DataW.trod_slice ht h with ⟨rfl, _⟩ | ⟨a, len, cap, elems, rest, n, _, rfl, hx, hb, hl, hm, hlen, hel, _, _⟩
  · exact ⟨[], rvs1 (.sl _ _ _ none 0 (fun _ _ => undef) (Nat.le_refl _) (Nat.zero_le _) (fun i hi => by simp at hi) (fun i j hi => by simp at hi) (fun i j a hi => by simp at hi)), ⟨Nat.zero_le _, by simp⟩, fun x hx => by simp at hx⟩
  · rw [hx] at hz
    simp only [DataW.weights, ht, List.mem_cons, List.mem_append] at hz
    have hz0 := hz _ (.inl rfl)
    rw [List.length_map, List.length_map, hby, Nat.add_mul] at hz0
    have hex : ∀ i, i < len → ∃ b : α, wf b ∧ ∃ c, c.length = sz ∧ RVs0 w (Sall w) (f b) c ∧ ∀ j u, c[j]? = some u → w.cell? (a.add (i * sz + j)) = some u := by
      intro i hi
      have h1 := hel i hi
      have h9 : (elems.map (·.1))[i]? = some (elems[i]'(by omega)).1 := by rw [List.getElem?_map, List.getElem?_eq_getElem (by omega)]; rfl
      rw [List.getElem?_eq_getElem (by omega)] at h1
      obtain ⟨c, hcs, htr⟩ := Option.bind_eq_some_iff.mp h1
      obtain ⟨_, hcl, hat⟩ := World.cells?_some hcs
      obtain ⟨b, hK, hw⟩ := he enc w base spare held n c _ htr (fun m hm => hz m (.inr (.inl (weightsAll_mem h9 m hm))))
      refine ⟨b, hw, c, by rw [hcl, hc], hK, fun j u hj => ?_⟩
      have hjl : j < c.length := (List.getElem?_eq_some_iff.1 hj).1
      have := hat j (by omega)
      rw [hj, hc] at this
      rw [← this, Addr.add_add]
    obtain ⟨l, hll, hq⟩ := list_of hex
    have hget : ∀ i, i < l.length → l[i]? = some (l.getD i default) := fun i hi => by simp [List.getD, hi]
    refine ⟨l, rvs1 ?_, ⟨by omega, ?_⟩, fun x hx => ?_⟩
    · subst hll
      refine .sl _ _ _ (some a) cap (fun i j => (w.cell? (a.add (i * sz + j))).getD undef) (by omega) (by omega) (fun i hi => ⟨(hf _).2.2, (hf _).1⟩) (fun i j hi hj => ?_) (fun i j x hi hx => ?_)
      · obtain ⟨_, c, hcl, hK, hcell⟩ := hq i _ (hget i hi)
        have h1 := hcell j c[j] (List.getElem?_eq_getElem (by omega))
        refine ⟨a, rfl, ?_, by rw [h1]; rfl⟩
        have h2 := World.block_lt_of_cell? _ _ h1
        have h3 : (a.add (i * sz + j)).block = a.block := by unfold Addr.add; split <;> rfl
        exact h3 ▸ h2
      · obtain ⟨_, c, hcl, hK, hcell⟩ := hq i _ (hget i hi)
        have hj : j < sz := by rw [← (hf (l.getD i default)).2.2]; exact (List.getElem?_eq_some_iff.1 hx).1
        have h1 := hcell j c[j] (List.getElem?_eq_getElem (by omega))
        rw [h1]
        exact hK.2 j x _ hx (List.getElem?_eq_getElem (by omega))
    · rw [hll, ← hlen]
      omega
    · obtain ⟨i, hi, rfl⟩ := List.getElem_of_mem hx
      exact (hq i _ (List.getElem?_eq_getElem hi)).1
def OpZF (P : Program) (fs : List Field) (off n : Nat) {α : Type} (f : α → List AV) (wf : α → Prop) : Prop :=
  ∀ {H : Type} (enc : TypeId × Value → H) (w : World) (base : Nat) (spare : Nat → Bool) (held : Bool) (fuel : Nat) (cs : List Value),
    (∀ (j : Nat) (fl : Field), fs[j]? = some fl → ∃ y, DataW.trod enc P w base spare held fuel fl.type ((cs.drop fl.offset).take (P.cellsOf fl.type)) = some y ∧ ∀ n ∈ y.1.weights P fl.type, n ≤ reachBytes) →
    cs.length = off + n → ∃ a : α, RVs0 w (Sall w) (f a) (cs.drop off) ∧ wf a
theorem OpZF.one {fl : Field} {off n : Nat} (hf : OpZ P fl.type f wf) (ho : fl.offset = off) (hc : P.cellsOf fl.type = n) : OpZF P [fl] off n f wf := by
  intro H enc w base spare held fuel cs hx hl
  obtain ⟨y, hy, hz⟩ := hx 0 fl rfl
  obtain ⟨a, hK, hw⟩ := hf enc w base spare held fuel _ y hy hz
  rw [ho, hc, List.take_of_length_le (by rw [List.length_drop]; omega)] at hK
  exact ⟨a, hK, hw⟩
theorem OpZF.cons {fl : Field} {fs : List Field} {off n m : Nat} (hf : OpZ P fl.type f wf) (ho : fl.offset = off) (hc : P.cellsOf fl.type = n) (hr : OpZF P fs (off + n) m f' wf') :
    OpZF P (fl :: fs) off (n + m) (fun x : α × β => f x.1 ++ f' x.2) (fun x => wf x.1 ∧ wf' x.2) := by
  intro H enc w base spare held fuel cs hx hl
  obtain ⟨y, hy, hz⟩ := hx 0 fl rfl
  obtain ⟨a, hK, hw⟩ := hf enc w base spare held fuel _ y hy hz
  obtain ⟨b, hK2, hw2⟩ := hr enc w base spare held fuel cs (fun j g hg => hx (j + 1) g hg) (by omega)
  rw [ho, hc] at hK
  refine ⟨(a, b), ?_, hw, hw2⟩
  have := RVs0.append hK hK2
  rwa [← List.drop_drop, List.take_append_drop] at this
theorem OpZ.struct {fs : Array Field} {n : Nat} (ht : P.underlying t = some (.struct fs)) (hf : OpZF P fs.toList 0 n f wf) (hc : P.cellsOf t = n) : OpZ P t f wf := by
  intro H enc w base spare held fuel cs x h hz
  obtain ⟨xs, m, rfl, rfl, hlen, hxl, hget⟩ := DataW.trod_struct ht h
  simp only [DataW.weights, ht] at hz
  obtain ⟨a, hK, hw⟩ := hf enc w base spare held m cs (fun j fl hj => by
    have hj' : fs[j]? = some fl := by simpa using hj
    have hjl : j < fs.size := (Array.getElem?_eq_some_iff.1 hj').1
    refine ⟨_, (hget j fl hj').trans (List.getElem?_eq_getElem (by omega)), fun n hn => hz n ?_⟩
    refine DataW.weights_mem_each (j := j) (t := fl.type) (d := (xs[j]'(by omega)).1) ?_ ?_ n hn
    · rw [List.getElem?_map, hj]; rfl
    · rw [List.getElem?_map, List.getElem?_eq_getElem (by omega)]; rfl) (by omega)
  exact ⟨a, by simpa using hK, hw⟩
theorem OpZ.iso {g : β → List AV} (h : OpZ P t f wf) (to : α → β) (hg : ∀ a, g (to a) = f a) (hw : ∀ a, wf a → wf' (to a)) : OpZ P t g wf' := by
  intro H enc w base spare held fuel cs x hx hz
  obtain ⟨a, hk, hwf⟩ := h enc w base spare held fuel cs x hx hz
  exact ⟨to a, by rw [hg]; exact hk, hw a hwf⟩
end
end Go.Abs
set_option maxRecDepth 100000
namespace Go.Abs.Dest
open Go.RowKit Go.Proofs
abbrev wfI (n : Int) : Prop := (Lit.int .i64 n).wf = true
def wfIs (l : List Int) : Prop := l.length ≤ maxLen ∧ ∀ x ∈ l, wfI x
def wfB (b : Bf) : Prop := wfI b.n ∧ wfI b.lo ∧ wfI b.hi ∧ wfIs b.to
theorem opInt : OpA Tryz.prog 3 (fun n : Int => [.int .i64 n]) wfI := OpA.int Tryz.underlying3
theorem opInts : OpA Tryz.prog 59 (fun l : List Int => [aI l]) wfIs := OpA.slice Tryz.underlying59 (by kernel_rfl) ci_emb opInt
theorem opBf : OpA Tryz.prog 73 cBf wfB :=
  OpA.iso (OpA.struct (n := 1 + (1 + (1 + 1))) Tryz.underlying73 (OpAF.cons opInt rfl (by kernel_rfl) (OpAF.cons opInt rfl (by kernel_rfl) (OpAF.cons opInt rfl (by kernel_rfl) (OpAF.one opInts rfl (by kernel_rfl))))) (by kernel_rfl)) (fun a => ⟨a.1, a.2.1, a.2.2.1, a.2.2.2⟩) (fun _ => rfl) (fun _ h => h)
theorem opBfs : OpA Tryz.prog 24 (fun l : List Bf => [aB l]) (fun l => l.length ≤ maxLen ∧ ∀ x ∈ l, wfB x) := OpA.slice Tryz.underlying24 (by kernel_rfl) cBf_emb opBf
theorem opCode : OpA Tryz.prog 56 (fun x : Int × Int => [.int .i64 x.1, .int .i64 x.2]) (fun x => wfI x.1 ∧ wfI x.2) :=
  OpA.iso (OpA.struct (n := 1 + 1) Tryz.underlying56 (OpAF.cons opInt rfl (by kernel_rfl) (OpAF.one opInt rfl (by kernel_rfl))) (by kernel_rfl)) (fun a => a) (fun _ => rfl) (fun _ h => h)
end Go.Abs.Dest
set_option maxRecDepth 100000
namespace Go.Abs.Coll
open Go.RowKit Go.Proofs Go.Abs.Dest Go.Abs.Span
theorem wfI_rng {n : Int} (h : wfI n) : -9223372036854775808 ≤ n ∧ n ≤ 9223372036854775807 := by
  have h : (decide (IntKind.i64.min ≤ n) && decide (n ≤ IntKind.i64.max)) = true := h
  rw [Bool.and_eq_true, decide_eq_true_eq, decide_eq_true_eq] at h
  exact h
def wfR (r : Rct) : Prop := wfI r.n ∧ wfI r.lo ∧ wfI r.hi
def wfS (s : Spn) : Prop := wfI s.n ∧ wfI s.lo ∧ wfI s.hi ∧ wfI s.to
def wfT (t : Tbl) : Prop := t.name.size ≤ maxLen ∧ wfI t.wmode ∧ (t.spaces.length ≤ maxLen ∧ ∀ x ∈ t.spaces, wfR x) ∧ (t.cids.length ≤ maxLen ∧ ∀ x ∈ t.cids, wfS x) ∧ (t.nots.length ≤ maxLen ∧ ∀ x ∈ t.nots, wfS x) ∧ (t.bfs.length ≤ maxLen ∧ ∀ x ∈ t.bfs, wfB x)
theorem opStr : OpA Tryz.prog 9 (fun s : ByteArray => [.str s]) (fun s => s.size ≤ maxLen) := OpA.string Tryz.underlying9
theorem opRct : OpA Tryz.prog 64 cR wfR :=
  OpA.iso (OpA.struct (n := 1 + (1 + 1)) Tryz.underlying64 (OpAF.cons opInt rfl (by kernel_rfl) (OpAF.cons opInt rfl (by kernel_rfl) (OpAF.one opInt rfl (by kernel_rfl)))) (by kernel_rfl)) (fun a => ⟨a.1, a.2.1, a.2.2⟩) (fun _ => rfl) (fun _ h => h)
theorem opSpn : OpA Tryz.prog 83 cSp wfS :=
  OpA.iso (OpA.struct (n := 1 + (1 + (1 + 1))) Tryz.underlying83 (OpAF.cons opInt rfl (by kernel_rfl) (OpAF.cons opInt rfl (by kernel_rfl) (OpAF.cons opInt rfl (by kernel_rfl) (OpAF.one opInt rfl (by kernel_rfl))))) (by kernel_rfl)) (fun a => ⟨a.1, a.2.1, a.2.2.1, a.2.2.2⟩) (fun _ => rfl) (fun _ h => h)
theorem opRcts : OpA Tryz.prog 22 (fun l : List Rct => [aR l]) (fun l => l.length ≤ maxLen ∧ ∀ x ∈ l, wfR x) := OpA.slice Tryz.underlying22 (by kernel_rfl) cR_emb opRct
theorem opSpns : OpA Tryz.prog 23 (fun l : List Spn => [aS l]) (fun l => l.length ≤ maxLen ∧ ∀ x ∈ l, wfS x) := OpA.slice Tryz.underlying23 (by kernel_rfl) cSp_emb opSpn
theorem opTbl : OpA Tryz.prog 26 cT wfT :=
  OpA.iso (OpA.struct (n := 1 + (1 + (1 + (1 + (1 + 1))))) Tryz.underlying26 (OpAF.cons opStr rfl (by kernel_rfl) (OpAF.cons opInt rfl (by kernel_rfl) (OpAF.cons opRcts rfl (by kernel_rfl) (OpAF.cons opSpns rfl (by kernel_rfl) (OpAF.cons opSpns rfl (by kernel_rfl) (OpAF.one opBfs rfl (by kernel_rfl))))))) (by kernel_rfl)) (fun a => ⟨a.1, a.2.1, a.2.2.1, a.2.2.2.1, a.2.2.2.2.1, a.2.2.2.2.2⟩) (fun _ => rfl) (fun _ h => h)
end Go.Abs.Coll
set_option maxRecDepth 100000
namespace Go.Abs.Sm
open Go.RowKit Go.Proofs Go.Abs.Tab Go.Abs.Dest Go.Abs.Span Go.Abs.Coll Go.Abs.Hx Go.Abs.Mt Go.Abs.Rc
def few6 (t : Tbl) : Prop := t.spaces.length ≤ 1000000 ∧ t.cids.length ≤ 1000000 ∧ t.nots.length ≤ 1000000 ∧ t.bfs.length ≤ 1000000
/-! ### Lists put together -/
def SBuilt : Sp := ⟨Tbl × Int, fun (t, _) => few6 t, fun (t, k) => [.agg (cT t), .int .i64 k], fun (t, k) => .st (.agg (cT (builtT t k)))⟩
abbrev bL : List (FuncId × Sp) := [(39, SCanR), (64, SBuildS), (67, Dest.SBuild)]
theorem bC_ok {c1 c2 c3 c4 : Code} (h1 : Tryz.f62.body = some c1) (h2 : Tryz.f63.body = some c2) (h3 : Tryz.f65.body = some c3) (h4 : Tryz.f66.body = some c4) :
    COK Tryz.prog (cfgN [(62, ⟨5, [], c1⟩), (63, ⟨5, [], c2⟩), (65, ⟨5, [], c3⟩), (66, ⟨5, [], c4⟩)] bL) :=
  Ty.ty.cfgN ⟨⟨_, Tryz.func62, rfl, h1, rfl, rfl⟩, ⟨_, Tryz.func63, rfl, h2, rfl, rfl⟩, ⟨_, Tryz.func65, rfl, h3, rfl, rfl⟩, ⟨_, Tryz.func66, rfl, h4, rfl, rfl⟩, trivial⟩ ⟨rectCanon, buildS, Dest.build, trivial⟩
set_option maxHeartbeats 16000000 in
theorem built2 (t : Tbl) (h : few6 t) : Fn Tryz.prog 33 [.agg (cT t), .int .i64 2] (.st (.agg (cT ⟨t.name, t.wmode, canR t.spaces, t.cids, t.nots, t.bfs⟩))) := by
  have hC := bC_ok rfl rfl rfl rfl
  obtain ⟨h1, h2, h3, h4⟩ := h
  ((refine Fn.ofF hC Tryz.func33 Tryz.ntmps33 rfl rfl rfl ?_); (repeat' first | (with_reducible exact trivial) | (with_reducible rfl) | (refine And.intro ?_ ?_) | (refine Need.mk ?_) | exact True.intro | (first | (refine ⟨_, Told.refl _, ?_, ?_⟩) | (refine ⟨⟨_, _⟩, Told.refl _, ?_, ?_⟩) | (refine ⟨⟨_, _, _⟩, Told.refl _, ?_, ?_⟩) | (refine ⟨⟨_, _, _, _⟩, Told.refl _, ?_, ?_⟩) | (refine ⟨⟨_, _, _, _, _⟩, Told.refl _, ?_, ?_⟩) | (refine ⟨(), Told.refl _, ?_, ?_⟩)) | (with_reducible intro _) | (refine fun (_ : Bool) => ?_)))
  all_goals first | (clear hC; exfalso; simp [IntKind.wrap_i64] at *; done) | skip
  refine fun (tm : Array Value) => ?_
  ((refine AW.byF ‹_› ?_); (repeat' first | (with_reducible exact trivial) | (with_reducible rfl) | (refine And.intro ?_ ?_) | (refine Need.mk ?_) | exact True.intro | (first | (refine ⟨_, Told.refl _, ?_, ?_⟩) | (refine ⟨⟨_, _⟩, Told.refl _, ?_, ?_⟩) | (refine ⟨⟨_, _, _⟩, Told.refl _, ?_, ?_⟩) | (refine ⟨⟨_, _, _, _⟩, Told.refl _, ?_, ?_⟩) | (refine ⟨⟨_, _, _, _, _⟩, Told.refl _, ?_, ?_⟩) | (refine ⟨(), Told.refl _, ?_, ?_⟩)) | (with_reducible intro _) | (refine fun (_ : Bool) => ?_)))
  all_goals first
    | exact h1
    | (show _ ≤ 100000000; omega)
    | rfl
    | skip
set_option maxHeartbeats 16000000 in
theorem built3 (t : Tbl) (h : few6 t) : Fn Tryz.prog 33 [.agg (cT t), .int .i64 3] (.st (.agg (cT ⟨t.name, t.wmode, t.spaces, (ES true).build t.cids, t.nots, t.bfs⟩))) := by
  have hC := bC_ok rfl rfl rfl rfl
  obtain ⟨h1, h2, h3, h4⟩ := h
  ((refine Fn.ofF hC Tryz.func33 Tryz.ntmps33 rfl rfl rfl ?_); (repeat' first | (with_reducible exact trivial) | (with_reducible rfl) | (refine And.intro ?_ ?_) | (refine Need.mk ?_) | exact True.intro | (first | (refine ⟨_, Told.refl _, ?_, ?_⟩) | (refine ⟨⟨_, _⟩, Told.refl _, ?_, ?_⟩) | (refine ⟨⟨_, _, _⟩, Told.refl _, ?_, ?_⟩) | (refine ⟨⟨_, _, _, _⟩, Told.refl _, ?_, ?_⟩) | (refine ⟨⟨_, _, _, _, _⟩, Told.refl _, ?_, ?_⟩) | (refine ⟨(), Told.refl _, ?_, ?_⟩)) | (with_reducible intro _) | (refine fun (_ : Bool) => ?_)))
  all_goals first | (clear hC; exfalso; simp [IntKind.wrap_i64] at *; done) | skip
  refine fun (tm : Array Value) => ?_
  ((refine AW.byF ‹_› ?_); (repeat' first | (with_reducible exact trivial) | (with_reducible rfl) | (refine And.intro ?_ ?_) | (refine Need.mk ?_) | exact True.intro | (first | (refine ⟨_, Told.refl _, ?_, ?_⟩) | (refine ⟨⟨_, _⟩, Told.refl _, ?_, ?_⟩) | (refine ⟨⟨_, _, _⟩, Told.refl _, ?_, ?_⟩) | (refine ⟨⟨_, _, _, _⟩, Told.refl _, ?_, ?_⟩) | (refine ⟨⟨_, _, _, _, _⟩, Told.refl _, ?_, ?_⟩) | (refine ⟨(), Told.refl _, ?_, ?_⟩)) | (with_reducible intro _) | (refine fun (_ : Bool) => ?_)))
  all_goals first
    | exact h2
    | (show _ ≤ 100000000; omega)
    | rfl
    | skip
set_option maxHeartbeats 16000000 in
theorem built4 (t : Tbl) (h : few6 t) : Fn Tryz.prog 33 [.agg (cT t), .int .i64 4] (.st (.agg (cT ⟨t.name, t.wmode, t.spaces, (ES true).build t.cids, t.nots, t.bfs⟩))) := by
  have hC := bC_ok rfl rfl rfl rfl
  obtain ⟨h1, h2, h3, h4⟩ := h
  ((refine Fn.ofF hC Tryz.func33 Tryz.ntmps33 rfl rfl rfl ?_); (repeat' first | (with_reducible exact trivial) | (with_reducible rfl) | (refine And.intro ?_ ?_) | (refine Need.mk ?_) | exact True.intro | (first | (refine ⟨_, Told.refl _, ?_, ?_⟩) | (refine ⟨⟨_, _⟩, Told.refl _, ?_, ?_⟩) | (refine ⟨⟨_, _, _⟩, Told.refl _, ?_, ?_⟩) | (refine ⟨⟨_, _, _, _⟩, Told.refl _, ?_, ?_⟩) | (refine ⟨⟨_, _, _, _, _⟩, Told.refl _, ?_, ?_⟩) | (refine ⟨(), Told.refl _, ?_, ?_⟩)) | (with_reducible intro _) | (refine fun (_ : Bool) => ?_)))
  all_goals first | (clear hC; exfalso; simp [IntKind.wrap_i64] at *; done) | skip
  refine fun (tm : Array Value) => ?_
  ((refine AW.byF ‹_› ?_); (repeat' first | (with_reducible exact trivial) | (with_reducible rfl) | (refine And.intro ?_ ?_) | (refine Need.mk ?_) | exact True.intro | (first | (refine ⟨_, Told.refl _, ?_, ?_⟩) | (refine ⟨⟨_, _⟩, Told.refl _, ?_, ?_⟩) | (refine ⟨⟨_, _, _⟩, Told.refl _, ?_, ?_⟩) | (refine ⟨⟨_, _, _, _⟩, Told.refl _, ?_, ?_⟩) | (refine ⟨⟨_, _, _, _, _⟩, Told.refl _, ?_, ?_⟩) | (refine ⟨(), Told.refl _, ?_, ?_⟩)) | (with_reducible intro _) | (refine fun (_ : Bool) => ?_)))
  all_goals first
    | exact h2
    | (show _ ≤ 100000000; omega)
    | rfl
    | skip
set_option maxHeartbeats 16000000 in
theorem built5 (t : Tbl) (h : few6 t) : Fn Tryz.prog 33 [.agg (cT t), .int .i64 5] (.st (.agg (cT ⟨t.name, t.wmode, t.spaces, t.cids, (ES false).build t.nots, t.bfs⟩))) := by
  have hC := bC_ok rfl rfl rfl rfl
  obtain ⟨h1, h2, h3, h4⟩ := h
  ((refine Fn.ofF hC Tryz.func33 Tryz.ntmps33 rfl rfl rfl ?_); (repeat' first | (with_reducible exact trivial) | (with_reducible rfl) | (refine And.intro ?_ ?_) | (refine Need.mk ?_) | exact True.intro | (first | (refine ⟨_, Told.refl _, ?_, ?_⟩) | (refine ⟨⟨_, _⟩, Told.refl _, ?_, ?_⟩) | (refine ⟨⟨_, _, _⟩, Told.refl _, ?_, ?_⟩) | (refine ⟨⟨_, _, _, _⟩, Told.refl _, ?_, ?_⟩) | (refine ⟨⟨_, _, _, _, _⟩, Told.refl _, ?_, ?_⟩) | (refine ⟨(), Told.refl _, ?_, ?_⟩)) | (with_reducible intro _) | (refine fun (_ : Bool) => ?_)))
  all_goals first | (clear hC; exfalso; simp [IntKind.wrap_i64] at *; done) | skip
  refine fun (tm : Array Value) => ?_
  ((refine AW.byF ‹_› ?_); (repeat' first | (with_reducible exact trivial) | (with_reducible rfl) | (refine And.intro ?_ ?_) | (refine Need.mk ?_) | exact True.intro | (first | (refine ⟨_, Told.refl _, ?_, ?_⟩) | (refine ⟨⟨_, _⟩, Told.refl _, ?_, ?_⟩) | (refine ⟨⟨_, _, _⟩, Told.refl _, ?_, ?_⟩) | (refine ⟨⟨_, _, _, _⟩, Told.refl _, ?_, ?_⟩) | (refine ⟨⟨_, _, _, _, _⟩, Told.refl _, ?_, ?_⟩) | (refine ⟨(), Told.refl _, ?_, ?_⟩)) | (with_reducible intro _) | (refine fun (_ : Bool) => ?_)))
  all_goals first
    | exact h3
    | (show _ ≤ 100000000; omega)
    | rfl
    | skip
set_option maxHeartbeats 16000000 in
theorem built6 (t : Tbl) (h : few6 t) : Fn Tryz.prog 33 [.agg (cT t), .int .i64 6] (.st (.agg (cT ⟨t.name, t.wmode, t.spaces, t.cids, (ES false).build t.nots, t.bfs⟩))) := by
  have hC := bC_ok rfl rfl rfl rfl
  obtain ⟨h1, h2, h3, h4⟩ := h
  ((refine Fn.ofF hC Tryz.func33 Tryz.ntmps33 rfl rfl rfl ?_); (repeat' first | (with_reducible exact trivial) | (with_reducible rfl) | (refine And.intro ?_ ?_) | (refine Need.mk ?_) | exact True.intro | (first | (refine ⟨_, Told.refl _, ?_, ?_⟩) | (refine ⟨⟨_, _⟩, Told.refl _, ?_, ?_⟩) | (refine ⟨⟨_, _, _⟩, Told.refl _, ?_, ?_⟩) | (refine ⟨⟨_, _, _, _⟩, Told.refl _, ?_, ?_⟩) | (refine ⟨⟨_, _, _, _, _⟩, Told.refl _, ?_, ?_⟩) | (refine ⟨(), Told.refl _, ?_, ?_⟩)) | (with_reducible intro _) | (refine fun (_ : Bool) => ?_)))
  all_goals first | (clear hC; exfalso; simp [IntKind.wrap_i64] at *; done) | skip
  refine fun (tm : Array Value) => ?_
  ((refine AW.byF ‹_› ?_); (repeat' first | (with_reducible exact trivial) | (with_reducible rfl) | (refine And.intro ?_ ?_) | (refine Need.mk ?_) | exact True.intro | (first | (refine ⟨_, Told.refl _, ?_, ?_⟩) | (refine ⟨⟨_, _⟩, Told.refl _, ?_, ?_⟩) | (refine ⟨⟨_, _, _⟩, Told.refl _, ?_, ?_⟩) | (refine ⟨⟨_, _, _, _⟩, Told.refl _, ?_, ?_⟩) | (refine ⟨⟨_, _, _, _, _⟩, Told.refl _, ?_, ?_⟩) | (refine ⟨(), Told.refl _, ?_, ?_⟩)) | (with_reducible intro _) | (refine fun (_ : Bool) => ?_)))
  all_goals first
    | exact h3
    | (show _ ≤ 100000000; omega)
    | rfl
    | skip
set_option maxHeartbeats 16000000 in
theorem built7 (t : Tbl) (h : few6 t) : Fn Tryz.prog 33 [.agg (cT t), .int .i64 7] (.st (.agg (cT ⟨t.name, t.wmode, t.spaces, t.cids, t.nots, EB.build t.bfs⟩))) := by
  have hC := bC_ok rfl rfl rfl rfl
  obtain ⟨h1, h2, h3, h4⟩ := h
  ((refine Fn.ofF hC Tryz.func33 Tryz.ntmps33 rfl rfl rfl ?_); (repeat' first | (with_reducible exact trivial) | (with_reducible rfl) | (refine And.intro ?_ ?_) | (refine Need.mk ?_) | exact True.intro | (first | (refine ⟨_, Told.refl _, ?_, ?_⟩) | (refine ⟨⟨_, _⟩, Told.refl _, ?_, ?_⟩) | (refine ⟨⟨_, _, _⟩, Told.refl _, ?_, ?_⟩) | (refine ⟨⟨_, _, _, _⟩, Told.refl _, ?_, ?_⟩) | (refine ⟨⟨_, _, _, _, _⟩, Told.refl _, ?_, ?_⟩) | (refine ⟨(), Told.refl _, ?_, ?_⟩)) | (with_reducible intro _) | (refine fun (_ : Bool) => ?_)))
  all_goals first | (clear hC; exfalso; simp [IntKind.wrap_i64] at *; done) | skip
  refine fun (tm : Array Value) => ?_
  ((refine AW.byF ‹_› ?_); (repeat' first | (with_reducible exact trivial) | (with_reducible rfl) | (refine And.intro ?_ ?_) | (refine Need.mk ?_) | exact True.intro | (first | (refine ⟨_, Told.refl _, ?_, ?_⟩) | (refine ⟨⟨_, _⟩, Told.refl _, ?_, ?_⟩) | (refine ⟨⟨_, _, _⟩, Told.refl _, ?_, ?_⟩) | (refine ⟨⟨_, _, _, _⟩, Told.refl _, ?_, ?_⟩) | (refine ⟨⟨_, _, _, _, _⟩, Told.refl _, ?_, ?_⟩) | (refine ⟨(), Told.refl _, ?_, ?_⟩)) | (with_reducible intro _) | (refine fun (_ : Bool) => ?_)))
  all_goals first
    | exact h4
    | (show _ ≤ 100000000; omega)
    | rfl
    | skip
set_option maxHeartbeats 16000000 in
theorem built8 (t : Tbl) (h : few6 t) : Fn Tryz.prog 33 [.agg (cT t), .int .i64 8] (.st (.agg (cT ⟨t.name, t.wmode, t.spaces, t.cids, t.nots, EB.build t.bfs⟩))) := by
  have hC := bC_ok rfl rfl rfl rfl
  obtain ⟨h1, h2, h3, h4⟩ := h
  ((refine Fn.ofF hC Tryz.func33 Tryz.ntmps33 rfl rfl rfl ?_); (repeat' first | (with_reducible exact trivial) | (with_reducible rfl) | (refine And.intro ?_ ?_) | (refine Need.mk ?_) | exact True.intro | (first | (refine ⟨_, Told.refl _, ?_, ?_⟩) | (refine ⟨⟨_, _⟩, Told.refl _, ?_, ?_⟩) | (refine ⟨⟨_, _, _⟩, Told.refl _, ?_, ?_⟩) | (refine ⟨⟨_, _, _, _⟩, Told.refl _, ?_, ?_⟩) | (refine ⟨⟨_, _, _, _, _⟩, Told.refl _, ?_, ?_⟩) | (refine ⟨(), Told.refl _, ?_, ?_⟩)) | (with_reducible intro _) | (refine fun (_ : Bool) => ?_)))
  all_goals first | (clear hC; exfalso; simp [IntKind.wrap_i64] at *; done) | skip
  refine fun (tm : Array Value) => ?_
  ((refine AW.byF ‹_› ?_); (repeat' first | (with_reducible exact trivial) | (with_reducible rfl) | (refine And.intro ?_ ?_) | (refine Need.mk ?_) | exact True.intro | (first | (refine ⟨_, Told.refl _, ?_, ?_⟩) | (refine ⟨⟨_, _⟩, Told.refl _, ?_, ?_⟩) | (refine ⟨⟨_, _, _⟩, Told.refl _, ?_, ?_⟩) | (refine ⟨⟨_, _, _, _⟩, Told.refl _, ?_, ?_⟩) | (refine ⟨⟨_, _, _, _, _⟩, Told.refl _, ?_, ?_⟩) | (refine ⟨(), Told.refl _, ?_, ?_⟩)) | (with_reducible intro _) | (refine fun (_ : Bool) => ?_)))
  all_goals first
    | exact h4
    | (show _ ≤ 100000000; omega)
    | rfl
    | skip
set_option maxHeartbeats 16000000 in
theorem builtN (t : Tbl) (k : Int) (hk : k ≠ 2 ∧ k ≠ 3 ∧ k ≠ 4 ∧ k ≠ 5 ∧ k ≠ 6 ∧ k ≠ 7 ∧ k ≠ 8) : Fn Tryz.prog 33 [.agg (cT t), .int .i64 k] (.st (.agg (cT t))) := by
  have hC := bC_ok rfl rfl rfl rfl
  obtain ⟨k2, k3, k4, k5, k6, k7, k8⟩ := hk
  ((refine Fn.ofF hC Tryz.func33 Tryz.ntmps33 rfl rfl rfl ?_); (repeat' first | (with_reducible exact trivial) | (with_reducible rfl) | (refine And.intro ?_ ?_) | (refine Need.mk ?_) | exact True.intro | (first | (refine ⟨_, Told.refl _, ?_, ?_⟩) | (refine ⟨⟨_, _⟩, Told.refl _, ?_, ?_⟩) | (refine ⟨⟨_, _, _⟩, Told.refl _, ?_, ?_⟩) | (refine ⟨⟨_, _, _, _⟩, Told.refl _, ?_, ?_⟩) | (refine ⟨⟨_, _, _, _, _⟩, Told.refl _, ?_, ?_⟩) | (refine ⟨(), Told.refl _, ?_, ?_⟩)) | (with_reducible intro _) | (refine fun (_ : Bool) => ?_)))
  all_goals first | (clear hC; exfalso; simp only [beq_iff_eq, beq_eq_false_iff_ne, ne_eq] at *; omega) | skip
  all_goals rfl
theorem semBuilt : SpOK Tryz.prog 33 SBuilt := fun ⟨t, k⟩ h => by
  have h : few6 t := h
  show Fn _ _ _ (.st (.agg (cT (builtT t k))))
  have hk : k = 2 ∨ k = 3 ∨ k = 4 ∨ k = 5 ∨ k = 6 ∨ k = 7 ∨ k = 8 ∨ (k ≠ 2 ∧ k ≠ 3 ∧ k ≠ 4 ∧ k ≠ 5 ∧ k ≠ 6 ∧ k ≠ 7 ∧ k ≠ 8) := by omega
  rcases hk with rfl | rfl | rfl | rfl | rfl | rfl | rfl | hk
  · rw [show builtT t 2 = ⟨t.name, t.wmode, canR t.spaces, t.cids, t.nots, t.bfs⟩ by unfold builtT; simp]
    exact built2 t h
  · rw [show builtT t 3 = ⟨t.name, t.wmode, t.spaces, (ES true).build t.cids, t.nots, t.bfs⟩ by unfold builtT; simp]
    exact built3 t h
  · rw [show builtT t 4 = ⟨t.name, t.wmode, t.spaces, (ES true).build t.cids, t.nots, t.bfs⟩ by unfold builtT; simp]
    exact built4 t h
  · rw [show builtT t 5 = ⟨t.name, t.wmode, t.spaces, t.cids, (ES false).build t.nots, t.bfs⟩ by unfold builtT; simp]
    exact built5 t h
  · rw [show builtT t 6 = ⟨t.name, t.wmode, t.spaces, t.cids, (ES false).build t.nots, t.bfs⟩ by unfold builtT; simp]
    exact built6 t h
  · rw [show builtT t 7 = ⟨t.name, t.wmode, t.spaces, t.cids, t.nots, EB.build t.bfs⟩ by unfold builtT; simp]
    exact built7 t h
  · rw [show builtT t 8 = ⟨t.name, t.wmode, t.spaces, t.cids, t.nots, EB.build t.bfs⟩ by unfold builtT; simp]
    exact built8 t h
  · have := builtN t k hk
    obtain ⟨k2, k3, k4, k5, k6, k7, k8⟩ := hk
    rw [show builtT t k = t by unfold builtT; simp [k2, k3, k4, k5, k6, k7, k8]]
    exact this
end Go.Abs.Sm
set_option maxRecDepth 100000
namespace Go.Abs.Sm
open Go.RowKit Go.Proofs Go.Abs.Tab Go.Abs.Dest Go.Abs.Span Go.Abs.Coll Go.Abs.Hx Go.Abs.Mt Go.Abs.Rc
structure Aside9 (p : Prop) : Prop where mk :: (out : p)
def cRR (l : List Rct) : List AV := [aR l]
def cSS (l : List Spn) : List AV := [aS l]
def cBB (l : List Bf) : List AV := [aB l]
theorem cRR_emb : Emb cRR 1 := fun x => ⟨rfl, ⟨⟨⟨rfl⟩, els_of cR_emb (n := 0) (fun _ _ => rfl)⟩, trivial⟩, rfl⟩
theorem cSS_emb : Emb cSS 1 := fun x => ⟨rfl, ⟨⟨⟨rfl⟩, els_of cSp_emb (n := 0) (fun _ _ => rfl)⟩, trivial⟩, rfl⟩
theorem cBB_emb : Emb cBB 1 := fun x => ⟨rfl, ⟨⟨⟨rfl⟩, els_of cBf_emb (n := 0) (fun _ _ => rfl)⟩, trivial⟩, rfl⟩
theorem infoR9 : (Tryz.prog.info? 64).map (fun i => (i.zero, i.size, i.bytes)) = some (some (Value.agg #[.int .i64 0, .int .i64 0, .int .i64 0]), 3, 24) := by kernel_rfl
set_option maxHeartbeats 8000000 in
theorem growR (n : Nat) (hn : n ≤ 4000000) : Fn Tryz.prog 88 [.nil, .int .i64 (n : Int)] (.row 64 3 0 (els cR [])) := by
  refine ⟨⟨_, Tryz.func88, rfl, rfl⟩, fun w S vs hlt hv => ?_⟩
  obtain ⟨hlen, hv⟩ := hv
  match vs, hlen with
  | [v0, v1], _ =>
    have r0 := hv 0 _ v0 rfl rfl
    have r1 := hv 1 _ v1 rfl rfl
    obtain rfl : v0 = .slice none 0 0 := by cases r0; rfl
    obtain rfl : v1 = .int .i64 (n : Int) := by cases r1; rfl
    have HLT := Aside9.mk hlt
    clear hv r0 r1 hlt
    have hw0 : IntKind.i64.wrap ((n : Int) - IntKind.i64.wrap (0 - 0)) = (n : Int) := by rw [IntKind.wrap_i64, IntKind.wrap_i64]; omega
    have hw1 : IntKind.i64.wrap (n : Int) = (n : Int) := by rw [IntKind.wrap_i64]; omega
    have hn0 : ¬ ((n : Int) < 0) := by omega
    rcases Nat.eq_zero_or_pos n with rfl | hp
    · show Calls _ _ _ _ _
      go_enter Tryz.func88, Tryz.ntmps88
      go_wp2
      go_ret
      exact ⟨_, rfl, S, ⟨⟨[], World.ownsRow_nil _ _ _ _, fun i hi => by omega⟩, fun b hb => (by simp [Value.ownBlock] at hb)⟩, fun b hb => hb, fun b hb => ⟨HLT.out b hb, .inl hb⟩, Below.refl _ _⟩
    · obtain ⟨i0, hi0, hzz⟩ := Option.map_eq_some_iff.1 infoR9
      simp only [Prod.mk.injEq] at hzz
      obtain ⟨hz0, hzs, hzb⟩ := hzz
      have hun := Tryz.underlying22
      obtain ⟨G, hG⟩ : ∃ G, G = grownCap w n 0 64 := ⟨_, rfl⟩
      obtain ⟨zc, hzc⟩ : ∃ zc, zc = (Value.agg #[.int .i64 0, .int .i64 0, .int .i64 0]).cells := ⟨_, rfl⟩
      obtain ⟨ROW, hROW⟩ : ∃ ROW : Array Value, ROW = ([] : List Value).toArray ++ Builtin.zeroCells zc n ++ Builtin.zeroCells zc (G - n) := ⟨_, rfl⟩
      have hGn : n ≤ G := by rw [hG]; exact grownCap_ge w _ _ _
      have hGm : G ≤ maxLen := by rw [hG]; exact grownCap_le_maxLen w n 0 64 (by unfold maxLen; omega)
      have hold : (Builtin.firstCells i0.size 0 (.slice none 0 0)).run Tryz.prog w.drew = .ok ([] : List Value).toArray w.drew := by simp [Builtin.firstCells]
      have hrz : ∀ ty, (Builtin.append_ #[22, 3] ty #[.slice none 0 0, .int .i64 (n : Int)]).run Tryz.prog w = .ok (.slice (some ⟨w.heap.size, 0, none⟩) n G) (w.drew.alloc (.cells ROW 64)) := fun ty => by
        have h := Lib.run_append_grow_zeros w 22 3 ty 64 i0 _ .i64 .i64 hun Tryz.underlying3 hi0 hz0 none 0 0 [] hold n hp (by omega) (by omega) (by omega) (by rw [hzb]; omega) (by rw [hzb, Nat.zero_add]; exact growslice_fits (by omega) (by omega))
        rw [Nat.zero_add, ← hG, ← hzc, ← hROW] at h
        exact h
      have hz4 : ∀ m, (Builtin.zeroCells zc m).size = m * 3 := fun m => by
        rw [hzc, Builtin.zeroCells]
        simp [Value.cells]
      have hRs : ROW.size = G * 3 := by
        rw [hROW, Array.size_append, Array.size_append, hz4, hz4]
        simp
        omega
      have HGM := Aside9.mk hGm
      have HRS := Aside9.mk hRs
      have hpp : (0 : Int) < (n : Int) := by omega
      have hne : ¬ ((n : Int) = 0) := by omega
      have hG63 : G ≤ 9223372036854775807 := by unfold maxLen at hGm; omega
      have mixed : Tryz.prog.follows Departure.mixedOrders = true := by kernel_rfl
      clear hold hG hzc hROW hz4 hRs hGm hzb hzs hz0 hi0
      show Calls _ _ _ _ _
      go_enter Tryz.func88, Tryz.ntmps88
      go_wp2_with (at_builtin; refine Lib.wpList_append_run _ rfl _ _ _ _ rfl _ _ rfl rfl _ _ (hrz _) ?_)
      go_ret
      refine ⟨_, rfl, S, ⟨⟨[], ⟨rfl, .inr ⟨w.heap.size, G, ROW, rfl, Nat.le_refl _, ?_, Nat.zero_le _, HGM.out, HRS.out, rfl⟩⟩, fun i hi => by omega⟩, fun b hb hS => ?_⟩, fun b hb => hb, fun b hb => ⟨?_, .inl hb⟩, ?_⟩
      · exact heap_alloc_new w _
      · have hb' : w.heap.size = b := Option.some.inj hb
        subst hb'
        exact absurd (HLT.out _ hS) (Nat.lt_irrefl _)
      · have h1 := HLT.out b hb
        exact Nat.lt_of_lt_of_le h1 ((Below.refl _ w).alloc (Nat.le_refl _) (.cells ROW 64)).drew.size
      · exact ((Below.refl _ w).alloc (Nat.le_refl _) (.cells ROW 64)).drew
theorem infoS9 : (Tryz.prog.info? 83).map (fun i => (i.zero, i.size, i.bytes)) = some (some (Value.agg #[.int .i64 0, .int .i64 0, .int .i64 0, .int .i64 0]), 4, 32) := by kernel_rfl
set_option maxHeartbeats 8000000 in
theorem growS (n : Nat) (hn : n ≤ 4000000) : Fn Tryz.prog 89 [.nil, .int .i64 (n : Int)] (.row 83 4 0 (els cSp [])) := by
  refine ⟨⟨_, Tryz.func89, rfl, rfl⟩, fun w S vs hlt hv => ?_⟩
  obtain ⟨hlen, hv⟩ := hv
  match vs, hlen with
  | [v0, v1], _ =>
    have r0 := hv 0 _ v0 rfl rfl
    have r1 := hv 1 _ v1 rfl rfl
    obtain rfl : v0 = .slice none 0 0 := by cases r0; rfl
    obtain rfl : v1 = .int .i64 (n : Int) := by cases r1; rfl
    have HLT := Aside9.mk hlt
    clear hv r0 r1 hlt
    have hw0 : IntKind.i64.wrap ((n : Int) - IntKind.i64.wrap (0 - 0)) = (n : Int) := by rw [IntKind.wrap_i64, IntKind.wrap_i64]; omega
    have hw1 : IntKind.i64.wrap (n : Int) = (n : Int) := by rw [IntKind.wrap_i64]; omega
    have hn0 : ¬ ((n : Int) < 0) := by omega
    rcases Nat.eq_zero_or_pos n with rfl | hp
    · show Calls _ _ _ _ _
      go_enter Tryz.func89, Tryz.ntmps89
      go_wp2
      go_ret
      exact ⟨_, rfl, S, ⟨⟨[], World.ownsRow_nil _ _ _ _, fun i hi => by omega⟩, fun b hb => (by simp [Value.ownBlock] at hb)⟩, fun b hb => hb, fun b hb => ⟨HLT.out b hb, .inl hb⟩, Below.refl _ _⟩
    · obtain ⟨i0, hi0, hzz⟩ := Option.map_eq_some_iff.1 infoS9
      simp only [Prod.mk.injEq] at hzz
      obtain ⟨hz0, hzs, hzb⟩ := hzz
      have hun := Tryz.underlying23
      obtain ⟨G, hG⟩ : ∃ G, G = grownCap w n 0 83 := ⟨_, rfl⟩
      obtain ⟨zc, hzc⟩ : ∃ zc, zc = (Value.agg #[.int .i64 0, .int .i64 0, .int .i64 0, .int .i64 0]).cells := ⟨_, rfl⟩
      obtain ⟨ROW, hROW⟩ : ∃ ROW : Array Value, ROW = ([] : List Value).toArray ++ Builtin.zeroCells zc n ++ Builtin.zeroCells zc (G - n) := ⟨_, rfl⟩
      have hGn : n ≤ G := by rw [hG]; exact grownCap_ge w _ _ _
      have hGm : G ≤ maxLen := by rw [hG]; exact grownCap_le_maxLen w n 0 83 (by unfold maxLen; omega)
      have hold : (Builtin.firstCells i0.size 0 (.slice none 0 0)).run Tryz.prog w.drew = .ok ([] : List Value).toArray w.drew := by simp [Builtin.firstCells]
      have hrz : ∀ ty, (Builtin.append_ #[23, 3] ty #[.slice none 0 0, .int .i64 (n : Int)]).run Tryz.prog w = .ok (.slice (some ⟨w.heap.size, 0, none⟩) n G) (w.drew.alloc (.cells ROW 83)) := fun ty => by
        have h := Lib.run_append_grow_zeros w 23 3 ty 83 i0 _ .i64 .i64 hun Tryz.underlying3 hi0 hz0 none 0 0 [] hold n hp (by omega) (by omega) (by omega) (by rw [hzb]; omega) (by rw [hzb, Nat.zero_add]; exact growslice_fits (by omega) (by omega))
        rw [Nat.zero_add, ← hG, ← hzc, ← hROW] at h
        exact h
      have hz4 : ∀ m, (Builtin.zeroCells zc m).size = m * 4 := fun m => by
        rw [hzc, Builtin.zeroCells]
        simp [Value.cells]
      have hRs : ROW.size = G * 4 := by
        rw [hROW, Array.size_append, Array.size_append, hz4, hz4]
        simp
        omega
      have HGM := Aside9.mk hGm
      have HRS := Aside9.mk hRs
      have hpp : (0 : Int) < (n : Int) := by omega
      have hne : ¬ ((n : Int) = 0) := by omega
      have hG63 : G ≤ 9223372036854775807 := by unfold maxLen at hGm; omega
      have mixed : Tryz.prog.follows Departure.mixedOrders = true := by kernel_rfl
      clear hold hG hzc hROW hz4 hRs hGm hzb hzs hz0 hi0
      show Calls _ _ _ _ _
      go_enter Tryz.func89, Tryz.ntmps89
      go_wp2_with (at_builtin; refine Lib.wpList_append_run _ rfl _ _ _ _ rfl _ _ rfl rfl _ _ (hrz _) ?_)
      go_ret
      refine ⟨_, rfl, S, ⟨⟨[], ⟨rfl, .inr ⟨w.heap.size, G, ROW, rfl, Nat.le_refl _, ?_, Nat.zero_le _, HGM.out, HRS.out, rfl⟩⟩, fun i hi => by omega⟩, fun b hb hS => ?_⟩, fun b hb => hb, fun b hb => ⟨?_, .inl hb⟩, ?_⟩
      · exact heap_alloc_new w _
      · have hb' : w.heap.size = b := Option.some.inj hb
        subst hb'
        exact absurd (HLT.out _ hS) (Nat.lt_irrefl _)
      · have h1 := HLT.out b hb
        exact Nat.lt_of_lt_of_le h1 ((Below.refl _ w).alloc (Nat.le_refl _) (.cells ROW 83)).drew.size
      · exact ((Below.refl _ w).alloc (Nat.le_refl _) (.cells ROW 83)).drew
theorem infoB9 : (Tryz.prog.info? 73).map (fun i => (i.zero, i.size, i.bytes)) = some (some (Value.agg #[.int .i64 0, .int .i64 0, .int .i64 0, .slice none 0 0]), 4, 48) := by kernel_rfl
set_option maxHeartbeats 8000000 in
theorem growB (n : Nat) (hn : n ≤ 4000000) : Fn Tryz.prog 90 [.nil, .int .i64 (n : Int)] (.row 73 4 0 (els cBf [])) := by
  refine ⟨⟨_, Tryz.func90, rfl, rfl⟩, fun w S vs hlt hv => ?_⟩
  obtain ⟨hlen, hv⟩ := hv
  match vs, hlen with
  | [v0, v1], _ =>
    have r0 := hv 0 _ v0 rfl rfl
    have r1 := hv 1 _ v1 rfl rfl
    obtain rfl : v0 = .slice none 0 0 := by cases r0; rfl
    obtain rfl : v1 = .int .i64 (n : Int) := by cases r1; rfl
    have HLT := Aside9.mk hlt
    clear hv r0 r1 hlt
    have hw0 : IntKind.i64.wrap ((n : Int) - IntKind.i64.wrap (0 - 0)) = (n : Int) := by rw [IntKind.wrap_i64, IntKind.wrap_i64]; omega
    have hw1 : IntKind.i64.wrap (n : Int) = (n : Int) := by rw [IntKind.wrap_i64]; omega
    have hn0 : ¬ ((n : Int) < 0) := by omega
    rcases Nat.eq_zero_or_pos n with rfl | hp
    · show Calls _ _ _ _ _
      go_enter Tryz.func90, Tryz.ntmps90
      go_wp2
      go_ret
      exact ⟨_, rfl, S, ⟨⟨[], World.ownsRow_nil _ _ _ _, fun i hi => by omega⟩, fun b hb => (by simp [Value.ownBlock] at hb)⟩, fun b hb => hb, fun b hb => ⟨HLT.out b hb, .inl hb⟩, Below.refl _ _⟩
    · obtain ⟨i0, hi0, hzz⟩ := Option.map_eq_some_iff.1 infoB9
      simp only [Prod.mk.injEq] at hzz
      obtain ⟨hz0, hzs, hzb⟩ := hzz
      have hun := Tryz.underlying24
      obtain ⟨G, hG⟩ : ∃ G, G = grownCap w n 0 73 := ⟨_, rfl⟩
      obtain ⟨zc, hzc⟩ : ∃ zc, zc = (Value.agg #[.int .i64 0, .int .i64 0, .int .i64 0, .slice none 0 0]).cells := ⟨_, rfl⟩
      obtain ⟨ROW, hROW⟩ : ∃ ROW : Array Value, ROW = ([] : List Value).toArray ++ Builtin.zeroCells zc n ++ Builtin.zeroCells zc (G - n) := ⟨_, rfl⟩
      have hGn : n ≤ G := by rw [hG]; exact grownCap_ge w _ _ _
      have hGm : G ≤ maxLen := by rw [hG]; exact grownCap_le_maxLen w n 0 73 (by unfold maxLen; omega)
      have hold : (Builtin.firstCells i0.size 0 (.slice none 0 0)).run Tryz.prog w.drew = .ok ([] : List Value).toArray w.drew := by simp [Builtin.firstCells]
      have hrz : ∀ ty, (Builtin.append_ #[24, 3] ty #[.slice none 0 0, .int .i64 (n : Int)]).run Tryz.prog w = .ok (.slice (some ⟨w.heap.size, 0, none⟩) n G) (w.drew.alloc (.cells ROW 73)) := fun ty => by
        have h := Lib.run_append_grow_zeros w 24 3 ty 73 i0 _ .i64 .i64 hun Tryz.underlying3 hi0 hz0 none 0 0 [] hold n hp (by omega) (by omega) (by omega) (by rw [hzb]; omega) (by rw [hzb, Nat.zero_add]; exact growslice_fits (by omega) (by omega))
        rw [Nat.zero_add, ← hG, ← hzc, ← hROW] at h
        exact h
      have hz4 : ∀ m, (Builtin.zeroCells zc m).size = m * 4 := fun m => by
        rw [hzc, Builtin.zeroCells]
        simp [Value.cells]
      have hRs : ROW.size = G * 4 := by
        rw [hROW, Array.size_append, Array.size_append, hz4, hz4]
        simp
        omega
      have HGM := Aside9.mk hGm
      have HRS := Aside9.mk hRs
      have hpp : (0 : Int) < (n : Int) := by omega
      have hne : ¬ ((n : Int) = 0) := by omega
      have hG63 : G ≤ 9223372036854775807 := by unfold maxLen at hGm; omega
      have mixed : Tryz.prog.follows Departure.mixedOrders = true := by kernel_rfl
      clear hold hG hzc hROW hz4 hRs hGm hzb hzs hz0 hi0
      show Calls _ _ _ _ _
      go_enter Tryz.func90, Tryz.ntmps90
      go_wp2_with (at_builtin; refine Lib.wpList_append_run _ rfl _ _ _ _ rfl _ _ rfl rfl _ _ (hrz _) ?_)
      go_ret
      refine ⟨_, rfl, S, ⟨⟨[], ⟨rfl, .inr ⟨w.heap.size, G, ROW, rfl, Nat.le_refl _, ?_, Nat.zero_le _, HGM.out, HRS.out, rfl⟩⟩, fun i hi => by omega⟩, fun b hb hS => ?_⟩, fun b hb => hb, fun b hb => ⟨?_, .inl hb⟩, ?_⟩
      · exact heap_alloc_new w _
      · have hb' : w.heap.size = b := Option.some.inj hb
        subst hb'
        exact absurd (HLT.out _ hS) (Nat.lt_irrefl _)
      · have h1 := HLT.out b hb
        exact Nat.lt_of_lt_of_le h1 ((Below.refl _ w).alloc (Nat.le_refl _) (.cells ROW 73)).drew.size
      · exact ((Below.refl _ w).alloc (Nat.le_refl _) (.cells ROW 73)).drew
end Go.Abs.Sm
set_option maxRecDepth 100000
namespace Go.Abs.Sm
open Go.RowKit Go.Proofs Go.Abs.Tab Go.Abs.Dest Go.Abs.Span Go.Abs.Coll Go.Abs.Hx Go.Abs.Mt Go.Abs.Rc
def T2 : List (TypeId × TI) := [(122, ⟨1, 24, [AV.nil], TD.slice 22⟩), (124, ⟨1, 24, [AV.nil], TD.slice 23⟩), (126, ⟨1, 24, [AV.nil], TD.slice 24⟩)] ++ Ty.T
theorem ty2 : Ty Tryz.prog T2 Ty.Q := ⟨Ty.ty.sq, by kernel_rfl, by kernel_rfl, Ty.ty.mixed⟩
abbrev cfg2 (l : List (FuncId × Sp)) : Cfg := ⟨T2, tblL l, fun _ => none, qlook Ty.Q, fun _ _ => none, fun _ => none, fun _ _ _ => False⟩
theorem take_nextG {α : Type} [Inhabited α] {l : List α} {k : Nat} (hk : k < l.length) : l.take (k + 1) = l.take k ++ [l.getD k default] := by
  rw [List.take_succ_eq_append_getElem hk]
  simp [List.getD, hk]
theorem flatten_next {α : Type} {l : List (List α)} {k : Nat} (hk : k < l.length) : (l.take (k + 1)).flatten = (l.take k).flatten ++ l.getD k default := by
  rw [take_nextG hk, List.flatten_append]
  simp
theorem flat2 {α : Type} (a b : List α) : [a, b].flatten = a ++ b := by simp
theorem flatten_take {α : Type} (l : List (List α)) (k : Nat) : (l.take k).flatten.length ≤ l.flatten.length := by
  have h : (l.take k).flatten ++ (l.drop k).flatten = l.flatten := by rw [← List.flatten_append, List.take_append_drop]
  rw [← h, List.length_append]
  omega

def c2R (l : List Rct) : List AV := [aR l]
theorem c2R_emb : Emb c2R 1 := fun x => ⟨rfl, ⟨⟨⟨rfl⟩, els_of cR_emb (n := 0) (fun _ _ => rfl)⟩, trivial⟩, rfl⟩
def SGrowR : Sp := ⟨Nat, fun n => n ≤ 4000000, fun n => [.nil, .int .i64 (n : Int)], fun _ => .row 64 3 0 (els cR [])⟩
theorem growRok : SpOK Tryz.prog 88 SGrowR := fun (n : Nat) hn => growR n hn
def SCatR : Sp := ⟨List (List Rct), fun L => L.length ≤ 1000000 ∧ L.flatten.length ≤ 4000000, fun L => [aL c2R 1 L], fun L => .row 64 3 L.flatten.length (els cR L.flatten)⟩
set_option maxHeartbeats 8000000 in
theorem catR : SpOK Tryz.prog 42 SCatR := fun (L : List (List Rct)) ⟨h1, h2⟩ => by
  have hC : COK Tryz.prog (cfg2 [(88, SGrowR)]) := ty2.cfg ⟨growRok, trivial⟩
  have h1 : L.length ≤ 1000000 := h1
  have h2 : L.flatten.length ≤ 4000000 := h2
  ((refine Fn.ofF hC Tryz.func42 Tryz.ntmps42 rfl rfl rfl ?_); (repeat' first | (with_reducible exact trivial) | (with_reducible rfl) | (refine And.intro ?_ ?_) | (refine Need.mk ?_) | exact True.intro | (first | (refine ⟨_, Told.refl _, ?_, ?_⟩) | (refine ⟨⟨_, _⟩, Told.refl _, ?_, ?_⟩) | (refine ⟨⟨_, _, _⟩, Told.refl _, ?_, ?_⟩) | (refine ⟨⟨_, _, _, _⟩, Told.refl _, ?_, ?_⟩) | (refine ⟨⟨_, _, _, _, _⟩, Told.refl _, ?_, ?_⟩) | (refine ⟨(), Told.refl _, ?_, ?_⟩)) | (with_reducible intro _) | (refine fun (_ : Bool) => ?_)))
  refine AW.loop (I := fun k : Nat => ⟨36, [(0, aL c2R 1 L), (2, .nil), (3, .int .i64 ((L.take k).flatten.length : Nat)), (9, aL c2R 1 L), (10, .int .i64 L.length), (11, .int .i64 k)], []⟩) (fun k => k ≤ L.length) (fun k => L.length - k) 0 (Nat.zero_le _) ?_ ?_
  · (repeat' first | (with_reducible exact trivial) | (with_reducible rfl) | (refine And.intro ?_ ?_) | (refine Need.mk ?_) | exact True.intro | (first | (refine ⟨_, Told.refl _, ?_, ?_⟩) | (refine ⟨⟨_, _⟩, Told.refl _, ?_, ?_⟩) | (refine ⟨⟨_, _, _⟩, Told.refl _, ?_, ?_⟩) | (refine ⟨⟨_, _, _, _⟩, Told.refl _, ?_, ?_⟩) | (refine ⟨⟨_, _, _, _, _⟩, Told.refl _, ?_, ?_⟩) | (refine ⟨(), Told.refl _, ?_, ?_⟩)) | (with_reducible intro _) | (refine fun (_ : Bool) => ?_))
    all_goals rfl
  · intro k hk
    rcases Nat.lt_or_ge k L.length with hlt | hge
    · have hd : decide ((k : Int) < (L.length : Int)) = true := decide_eq_true (by omega)
      have hw := iw (n := (k : Int) + 1) (by omega) (by omega)
      have hnx := flatten_next hlt
      have ht := flatten_take L k
      have ht2 := flatten_take L (k + 1)
      have hln : (L.take (k + 1)).flatten.length = (L.take k).flatten.length + (L.getD k default).length := by rw [hnx, List.length_append]
      have hw2 := iw (n := ((L.take k).flatten.length : Int) + ((L.getD k default).length : Int)) (by omega) (by omega)
      ((refine AW.byF ‹_› ?_); (repeat' first | (with_reducible exact trivial) | (with_reducible rfl) | (refine And.intro ?_ ?_) | (refine Need.mk ?_) | exact True.intro | (first | (refine ⟨_, Told.refl _, ?_, ?_⟩) | (refine ⟨⟨_, _⟩, Told.refl _, ?_, ?_⟩) | (refine ⟨⟨_, _, _⟩, Told.refl _, ?_, ?_⟩) | (refine ⟨⟨_, _, _, _⟩, Told.refl _, ?_, ?_⟩) | (refine ⟨⟨_, _, _, _, _⟩, Told.refl _, ?_, ?_⟩) | (refine ⟨(), Told.refl _, ?_, ?_⟩)) | (with_reducible intro _) | (refine fun (_ : Bool) => ?_)))
      all_goals first | (exact absurd ‹decide ((k : Int) < (L.length : Int)) = false› (by rw [hd]; decide)) | skip
      any_goals (first | (refine Exists.intro ((k + 1 : Nat)) (And.intro ?_ (And.intro ?_ ?_)); all_goals (repeat' first | (with_reducible exact trivial) | (with_reducible rfl) | (refine And.intro ?_ ?_) | (refine Need.mk ?_) | exact True.intro | (first | (refine ⟨_, Told.refl _, ?_, ?_⟩) | (refine ⟨⟨_, _⟩, Told.refl _, ?_, ?_⟩) | (refine ⟨⟨_, _, _⟩, Told.refl _, ?_, ?_⟩) | (refine ⟨⟨_, _, _, _⟩, Told.refl _, ?_, ?_⟩) | (refine ⟨⟨_, _, _, _, _⟩, Told.refl _, ?_, ?_⟩) | (refine ⟨(), Told.refl _, ?_, ?_⟩)) | (with_reducible intro _) | (refine fun (_ : Bool) => ?_))) | fail)
      all_goals try simp only [Int.toNat_natCast] at *
      all_goals first
        | omega
        | (rw [hw]; rfl)
        | (rw [hw2, hln]; rfl)
        | (exfalso; have q := of_decide_eq_true ‹decide (IntKind.i64.wrap _ < 0) = true›; rw [hw2] at q; omega)
        | skip
    · obtain rfl : k = L.length := by omega
      have hd : decide ((L.length : Int) < (L.length : Int)) = false := decide_eq_false (by omega)
      ((refine AW.byF ‹_› ?_); (repeat' first | (with_reducible exact trivial) | (with_reducible rfl) | (refine And.intro ?_ ?_) | (refine Need.mk ?_) | exact True.intro | (first | (refine ⟨_, Told.refl _, ?_, ?_⟩) | (refine ⟨⟨_, _⟩, Told.refl _, ?_, ?_⟩) | (refine ⟨⟨_, _, _⟩, Told.refl _, ?_, ?_⟩) | (refine ⟨⟨_, _, _, _⟩, Told.refl _, ?_, ?_⟩) | (refine ⟨⟨_, _, _, _, _⟩, Told.refl _, ?_, ?_⟩) | (refine ⟨(), Told.refl _, ?_, ?_⟩)) | (with_reducible intro _) | (refine fun (_ : Bool) => ?_)))
      all_goals first | (exact absurd ‹decide ((L.length : Int) < (L.length : Int)) = true› (by rw [hd]; decide)) | skip
      all_goals try rw [List.take_length]
      all_goals first
        | exact h2
        | skip
      refine AW.loop (I := fun k : Nat => ⟨36, [(0, aL c2R 1 L), (6, .own 0), (25, aL c2R 1 L), (26, .int .i64 L.length), (27, .int .i64 k)], [.row 64 3 (L.take k).flatten.length (els cR (L.take k).flatten)]⟩) (fun k => k ≤ L.length) (fun k => L.length - k) 0 (Nat.zero_le _) ?_ ?_
      · (repeat' first | (with_reducible exact trivial) | (with_reducible rfl) | (refine And.intro ?_ ?_) | (refine Need.mk ?_) | exact True.intro | (first | (refine ⟨_, Told.refl _, ?_, ?_⟩) | (refine ⟨⟨_, _⟩, Told.refl _, ?_, ?_⟩) | (refine ⟨⟨_, _, _⟩, Told.refl _, ?_, ?_⟩) | (refine ⟨⟨_, _, _, _⟩, Told.refl _, ?_, ?_⟩) | (refine ⟨⟨_, _, _, _, _⟩, Told.refl _, ?_, ?_⟩) | (refine ⟨(), Told.refl _, ?_, ?_⟩)) | (with_reducible intro _) | (refine fun (_ : Bool) => ?_))
        all_goals rfl
      · intro k hk
        rcases Nat.lt_or_ge k L.length with hlt | hge
        · have hd : decide ((k : Int) < (L.length : Int)) = true := decide_eq_true (by omega)
          have hw := iw (n := (k : Int) + 1) (by omega) (by omega)
          have hnx := flatten_next hlt
          have ht := flatten_take L k
          have ht2 := flatten_take L (k + 1)
          have hln : (L.take (k + 1)).flatten.length = (L.take k).flatten.length + (L.getD k default).length := by rw [hnx, List.length_append]
          ((refine AW.byF ‹_› ?_); (repeat' first | (with_reducible exact trivial) | (with_reducible rfl) | (refine And.intro ?_ ?_) | (refine Need.mk ?_) | exact True.intro | (first | (refine ⟨_, Told.refl _, ?_, ?_⟩) | (refine ⟨⟨_, _⟩, Told.refl _, ?_, ?_⟩) | (refine ⟨⟨_, _, _⟩, Told.refl _, ?_, ?_⟩) | (refine ⟨⟨_, _, _, _⟩, Told.refl _, ?_, ?_⟩) | (refine ⟨⟨_, _, _, _, _⟩, Told.refl _, ?_, ?_⟩) | (refine ⟨(), Told.refl _, ?_, ?_⟩)) | (with_reducible intro _) | (refine fun (_ : Bool) => ?_)))
          all_goals first | (exact absurd ‹decide ((k : Int) < (L.length : Int)) = false› (by rw [hd]; decide)) | skip
          any_goals (first | (refine Exists.intro ((k + 1 : Nat)) (And.intro ?_ (And.intro ?_ ?_)); all_goals (repeat' first | (with_reducible exact trivial) | (with_reducible rfl) | (refine And.intro ?_ ?_) | (refine Need.mk ?_) | exact True.intro | (first | (refine ⟨_, Told.refl _, ?_, ?_⟩) | (refine ⟨⟨_, _⟩, Told.refl _, ?_, ?_⟩) | (refine ⟨⟨_, _, _⟩, Told.refl _, ?_, ?_⟩) | (refine ⟨⟨_, _, _, _⟩, Told.refl _, ?_, ?_⟩) | (refine ⟨⟨_, _, _, _, _⟩, Told.refl _, ?_, ?_⟩) | (refine ⟨(), Told.refl _, ?_, ?_⟩)) | (with_reducible intro _) | (refine fun (_ : Bool) => ?_))) | fail)
          all_goals try simp only [Int.toNat_natCast] at *
          all_goals first
            | omega
            | (rw [hw]; rfl)
            | (rw [hln]; done)
            | (rename_i z hz
               rw [hnx] at hz ⊢
               exact els_of cR_emb (n := 0) (cat_app rfl) z hz)
            | skip
        · obtain rfl : k = L.length := by omega
          have hd : decide ((L.length : Int) < (L.length : Int)) = false := decide_eq_false (by omega)
          ((refine AW.byF ‹_› ?_); (repeat' first | (with_reducible exact trivial) | (with_reducible rfl) | (refine And.intro ?_ ?_) | (refine Need.mk ?_) | exact True.intro | (first | (refine ⟨_, Told.refl _, ?_, ?_⟩) | (refine ⟨⟨_, _⟩, Told.refl _, ?_, ?_⟩) | (refine ⟨⟨_, _, _⟩, Told.refl _, ?_, ?_⟩) | (refine ⟨⟨_, _, _, _⟩, Told.refl _, ?_, ?_⟩) | (refine ⟨⟨_, _, _, _, _⟩, Told.refl _, ?_, ?_⟩) | (refine ⟨(), Told.refl _, ?_, ?_⟩)) | (with_reducible intro _) | (refine fun (_ : Bool) => ?_)))
          all_goals first | (exact absurd ‹decide ((L.length : Int) < (L.length : Int)) = true› (by rw [hd]; decide)) | skip
          all_goals rw [List.take_length]
          all_goals try rfl

def c2S (l : List Spn) : List AV := [aS l]
theorem c2S_emb : Emb c2S 1 := fun x => ⟨rfl, ⟨⟨⟨rfl⟩, els_of cSp_emb (n := 0) (fun _ _ => rfl)⟩, trivial⟩, rfl⟩
def SGrowS : Sp := ⟨Nat, fun n => n ≤ 4000000, fun n => [.nil, .int .i64 (n : Int)], fun _ => .row 83 4 0 (els cSp [])⟩
theorem growSok : SpOK Tryz.prog 89 SGrowS := fun (n : Nat) hn => growS n hn
def SCatS : Sp := ⟨List (List Spn), fun L => L.length ≤ 1000000 ∧ L.flatten.length ≤ 4000000, fun L => [aL c2S 1 L], fun L => .row 83 4 L.flatten.length (els cSp L.flatten)⟩
set_option maxHeartbeats 8000000 in
theorem catS : SpOK Tryz.prog 43 SCatS := fun (L : List (List Spn)) ⟨h1, h2⟩ => by
  have hC : COK Tryz.prog (cfg2 [(89, SGrowS)]) := ty2.cfg ⟨growSok, trivial⟩
  have h1 : L.length ≤ 1000000 := h1
  have h2 : L.flatten.length ≤ 4000000 := h2
  ((refine Fn.ofF hC Tryz.func43 Tryz.ntmps43 rfl rfl rfl ?_); (repeat' first | (with_reducible exact trivial) | (with_reducible rfl) | (refine And.intro ?_ ?_) | (refine Need.mk ?_) | exact True.intro | (first | (refine ⟨_, Told.refl _, ?_, ?_⟩) | (refine ⟨⟨_, _⟩, Told.refl _, ?_, ?_⟩) | (refine ⟨⟨_, _, _⟩, Told.refl _, ?_, ?_⟩) | (refine ⟨⟨_, _, _, _⟩, Told.refl _, ?_, ?_⟩) | (refine ⟨⟨_, _, _, _, _⟩, Told.refl _, ?_, ?_⟩) | (refine ⟨(), Told.refl _, ?_, ?_⟩)) | (with_reducible intro _) | (refine fun (_ : Bool) => ?_)))
  refine AW.loop (I := fun k : Nat => ⟨36, [(0, aL c2S 1 L), (2, .nil), (3, .int .i64 ((L.take k).flatten.length : Nat)), (9, aL c2S 1 L), (10, .int .i64 L.length), (11, .int .i64 k)], []⟩) (fun k => k ≤ L.length) (fun k => L.length - k) 0 (Nat.zero_le _) ?_ ?_
  · (repeat' first | (with_reducible exact trivial) | (with_reducible rfl) | (refine And.intro ?_ ?_) | (refine Need.mk ?_) | exact True.intro | (first | (refine ⟨_, Told.refl _, ?_, ?_⟩) | (refine ⟨⟨_, _⟩, Told.refl _, ?_, ?_⟩) | (refine ⟨⟨_, _, _⟩, Told.refl _, ?_, ?_⟩) | (refine ⟨⟨_, _, _, _⟩, Told.refl _, ?_, ?_⟩) | (refine ⟨⟨_, _, _, _, _⟩, Told.refl _, ?_, ?_⟩) | (refine ⟨(), Told.refl _, ?_, ?_⟩)) | (with_reducible intro _) | (refine fun (_ : Bool) => ?_))
    all_goals rfl
  · intro k hk
    rcases Nat.lt_or_ge k L.length with hlt | hge
    · have hd : decide ((k : Int) < (L.length : Int)) = true := decide_eq_true (by omega)
      have hw := iw (n := (k : Int) + 1) (by omega) (by omega)
      have hnx := flatten_next hlt
      have ht := flatten_take L k
      have ht2 := flatten_take L (k + 1)
      have hln : (L.take (k + 1)).flatten.length = (L.take k).flatten.length + (L.getD k default).length := by rw [hnx, List.length_append]
      have hw2 := iw (n := ((L.take k).flatten.length : Int) + ((L.getD k default).length : Int)) (by omega) (by omega)
      ((refine AW.byF ‹_› ?_); (repeat' first | (with_reducible exact trivial) | (with_reducible rfl) | (refine And.intro ?_ ?_) | (refine Need.mk ?_) | exact True.intro | (first | (refine ⟨_, Told.refl _, ?_, ?_⟩) | (refine ⟨⟨_, _⟩, Told.refl _, ?_, ?_⟩) | (refine ⟨⟨_, _, _⟩, Told.refl _, ?_, ?_⟩) | (refine ⟨⟨_, _, _, _⟩, Told.refl _, ?_, ?_⟩) | (refine ⟨⟨_, _, _, _, _⟩, Told.refl _, ?_, ?_⟩) | (refine ⟨(), Told.refl _, ?_, ?_⟩)) | (with_reducible intro _) | (refine fun (_ : Bool) => ?_)))
      all_goals first | (exact absurd ‹decide ((k : Int) < (L.length : Int)) = false› (by rw [hd]; decide)) | skip
      any_goals (first | (refine Exists.intro ((k + 1 : Nat)) (And.intro ?_ (And.intro ?_ ?_)); all_goals (repeat' first | (with_reducible exact trivial) | (with_reducible rfl) | (refine And.intro ?_ ?_) | (refine Need.mk ?_) | exact True.intro | (first | (refine ⟨_, Told.refl _, ?_, ?_⟩) | (refine ⟨⟨_, _⟩, Told.refl _, ?_, ?_⟩) | (refine ⟨⟨_, _, _⟩, Told.refl _, ?_, ?_⟩) | (refine ⟨⟨_, _, _, _⟩, Told.refl _, ?_, ?_⟩) | (refine ⟨⟨_, _, _, _, _⟩, Told.refl _, ?_, ?_⟩) | (refine ⟨(), Told.refl _, ?_, ?_⟩)) | (with_reducible intro _) | (refine fun (_ : Bool) => ?_))) | fail)
      all_goals try simp only [Int.toNat_natCast] at *
      all_goals first
        | omega
        | (rw [hw]; rfl)
        | (rw [hw2, hln]; rfl)
        | (exfalso; have q := of_decide_eq_true ‹decide (IntKind.i64.wrap _ < 0) = true›; rw [hw2] at q; omega)
        | skip
    · obtain rfl : k = L.length := by omega
      have hd : decide ((L.length : Int) < (L.length : Int)) = false := decide_eq_false (by omega)
      ((refine AW.byF ‹_› ?_); (repeat' first | (with_reducible exact trivial) | (with_reducible rfl) | (refine And.intro ?_ ?_) | (refine Need.mk ?_) | exact True.intro | (first | (refine ⟨_, Told.refl _, ?_, ?_⟩) | (refine ⟨⟨_, _⟩, Told.refl _, ?_, ?_⟩) | (refine ⟨⟨_, _, _⟩, Told.refl _, ?_, ?_⟩) | (refine ⟨⟨_, _, _, _⟩, Told.refl _, ?_, ?_⟩) | (refine ⟨⟨_, _, _, _, _⟩, Told.refl _, ?_, ?_⟩) | (refine ⟨(), Told.refl _, ?_, ?_⟩)) | (with_reducible intro _) | (refine fun (_ : Bool) => ?_)))
      all_goals first | (exact absurd ‹decide ((L.length : Int) < (L.length : Int)) = true› (by rw [hd]; decide)) | skip
      all_goals try rw [List.take_length]
      all_goals first
        | exact h2
        | skip
      refine AW.loop (I := fun k : Nat => ⟨36, [(0, aL c2S 1 L), (6, .own 0), (25, aL c2S 1 L), (26, .int .i64 L.length), (27, .int .i64 k)], [.row 83 4 (L.take k).flatten.length (els cSp (L.take k).flatten)]⟩) (fun k => k ≤ L.length) (fun k => L.length - k) 0 (Nat.zero_le _) ?_ ?_
      · (repeat' first | (with_reducible exact trivial) | (with_reducible rfl) | (refine And.intro ?_ ?_) | (refine Need.mk ?_) | exact True.intro | (first | (refine ⟨_, Told.refl _, ?_, ?_⟩) | (refine ⟨⟨_, _⟩, Told.refl _, ?_, ?_⟩) | (refine ⟨⟨_, _, _⟩, Told.refl _, ?_, ?_⟩) | (refine ⟨⟨_, _, _, _⟩, Told.refl _, ?_, ?_⟩) | (refine ⟨⟨_, _, _, _, _⟩, Told.refl _, ?_, ?_⟩) | (refine ⟨(), Told.refl _, ?_, ?_⟩)) | (with_reducible intro _) | (refine fun (_ : Bool) => ?_))
        all_goals rfl
      · intro k hk
        rcases Nat.lt_or_ge k L.length with hlt | hge
        · have hd : decide ((k : Int) < (L.length : Int)) = true := decide_eq_true (by omega)
          have hw := iw (n := (k : Int) + 1) (by omega) (by omega)
          have hnx := flatten_next hlt
          have ht := flatten_take L k
          have ht2 := flatten_take L (k + 1)
          have hln : (L.take (k + 1)).flatten.length = (L.take k).flatten.length + (L.getD k default).length := by rw [hnx, List.length_append]
          ((refine AW.byF ‹_› ?_); (repeat' first | (with_reducible exact trivial) | (with_reducible rfl) | (refine And.intro ?_ ?_) | (refine Need.mk ?_) | exact True.intro | (first | (refine ⟨_, Told.refl _, ?_, ?_⟩) | (refine ⟨⟨_, _⟩, Told.refl _, ?_, ?_⟩) | (refine ⟨⟨_, _, _⟩, Told.refl _, ?_, ?_⟩) | (refine ⟨⟨_, _, _, _⟩, Told.refl _, ?_, ?_⟩) | (refine ⟨⟨_, _, _, _, _⟩, Told.refl _, ?_, ?_⟩) | (refine ⟨(), Told.refl _, ?_, ?_⟩)) | (with_reducible intro _) | (refine fun (_ : Bool) => ?_)))
          all_goals first | (exact absurd ‹decide ((k : Int) < (L.length : Int)) = false› (by rw [hd]; decide)) | skip
          any_goals (first | (refine Exists.intro ((k + 1 : Nat)) (And.intro ?_ (And.intro ?_ ?_)); all_goals (repeat' first | (with_reducible exact trivial) | (with_reducible rfl) | (refine And.intro ?_ ?_) | (refine Need.mk ?_) | exact True.intro | (first | (refine ⟨_, Told.refl _, ?_, ?_⟩) | (refine ⟨⟨_, _⟩, Told.refl _, ?_, ?_⟩) | (refine ⟨⟨_, _, _⟩, Told.refl _, ?_, ?_⟩) | (refine ⟨⟨_, _, _, _⟩, Told.refl _, ?_, ?_⟩) | (refine ⟨⟨_, _, _, _, _⟩, Told.refl _, ?_, ?_⟩) | (refine ⟨(), Told.refl _, ?_, ?_⟩)) | (with_reducible intro _) | (refine fun (_ : Bool) => ?_))) | fail)
          all_goals try simp only [Int.toNat_natCast] at *
          all_goals first
            | omega
            | (rw [hw]; rfl)
            | (rw [hln]; done)
            | (rename_i z hz
               rw [hnx] at hz ⊢
               exact els_of cSp_emb (n := 0) (cat_app rfl) z hz)
            | skip
        · obtain rfl : k = L.length := by omega
          have hd : decide ((L.length : Int) < (L.length : Int)) = false := decide_eq_false (by omega)
          ((refine AW.byF ‹_› ?_); (repeat' first | (with_reducible exact trivial) | (with_reducible rfl) | (refine And.intro ?_ ?_) | (refine Need.mk ?_) | exact True.intro | (first | (refine ⟨_, Told.refl _, ?_, ?_⟩) | (refine ⟨⟨_, _⟩, Told.refl _, ?_, ?_⟩) | (refine ⟨⟨_, _, _⟩, Told.refl _, ?_, ?_⟩) | (refine ⟨⟨_, _, _, _⟩, Told.refl _, ?_, ?_⟩) | (refine ⟨⟨_, _, _, _, _⟩, Told.refl _, ?_, ?_⟩) | (refine ⟨(), Told.refl _, ?_, ?_⟩)) | (with_reducible intro _) | (refine fun (_ : Bool) => ?_)))
          all_goals first | (exact absurd ‹decide ((L.length : Int) < (L.length : Int)) = true› (by rw [hd]; decide)) | skip
          all_goals rw [List.take_length]
          all_goals try rfl

def c2B (l : List Bf) : List AV := [aB l]
theorem c2B_emb : Emb c2B 1 := fun x => ⟨rfl, ⟨⟨⟨rfl⟩, els_of cBf_emb (n := 0) (fun _ _ => rfl)⟩, trivial⟩, rfl⟩
def SGrowB : Sp := ⟨Nat, fun n => n ≤ 4000000, fun n => [.nil, .int .i64 (n : Int)], fun _ => .row 73 4 0 (els cBf [])⟩
theorem growBok : SpOK Tryz.prog 90 SGrowB := fun (n : Nat) hn => growB n hn
def SCatB : Sp := ⟨List (List Bf), fun L => L.length ≤ 1000000 ∧ L.flatten.length ≤ 4000000, fun L => [aL c2B 1 L], fun L => .row 73 4 L.flatten.length (els cBf L.flatten)⟩
set_option maxHeartbeats 8000000 in
theorem catB : SpOK Tryz.prog 44 SCatB := fun (L : List (List Bf)) ⟨h1, h2⟩ => by
  have hC : COK Tryz.prog (cfg2 [(90, SGrowB)]) := ty2.cfg ⟨growBok, trivial⟩
  have h1 : L.length ≤ 1000000 := h1
  have h2 : L.flatten.length ≤ 4000000 := h2
  ((refine Fn.ofF hC Tryz.func44 Tryz.ntmps44 rfl rfl rfl ?_); (repeat' first | (with_reducible exact trivial) | (with_reducible rfl) | (refine And.intro ?_ ?_) | (refine Need.mk ?_) | exact True.intro | (first | (refine ⟨_, Told.refl _, ?_, ?_⟩) | (refine ⟨⟨_, _⟩, Told.refl _, ?_, ?_⟩) | (refine ⟨⟨_, _, _⟩, Told.refl _, ?_, ?_⟩) | (refine ⟨⟨_, _, _, _⟩, Told.refl _, ?_, ?_⟩) | (refine ⟨⟨_, _, _, _, _⟩, Told.refl _, ?_, ?_⟩) | (refine ⟨(), Told.refl _, ?_, ?_⟩)) | (with_reducible intro _) | (refine fun (_ : Bool) => ?_)))
  refine AW.loop (I := fun k : Nat => ⟨36, [(0, aL c2B 1 L), (2, .nil), (3, .int .i64 ((L.take k).flatten.length : Nat)), (9, aL c2B 1 L), (10, .int .i64 L.length), (11, .int .i64 k)], []⟩) (fun k => k ≤ L.length) (fun k => L.length - k) 0 (Nat.zero_le _) ?_ ?_
  · (repeat' first | (with_reducible exact trivial) | (with_reducible rfl) | (refine And.intro ?_ ?_) | (refine Need.mk ?_) | exact True.intro | (first | (refine ⟨_, Told.refl _, ?_, ?_⟩) | (refine ⟨⟨_, _⟩, Told.refl _, ?_, ?_⟩) | (refine ⟨⟨_, _, _⟩, Told.refl _, ?_, ?_⟩) | (refine ⟨⟨_, _, _, _⟩, Told.refl _, ?_, ?_⟩) | (refine ⟨⟨_, _, _, _, _⟩, Told.refl _, ?_, ?_⟩) | (refine ⟨(), Told.refl _, ?_, ?_⟩)) | (with_reducible intro _) | (refine fun (_ : Bool) => ?_))
    all_goals rfl
  · intro k hk
    rcases Nat.lt_or_ge k L.length with hlt | hge
    · have hd : decide ((k : Int) < (L.length : Int)) = true := decide_eq_true (by omega)
      have hw := iw (n := (k : Int) + 1) (by omega) (by omega)
      have hnx := flatten_next hlt
      have ht := flatten_take L k
      have ht2 := flatten_take L (k + 1)
      have hln : (L.take (k + 1)).flatten.length = (L.take k).flatten.length + (L.getD k default).length := by rw [hnx, List.length_append]
      have hw2 := iw (n := ((L.take k).flatten.length : Int) + ((L.getD k default).length : Int)) (by omega) (by omega)
      ((refine AW.byF ‹_› ?_); (repeat' first | (with_reducible exact trivial) | (with_reducible rfl) | (refine And.intro ?_ ?_) | (refine Need.mk ?_) | exact True.intro | (first | (refine ⟨_, Told.refl _, ?_, ?_⟩) | (refine ⟨⟨_, _⟩, Told.refl _, ?_, ?_⟩) | (refine ⟨⟨_, _, _⟩, Told.refl _, ?_, ?_⟩) | (refine ⟨⟨_, _, _, _⟩, Told.refl _, ?_, ?_⟩) | (refine ⟨⟨_, _, _, _, _⟩, Told.refl _, ?_, ?_⟩) | (refine ⟨(), Told.refl _, ?_, ?_⟩)) | (with_reducible intro _) | (refine fun (_ : Bool) => ?_)))
      all_goals first | (exact absurd ‹decide ((k : Int) < (L.length : Int)) = false› (by rw [hd]; decide)) | skip
      any_goals (first | (refine Exists.intro ((k + 1 : Nat)) (And.intro ?_ (And.intro ?_ ?_)); all_goals (repeat' first | (with_reducible exact trivial) | (with_reducible rfl) | (refine And.intro ?_ ?_) | (refine Need.mk ?_) | exact True.intro | (first | (refine ⟨_, Told.refl _, ?_, ?_⟩) | (refine ⟨⟨_, _⟩, Told.refl _, ?_, ?_⟩) | (refine ⟨⟨_, _, _⟩, Told.refl _, ?_, ?_⟩) | (refine ⟨⟨_, _, _, _⟩, Told.refl _, ?_, ?_⟩) | (refine ⟨⟨_, _, _, _, _⟩, Told.refl _, ?_, ?_⟩) | (refine ⟨(), Told.refl _, ?_, ?_⟩)) | (with_reducible intro _) | (refine fun (_ : Bool) => ?_))) | fail)
      all_goals try simp only [Int.toNat_natCast] at *
      all_goals first
        | omega
        | (rw [hw]; rfl)
        | (rw [hw2, hln]; rfl)
        | (exfalso; have q := of_decide_eq_true ‹decide (IntKind.i64.wrap _ < 0) = true›; rw [hw2] at q; omega)
        | skip
    · obtain rfl : k = L.length := by omega
      have hd : decide ((L.length : Int) < (L.length : Int)) = false := decide_eq_false (by omega)
      ((refine AW.byF ‹_› ?_); (repeat' first | (with_reducible exact trivial) | (with_reducible rfl) | (refine And.intro ?_ ?_) | (refine Need.mk ?_) | exact True.intro | (first | (refine ⟨_, Told.refl _, ?_, ?_⟩) | (refine ⟨⟨_, _⟩, Told.refl _, ?_, ?_⟩) | (refine ⟨⟨_, _, _⟩, Told.refl _, ?_, ?_⟩) | (refine ⟨⟨_, _, _, _⟩, Told.refl _, ?_, ?_⟩) | (refine ⟨⟨_, _, _, _, _⟩, Told.refl _, ?_, ?_⟩) | (refine ⟨(), Told.refl _, ?_, ?_⟩)) | (with_reducible intro _) | (refine fun (_ : Bool) => ?_)))
      all_goals first | (exact absurd ‹decide ((L.length : Int) < (L.length : Int)) = true› (by rw [hd]; decide)) | skip
      all_goals try rw [List.take_length]
      all_goals first
        | exact h2
        | skip
      refine AW.loop (I := fun k : Nat => ⟨36, [(0, aL c2B 1 L), (6, .own 0), (25, aL c2B 1 L), (26, .int .i64 L.length), (27, .int .i64 k)], [.row 73 4 (L.take k).flatten.length (els cBf (L.take k).flatten)]⟩) (fun k => k ≤ L.length) (fun k => L.length - k) 0 (Nat.zero_le _) ?_ ?_
      · (repeat' first | (with_reducible exact trivial) | (with_reducible rfl) | (refine And.intro ?_ ?_) | (refine Need.mk ?_) | exact True.intro | (first | (refine ⟨_, Told.refl _, ?_, ?_⟩) | (refine ⟨⟨_, _⟩, Told.refl _, ?_, ?_⟩) | (refine ⟨⟨_, _, _⟩, Told.refl _, ?_, ?_⟩) | (refine ⟨⟨_, _, _, _⟩, Told.refl _, ?_, ?_⟩) | (refine ⟨⟨_, _, _, _, _⟩, Told.refl _, ?_, ?_⟩) | (refine ⟨(), Told.refl _, ?_, ?_⟩)) | (with_reducible intro _) | (refine fun (_ : Bool) => ?_))
        all_goals rfl
      · intro k hk
        rcases Nat.lt_or_ge k L.length with hlt | hge
        · have hd : decide ((k : Int) < (L.length : Int)) = true := decide_eq_true (by omega)
          have hw := iw (n := (k : Int) + 1) (by omega) (by omega)
          have hnx := flatten_next hlt
          have ht := flatten_take L k
          have ht2 := flatten_take L (k + 1)
          have hln : (L.take (k + 1)).flatten.length = (L.take k).flatten.length + (L.getD k default).length := by rw [hnx, List.length_append]
          ((refine AW.byF ‹_› ?_); (repeat' first | (with_reducible exact trivial) | (with_reducible rfl) | (refine And.intro ?_ ?_) | (refine Need.mk ?_) | exact True.intro | (first | (refine ⟨_, Told.refl _, ?_, ?_⟩) | (refine ⟨⟨_, _⟩, Told.refl _, ?_, ?_⟩) | (refine ⟨⟨_, _, _⟩, Told.refl _, ?_, ?_⟩) | (refine ⟨⟨_, _, _, _⟩, Told.refl _, ?_, ?_⟩) | (refine ⟨⟨_, _, _, _, _⟩, Told.refl _, ?_, ?_⟩) | (refine ⟨(), Told.refl _, ?_, ?_⟩)) | (with_reducible intro _) | (refine fun (_ : Bool) => ?_)))
          all_goals first | (exact absurd ‹decide ((k : Int) < (L.length : Int)) = false› (by rw [hd]; decide)) | skip
          any_goals (first | (refine Exists.intro ((k + 1 : Nat)) (And.intro ?_ (And.intro ?_ ?_)); all_goals (repeat' first | (with_reducible exact trivial) | (with_reducible rfl) | (refine And.intro ?_ ?_) | (refine Need.mk ?_) | exact True.intro | (first | (refine ⟨_, Told.refl _, ?_, ?_⟩) | (refine ⟨⟨_, _⟩, Told.refl _, ?_, ?_⟩) | (refine ⟨⟨_, _, _⟩, Told.refl _, ?_, ?_⟩) | (refine ⟨⟨_, _, _, _⟩, Told.refl _, ?_, ?_⟩) | (refine ⟨⟨_, _, _, _, _⟩, Told.refl _, ?_, ?_⟩) | (refine ⟨(), Told.refl _, ?_, ?_⟩)) | (with_reducible intro _) | (refine fun (_ : Bool) => ?_))) | fail)
          all_goals try simp only [Int.toNat_natCast] at *
          all_goals first
            | omega
            | (rw [hw]; rfl)
            | (rw [hln]; done)
            | (rename_i z hz
               rw [hnx] at hz ⊢
               exact els_of cBf_emb (n := 0) (cat_app rfl) z hz)
            | skip
        · obtain rfl : k = L.length := by omega
          have hd : decide ((L.length : Int) < (L.length : Int)) = false := decide_eq_false (by omega)
          ((refine AW.byF ‹_› ?_); (repeat' first | (with_reducible exact trivial) | (with_reducible rfl) | (refine And.intro ?_ ?_) | (refine Need.mk ?_) | exact True.intro | (first | (refine ⟨_, Told.refl _, ?_, ?_⟩) | (refine ⟨⟨_, _⟩, Told.refl _, ?_, ?_⟩) | (refine ⟨⟨_, _, _⟩, Told.refl _, ?_, ?_⟩) | (refine ⟨⟨_, _, _, _⟩, Told.refl _, ?_, ?_⟩) | (refine ⟨⟨_, _, _, _, _⟩, Told.refl _, ?_, ?_⟩) | (refine ⟨(), Told.refl _, ?_, ?_⟩)) | (with_reducible intro _) | (refine fun (_ : Bool) => ?_)))
          all_goals first | (exact absurd ‹decide ((L.length : Int) < (L.length : Int)) = true› (by rw [hd]; decide)) | skip
          all_goals rw [List.take_length]
          all_goals try rfl

/-! ### Tables merged -/
def catT (t u : Tbl) : Tbl := ⟨t.name, t.wmode, t.spaces ++ u.spaces, t.cids ++ u.cids, t.nots ++ u.nots, t.bfs ++ u.bfs⟩
def kinds : List Int := [2, 3, 5, 7]
def midT (t u : Tbl) (k : Nat) : Tbl := (kinds.take k).foldl builtT (catT t u)
theorem mid0 (t u : Tbl) : midT t u 0 = catT t u := rfl
theorem mid4 (t u : Tbl) : midT t u 4 = mergeT t u := by
  unfold midT mergeT kinds catT
  simp [builtT]
theorem mid_next (t u : Tbl) {k : Nat} (hk : k < 4) : midT t u (k + 1) = builtT (midT t u k) (kinds.getD k default) := by
  unfold midT
  rw [take_nextG (l := kinds) hk, List.foldl_append]
  rfl
def lens (t : Tbl) (n : Nat) : Prop := t.spaces.length ≤ n ∧ t.cids.length ≤ n ∧ t.nots.length ≤ n ∧ t.bfs.length ≤ n
theorem lens_built {t : Tbl} {n : Nat} (h : lens t n) (k : Int) : lens (builtT t k) (2 * n) := by
  obtain ⟨a, b, c, d⟩ := h
  unfold builtT
  have h1 := canR_len t.spaces
  have h2 := ((ES true).build_ok t.cids).2.1
  have h3 := ((ES false).build_ok t.nots).2.1
  have h4 := (EB.build_ok t.bfs).2.1
  refine ⟨?_, ?_, ?_, ?_⟩
  all_goals dsimp only
  all_goals split <;> omega
theorem lens_mid {t u : Tbl} {n : Nat} (h : lens t n) (h' : lens u n) : ∀ k, k ≤ 4 → lens (midT t u k) (2 * n * 2 ^ k)
  | 0, _ => by
    obtain ⟨a, b, c, d⟩ := h
    obtain ⟨a', b', c', d'⟩ := h'
    rw [mid0]
    unfold catT
    refine ⟨?_, ?_, ?_, ?_⟩
    all_goals dsimp only
    all_goals rw [List.length_append]
    all_goals omega
  | k + 1, hk => by
    have q := lens_built (lens_mid h h' k (by omega)) (kinds.getD k default)
    rw [← mid_next t u (k := k) (by omega)] at q
    have e : 2 * n * 2 ^ (k + 1) = 2 * (2 * n * 2 ^ k) := by rw [Nat.pow_succ, ← Nat.mul_assoc, Nat.mul_comm (2 * n * 2 ^ k) 2]
    rw [e]
    exact q
theorem mid_few {t u : Tbl} (h : lens t 30000) (h' : lens u 30000) {k : Nat} (hk : k ≤ 4) : few6 (midT t u k) := by
  obtain ⟨a, b, c, d⟩ := lens_mid h h' k hk
  have e : 2 * 30000 * 2 ^ k ≤ 1000000 := by
    have : 2 ^ k ≤ 2 ^ 4 := Nat.pow_le_pow_right (by decide) hk
    omega
  exact ⟨by omega, by omega, by omega, by omega⟩
theorem lens_merge {t u : Tbl} {n : Nat} (h : lens t n) (h' : lens u n) : lens (mergeT t u) (32 * n) := by
  have q := lens_mid h h' 4 (by omega)
  rw [mid4] at q
  obtain ⟨a, b, c, d⟩ := q
  exact ⟨by omega, by omega, by omega, by omega⟩
def SMerge : Sp := ⟨Tbl × Tbl, fun (t, u) => lens t 30000 ∧ lens u 30000, fun (t, u) => [.agg (cT t), .agg (cT u)], fun (t, u) => .st (.agg (cT (mergeT t u)))⟩
set_option maxHeartbeats 16000000 in
theorem semMerge : SpOK Tryz.prog 19 SMerge := fun ⟨t, u⟩ ⟨h, h'⟩ => by
  have hC : COK Tryz.prog (cfg2 [(42, SCatR), (43, SCatS), (44, SCatB), (33, SBuilt)]) := ty2.cfg ⟨catR, catS, catB, semBuilt, trivial⟩
  have h : lens t 30000 := h
  have h' : lens u 30000 := h'
  obtain ⟨a1, a2, a3, a4⟩ := id h
  obtain ⟨b1, b2, b3, b4⟩ := id h'
  ((refine Fn.ofF hC Tryz.func19 Tryz.ntmps19 rfl rfl rfl ?_); (repeat' first | (with_reducible exact trivial) | (with_reducible rfl) | (refine And.intro ?_ ?_) | (refine Need.mk ?_) | exact True.intro | (first | (refine ⟨_, Told.refl _, ?_, ?_⟩) | (refine ⟨⟨_, _⟩, Told.refl _, ?_, ?_⟩) | (refine ⟨⟨_, _, _⟩, Told.refl _, ?_, ?_⟩) | (refine ⟨⟨_, _, _, _⟩, Told.refl _, ?_, ?_⟩) | (refine ⟨⟨_, _, _, _, _⟩, Told.refl _, ?_, ?_⟩) | (refine ⟨(), Told.refl _, ?_, ?_⟩)) | (with_reducible intro _) | (refine fun (_ : Bool) => ?_)))
  refine Exists.intro [t.spaces, u.spaces] (And.intro (Told.of (lit_sub c2R_emb [t.spaces, u.spaces])) (And.intro ⟨by show 2 ≤ 1000000; omega, by simp; omega⟩ ?_))
  (repeat' first | (with_reducible exact trivial) | (with_reducible rfl) | (refine And.intro ?_ ?_) | (refine Need.mk ?_) | exact True.intro | (first | (refine ⟨_, Told.refl _, ?_, ?_⟩) | (refine ⟨⟨_, _⟩, Told.refl _, ?_, ?_⟩) | (refine ⟨⟨_, _, _⟩, Told.refl _, ?_, ?_⟩) | (refine ⟨⟨_, _, _, _⟩, Told.refl _, ?_, ?_⟩) | (refine ⟨⟨_, _, _, _, _⟩, Told.refl _, ?_, ?_⟩) | (refine ⟨(), Told.refl _, ?_, ?_⟩)) | (with_reducible intro _) | (refine fun (_ : Bool) => ?_))
  refine Exists.intro [t.cids, u.cids] (And.intro (Told.of (lit_sub c2S_emb [t.cids, u.cids])) (And.intro ⟨by show 2 ≤ 1000000; omega, by simp; omega⟩ ?_))
  (repeat' first | (with_reducible exact trivial) | (with_reducible rfl) | (refine And.intro ?_ ?_) | (refine Need.mk ?_) | exact True.intro | (first | (refine ⟨_, Told.refl _, ?_, ?_⟩) | (refine ⟨⟨_, _⟩, Told.refl _, ?_, ?_⟩) | (refine ⟨⟨_, _, _⟩, Told.refl _, ?_, ?_⟩) | (refine ⟨⟨_, _, _, _⟩, Told.refl _, ?_, ?_⟩) | (refine ⟨⟨_, _, _, _, _⟩, Told.refl _, ?_, ?_⟩) | (refine ⟨(), Told.refl _, ?_, ?_⟩)) | (with_reducible intro _) | (refine fun (_ : Bool) => ?_))
  refine Exists.intro [t.nots, u.nots] (And.intro (Told.of (lit_sub c2S_emb [t.nots, u.nots])) (And.intro ⟨by show 2 ≤ 1000000; omega, by simp; omega⟩ ?_))
  (repeat' first | (with_reducible exact trivial) | (with_reducible rfl) | (refine And.intro ?_ ?_) | (refine Need.mk ?_) | exact True.intro | (first | (refine ⟨_, Told.refl _, ?_, ?_⟩) | (refine ⟨⟨_, _⟩, Told.refl _, ?_, ?_⟩) | (refine ⟨⟨_, _, _⟩, Told.refl _, ?_, ?_⟩) | (refine ⟨⟨_, _, _, _⟩, Told.refl _, ?_, ?_⟩) | (refine ⟨⟨_, _, _, _, _⟩, Told.refl _, ?_, ?_⟩) | (refine ⟨(), Told.refl _, ?_, ?_⟩)) | (with_reducible intro _) | (refine fun (_ : Bool) => ?_))
  refine Exists.intro [t.bfs, u.bfs] (And.intro (Told.of (lit_sub c2B_emb [t.bfs, u.bfs])) (And.intro ⟨by show 2 ≤ 1000000; omega, by simp; omega⟩ ?_))
  (repeat' first | (with_reducible exact trivial) | (with_reducible rfl) | (refine And.intro ?_ ?_) | (refine Need.mk ?_) | exact True.intro | (first | (refine ⟨_, Told.refl _, ?_, ?_⟩) | (refine ⟨⟨_, _⟩, Told.refl _, ?_, ?_⟩) | (refine ⟨⟨_, _, _⟩, Told.refl _, ?_, ?_⟩) | (refine ⟨⟨_, _, _, _⟩, Told.refl _, ?_, ?_⟩) | (refine ⟨⟨_, _, _, _, _⟩, Told.refl _, ?_, ?_⟩) | (refine ⟨(), Told.refl _, ?_, ?_⟩)) | (with_reducible intro _) | (refine fun (_ : Bool) => ?_))
  refine AW.loop (I := fun k : Nat => ⟨46, [(2, .ptr 0 0), (3, .ptr 1 0), (4, .ptr 2 0), (35, aI kinds), (36, .int .i64 (4 : Nat)), (37, .int .i64 k)], [.box 39 (cT (midT t u k)), .box 39 (cT u), .box 39 (cT T0)]⟩) (fun k => k ≤ 4) (fun k => 4 - k) 0 (Nat.zero_le _) ?_ ?_
  · (repeat' first | (with_reducible exact trivial) | (with_reducible rfl) | (refine And.intro ?_ ?_) | (refine Need.mk ?_) | exact True.intro | (first | (refine ⟨_, Told.refl _, ?_, ?_⟩) | (refine ⟨⟨_, _⟩, Told.refl _, ?_, ?_⟩) | (refine ⟨⟨_, _, _⟩, Told.refl _, ?_, ?_⟩) | (refine ⟨⟨_, _, _, _⟩, Told.refl _, ?_, ?_⟩) | (refine ⟨⟨_, _, _, _, _⟩, Told.refl _, ?_, ?_⟩) | (refine ⟨(), Told.refl _, ?_, ?_⟩)) | (with_reducible intro _) | (refine fun (_ : Bool) => ?_))
    all_goals first
      | with_reducible rfl
      | exact (rfl : t.name = (midT t u 0).name)
      | exact (rfl : t.wmode = (midT t u 0).wmode)
      | exact congrArg List.length (flat2 t.spaces u.spaces)
      | exact congrArg List.length (flat2 t.cids u.cids)
      | exact congrArg List.length (flat2 t.nots u.nots)
      | exact congrArg List.length (flat2 t.bfs u.bfs)
      | (simp only [flat2, mid0, catT]; done)
      | (unfold T0; rfl)
      | (unfold kinds; rfl)
      | exact (rfl : (0 : Int) = ((0 : Nat) : Int))
      | (rename_i z hz; exact els_of ci_emb (n := 0) (elt_list kinds) z hz)
      | (rename_i z hz; exact absurd hz (Nat.not_lt_zero z))
      | skip
  · intro k hk
    rcases Nat.lt_or_ge k 4 with hlt | hge
    · have hd : decide ((k : Int) < (4 : Nat)) = true := decide_eq_true (by omega)
      have hw := iw (n := (k : Int) + 1) (by omega) (by omega)
      have hnx := mid_next t u hlt
      have hfw := mid_few h h' hk
      obtain ⟨f1, f2, f3, f4⟩ := hfw
      ((refine AW.byF ‹_› ?_); (repeat' first | (with_reducible exact trivial) | (with_reducible rfl) | (refine And.intro ?_ ?_) | (refine Need.mk ?_) | exact True.intro | (first | (refine ⟨_, Told.refl _, ?_, ?_⟩) | (refine ⟨⟨_, _⟩, Told.refl _, ?_, ?_⟩) | (refine ⟨⟨_, _, _⟩, Told.refl _, ?_, ?_⟩) | (refine ⟨⟨_, _, _, _⟩, Told.refl _, ?_, ?_⟩) | (refine ⟨⟨_, _, _, _, _⟩, Told.refl _, ?_, ?_⟩) | (refine ⟨(), Told.refl _, ?_, ?_⟩)) | (with_reducible intro _) | (refine fun (_ : Bool) => ?_)))
      all_goals first | (exact absurd ‹decide ((k : Int) < (4 : Nat)) = false› (by rw [hd]; decide)) | skip
      any_goals (first | (refine Exists.intro ((k + 1 : Nat)) (And.intro ?_ (And.intro ?_ ?_)); all_goals (repeat' first | (with_reducible exact trivial) | (with_reducible rfl) | (refine And.intro ?_ ?_) | (refine Need.mk ?_) | exact True.intro | (first | (refine ⟨_, Told.refl _, ?_, ?_⟩) | (refine ⟨⟨_, _⟩, Told.refl _, ?_, ?_⟩) | (refine ⟨⟨_, _, _⟩, Told.refl _, ?_, ?_⟩) | (refine ⟨⟨_, _, _, _⟩, Told.refl _, ?_, ?_⟩) | (refine ⟨⟨_, _, _, _, _⟩, Told.refl _, ?_, ?_⟩) | (refine ⟨(), Told.refl _, ?_, ?_⟩)) | (with_reducible intro _) | (refine fun (_ : Bool) => ?_))) | fail)
      all_goals try simp only [Int.toNat_natCast] at *
      all_goals first
        | omega
        | exact f1
        | exact f2
        | exact f3
        | exact f4
        | (rw [hw]; rfl)
        | (rw [hnx]; done)
        | (show (k : Int) < ((4 : Nat) : Int); omega)
    · obtain rfl : k = 4 := by omega
      have hd : decide (((4 : Nat) : Int) < (4 : Nat)) = false := decide_eq_false (by omega)
      ((refine AW.byF ‹_› ?_); (repeat' first | (with_reducible exact trivial) | (with_reducible rfl) | (refine And.intro ?_ ?_) | (refine Need.mk ?_) | exact True.intro | (first | (refine ⟨_, Told.refl _, ?_, ?_⟩) | (refine ⟨⟨_, _⟩, Told.refl _, ?_, ?_⟩) | (refine ⟨⟨_, _, _⟩, Told.refl _, ?_, ?_⟩) | (refine ⟨⟨_, _, _, _⟩, Told.refl _, ?_, ?_⟩) | (refine ⟨⟨_, _, _, _, _⟩, Told.refl _, ?_, ?_⟩) | (refine ⟨(), Told.refl _, ?_, ?_⟩)) | (with_reducible intro _) | (refine fun (_ : Bool) => ?_)))
      all_goals first | (exact absurd ‹decide (((4 : Nat) : Int) < (4 : Nat)) = true› (by rw [hd]; decide)) | skip
      all_goals rw [mid4]
      all_goals try rfl
end Go.Abs.Sm
set_option maxRecDepth 100000
namespace Go.Abs.Sm
open Go.RowKit Go.Proofs Go.Abs.Tab Go.Abs.Dest Go.Abs.Span Go.Abs.Coll Go.Abs.Hx Go.Abs.Mt Go.Abs.Rc
def cU (u : List Int) : List AV := [aI u]
theorem cU_emb : Emb cU 1 := fun x => ⟨rfl, ⟨⟨⟨rfl⟩, els_of ci_emb (n := 0) (fun _ _ => rfl)⟩, trivial⟩, rfl⟩
def cE (e : Ent) : List AV := [.int .i64 e.ln, .int .i64 e.lv, .int .i64 e.hn, .int .i64 e.hv, .int .i64 e.to, aI e.u, aL cU 1 e.l]
theorem cE_emb : Emb cE 7 := fun x => ⟨rfl, ⟨⟨rfl⟩, ⟨rfl⟩, ⟨rfl⟩, ⟨rfl⟩, ⟨rfl⟩, ⟨⟨rfl⟩, els_of ci_emb (n := 0) (fun _ _ => rfl)⟩, ⟨⟨rfl⟩, els_of cU_emb (n := 0) (fun _ _ => rfl)⟩, trivial⟩, rfl⟩
abbrev aE (l : List Ent) : AV := aL cE 7 l
def cX (x : Itm) : List AV := [.int .i64 x.kind, .int .i64 x.at_, .str x.name, .int .i64 x.tk, .int .i64 x.ta, .int .i64 x.tn, .str x.ts, aE x.ents]
theorem cX_emb : Emb cX 8 := fun x => ⟨rfl, ⟨⟨rfl⟩, ⟨rfl⟩, ⟨rfl⟩, ⟨rfl⟩, ⟨rfl⟩, ⟨rfl⟩, ⟨rfl⟩, ⟨⟨rfl⟩, els_of cE_emb (n := 0) (fun _ _ => rfl)⟩, trivial⟩, rfl⟩
abbrev aX (l : List Itm) : AV := aL cX 8 l
theorem getE {l : List Ent} {i : Nat} (h : i < l.length) : l.getD i default = l[i] := by simp [List.getD, h]
theorem getX {l : List Itm} {i : Nat} (h : i < l.length) : l.getD i default = l[i] := by simp [List.getD, h]
theorem str_eq (a b : ByteArray) : (a.toList == b.toList) = true ↔ a = b := by
  rw [beq_iff_eq, ByteArray.toList_eq, ByteArray.toList_eq]
  exact ⟨fun h => ByteArray.ext (Array.ext' h), fun h => by rw [h]⟩
theorem str_ne (a b : ByteArray) : (a.toList == b.toList) = false ↔ a ≠ b := by
  rw [← Bool.not_eq_true, str_eq]
/-! ### Definitions -/
def defT (t : Tbl) (x : Itm) : Tbl := ⟨if isName x then x.ts else t.name, if isMode x then x.tn else t.wmode, t.spaces, t.cids, t.nots, t.bfs⟩
def SDef : Sp := ⟨Tbl × Itm, fun _ => True, fun (t, x) => [.agg (cT t), .agg (cX x)], fun (t, x) => .st (.agg (cT (defT t x)))⟩
set_option maxHeartbeats 8000000 in
theorem define : SpOK Tryz.prog 68 SDef := fun ⟨t, x⟩ _ => by
  have hC := base
  have q1 : (x.name.toList == nameK.toList) = true ↔ x.name = nameK := str_eq _ _
  have q2 : (x.name.toList == modeK.toList) = true ↔ x.name = modeK := str_eq _ _
  by_cases hN : isName x
  · have hM := not_both hN
    show Fn _ _ _ (.st (.agg (cT (defT t x))))
    rw [show defT t x = ⟨x.ts, t.wmode, t.spaces, t.cids, t.nots, t.bfs⟩ by unfold defT; rw [if_pos hN, if_neg hM]]
    have h1 := q1.2 hN.1
    have h2 : (x.tk == 2) = true := by rw [beq_iff_eq]; exact hN.2
    unfold nameK at h1
    ((refine Fn.ofF hC Tryz.func68 Tryz.ntmps68 rfl rfl rfl ?_); (repeat' first | (with_reducible exact trivial) | (with_reducible rfl) | (refine And.intro ?_ ?_) | (refine Need.mk ?_) | exact True.intro | (first | (refine ⟨_, Told.refl _, ?_, ?_⟩) | (refine ⟨⟨_, _⟩, Told.refl _, ?_, ?_⟩) | (refine ⟨⟨_, _, _⟩, Told.refl _, ?_, ?_⟩) | (refine ⟨⟨_, _, _, _⟩, Told.refl _, ?_, ?_⟩) | (refine ⟨⟨_, _, _, _, _⟩, Told.refl _, ?_, ?_⟩) | (refine ⟨(), Told.refl _, ?_, ?_⟩)) | (with_reducible intro _) | (refine fun (_ : Bool) => ?_)))
    all_goals first
      | rfl
      | (exfalso; simp_all; done)
  · by_cases hM : isMode x
    · show Fn _ _ _ (.st (.agg (cT (defT t x))))
      rw [show defT t x = ⟨t.name, x.tn, t.spaces, t.cids, t.nots, t.bfs⟩ by unfold defT; rw [if_neg hN, if_pos hM]]
      have h1 := q2.2 hM.1
      have h2 : (x.tk == 1) = true := by rw [beq_iff_eq]; exact hM.2.1
      have h3 : (x.tn == 0) = true ∨ (x.tn == 1) = true := by rw [beq_iff_eq, beq_iff_eq]; exact hM.2.2
      have h4 : ¬ ((x.name.toList == nameK.toList) = true ∧ (x.tk == 2) = true) := fun ⟨a, b⟩ => hN ⟨q1.1 a, by simpa using b⟩
      unfold modeK at h1
      unfold nameK at h4
      ((refine Fn.ofF hC Tryz.func68 Tryz.ntmps68 rfl rfl rfl ?_); (repeat' first | (with_reducible exact trivial) | (with_reducible rfl) | (refine And.intro ?_ ?_) | (refine Need.mk ?_) | exact True.intro | (first | (refine ⟨_, Told.refl _, ?_, ?_⟩) | (refine ⟨⟨_, _⟩, Told.refl _, ?_, ?_⟩) | (refine ⟨⟨_, _, _⟩, Told.refl _, ?_, ?_⟩) | (refine ⟨⟨_, _, _, _⟩, Told.refl _, ?_, ?_⟩) | (refine ⟨⟨_, _, _, _, _⟩, Told.refl _, ?_, ?_⟩) | (refine ⟨(), Told.refl _, ?_, ?_⟩)) | (with_reducible intro _) | (refine fun (_ : Bool) => ?_)))
      all_goals first
        | rfl
        | (exfalso; simp_all; done)
    · show Fn _ _ _ (.st (.agg (cT (defT t x))))
      rw [show defT t x = t by unfold defT; rw [if_neg hN, if_neg hM]]
      have h4 : ¬ ((x.name.toList == nameK.toList) = true ∧ (x.tk == 2) = true) := fun ⟨a, b⟩ => hN ⟨q1.1 a, by simpa using b⟩
      have h5 : ¬ ((x.name.toList == modeK.toList) = true ∧ (x.tk == 1) = true ∧ ((x.tn == 0) = true ∨ (x.tn == 1) = true)) := fun ⟨a, b, c⟩ => hM ⟨q2.1 a, by simpa using b, by simpa using c⟩
      unfold nameK at h4
      unfold modeK at h5
      ((refine Fn.ofF hC Tryz.func68 Tryz.ntmps68 rfl rfl rfl ?_); (repeat' first | (with_reducible exact trivial) | (with_reducible rfl) | (refine And.intro ?_ ?_) | (refine Need.mk ?_) | exact True.intro | (first | (refine ⟨_, Told.refl _, ?_, ?_⟩) | (refine ⟨⟨_, _⟩, Told.refl _, ?_, ?_⟩) | (refine ⟨⟨_, _, _⟩, Told.refl _, ?_, ?_⟩) | (refine ⟨⟨_, _, _, _⟩, Told.refl _, ?_, ?_⟩) | (refine ⟨⟨_, _, _, _, _⟩, Told.refl _, ?_, ?_⟩) | (refine ⟨(), Told.refl _, ?_, ?_⟩)) | (with_reducible intro _) | (refine fun (_ : Bool) => ?_)))
      all_goals first
        | rfl
        | (exfalso; simp_all; done)
/-! ### Entries -/
def SRectOf : Sp := ⟨Ent, fun _ => True, fun e => [.agg (cE e)], fun e => .row 64 3 1 (els cR [rectE e])⟩
theorem rectOf : SpOK Tryz.prog 70 SRectOf := fun (e : Ent) _ => by
  have hC := base
  ((refine Fn.ofF hC Tryz.func70 Tryz.ntmps70 rfl rfl rfl ?_); (repeat' first | (with_reducible exact trivial) | (with_reducible rfl) | (refine And.intro ?_ ?_) | (refine Need.mk ?_) | exact True.intro | (first | (refine ⟨_, Told.refl _, ?_, ?_⟩) | (refine ⟨⟨_, _⟩, Told.refl _, ?_, ?_⟩) | (refine ⟨⟨_, _, _⟩, Told.refl _, ?_, ?_⟩) | (refine ⟨⟨_, _, _, _⟩, Told.refl _, ?_, ?_⟩) | (refine ⟨⟨_, _, _, _, _⟩, Told.refl _, ?_, ?_⟩) | (refine ⟨(), Told.refl _, ?_, ?_⟩)) | (with_reducible intro _) | (refine fun (_ : Bool) => ?_)))
  all_goals first
    | rfl
    | (rename_i i hi
       obtain rfl : i = 0 := by omega
       exact (cR_emb (rectE e)).2.1)
    | (rename_i i hi
       exact els_of cR_emb (l := [rectE e]) (n := 0) (elt_list [rectE e]) i hi)
def SSpanOf : Sp := ⟨Ent, fun _ => True, fun e => [.agg (cE e)], fun e => .row 83 4 1 (els cSp [spanE e])⟩
theorem spanOf : SpOK Tryz.prog 72 SSpanOf := fun (e : Ent) _ => by
  have hC := base
  ((refine Fn.ofF hC Tryz.func72 Tryz.ntmps72 rfl rfl rfl ?_); (repeat' first | (with_reducible exact trivial) | (with_reducible rfl) | (refine And.intro ?_ ?_) | (refine Need.mk ?_) | exact True.intro | (first | (refine ⟨_, Told.refl _, ?_, ?_⟩) | (refine ⟨⟨_, _⟩, Told.refl _, ?_, ?_⟩) | (refine ⟨⟨_, _, _⟩, Told.refl _, ?_, ?_⟩) | (refine ⟨⟨_, _, _, _⟩, Told.refl _, ?_, ?_⟩) | (refine ⟨⟨_, _, _, _, _⟩, Told.refl _, ?_, ?_⟩) | (refine ⟨(), Told.refl _, ?_, ?_⟩)) | (with_reducible intro _) | (refine fun (_ : Bool) => ?_)))
  all_goals first
    | rfl
    | (rename_i i hi
       exact els_of cSp_emb (l := [spanE e]) (n := 0) (elt_list [spanE e]) i hi)
def bfK (e : Ent) (k : Nat) : Bf := ⟨e.ln, IntKind.i64.wrap (e.lv + (k : Int)), IntKind.i64.wrap (e.lv + (k : Int)), e.l.getD k default⟩
def bfN (e : Ent) (k : Nat) : List Bf := (List.range k).map (bfK e)
theorem bfN_next (e : Ent) (k : Nat) : bfN e (k + 1) = bfN e k ++ [bfK e k] := by unfold bfN; rw [List.range_succ, List.map_append]; rfl
theorem bfN_len (e : Ent) (k : Nat) : (bfN e k).length = k := by unfold bfN; simp
def SBfsOf : Sp := ⟨Ent, fun e => e.l.length ≤ 1000000, fun e => [.agg (cE e)], fun e => .row 73 4 (bfsE e).length (els cBf (bfsE e))⟩
set_option maxHeartbeats 8000000 in
theorem bfsOf : SpOK Tryz.prog 74 SBfsOf := fun (e : Ent) hl => by
  have hC := base
  have hl : e.l.length ≤ 1000000 := hl
  by_cases h0 : e.l.length = 0
  · show Fn _ _ _ (.row 73 4 (bfsE e).length (els cBf (bfsE e)))
    rw [show bfsE e = [⟨e.ln, e.lv, e.hv, e.u⟩] from if_pos h0]
    have hd : ((e.l.length : Int) == 0) = true := by rw [beq_iff_eq]; omega
    ((refine Fn.ofF hC Tryz.func74 Tryz.ntmps74 rfl rfl rfl ?_); (repeat' first | (with_reducible exact trivial) | (with_reducible rfl) | (refine And.intro ?_ ?_) | (refine Need.mk ?_) | exact True.intro | (first | (refine ⟨_, Told.refl _, ?_, ?_⟩) | (refine ⟨⟨_, _⟩, Told.refl _, ?_, ?_⟩) | (refine ⟨⟨_, _, _⟩, Told.refl _, ?_, ?_⟩) | (refine ⟨⟨_, _, _, _⟩, Told.refl _, ?_, ?_⟩) | (refine ⟨⟨_, _, _, _, _⟩, Told.refl _, ?_, ?_⟩) | (refine ⟨(), Told.refl _, ?_, ?_⟩)) | (with_reducible intro _) | (refine fun (_ : Bool) => ?_)))
    all_goals first
      | rfl
      | (exfalso; simp_all; done)
      | (rename_i i hi
         exact els_of cBf_emb (l := [(⟨e.ln, e.lv, e.hv, e.u⟩ : Bf)]) (n := 0) (elt_list [(⟨e.ln, e.lv, e.hv, e.u⟩ : Bf)]) i hi)
      | (exact absurd ‹((e.l.length : Int) == 0) = false› (by rw [hd]; decide))
  · show Fn _ _ _ (.row 73 4 (bfsE e).length (els cBf (bfsE e)))
    rw [show bfsE e = bfN e e.l.length from if_neg h0]
    have hd : ((e.l.length : Int) == 0) = false := by rw [beq_eq_false_iff_ne]; omega
    ((refine Fn.ofF hC Tryz.func74 Tryz.ntmps74 rfl rfl rfl ?_); (repeat' first | (with_reducible exact trivial) | (with_reducible rfl) | (refine And.intro ?_ ?_) | (refine Need.mk ?_) | exact True.intro | (first | (refine ⟨_, Told.refl _, ?_, ?_⟩) | (refine ⟨⟨_, _⟩, Told.refl _, ?_, ?_⟩) | (refine ⟨⟨_, _, _⟩, Told.refl _, ?_, ?_⟩) | (refine ⟨⟨_, _, _, _⟩, Told.refl _, ?_, ?_⟩) | (refine ⟨⟨_, _, _, _, _⟩, Told.refl _, ?_, ?_⟩) | (refine ⟨(), Told.refl _, ?_, ?_⟩)) | (with_reducible intro _) | (refine fun (_ : Bool) => ?_)))
    all_goals first | (exact absurd ‹((e.l.length : Int) == 0) = true› (by rw [hd]; decide)) | skip
    refine AW.loop (I := fun k : Nat => ⟨51, [(1, .ptr 0 0), (3, .own 1), (24, aL cU 1 e.l), (25, .int .i64 e.l.length), (26, .int .i64 k)], [.box 69 (cE e), .row 73 4 (bfN e k).length (els cBf (bfN e k))]⟩) (fun k => k ≤ e.l.length) (fun k => e.l.length - k) 0 (Nat.zero_le _) ?_ ?_
    · (repeat' first | (with_reducible exact trivial) | (with_reducible rfl) | (refine And.intro ?_ ?_) | (refine Need.mk ?_) | exact True.intro | (first | (refine ⟨_, Told.refl _, ?_, ?_⟩) | (refine ⟨⟨_, _⟩, Told.refl _, ?_, ?_⟩) | (refine ⟨⟨_, _, _⟩, Told.refl _, ?_, ?_⟩) | (refine ⟨⟨_, _, _, _⟩, Told.refl _, ?_, ?_⟩) | (refine ⟨⟨_, _, _, _, _⟩, Told.refl _, ?_, ?_⟩) | (refine ⟨(), Told.refl _, ?_, ?_⟩)) | (with_reducible intro _) | (refine fun (_ : Bool) => ?_))
      all_goals rfl
    · intro k hk
      have hml := bfN_len e k
      rcases Nat.lt_or_ge k e.l.length with hlt | hge
      · have hd : decide ((k : Int) < (e.l.length : Int)) = true := decide_eq_true (by omega)
        have hw := iw (n := (k : Int) + 1) (by omega) (by omega)
        have hnx := bfN_next e k
        ((refine AW.byF ‹_› ?_); (repeat' first | (with_reducible exact trivial) | (with_reducible rfl) | (refine And.intro ?_ ?_) | (refine Need.mk ?_) | exact True.intro | (first | (refine ⟨_, Told.refl _, ?_, ?_⟩) | (refine ⟨⟨_, _⟩, Told.refl _, ?_, ?_⟩) | (refine ⟨⟨_, _, _⟩, Told.refl _, ?_, ?_⟩) | (refine ⟨⟨_, _, _, _⟩, Told.refl _, ?_, ?_⟩) | (refine ⟨⟨_, _, _, _, _⟩, Told.refl _, ?_, ?_⟩) | (refine ⟨(), Told.refl _, ?_, ?_⟩)) | (with_reducible intro _) | (refine fun (_ : Bool) => ?_)))
        all_goals first | (exact absurd ‹decide ((k : Int) < (e.l.length : Int)) = false› (by rw [hd]; decide)) | skip
        any_goals (refine Exists.intro ((k + 1 : Nat)) (And.intro ?_ (And.intro ?_ ?_)); all_goals (repeat' first | (with_reducible exact trivial) | (with_reducible rfl) | (refine And.intro ?_ ?_) | (refine Need.mk ?_) | exact True.intro | (first | (refine ⟨_, Told.refl _, ?_, ?_⟩) | (refine ⟨⟨_, _⟩, Told.refl _, ?_, ?_⟩) | (refine ⟨⟨_, _, _⟩, Told.refl _, ?_, ?_⟩) | (refine ⟨⟨_, _, _, _⟩, Told.refl _, ?_, ?_⟩) | (refine ⟨⟨_, _, _, _, _⟩, Told.refl _, ?_, ?_⟩) | (refine ⟨(), Told.refl _, ?_, ?_⟩)) | (with_reducible intro _) | (refine fun (_ : Bool) => ?_)))
        all_goals try simp only [Int.toNat_natCast] at *
        all_goals first
          | omega
          | (rw [hw]; rfl)
          | (rw [hnx, List.length_append]; rfl)
          | (rename_i z hz
             rw [hnx] at hz ⊢
             exact els_of cBf_emb (n := 0) (cat_snoc rfl) z hz)
      · obtain rfl : k = e.l.length := by omega
        have hd : decide ((e.l.length : Int) < (e.l.length : Int)) = false := decide_eq_false (by omega)
        ((refine AW.byF ‹_› ?_); (repeat' first | (with_reducible exact trivial) | (with_reducible rfl) | (refine And.intro ?_ ?_) | (refine Need.mk ?_) | exact True.intro | (first | (refine ⟨_, Told.refl _, ?_, ?_⟩) | (refine ⟨⟨_, _⟩, Told.refl _, ?_, ?_⟩) | (refine ⟨⟨_, _, _⟩, Told.refl _, ?_, ?_⟩) | (refine ⟨⟨_, _, _, _⟩, Told.refl _, ?_, ?_⟩) | (refine ⟨⟨_, _, _, _, _⟩, Told.refl _, ?_, ?_⟩) | (refine ⟨(), Told.refl _, ?_, ?_⟩)) | (with_reducible intro _) | (refine fun (_ : Bool) => ?_)))
        all_goals first | (exact absurd ‹decide ((e.l.length : Int) < (e.l.length : Int)) = true› (by rw [hd]; decide)) | skip
/-! ### Rows, cloned -/
def SClR : Sp := ⟨List Rct, fun l => l.length ≤ 1000000000, fun l => [aR l], fun l => .row 64 3 l.length (els cR l)⟩
theorem cloneR : SpOK Tryz.prog 79 SClR := fun (l : List Rct) h => by
  have hC := base
  have h : l.length ≤ 1000000000 := h
  ((refine Fn.ofF hC Tryz.func79 Tryz.ntmps79 rfl rfl rfl ?_); (repeat' first | (with_reducible exact trivial) | (with_reducible rfl) | (refine And.intro ?_ ?_) | (refine Need.mk ?_) | exact True.intro | (first | (refine ⟨_, Told.refl _, ?_, ?_⟩) | (refine ⟨⟨_, _⟩, Told.refl _, ?_, ?_⟩) | (refine ⟨⟨_, _, _⟩, Told.refl _, ?_, ?_⟩) | (refine ⟨⟨_, _, _, _⟩, Told.refl _, ?_, ?_⟩) | (refine ⟨⟨_, _, _, _, _⟩, Told.refl _, ?_, ?_⟩) | (refine ⟨(), Told.refl _, ?_, ?_⟩)) | (with_reducible intro _) | (refine fun (_ : Bool) => ?_)))
  · rename_i q1 q2
    exact q1 q2
  · dsimp only
    omega
  · omega
  all_goals rfl
def SClS : Sp := ⟨List Spn, fun l => l.length ≤ 1000000000, fun l => [aS l], fun l => .row 83 4 l.length (els cSp l)⟩
theorem cloneS : SpOK Tryz.prog 111 SClS := fun (l : List Spn) h => by
  have hC := base
  have h : l.length ≤ 1000000000 := h
  ((refine Fn.ofF hC Tryz.func111 Tryz.ntmps111 rfl rfl rfl ?_); (repeat' first | (with_reducible exact trivial) | (with_reducible rfl) | (refine And.intro ?_ ?_) | (refine Need.mk ?_) | exact True.intro | (first | (refine ⟨_, Told.refl _, ?_, ?_⟩) | (refine ⟨⟨_, _⟩, Told.refl _, ?_, ?_⟩) | (refine ⟨⟨_, _, _⟩, Told.refl _, ?_, ?_⟩) | (refine ⟨⟨_, _, _, _⟩, Told.refl _, ?_, ?_⟩) | (refine ⟨⟨_, _, _, _, _⟩, Told.refl _, ?_, ?_⟩) | (refine ⟨(), Told.refl _, ?_, ?_⟩)) | (with_reducible intro _) | (refine fun (_ : Bool) => ?_)))
  · rename_i q1 q2
    exact q1 q2
  · dsimp only
    omega
  · omega
  all_goals rfl
def SClB : Sp := ⟨List Bf, fun l => l.length ≤ 1000000000, fun l => [aB l], fun l => .row 73 4 l.length (els cBf l)⟩
theorem cloneB : SpOK Tryz.prog 112 SClB := fun (l : List Bf) h => by
  have hC := base
  have h : l.length ≤ 1000000000 := h
  ((refine Fn.ofF hC Tryz.func112 Tryz.ntmps112 rfl rfl rfl ?_); (repeat' first | (with_reducible exact trivial) | (with_reducible rfl) | (refine And.intro ?_ ?_) | (refine Need.mk ?_) | exact True.intro | (first | (refine ⟨_, Told.refl _, ?_, ?_⟩) | (refine ⟨⟨_, _⟩, Told.refl _, ?_, ?_⟩) | (refine ⟨⟨_, _, _⟩, Told.refl _, ?_, ?_⟩) | (refine ⟨⟨_, _, _, _⟩, Told.refl _, ?_, ?_⟩) | (refine ⟨⟨_, _, _, _, _⟩, Told.refl _, ?_, ?_⟩) | (refine ⟨(), Told.refl _, ?_, ?_⟩)) | (with_reducible intro _) | (refine fun (_ : Bool) => ?_)))
  · rename_i q1 q2
    exact q1 q2
  · dsimp only
    omega
  · omega
  all_goals first
    | rfl
    | (exact els_of ci_emb (n := 0) (fun _ _ => rfl) _ ‹_›)
/-! ### What entries say, behind a list -/
theorem take_nextE {l : List Ent} {k : Nat} (hk : k < l.length) : l.take (k + 1) = l.take k ++ [l.getD k default] := by
  rw [List.take_succ_eq_append_getElem hk, getE hk]
def SListR : Sp := ⟨List Rct × Itm, fun (l, x) => l.length ≤ 1000000 ∧ x.ents.length ≤ 1000000, fun (l, x) => [aR l, .agg (cX x), .fn 70 []], fun (l, x) => .row 64 3 (l ++ x.ents.map rectE).length (els cR (l ++ x.ents.map rectE))⟩
set_option maxHeartbeats 8000000 in
theorem listedR : SpOK Tryz.prog 69 SListR := fun ⟨l, x⟩ ⟨h1, h2⟩ => by
  have hC : COK Tryz.prog (cfg [(79, SClR), (70, SRectOf)]) := Ty.ty.cfg ⟨cloneR, rectOf, trivial⟩
  have h1 : l.length ≤ 1000000 := h1
  have h2 : x.ents.length ≤ 1000000 := h2
  ((refine Fn.ofF hC Tryz.func69 Tryz.ntmps69 rfl rfl rfl ?_); (repeat' first | (with_reducible exact trivial) | (with_reducible rfl) | (refine And.intro ?_ ?_) | (refine Need.mk ?_) | exact True.intro | (first | (refine ⟨_, Told.refl _, ?_, ?_⟩) | (refine ⟨⟨_, _⟩, Told.refl _, ?_, ?_⟩) | (refine ⟨⟨_, _, _⟩, Told.refl _, ?_, ?_⟩) | (refine ⟨⟨_, _, _, _⟩, Told.refl _, ?_, ?_⟩) | (refine ⟨⟨_, _, _, _, _⟩, Told.refl _, ?_, ?_⟩) | (refine ⟨(), Told.refl _, ?_, ?_⟩)) | (with_reducible intro _) | (refine fun (_ : Bool) => ?_)))
  · show l.length ≤ 1000000000
    omega
  refine AW.loop (I := fun k : Nat => ⟨26, [(2, .fn 70 []), (7, .own 0), (13, aE x.ents), (14, .int .i64 x.ents.length), (15, .int .i64 k)], [.row 64 3 (l ++ (x.ents.take k).map rectE).length (els cR (l ++ (x.ents.take k).map rectE))]⟩) (fun k => k ≤ x.ents.length) (fun k => x.ents.length - k) 0 (Nat.zero_le _) ?_ ?_
  · (repeat' first | (with_reducible exact trivial) | (with_reducible rfl) | (refine And.intro ?_ ?_) | (refine Need.mk ?_) | exact True.intro | (first | (refine ⟨_, Told.refl _, ?_, ?_⟩) | (refine ⟨⟨_, _⟩, Told.refl _, ?_, ?_⟩) | (refine ⟨⟨_, _, _⟩, Told.refl _, ?_, ?_⟩) | (refine ⟨⟨_, _, _, _⟩, Told.refl _, ?_, ?_⟩) | (refine ⟨⟨_, _, _, _, _⟩, Told.refl _, ?_, ?_⟩) | (refine ⟨(), Told.refl _, ?_, ?_⟩)) | (with_reducible intro _) | (refine fun (_ : Bool) => ?_))
    all_goals first
      | rfl
      | (simp; done)
      | (rename_i z hz
         exact els_of cR_emb (n := 0) (fun _ _ => by simp [els]) z hz)
  · intro k hk
    have hml : (l ++ (x.ents.take k).map rectE).length = l.length + k := by rw [List.length_append, List.length_map, List.length_take]; omega
    rcases Nat.lt_or_ge k x.ents.length with hlt | hge
    · have hd : decide ((k : Int) < (x.ents.length : Int)) = true := decide_eq_true (by omega)
      have hw := iw (n := (k : Int) + 1) (by omega) (by omega)
      have hnx : l ++ (x.ents.take (k + 1)).map rectE = l ++ (x.ents.take k).map rectE ++ [rectE (x.ents.getD k default)] := by rw [take_nextE hlt, List.map_append, List.append_assoc]; rfl
      ((refine AW.byF ‹_› ?_); (repeat' first | (with_reducible exact trivial) | (with_reducible rfl) | (refine And.intro ?_ ?_) | (refine Need.mk ?_) | exact True.intro | (first | (refine ⟨_, Told.refl _, ?_, ?_⟩) | (refine ⟨⟨_, _⟩, Told.refl _, ?_, ?_⟩) | (refine ⟨⟨_, _, _⟩, Told.refl _, ?_, ?_⟩) | (refine ⟨⟨_, _, _, _⟩, Told.refl _, ?_, ?_⟩) | (refine ⟨⟨_, _, _, _, _⟩, Told.refl _, ?_, ?_⟩) | (refine ⟨(), Told.refl _, ?_, ?_⟩)) | (with_reducible intro _) | (refine fun (_ : Bool) => ?_)))
      all_goals first | (exact absurd ‹decide ((k : Int) < (x.ents.length : Int)) = false› (by rw [hd]; decide)) | skip
      any_goals (refine Exists.intro ((k + 1 : Nat)) (And.intro ?_ (And.intro ?_ ?_)); all_goals (repeat' first | (with_reducible exact trivial) | (with_reducible rfl) | (refine And.intro ?_ ?_) | (refine Need.mk ?_) | exact True.intro | (first | (refine ⟨_, Told.refl _, ?_, ?_⟩) | (refine ⟨⟨_, _⟩, Told.refl _, ?_, ?_⟩) | (refine ⟨⟨_, _, _⟩, Told.refl _, ?_, ?_⟩) | (refine ⟨⟨_, _, _, _⟩, Told.refl _, ?_, ?_⟩) | (refine ⟨⟨_, _, _, _, _⟩, Told.refl _, ?_, ?_⟩) | (refine ⟨(), Told.refl _, ?_, ?_⟩)) | (with_reducible intro _) | (refine fun (_ : Bool) => ?_)))
      all_goals try simp only [Int.toNat_natCast] at *
      all_goals first
        | omega
        | (rw [hw]; rfl)
        | (rw [hnx]; simp only [List.length_append, List.length_singleton]; done)
        | (rename_i z hz
           rw [hnx] at hz ⊢
           exact els_of cR_emb (n := 0) (cat_app rfl) z hz)
    · obtain rfl : k = x.ents.length := by omega
      have hd : decide ((x.ents.length : Int) < (x.ents.length : Int)) = false := decide_eq_false (by omega)
      ((refine AW.byF ‹_› ?_); (repeat' first | (with_reducible exact trivial) | (with_reducible rfl) | (refine And.intro ?_ ?_) | (refine Need.mk ?_) | exact True.intro | (first | (refine ⟨_, Told.refl _, ?_, ?_⟩) | (refine ⟨⟨_, _⟩, Told.refl _, ?_, ?_⟩) | (refine ⟨⟨_, _, _⟩, Told.refl _, ?_, ?_⟩) | (refine ⟨⟨_, _, _, _⟩, Told.refl _, ?_, ?_⟩) | (refine ⟨⟨_, _, _, _, _⟩, Told.refl _, ?_, ?_⟩) | (refine ⟨(), Told.refl _, ?_, ?_⟩)) | (with_reducible intro _) | (refine fun (_ : Bool) => ?_)))
      all_goals first | (exact absurd ‹decide ((x.ents.length : Int) < (x.ents.length : Int)) = true› (by rw [hd]; decide)) | skip
      all_goals rw [List.take_length]
      all_goals try rfl
def SListS : Sp := ⟨List Spn × Itm, fun (l, x) => l.length ≤ 1000000 ∧ x.ents.length ≤ 1000000, fun (l, x) => [aS l, .agg (cX x), .fn 72 []], fun (l, x) => .row 83 4 (l ++ x.ents.map spanE).length (els cSp (l ++ x.ents.map spanE))⟩
set_option maxHeartbeats 8000000 in
theorem listedS : SpOK Tryz.prog 71 SListS := fun ⟨l, x⟩ ⟨h1, h2⟩ => by
  have hC : COK Tryz.prog (cfg [(111, SClS), (72, SSpanOf)]) := Ty.ty.cfg ⟨cloneS, spanOf, trivial⟩
  have h1 : l.length ≤ 1000000 := h1
  have h2 : x.ents.length ≤ 1000000 := h2
  ((refine Fn.ofF hC Tryz.func71 Tryz.ntmps71 rfl rfl rfl ?_); (repeat' first | (with_reducible exact trivial) | (with_reducible rfl) | (refine And.intro ?_ ?_) | (refine Need.mk ?_) | exact True.intro | (first | (refine ⟨_, Told.refl _, ?_, ?_⟩) | (refine ⟨⟨_, _⟩, Told.refl _, ?_, ?_⟩) | (refine ⟨⟨_, _, _⟩, Told.refl _, ?_, ?_⟩) | (refine ⟨⟨_, _, _, _⟩, Told.refl _, ?_, ?_⟩) | (refine ⟨⟨_, _, _, _, _⟩, Told.refl _, ?_, ?_⟩) | (refine ⟨(), Told.refl _, ?_, ?_⟩)) | (with_reducible intro _) | (refine fun (_ : Bool) => ?_)))
  · show l.length ≤ 1000000000
    omega
  refine AW.loop (I := fun k : Nat => ⟨26, [(2, .fn 72 []), (7, .own 0), (13, aE x.ents), (14, .int .i64 x.ents.length), (15, .int .i64 k)], [.row 83 4 (l ++ (x.ents.take k).map spanE).length (els cSp (l ++ (x.ents.take k).map spanE))]⟩) (fun k => k ≤ x.ents.length) (fun k => x.ents.length - k) 0 (Nat.zero_le _) ?_ ?_
  · (repeat' first | (with_reducible exact trivial) | (with_reducible rfl) | (refine And.intro ?_ ?_) | (refine Need.mk ?_) | exact True.intro | (first | (refine ⟨_, Told.refl _, ?_, ?_⟩) | (refine ⟨⟨_, _⟩, Told.refl _, ?_, ?_⟩) | (refine ⟨⟨_, _, _⟩, Told.refl _, ?_, ?_⟩) | (refine ⟨⟨_, _, _, _⟩, Told.refl _, ?_, ?_⟩) | (refine ⟨⟨_, _, _, _, _⟩, Told.refl _, ?_, ?_⟩) | (refine ⟨(), Told.refl _, ?_, ?_⟩)) | (with_reducible intro _) | (refine fun (_ : Bool) => ?_))
    all_goals first
      | rfl
      | (simp; done)
      | (rename_i z hz
         exact els_of cSp_emb (n := 0) (fun _ _ => by simp [els]) z hz)
  · intro k hk
    have hml : (l ++ (x.ents.take k).map spanE).length = l.length + k := by rw [List.length_append, List.length_map, List.length_take]; omega
    rcases Nat.lt_or_ge k x.ents.length with hlt | hge
    · have hd : decide ((k : Int) < (x.ents.length : Int)) = true := decide_eq_true (by omega)
      have hw := iw (n := (k : Int) + 1) (by omega) (by omega)
      have hnx : l ++ (x.ents.take (k + 1)).map spanE = l ++ (x.ents.take k).map spanE ++ [spanE (x.ents.getD k default)] := by rw [take_nextE hlt, List.map_append, List.append_assoc]; rfl
      ((refine AW.byF ‹_› ?_); (repeat' first | (with_reducible exact trivial) | (with_reducible rfl) | (refine And.intro ?_ ?_) | (refine Need.mk ?_) | exact True.intro | (first | (refine ⟨_, Told.refl _, ?_, ?_⟩) | (refine ⟨⟨_, _⟩, Told.refl _, ?_, ?_⟩) | (refine ⟨⟨_, _, _⟩, Told.refl _, ?_, ?_⟩) | (refine ⟨⟨_, _, _, _⟩, Told.refl _, ?_, ?_⟩) | (refine ⟨⟨_, _, _, _, _⟩, Told.refl _, ?_, ?_⟩) | (refine ⟨(), Told.refl _, ?_, ?_⟩)) | (with_reducible intro _) | (refine fun (_ : Bool) => ?_)))
      all_goals first | (exact absurd ‹decide ((k : Int) < (x.ents.length : Int)) = false› (by rw [hd]; decide)) | skip
      any_goals (refine Exists.intro ((k + 1 : Nat)) (And.intro ?_ (And.intro ?_ ?_)); all_goals (repeat' first | (with_reducible exact trivial) | (with_reducible rfl) | (refine And.intro ?_ ?_) | (refine Need.mk ?_) | exact True.intro | (first | (refine ⟨_, Told.refl _, ?_, ?_⟩) | (refine ⟨⟨_, _⟩, Told.refl _, ?_, ?_⟩) | (refine ⟨⟨_, _, _⟩, Told.refl _, ?_, ?_⟩) | (refine ⟨⟨_, _, _, _⟩, Told.refl _, ?_, ?_⟩) | (refine ⟨⟨_, _, _, _, _⟩, Told.refl _, ?_, ?_⟩) | (refine ⟨(), Told.refl _, ?_, ?_⟩)) | (with_reducible intro _) | (refine fun (_ : Bool) => ?_)))
      all_goals try simp only [Int.toNat_natCast] at *
      all_goals first
        | omega
        | (rw [hw]; rfl)
        | (rw [hnx]; simp only [List.length_append, List.length_singleton]; done)
        | (rename_i z hz
           rw [hnx] at hz ⊢
           exact els_of cSp_emb (n := 0) (cat_app rfl) z hz)
    · obtain rfl : k = x.ents.length := by omega
      have hd : decide ((x.ents.length : Int) < (x.ents.length : Int)) = false := decide_eq_false (by omega)
      ((refine AW.byF ‹_› ?_); (repeat' first | (with_reducible exact trivial) | (with_reducible rfl) | (refine And.intro ?_ ?_) | (refine Need.mk ?_) | exact True.intro | (first | (refine ⟨_, Told.refl _, ?_, ?_⟩) | (refine ⟨⟨_, _⟩, Told.refl _, ?_, ?_⟩) | (refine ⟨⟨_, _, _⟩, Told.refl _, ?_, ?_⟩) | (refine ⟨⟨_, _, _, _⟩, Told.refl _, ?_, ?_⟩) | (refine ⟨⟨_, _, _, _, _⟩, Told.refl _, ?_, ?_⟩) | (refine ⟨(), Told.refl _, ?_, ?_⟩)) | (with_reducible intro _) | (refine fun (_ : Bool) => ?_)))
      all_goals first | (exact absurd ‹decide ((x.ents.length : Int) < (x.ents.length : Int)) = true› (by rw [hd]; decide)) | skip
      all_goals rw [List.take_length]
      all_goals try rfl
theorem bfsE_len (e : Ent) : (bfsE e).length = if e.l.length = 0 then 1 else e.l.length := by
  unfold bfsE
  by_cases h : e.l.length = 0
  · rw [if_pos h, if_pos h]; rfl
  · rw [if_neg h, if_neg h]; simp
theorem flat_take {l : List Ent} (k : Nat) : ((l.take k).flatMap bfsE).length ≤ (l.flatMap bfsE).length := by
  have : l.flatMap bfsE = (l.take k).flatMap bfsE ++ (l.drop k).flatMap bfsE := by rw [← List.flatMap_append, List.take_append_drop]
  rw [this, List.length_append]
  omega
theorem flat_at {l : List Ent} {k : Nat} (hk : k < l.length) : (bfsE (l.getD k default)).length ≤ (l.flatMap bfsE).length := by
  have h := flat_take (l := l) (k + 1)
  rw [take_nextE hk, List.flatMap_append, List.length_append] at h
  simp at h ⊢
  omega
def SListB : Sp := ⟨List Bf × Itm, fun (l, x) => l.length ≤ 1000000 ∧ x.ents.length ≤ 1000000 ∧ (x.ents.flatMap bfsE).length ≤ 1000000, fun (l, x) => [aB l, .agg (cX x), .fn 74 []], fun (l, x) => .row 73 4 (l ++ x.ents.flatMap bfsE).length (els cBf (l ++ x.ents.flatMap bfsE))⟩
set_option maxHeartbeats 8000000 in
theorem listedB : SpOK Tryz.prog 73 SListB := fun ⟨l, x⟩ ⟨h1, h2, h3⟩ => by
  have hC : COK Tryz.prog (cfg [(112, SClB), (74, SBfsOf)]) := Ty.ty.cfg ⟨cloneB, bfsOf, trivial⟩
  have h1 : l.length ≤ 1000000 := h1
  have h2 : x.ents.length ≤ 1000000 := h2
  have h3 : (x.ents.flatMap bfsE).length ≤ 1000000 := h3
  ((refine Fn.ofF hC Tryz.func73 Tryz.ntmps73 rfl rfl rfl ?_); (repeat' first | (with_reducible exact trivial) | (with_reducible rfl) | (refine And.intro ?_ ?_) | (refine Need.mk ?_) | exact True.intro | (first | (refine ⟨_, Told.refl _, ?_, ?_⟩) | (refine ⟨⟨_, _⟩, Told.refl _, ?_, ?_⟩) | (refine ⟨⟨_, _, _⟩, Told.refl _, ?_, ?_⟩) | (refine ⟨⟨_, _, _, _⟩, Told.refl _, ?_, ?_⟩) | (refine ⟨⟨_, _, _, _, _⟩, Told.refl _, ?_, ?_⟩) | (refine ⟨(), Told.refl _, ?_, ?_⟩)) | (with_reducible intro _) | (refine fun (_ : Bool) => ?_)))
  · show l.length ≤ 1000000000
    omega
  refine AW.loop (I := fun k : Nat => ⟨26, [(2, .fn 74 []), (7, .own 0), (13, aE x.ents), (14, .int .i64 x.ents.length), (15, .int .i64 k)], [.row 73 4 (l ++ (x.ents.take k).flatMap bfsE).length (els cBf (l ++ (x.ents.take k).flatMap bfsE))]⟩) (fun k => k ≤ x.ents.length) (fun k => x.ents.length - k) 0 (Nat.zero_le _) ?_ ?_
  · (repeat' first | (with_reducible exact trivial) | (with_reducible rfl) | (refine And.intro ?_ ?_) | (refine Need.mk ?_) | exact True.intro | (first | (refine ⟨_, Told.refl _, ?_, ?_⟩) | (refine ⟨⟨_, _⟩, Told.refl _, ?_, ?_⟩) | (refine ⟨⟨_, _, _⟩, Told.refl _, ?_, ?_⟩) | (refine ⟨⟨_, _, _, _⟩, Told.refl _, ?_, ?_⟩) | (refine ⟨⟨_, _, _, _, _⟩, Told.refl _, ?_, ?_⟩) | (refine ⟨(), Told.refl _, ?_, ?_⟩)) | (with_reducible intro _) | (refine fun (_ : Bool) => ?_))
    all_goals first
      | rfl
      | (simp; done)
      | (rename_i z hz
         exact els_of cBf_emb (n := 0) (fun _ _ => by simp [els]) z hz)
  · intro k hk
    have hml : (l ++ (x.ents.take k).flatMap bfsE).length ≤ 2000000 := by
      have := flat_take (l := x.ents) k
      rw [List.length_append]
      omega
    rcases Nat.lt_or_ge k x.ents.length with hlt | hge
    · have hd : decide ((k : Int) < (x.ents.length : Int)) = true := decide_eq_true (by omega)
      have hw := iw (n := (k : Int) + 1) (by omega) (by omega)
      have hnx : l ++ (x.ents.take (k + 1)).flatMap bfsE = l ++ (x.ents.take k).flatMap bfsE ++ bfsE (x.ents.getD k default) := by rw [take_nextE hlt, List.flatMap_append, List.append_assoc]; simp
      have hbl := flat_at hlt
      have hel : (x.ents.getD k default).l.length ≤ 1000000 := by
        have := bfsE_len (x.ents.getD k default)
        split at this <;> omega
      ((refine AW.byF ‹_› ?_); (repeat' first | (with_reducible exact trivial) | (with_reducible rfl) | (refine And.intro ?_ ?_) | (refine Need.mk ?_) | exact True.intro | (first | (refine ⟨_, Told.refl _, ?_, ?_⟩) | (refine ⟨⟨_, _⟩, Told.refl _, ?_, ?_⟩) | (refine ⟨⟨_, _, _⟩, Told.refl _, ?_, ?_⟩) | (refine ⟨⟨_, _, _, _⟩, Told.refl _, ?_, ?_⟩) | (refine ⟨⟨_, _, _, _, _⟩, Told.refl _, ?_, ?_⟩) | (refine ⟨(), Told.refl _, ?_, ?_⟩)) | (with_reducible intro _) | (refine fun (_ : Bool) => ?_)))
      all_goals first | (exact absurd ‹decide ((k : Int) < (x.ents.length : Int)) = false› (by rw [hd]; decide)) | skip
      any_goals (refine Exists.intro ((k + 1 : Nat)) (And.intro ?_ (And.intro ?_ ?_)); all_goals (repeat' first | (with_reducible exact trivial) | (with_reducible rfl) | (refine And.intro ?_ ?_) | (refine Need.mk ?_) | exact True.intro | (first | (refine ⟨_, Told.refl _, ?_, ?_⟩) | (refine ⟨⟨_, _⟩, Told.refl _, ?_, ?_⟩) | (refine ⟨⟨_, _, _⟩, Told.refl _, ?_, ?_⟩) | (refine ⟨⟨_, _, _, _⟩, Told.refl _, ?_, ?_⟩) | (refine ⟨⟨_, _, _, _, _⟩, Told.refl _, ?_, ?_⟩) | (refine ⟨(), Told.refl _, ?_, ?_⟩)) | (with_reducible intro _) | (refine fun (_ : Bool) => ?_)))
      all_goals try simp only [Int.toNat_natCast] at *
      all_goals first
        | omega
        | exact hel
        | (rw [hw]; rfl)
        | (rw [hnx]; simp only [List.length_append]; done)
        | (rename_i z hz
           rw [hnx] at hz ⊢
           exact els_of cBf_emb (n := 0) (cat_app rfl) z hz)
    · obtain rfl : k = x.ents.length := by omega
      have hd : decide ((x.ents.length : Int) < (x.ents.length : Int)) = false := decide_eq_false (by omega)
      ((refine AW.byF ‹_› ?_); (repeat' first | (with_reducible exact trivial) | (with_reducible rfl) | (refine And.intro ?_ ?_) | (refine Need.mk ?_) | exact True.intro | (first | (refine ⟨_, Told.refl _, ?_, ?_⟩) | (refine ⟨⟨_, _⟩, Told.refl _, ?_, ?_⟩) | (refine ⟨⟨_, _, _⟩, Told.refl _, ?_, ?_⟩) | (refine ⟨⟨_, _, _, _⟩, Told.refl _, ?_, ?_⟩) | (refine ⟨⟨_, _, _, _, _⟩, Told.refl _, ?_, ?_⟩) | (refine ⟨(), Told.refl _, ?_, ?_⟩)) | (with_reducible intro _) | (refine fun (_ : Bool) => ?_)))
      all_goals first | (exact absurd ‹decide ((x.ents.length : Int) < (x.ents.length : Int)) = true› (by rw [hd]; decide)) | skip
      all_goals rw [List.take_length]
      all_goals try rfl
end Go.Abs.Sm
set_option maxRecDepth 100000
namespace Go.Abs.Sm
open Go.RowKit Go.Proofs Go.Abs.Tab Go.Abs.Dest Go.Abs.Span Go.Abs.Coll Go.Abs.Hx Go.Abs.Mt Go.Abs.Rc
def SList : Sp := ⟨Tbl × Itm, fun (t, x) => few6 t ∧ x.ents.length ≤ 1000000 ∧ (x.ents.flatMap bfsE).length ≤ 1000000, fun (t, x) => [.agg (cT t), .agg (cX x)], fun (t, x) => .st (.agg (cT (listT t x)))⟩
set_option maxHeartbeats 16000000 in
theorem semList : SpOK Tryz.prog 34 SList := fun ⟨t, x⟩ ⟨⟨h1, h2, h3, h4⟩, h5, h6⟩ => by
  have hC : COK Tryz.prog (cfg [(68, SDef), (69, SListR), (71, SListS), (73, SListB)]) := Ty.ty.cfg ⟨define, listedR, listedS, listedB, trivial⟩
  have h5 : x.ents.length ≤ 1000000 := h5
  have h6 : (x.ents.flatMap bfsE).length ≤ 1000000 := h6
  show Fn _ _ _ (.st (.agg (cT (listT t x))))
  have hk : (x.kind = 0 ∨ x.kind = 2 ∨ x.kind = 3 ∨ x.kind = 4 ∨ x.kind = 5 ∨ x.kind = 6 ∨ x.kind = 7 ∨ x.kind = 8) ∨ (x.kind ≠ 0 ∧ x.kind ≠ 2 ∧ x.kind ≠ 3 ∧ x.kind ≠ 4 ∧ x.kind ≠ 5 ∧ x.kind ≠ 6 ∧ x.kind ≠ 7 ∧ x.kind ≠ 8) := by omega
  rcases hk with (hk | hk | hk | hk | hk | hk | hk | hk) | ⟨k0, k2, k3, k4, k5, k6, k7, k8⟩
  · rw [show listT t x = defT t x by unfold listT defT nameX modeX rectsX cidsX notsX bfsX; simp [hk]]
    ((refine Fn.ofF hC Tryz.func34 Tryz.ntmps34 rfl rfl rfl ?_); (repeat' first | (with_reducible exact trivial) | (with_reducible rfl) | (refine And.intro ?_ ?_) | (refine Need.mk ?_) | exact True.intro | (first | (refine ⟨_, Told.refl _, ?_, ?_⟩) | (refine ⟨⟨_, _⟩, Told.refl _, ?_, ?_⟩) | (refine ⟨⟨_, _, _⟩, Told.refl _, ?_, ?_⟩) | (refine ⟨⟨_, _, _, _⟩, Told.refl _, ?_, ?_⟩) | (refine ⟨⟨_, _, _, _, _⟩, Told.refl _, ?_, ?_⟩) | (refine ⟨(), Told.refl _, ?_, ?_⟩)) | (with_reducible intro _) | (refine fun (_ : Bool) => ?_)))
    all_goals first
      | rfl
      | omega
      | (exfalso; simp_all; done)
      | (unfold defT; rfl)
  · rw [show listT t x = ⟨t.name, t.wmode, t.spaces ++ x.ents.map rectE, t.cids, t.nots, t.bfs⟩ by unfold listT nameX modeX rectsX cidsX notsX bfsX; simp [hk]]
    ((refine Fn.ofF hC Tryz.func34 Tryz.ntmps34 rfl rfl rfl ?_); (repeat' first | (with_reducible exact trivial) | (with_reducible rfl) | (refine And.intro ?_ ?_) | (refine Need.mk ?_) | exact True.intro | (first | (refine ⟨_, Told.refl _, ?_, ?_⟩) | (refine ⟨⟨_, _⟩, Told.refl _, ?_, ?_⟩) | (refine ⟨⟨_, _, _⟩, Told.refl _, ?_, ?_⟩) | (refine ⟨⟨_, _, _, _⟩, Told.refl _, ?_, ?_⟩) | (refine ⟨⟨_, _, _, _, _⟩, Told.refl _, ?_, ?_⟩) | (refine ⟨(), Told.refl _, ?_, ?_⟩)) | (with_reducible intro _) | (refine fun (_ : Bool) => ?_)))
    all_goals first
      | rfl
      | omega
      | exact h1
      | (exfalso; simp_all; done)
  · rw [show listT t x = ⟨t.name, t.wmode, t.spaces, t.cids ++ x.ents.map spanE, t.nots, t.bfs⟩ by unfold listT nameX modeX rectsX cidsX notsX bfsX; simp [hk]]
    ((refine Fn.ofF hC Tryz.func34 Tryz.ntmps34 rfl rfl rfl ?_); (repeat' first | (with_reducible exact trivial) | (with_reducible rfl) | (refine And.intro ?_ ?_) | (refine Need.mk ?_) | exact True.intro | (first | (refine ⟨_, Told.refl _, ?_, ?_⟩) | (refine ⟨⟨_, _⟩, Told.refl _, ?_, ?_⟩) | (refine ⟨⟨_, _, _⟩, Told.refl _, ?_, ?_⟩) | (refine ⟨⟨_, _, _, _⟩, Told.refl _, ?_, ?_⟩) | (refine ⟨⟨_, _, _, _, _⟩, Told.refl _, ?_, ?_⟩) | (refine ⟨(), Told.refl _, ?_, ?_⟩)) | (with_reducible intro _) | (refine fun (_ : Bool) => ?_)))
    all_goals first
      | rfl
      | omega
      | exact h2
      | (exfalso; simp_all; done)
  · rw [show listT t x = ⟨t.name, t.wmode, t.spaces, t.cids ++ x.ents.map spanE, t.nots, t.bfs⟩ by unfold listT nameX modeX rectsX cidsX notsX bfsX; simp [hk]]
    ((refine Fn.ofF hC Tryz.func34 Tryz.ntmps34 rfl rfl rfl ?_); (repeat' first | (with_reducible exact trivial) | (with_reducible rfl) | (refine And.intro ?_ ?_) | (refine Need.mk ?_) | exact True.intro | (first | (refine ⟨_, Told.refl _, ?_, ?_⟩) | (refine ⟨⟨_, _⟩, Told.refl _, ?_, ?_⟩) | (refine ⟨⟨_, _, _⟩, Told.refl _, ?_, ?_⟩) | (refine ⟨⟨_, _, _, _⟩, Told.refl _, ?_, ?_⟩) | (refine ⟨⟨_, _, _, _, _⟩, Told.refl _, ?_, ?_⟩) | (refine ⟨(), Told.refl _, ?_, ?_⟩)) | (with_reducible intro _) | (refine fun (_ : Bool) => ?_)))
    all_goals first
      | rfl
      | omega
      | exact h2
      | (exfalso; simp_all; done)
  · rw [show listT t x = ⟨t.name, t.wmode, t.spaces, t.cids, t.nots ++ x.ents.map spanE, t.bfs⟩ by unfold listT nameX modeX rectsX cidsX notsX bfsX; simp [hk]]
    ((refine Fn.ofF hC Tryz.func34 Tryz.ntmps34 rfl rfl rfl ?_); (repeat' first | (with_reducible exact trivial) | (with_reducible rfl) | (refine And.intro ?_ ?_) | (refine Need.mk ?_) | exact True.intro | (first | (refine ⟨_, Told.refl _, ?_, ?_⟩) | (refine ⟨⟨_, _⟩, Told.refl _, ?_, ?_⟩) | (refine ⟨⟨_, _, _⟩, Told.refl _, ?_, ?_⟩) | (refine ⟨⟨_, _, _, _⟩, Told.refl _, ?_, ?_⟩) | (refine ⟨⟨_, _, _, _, _⟩, Told.refl _, ?_, ?_⟩) | (refine ⟨(), Told.refl _, ?_, ?_⟩)) | (with_reducible intro _) | (refine fun (_ : Bool) => ?_)))
    all_goals first
      | rfl
      | omega
      | exact h3
      | (exfalso; simp_all; done)
  · rw [show listT t x = ⟨t.name, t.wmode, t.spaces, t.cids, t.nots ++ x.ents.map spanE, t.bfs⟩ by unfold listT nameX modeX rectsX cidsX notsX bfsX; simp [hk]]
    ((refine Fn.ofF hC Tryz.func34 Tryz.ntmps34 rfl rfl rfl ?_); (repeat' first | (with_reducible exact trivial) | (with_reducible rfl) | (refine And.intro ?_ ?_) | (refine Need.mk ?_) | exact True.intro | (first | (refine ⟨_, Told.refl _, ?_, ?_⟩) | (refine ⟨⟨_, _⟩, Told.refl _, ?_, ?_⟩) | (refine ⟨⟨_, _, _⟩, Told.refl _, ?_, ?_⟩) | (refine ⟨⟨_, _, _, _⟩, Told.refl _, ?_, ?_⟩) | (refine ⟨⟨_, _, _, _, _⟩, Told.refl _, ?_, ?_⟩) | (refine ⟨(), Told.refl _, ?_, ?_⟩)) | (with_reducible intro _) | (refine fun (_ : Bool) => ?_)))
    all_goals first
      | rfl
      | omega
      | exact h3
      | (exfalso; simp_all; done)
  · rw [show listT t x = ⟨t.name, t.wmode, t.spaces, t.cids, t.nots, t.bfs ++ x.ents.flatMap bfsE⟩ by unfold listT nameX modeX rectsX cidsX notsX bfsX; simp [hk]]
    ((refine Fn.ofF hC Tryz.func34 Tryz.ntmps34 rfl rfl rfl ?_); (repeat' first | (with_reducible exact trivial) | (with_reducible rfl) | (refine And.intro ?_ ?_) | (refine Need.mk ?_) | exact True.intro | (first | (refine ⟨_, Told.refl _, ?_, ?_⟩) | (refine ⟨⟨_, _⟩, Told.refl _, ?_, ?_⟩) | (refine ⟨⟨_, _, _⟩, Told.refl _, ?_, ?_⟩) | (refine ⟨⟨_, _, _, _⟩, Told.refl _, ?_, ?_⟩) | (refine ⟨⟨_, _, _, _, _⟩, Told.refl _, ?_, ?_⟩) | (refine ⟨(), Told.refl _, ?_, ?_⟩)) | (with_reducible intro _) | (refine fun (_ : Bool) => ?_)))
    all_goals first
      | rfl
      | omega
      | exact h4
      | (exfalso; simp_all; done)
  · rw [show listT t x = ⟨t.name, t.wmode, t.spaces, t.cids, t.nots, t.bfs ++ x.ents.flatMap bfsE⟩ by unfold listT nameX modeX rectsX cidsX notsX bfsX; simp [hk]]
    ((refine Fn.ofF hC Tryz.func34 Tryz.ntmps34 rfl rfl rfl ?_); (repeat' first | (with_reducible exact trivial) | (with_reducible rfl) | (refine And.intro ?_ ?_) | (refine Need.mk ?_) | exact True.intro | (first | (refine ⟨_, Told.refl _, ?_, ?_⟩) | (refine ⟨⟨_, _⟩, Told.refl _, ?_, ?_⟩) | (refine ⟨⟨_, _, _⟩, Told.refl _, ?_, ?_⟩) | (refine ⟨⟨_, _, _, _⟩, Told.refl _, ?_, ?_⟩) | (refine ⟨⟨_, _, _, _, _⟩, Told.refl _, ?_, ?_⟩) | (refine ⟨(), Told.refl _, ?_, ?_⟩)) | (with_reducible intro _) | (refine fun (_ : Bool) => ?_)))
    all_goals first
      | rfl
      | omega
      | exact h4
      | (exfalso; simp_all; done)
  · rw [show listT t x = t by unfold listT nameX modeX rectsX cidsX notsX bfsX; simp [k0, k2, k3, k4, k5, k6, k7, k8]]
    ((refine Fn.ofF hC Tryz.func34 Tryz.ntmps34 rfl rfl rfl ?_); (repeat' first | (with_reducible exact trivial) | (with_reducible rfl) | (refine And.intro ?_ ?_) | (refine Need.mk ?_) | exact True.intro | (first | (refine ⟨_, Told.refl _, ?_, ?_⟩) | (refine ⟨⟨_, _⟩, Told.refl _, ?_, ?_⟩) | (refine ⟨⟨_, _, _⟩, Told.refl _, ?_, ?_⟩) | (refine ⟨⟨_, _, _, _⟩, Told.refl _, ?_, ?_⟩) | (refine ⟨⟨_, _, _, _, _⟩, Told.refl _, ?_, ?_⟩) | (refine ⟨(), Told.refl _, ?_, ?_⟩)) | (with_reducible intro _) | (refine fun (_ : Bool) => ?_)))
    all_goals first
      | rfl
      | omega
      | (exfalso; simp_all; done)
/-! ### Items -/
def cntX (x : Itm) : Nat := x.ents.length + (x.ents.flatMap bfsE).length
def cntL (l : List Itm) : Nat := (l.map cntX).sum
theorem cntL_app (a b : List Itm) : cntL (a ++ b) = cntL a + cntL b := by unfold cntL; rw [List.map_append, List.sum_append]
theorem cntL_take (l : List Itm) (k : Nat) : cntL (l.take k) ≤ cntL l := by
  have h := cntL_app (l.take k) (l.drop k)
  rw [List.take_append_drop] at h
  omega
theorem cntL_at {l : List Itm} {k : Nat} (hk : k < l.length) : cntX (l.getD k default) ≤ cntL l := by
  have h := cntL_app (l.take k) (l.drop k)
  rw [List.take_append_drop, List.drop_eq_getElem_cons hk, ← getX hk] at h
  have : cntL (l.getD k default :: l.drop (k + 1)) = cntX (l.getD k default) + cntL (l.drop (k + 1)) := by unfold cntL; rw [List.map_cons, List.sum_cons]
  omega
theorem flat_le {β : Type} (g : Itm → List β) (hg : ∀ x, (g x).length ≤ cntX x) : ∀ l : List Itm, (l.flatMap g).length ≤ cntL l
  | [] => Nat.le_refl _
  | x :: l => by
    have := flat_le g hg l
    have := hg x
    have e : cntL (x :: l) = cntX x + cntL l := by unfold cntL; rw [List.map_cons, List.sum_cons]
    rw [List.flatMap_cons, List.length_append, e]
    omega
theorem lists_len (l : List Itm) : (listsT l).spaces.length ≤ cntL l ∧ (listsT l).cids.length ≤ cntL l ∧ (listsT l).nots.length ≤ cntL l ∧ (listsT l).bfs.length ≤ cntL l := by
  rw [lists_eq]
  refine ⟨flat_le _ (fun x => ?_) l, flat_le _ (fun x => ?_) l, flat_le _ (fun x => ?_) l, flat_le _ (fun x => ?_) l⟩
  all_goals first | unfold rectsX | unfold cidsX | unfold notsX | unfold bfsX
  all_goals unfold cntX
  all_goals split
  all_goals simp
theorem all_len (l : List Itm) : (allT l).spaces.length ≤ 2 * cntL l ∧ (allT l).cids.length ≤ 2 * cntL l ∧ (allT l).nots.length ≤ 2 * cntL l ∧ (allT l).bfs.length ≤ 2 * cntL l := by
  obtain ⟨h1, h2, h3, h4⟩ := lists_len l
  rw [all_eq]
  refine ⟨?_, ?_, ?_, ?_⟩
  · have := canR_len (listsT l).spaces
    show (canR _).length ≤ _
    omega
  · have := ((ES true).build_ok (listsT l).cids).2.1
    show ((ES true).build _).length ≤ _
    omega
  · have := ((ES false).build_ok (listsT l).nots).2.1
    show ((ES false).build _).length ≤ _
    omega
  · have := (EB.build_ok (listsT l).bfs).2.1
    show (EB.build _).length ≤ _
    omega
theorem list_few (t : Tbl) (x : Itm) (n m : Nat) (h : t.spaces.length ≤ n ∧ t.cids.length ≤ n ∧ t.nots.length ≤ n ∧ t.bfs.length ≤ n) (hx : cntX x ≤ m) : (listT t x).spaces.length ≤ n + m ∧ (listT t x).cids.length ≤ n + m ∧ (listT t x).nots.length ≤ n + m ∧ (listT t x).bfs.length ≤ n + m := by
  obtain ⟨h1, h2, h3, h4⟩ := h
  unfold cntX at hx
  unfold listT rectsX cidsX notsX bfsX
  refine ⟨?_, ?_, ?_, ?_⟩
  all_goals dsimp only
  all_goals rw [List.length_append]
  all_goals split
  all_goals (try simp only [List.length_map, List.length_nil])
  all_goals omega
def few5 (t : Tbl) : Prop := t.spaces.length ≤ 500000 ∧ t.cids.length ≤ 500000 ∧ t.nots.length ≤ 500000 ∧ t.bfs.length ≤ 500000
def SDo : Sp := ⟨Tbl × Itm, fun (t, x) => few5 t ∧ cntX x ≤ 500000, fun (t, x) => [.agg (cT t), .agg (cX x)], fun (t, x) => .st (.agg (cT (doT t x)))⟩
set_option maxHeartbeats 8000000 in
theorem semDo : SpOK Tryz.prog 14 SDo := fun ⟨t, x⟩ ⟨h, hx⟩ => by
  have hC : COK Tryz.prog (cfg [(34, SList), (33, SBuilt)]) := Ty.ty.cfg ⟨semList, semBuilt, trivial⟩
  have hl := list_few t x 500000 500000 h hx
  have hx : cntX x ≤ 500000 := hx
  unfold cntX at hx
  obtain ⟨a1, a2, a3, a4⟩ : few5 t := h
  obtain ⟨b1, b2, b3, b4⟩ := hl
  show Fn _ _ _ (.st (.agg (cT (builtT (listT t x) x.kind))))
  ((refine Fn.ofF hC Tryz.func14 Tryz.ntmps14 rfl rfl rfl ?_); (repeat' first | (with_reducible exact trivial) | (with_reducible rfl) | (refine And.intro ?_ ?_) | (refine Need.mk ?_) | exact True.intro | (first | (refine ⟨_, Told.refl _, ?_, ?_⟩) | (refine ⟨⟨_, _⟩, Told.refl _, ?_, ?_⟩) | (refine ⟨⟨_, _, _⟩, Told.refl _, ?_, ?_⟩) | (refine ⟨⟨_, _, _, _⟩, Told.refl _, ?_, ?_⟩) | (refine ⟨⟨_, _, _, _, _⟩, Told.refl _, ?_, ?_⟩) | (refine ⟨(), Told.refl _, ?_, ?_⟩)) | (with_reducible intro _) | (refine fun (_ : Bool) => ?_)))
  all_goals first
    | rfl
    | omega
    | exact b1
    | exact b2
    | exact b3
    | exact b4
    | (show x.ents.length ≤ 1000000; omega)
    | (show (x.ents.flatMap bfsE).length ≤ 1000000; omega)
theorem take_nextX {l : List Itm} {k : Nat} (hk : k < l.length) : l.take (k + 1) = l.take k ++ [l.getD k default] := by
  rw [List.take_succ_eq_append_getElem hk, getX hk]
theorem all_next {l : List Itm} {k : Nat} (hk : k < l.length) : allT (l.take (k + 1)) = doT (allT (l.take k)) (l.getD k default) := by
  rw [take_nextX hk]
  unfold allT
  rw [List.foldl_append]
  rfl
theorem lists_next {l : List Itm} {k : Nat} (hk : k < l.length) : listsT (l.take (k + 1)) = listT (listsT (l.take k)) (l.getD k default) := by
  rw [take_nextX hk]
  unfold listsT
  rw [List.foldl_append]
  rfl
def fewL (l : List Itm) : Prop := l.length ≤ 1000000 ∧ cntL l ≤ 100000
def SAllX : Sp := ⟨List Itm, fewL, fun l => [aX l], fun l => .st (.agg (cT (allT l)))⟩
set_option maxHeartbeats 8000000 in
theorem semAll : SpOK Tryz.prog 17 SAllX := fun (l : List Itm) ⟨h1, h2⟩ => by
  have hC : COK Tryz.prog (cfg [(14, SDo)]) := Ty.ty.cfg ⟨semDo, trivial⟩
  ((refine Fn.ofF hC Tryz.func17 Tryz.ntmps17 rfl rfl rfl ?_); (repeat' first | (with_reducible exact trivial) | (with_reducible rfl) | (refine And.intro ?_ ?_) | (refine Need.mk ?_) | exact True.intro | (first | (refine ⟨_, Told.refl _, ?_, ?_⟩) | (refine ⟨⟨_, _⟩, Told.refl _, ?_, ?_⟩) | (refine ⟨⟨_, _, _⟩, Told.refl _, ?_, ?_⟩) | (refine ⟨⟨_, _, _, _⟩, Told.refl _, ?_, ?_⟩) | (refine ⟨⟨_, _, _, _, _⟩, Told.refl _, ?_, ?_⟩) | (refine ⟨(), Told.refl _, ?_, ?_⟩)) | (with_reducible intro _) | (refine fun (_ : Bool) => ?_)))
  refine AW.loop (I := fun k : Nat => ⟨17, [(2, .ptr 0 0), (3, .ptr 1 0), (6, aX l), (7, .int .i64 l.length), (8, .int .i64 k)], [.box 39 (cT T0), .box 39 (cT (allT (l.take k)))]⟩) (fun k => k ≤ l.length) (fun k => l.length - k) 0 (Nat.zero_le _) ?_ ?_
  · (repeat' first | (with_reducible exact trivial) | (with_reducible rfl) | (refine And.intro ?_ ?_) | (refine Need.mk ?_) | exact True.intro | (first | (refine ⟨_, Told.refl _, ?_, ?_⟩) | (refine ⟨⟨_, _⟩, Told.refl _, ?_, ?_⟩) | (refine ⟨⟨_, _, _⟩, Told.refl _, ?_, ?_⟩) | (refine ⟨⟨_, _, _, _⟩, Told.refl _, ?_, ?_⟩) | (refine ⟨⟨_, _, _, _, _⟩, Told.refl _, ?_, ?_⟩) | (refine ⟨(), Told.refl _, ?_, ?_⟩)) | (with_reducible intro _) | (refine fun (_ : Bool) => ?_))
    all_goals first
      | rfl
      | (rename_i z hz; exact absurd hz (Nat.not_lt_zero z))
  · intro k hk
    rcases Nat.lt_or_ge k l.length with hlt | hge
    · have hd : decide ((k : Int) < (l.length : Int)) = true := decide_eq_true (by omega)
      have hw := iw (n := (k : Int) + 1) (by omega) (by omega)
      have hnx := all_next hlt
      have hal := all_len (l.take k)
      have hct := cntL_take l k
      have hca := cntL_at hlt
      obtain ⟨a1, a2, a3, a4⟩ := hal
      ((refine AW.byF ‹_› ?_); (repeat' first | (with_reducible exact trivial) | (with_reducible rfl) | (refine And.intro ?_ ?_) | (refine Need.mk ?_) | exact True.intro | (first | (refine ⟨_, Told.refl _, ?_, ?_⟩) | (refine ⟨⟨_, _⟩, Told.refl _, ?_, ?_⟩) | (refine ⟨⟨_, _, _⟩, Told.refl _, ?_, ?_⟩) | (refine ⟨⟨_, _, _, _⟩, Told.refl _, ?_, ?_⟩) | (refine ⟨⟨_, _, _, _, _⟩, Told.refl _, ?_, ?_⟩) | (refine ⟨(), Told.refl _, ?_, ?_⟩)) | (with_reducible intro _) | (refine fun (_ : Bool) => ?_)))
      all_goals first | (exact absurd ‹decide ((k : Int) < (l.length : Int)) = false› (by rw [hd]; decide)) | skip
      any_goals (refine Exists.intro ((k + 1 : Nat)) (And.intro ?_ (And.intro ?_ ?_)); all_goals (repeat' first | (with_reducible exact trivial) | (with_reducible rfl) | (refine And.intro ?_ ?_) | (refine Need.mk ?_) | exact True.intro | (first | (refine ⟨_, Told.refl _, ?_, ?_⟩) | (refine ⟨⟨_, _⟩, Told.refl _, ?_, ?_⟩) | (refine ⟨⟨_, _, _⟩, Told.refl _, ?_, ?_⟩) | (refine ⟨⟨_, _, _, _⟩, Told.refl _, ?_, ?_⟩) | (refine ⟨⟨_, _, _, _, _⟩, Told.refl _, ?_, ?_⟩) | (refine ⟨(), Told.refl _, ?_, ?_⟩)) | (with_reducible intro _) | (refine fun (_ : Bool) => ?_)))
      all_goals try simp only [Int.toNat_natCast] at *
      all_goals first
        | omega
        | (show cntX (l.getD k default) ≤ 500000; omega)
        | (rw [hw]; rfl)
        | (rw [hnx]; done)
        | (rw [hnx]; exact els_of cR_emb (n := 0) (fun _ _ => rfl) _ (by rw [← hnx]; assumption))
        | skip
    · obtain rfl : k = l.length := by omega
      have hd : decide ((l.length : Int) < (l.length : Int)) = false := decide_eq_false (by omega)
      ((refine AW.byF ‹_› ?_); (repeat' first | (with_reducible exact trivial) | (with_reducible rfl) | (refine And.intro ?_ ?_) | (refine Need.mk ?_) | exact True.intro | (first | (refine ⟨_, Told.refl _, ?_, ?_⟩) | (refine ⟨⟨_, _⟩, Told.refl _, ?_, ?_⟩) | (refine ⟨⟨_, _, _⟩, Told.refl _, ?_, ?_⟩) | (refine ⟨⟨_, _, _, _⟩, Told.refl _, ?_, ?_⟩) | (refine ⟨⟨_, _, _, _, _⟩, Told.refl _, ?_, ?_⟩) | (refine ⟨(), Told.refl _, ?_, ?_⟩)) | (with_reducible intro _) | (refine fun (_ : Bool) => ?_)))
      all_goals first | (exact absurd ‹decide ((l.length : Int) < (l.length : Int)) = true› (by rw [hd]; decide)) | skip
      all_goals rw [List.take_length]
      all_goals try rfl
end Go.Abs.Sm
set_option maxRecDepth 100000
namespace Go.Abs.Sm
open Go.RowKit Go.Proofs Go.Abs.Tab Go.Abs.Dest Go.Abs.Span Go.Abs.Coll Go.Abs.Hx Go.Abs.Mt Go.Abs.Rc
/-! ### Lists -/
def SListsX : Sp := ⟨List Itm, fewL, fun l => [aX l], fun l => .st (.agg (cT (listsT l)))⟩
set_option maxHeartbeats 8000000 in
theorem semLists : SpOK Tryz.prog 22 SListsX := fun (l : List Itm) ⟨h1, h2⟩ => by
  have hC : COK Tryz.prog (cfg [(34, SList)]) := Ty.ty.cfg ⟨semList, trivial⟩
  ((refine Fn.ofF hC Tryz.func22 Tryz.ntmps22 rfl rfl rfl ?_); (repeat' first | (with_reducible exact trivial) | (with_reducible rfl) | (refine And.intro ?_ ?_) | (refine Need.mk ?_) | exact True.intro | (first | (refine ⟨_, Told.refl _, ?_, ?_⟩) | (refine ⟨⟨_, _⟩, Told.refl _, ?_, ?_⟩) | (refine ⟨⟨_, _, _⟩, Told.refl _, ?_, ?_⟩) | (refine ⟨⟨_, _, _, _⟩, Told.refl _, ?_, ?_⟩) | (refine ⟨⟨_, _, _, _, _⟩, Told.refl _, ?_, ?_⟩) | (refine ⟨(), Told.refl _, ?_, ?_⟩)) | (with_reducible intro _) | (refine fun (_ : Bool) => ?_)))
  refine AW.loop (I := fun k : Nat => ⟨17, [(2, .ptr 0 0), (3, .ptr 1 0), (6, aX l), (7, .int .i64 l.length), (8, .int .i64 k)], [.box 39 (cT T0), .box 39 (cT (listsT (l.take k)))]⟩) (fun k => k ≤ l.length) (fun k => l.length - k) 0 (Nat.zero_le _) ?_ ?_
  · (repeat' first | (with_reducible exact trivial) | (with_reducible rfl) | (refine And.intro ?_ ?_) | (refine Need.mk ?_) | exact True.intro | (first | (refine ⟨_, Told.refl _, ?_, ?_⟩) | (refine ⟨⟨_, _⟩, Told.refl _, ?_, ?_⟩) | (refine ⟨⟨_, _, _⟩, Told.refl _, ?_, ?_⟩) | (refine ⟨⟨_, _, _, _⟩, Told.refl _, ?_, ?_⟩) | (refine ⟨⟨_, _, _, _, _⟩, Told.refl _, ?_, ?_⟩) | (refine ⟨(), Told.refl _, ?_, ?_⟩)) | (with_reducible intro _) | (refine fun (_ : Bool) => ?_))
    all_goals first
      | rfl
      | (rename_i z hz; exact absurd hz (Nat.not_lt_zero z))
  · intro k hk
    rcases Nat.lt_or_ge k l.length with hlt | hge
    · have hd : decide ((k : Int) < (l.length : Int)) = true := decide_eq_true (by omega)
      have hw := iw (n := (k : Int) + 1) (by omega) (by omega)
      have hnx := lists_next hlt
      have hal := lists_len (l.take k)
      have hct := cntL_take l k
      have hca := cntL_at hlt
      obtain ⟨a1, a2, a3, a4⟩ := hal
      have hc1 : (l.getD k default).ents.length ≤ 1000000 := by unfold cntX at hca; omega
      have hc2 : ((l.getD k default).ents.flatMap bfsE).length ≤ 1000000 := by unfold cntX at hca; omega
      ((refine AW.byF ‹_› ?_); (repeat' first | (with_reducible exact trivial) | (with_reducible rfl) | (refine And.intro ?_ ?_) | (refine Need.mk ?_) | exact True.intro | (first | (refine ⟨_, Told.refl _, ?_, ?_⟩) | (refine ⟨⟨_, _⟩, Told.refl _, ?_, ?_⟩) | (refine ⟨⟨_, _, _⟩, Told.refl _, ?_, ?_⟩) | (refine ⟨⟨_, _, _, _⟩, Told.refl _, ?_, ?_⟩) | (refine ⟨⟨_, _, _, _, _⟩, Told.refl _, ?_, ?_⟩) | (refine ⟨(), Told.refl _, ?_, ?_⟩)) | (with_reducible intro _) | (refine fun (_ : Bool) => ?_)))
      all_goals first | (exact absurd ‹decide ((k : Int) < (l.length : Int)) = false› (by rw [hd]; decide)) | skip
      any_goals (refine Exists.intro ((k + 1 : Nat)) (And.intro ?_ (And.intro ?_ ?_)); all_goals (repeat' first | (with_reducible exact trivial) | (with_reducible rfl) | (refine And.intro ?_ ?_) | (refine Need.mk ?_) | exact True.intro | (first | (refine ⟨_, Told.refl _, ?_, ?_⟩) | (refine ⟨⟨_, _⟩, Told.refl _, ?_, ?_⟩) | (refine ⟨⟨_, _, _⟩, Told.refl _, ?_, ?_⟩) | (refine ⟨⟨_, _, _, _⟩, Told.refl _, ?_, ?_⟩) | (refine ⟨⟨_, _, _, _, _⟩, Told.refl _, ?_, ?_⟩) | (refine ⟨(), Told.refl _, ?_, ?_⟩)) | (with_reducible intro _) | (refine fun (_ : Bool) => ?_)))
      all_goals try simp only [Int.toNat_natCast] at *
      all_goals first
        | omega
        | exact hc1
        | exact hc2
        | (rw [hw]; rfl)
        | (rw [hnx]; done)
        | (rw [hnx]; exact els_of cR_emb (n := 0) (fun _ _ => rfl) _ (by rw [← hnx]; assumption))
        | skip
    · obtain rfl : k = l.length := by omega
      have hd : decide ((l.length : Int) < (l.length : Int)) = false := decide_eq_false (by omega)
      ((refine AW.byF ‹_› ?_); (repeat' first | (with_reducible exact trivial) | (with_reducible rfl) | (refine And.intro ?_ ?_) | (refine Need.mk ?_) | exact True.intro | (first | (refine ⟨_, Told.refl _, ?_, ?_⟩) | (refine ⟨⟨_, _⟩, Told.refl _, ?_, ?_⟩) | (refine ⟨⟨_, _, _⟩, Told.refl _, ?_, ?_⟩) | (refine ⟨⟨_, _, _, _⟩, Told.refl _, ?_, ?_⟩) | (refine ⟨⟨_, _, _, _, _⟩, Told.refl _, ?_, ?_⟩) | (refine ⟨(), Told.refl _, ?_, ?_⟩)) | (with_reducible intro _) | (refine fun (_ : Bool) => ?_)))
      all_goals first | (exact absurd ‹decide ((l.length : Int) < (l.length : Int)) = true› (by rw [hd]; decide)) | skip
      all_goals rw [List.take_length]
      all_goals try rfl
end Go.Abs.Sm
set_option maxRecDepth 100000
namespace Go.Abs.Sm
open Go.RowKit Go.Proofs Go.Abs.Tab Go.Abs.Dest Go.Abs.Span Go.Abs.Coll Go.Abs.Hx Go.Abs.Mt Go.Abs.Rc
def fits (l : List Itm) : Prop := l.length ≤ 2199023255552 ∧ ∀ x ∈ l, x.ents.length ≤ 2199023255552 ∧ ∀ e ∈ x.ents, e.l.length ≤ 8796093022208
def SOurs : Sp := ⟨List Itm, fun l => l.length ≤ 1000000 ∧ ∀ x ∈ l, x.ents.length ≤ 1000000, fun l => [aX l], fun l => .row 35 8 l.length (els cX l)⟩
set_option maxHeartbeats 16000000 in
theorem ours09 : SpOK Tryz.prog 12 SOurs := fun (l : List Itm) ⟨h1, h2⟩ => by
  have hC := base
  have h1 : l.length ≤ 1000000 := h1
  have h2 : ∀ x ∈ l, x.ents.length ≤ 1000000 := h2
  ((refine Fn.ofF hC Tryz.func12 Tryz.ntmps12 rfl rfl rfl ?_); (repeat' first | (with_reducible exact trivial) | (with_reducible rfl) | (refine And.intro ?_ ?_) | (refine Need.mk ?_) | exact True.intro | (first | (refine ⟨_, Told.refl _, ?_, ?_⟩) | (refine ⟨⟨_, _⟩, Told.refl _, ?_, ?_⟩) | (refine ⟨⟨_, _, _⟩, Told.refl _, ?_, ?_⟩) | (refine ⟨⟨_, _, _, _⟩, Told.refl _, ?_, ?_⟩) | (refine ⟨⟨_, _, _, _, _⟩, Told.refl _, ?_, ?_⟩) | (refine ⟨(), Told.refl _, ?_, ?_⟩)) | (with_reducible intro _) | (refine fun (_ : Bool) => ?_)))
  refine AW.loop (I := fun i : Nat => ⟨74, [(0, aX l), (3, .own 0), (4, .int .i64 i)], [.row 35 8 (l.take i).length (els cX (l.take i))]⟩) (fun i => i ≤ l.length) (fun i => l.length - i) 0 (Nat.zero_le _) ?_ ?_
  · (repeat' first | (with_reducible exact trivial) | (with_reducible rfl) | (refine And.intro ?_ ?_) | (refine Need.mk ?_) | exact True.intro | (first | (refine ⟨_, Told.refl _, ?_, ?_⟩) | (refine ⟨⟨_, _⟩, Told.refl _, ?_, ?_⟩) | (refine ⟨⟨_, _, _⟩, Told.refl _, ?_, ?_⟩) | (refine ⟨⟨_, _, _, _⟩, Told.refl _, ?_, ?_⟩) | (refine ⟨⟨_, _, _, _, _⟩, Told.refl _, ?_, ?_⟩) | (refine ⟨(), Told.refl _, ?_, ?_⟩)) | (with_reducible intro _) | (refine fun (_ : Bool) => ?_))
    all_goals rfl
  · intro i hi
    have hil : (l.take i).length = i := by rw [List.length_take]; omega
    rcases Nat.lt_or_ge i l.length with hlt | hge
    · have hd : decide ((i : Int) < (l.length : Int)) = true := decide_eq_true (by omega)
      have hw := iw (n := (i : Int) + 1) (by omega) (by omega)
      have hnx := take_nextX hlt
      have hxe := h2 (l.getD i default) (by rw [getX hlt]; exact List.getElem_mem hlt)
      ((refine AW.byF ‹_› ?_); (repeat' first | (with_reducible exact trivial) | (with_reducible rfl) | (refine And.intro ?_ ?_) | (refine Need.mk ?_) | exact True.intro | (first | (refine ⟨_, Told.refl _, ?_, ?_⟩) | (refine ⟨⟨_, _⟩, Told.refl _, ?_, ?_⟩) | (refine ⟨⟨_, _, _⟩, Told.refl _, ?_, ?_⟩) | (refine ⟨⟨_, _, _, _⟩, Told.refl _, ?_, ?_⟩) | (refine ⟨⟨_, _, _, _, _⟩, Told.refl _, ?_, ?_⟩) | (refine ⟨(), Told.refl _, ?_, ?_⟩)) | (with_reducible intro _) | (refine fun (_ : Bool) => ?_)))
      all_goals first | (exact absurd ‹decide ((i : Int) < (l.length : Int)) = false› (by rw [hd]; decide)) | skip
      all_goals try simp only [Int.toNat_natCast] at *
      all_goals first
        | omega
        | skip
      refine AW.loop (I := fun k : Nat => ⟨74, [(0, aX l), (3, .own 0), (4, .int .i64 i), (5, .ptr 1 0), (6, .int .i64 k)], [.row 35 8 (l.take i).length (els cX (l.take i)), .box 35 [.int .i64 (l.getD i default).kind, .int .i64 (l.getD i default).at_, .str (l.getD i default).name, .int .i64 (l.getD i default).tk, .int .i64 (l.getD i default).ta, .int .i64 (l.getD i default).tn, .str (l.getD i default).ts, .own 2], .row 69 7 ((l.getD i default).ents.take k).length (els cE ((l.getD i default).ents.take k))]⟩) (fun k => k ≤ (l.getD i default).ents.length) (fun k => (l.getD i default).ents.length - k) 0 (Nat.zero_le _) ?_ ?_
      · (repeat' first | (with_reducible exact trivial) | (with_reducible rfl) | (refine And.intro ?_ ?_) | (refine Need.mk ?_) | exact True.intro | (first | (refine ⟨_, Told.refl _, ?_, ?_⟩) | (refine ⟨⟨_, _⟩, Told.refl _, ?_, ?_⟩) | (refine ⟨⟨_, _, _⟩, Told.refl _, ?_, ?_⟩) | (refine ⟨⟨_, _, _, _⟩, Told.refl _, ?_, ?_⟩) | (refine ⟨⟨_, _, _, _, _⟩, Told.refl _, ?_, ?_⟩) | (refine ⟨(), Told.refl _, ?_, ?_⟩)) | (with_reducible intro _) | (refine fun (_ : Bool) => ?_))
        all_goals first
          | rfl
          | (rename_i z hz; exact els_of cX_emb (n := 0) (fun _ _ => rfl) z hz)
      · intro k hk
        have hkl : ((l.getD i default).ents.take k).length = k := by rw [List.length_take]; omega
        rcases Nat.lt_or_ge k (l.getD i default).ents.length with hlk | hgk
        · have hd2 : decide ((k : Int) < ((l.getD i default).ents.length : Int)) = true := decide_eq_true (by omega)
          have hw2 := iw (n := (k : Int) + 1) (by omega) (by omega)
          have hnk := take_nextE hlk
          ((refine AW.byF ‹_› ?_); (repeat' first | (with_reducible exact trivial) | (with_reducible rfl) | (refine And.intro ?_ ?_) | (refine Need.mk ?_) | exact True.intro | (first | (refine ⟨_, Told.refl _, ?_, ?_⟩) | (refine ⟨⟨_, _⟩, Told.refl _, ?_, ?_⟩) | (refine ⟨⟨_, _, _⟩, Told.refl _, ?_, ?_⟩) | (refine ⟨⟨_, _, _, _⟩, Told.refl _, ?_, ?_⟩) | (refine ⟨⟨_, _, _, _, _⟩, Told.refl _, ?_, ?_⟩) | (refine ⟨(), Told.refl _, ?_, ?_⟩)) | (with_reducible intro _) | (refine fun (_ : Bool) => ?_)))
          all_goals first | (exact absurd ‹decide ((k : Int) < ((l.getD i default).ents.length : Int)) = false› (by rw [hd2]; decide)) | skip
          any_goals (first | (refine Exists.intro ((k + 1 : Nat)) (And.intro ?_ (And.intro ?_ ?_)); all_goals (repeat' first | (with_reducible exact trivial) | (with_reducible rfl) | (refine And.intro ?_ ?_) | (refine Need.mk ?_) | exact True.intro | (first | (refine ⟨_, Told.refl _, ?_, ?_⟩) | (refine ⟨⟨_, _⟩, Told.refl _, ?_, ?_⟩) | (refine ⟨⟨_, _, _⟩, Told.refl _, ?_, ?_⟩) | (refine ⟨⟨_, _, _, _⟩, Told.refl _, ?_, ?_⟩) | (refine ⟨⟨_, _, _, _, _⟩, Told.refl _, ?_, ?_⟩) | (refine ⟨(), Told.refl _, ?_, ?_⟩)) | (with_reducible intro _) | (refine fun (_ : Bool) => ?_))) | fail)
          all_goals try simp only [Int.toNat_natCast] at *
          all_goals first
            | omega
            | (rw [hw2]; rfl)
            | (rw [hnk]; simp only [List.length_append, List.length_singleton]; done)
            | (rename_i z hz; exact els_of cX_emb (n := 0) (fun _ _ => rfl) z hz)
            | (rename_i z hz
               rw [hnk] at hz ⊢
               exact els_of cE_emb (n := 0) (cat_snoc rfl) z hz)
        · obtain rfl : k = (l.getD i default).ents.length := by omega
          have hd2 : decide (((l.getD i default).ents.length : Int) < ((l.getD i default).ents.length : Int)) = false := decide_eq_false (by omega)
          ((refine AW.byF ‹_› ?_); (repeat' first | (with_reducible exact trivial) | (with_reducible rfl) | (refine And.intro ?_ ?_) | (refine Need.mk ?_) | exact True.intro | (first | (refine ⟨_, Told.refl _, ?_, ?_⟩) | (refine ⟨⟨_, _⟩, Told.refl _, ?_, ?_⟩) | (refine ⟨⟨_, _, _⟩, Told.refl _, ?_, ?_⟩) | (refine ⟨⟨_, _, _, _⟩, Told.refl _, ?_, ?_⟩) | (refine ⟨⟨_, _, _, _, _⟩, Told.refl _, ?_, ?_⟩) | (refine ⟨(), Told.refl _, ?_, ?_⟩)) | (with_reducible intro _) | (refine fun (_ : Bool) => ?_)))
          all_goals first | (exact absurd ‹decide (((l.getD i default).ents.length : Int) < ((l.getD i default).ents.length : Int)) = true› (by rw [hd2]; decide)) | skip
          any_goals (first | (refine Exists.intro ((i + 1 : Nat)) (And.intro ?_ (And.intro ?_ ?_)); all_goals (repeat' first | (with_reducible exact trivial) | (with_reducible rfl) | (refine And.intro ?_ ?_) | (refine Need.mk ?_) | exact True.intro | (first | (refine ⟨_, Told.refl _, ?_, ?_⟩) | (refine ⟨⟨_, _⟩, Told.refl _, ?_, ?_⟩) | (refine ⟨⟨_, _, _⟩, Told.refl _, ?_, ?_⟩) | (refine ⟨⟨_, _, _, _⟩, Told.refl _, ?_, ?_⟩) | (refine ⟨⟨_, _, _, _, _⟩, Told.refl _, ?_, ?_⟩) | (refine ⟨(), Told.refl _, ?_, ?_⟩)) | (with_reducible intro _) | (refine fun (_ : Bool) => ?_))) | fail)
          all_goals try simp only [Int.toNat_natCast, List.take_length] at *
          all_goals first
            | omega
            | (rw [hw]; rfl)
            | (rw [hnx]; simp only [List.length_append, List.length_singleton]; done)
            | (rename_i z hz
               rw [hnx] at hz ⊢
               exact els_of cX_emb (n := 0) (cat_snoc rfl) z hz)
            | skip
    · obtain rfl : i = l.length := by omega
      have hd : decide ((l.length : Int) < (l.length : Int)) = false := decide_eq_false (by omega)
      ((refine AW.byF ‹_› ?_); (repeat' first | (with_reducible exact trivial) | (with_reducible rfl) | (refine And.intro ?_ ?_) | (refine Need.mk ?_) | exact True.intro | (first | (refine ⟨_, Told.refl _, ?_, ?_⟩) | (refine ⟨⟨_, _⟩, Told.refl _, ?_, ?_⟩) | (refine ⟨⟨_, _, _⟩, Told.refl _, ?_, ?_⟩) | (refine ⟨⟨_, _, _, _⟩, Told.refl _, ?_, ?_⟩) | (refine ⟨⟨_, _, _, _, _⟩, Told.refl _, ?_, ?_⟩) | (refine ⟨(), Told.refl _, ?_, ?_⟩)) | (with_reducible intro _) | (refine fun (_ : Bool) => ?_)))
      all_goals first | (exact absurd ‹decide ((l.length : Int) < (l.length : Int)) = true› (by rw [hd]; decide)) | skip
      all_goals rw [List.take_length]
      all_goals try rfl
/-! ### Are they few? -/
def sumK (x : Itm) (k : Nat) : Nat := ((x.ents.take k).map fun e => e.l.length).sum
def wX (x : Itm) : Nat := x.ents.length + sumK x (min x.ents.length 120)
def sumL (l : List Itm) (i : Nat) : Nat := ((l.take i).map wX).sum
def okE (e : Ent) : Bool := !(decide ((e.u.length : Int) > 70)) && few [⟨0, 0, 0, e.u⟩]
def okX (x : Itm) : Bool := (x.ents.take (min x.ents.length 120)).all okE
def shortL (l : List Itm) : Bool := (l.take (min l.length 60)).all okX && (decide ((l.length : Int) ≤ 60) && decide ((sumL l (min l.length 60) : Int) ≤ 120))
theorem sumK_next {x : Itm} {k : Nat} (hk : k < x.ents.length) : sumK x (k + 1) = sumK x k + (x.ents.getD k default).l.length := by
  unfold sumK
  rw [take_nextE hk, List.map_append, List.sum_append]
  simp
theorem sumL_next {l : List Itm} {i : Nat} (hi : i < l.length) : sumL l (i + 1) = sumL l i + wX (l.getD i default) := by
  unfold sumL
  rw [take_nextX hi, List.map_append, List.sum_append]
  simp
theorem sumK_le {x : Itm} (h : ∀ e ∈ x.ents, e.l.length ≤ 8796093022208) : ∀ k, k ≤ x.ents.length → sumK x k ≤ k * 8796093022208
  | 0, _ => by simp [sumK]
  | k + 1, hk => by
    have := sumK_le h k (by omega)
    have := h (x.ents.getD k default) (by rw [getE (by omega)]; exact List.getElem_mem _)
    rw [sumK_next (by omega)]
    omega
theorem wX_le {x : Itm} (h0 : x.ents.length ≤ 2199023255552) (h : ∀ e ∈ x.ents, e.l.length ≤ 8796093022208) : wX x ≤ 2199023255552 + 120 * 8796093022208 := by
  have := sumK_le h (min x.ents.length 120) (by omega)
  unfold wX
  omega
theorem sumL_le {l : List Itm} (h : fits l) : ∀ i, i ≤ l.length → sumL l i ≤ i * (2199023255552 + 120 * 8796093022208)
  | 0, _ => by simp [sumL]
  | i + 1, hi => by
    have := sumL_le h i (by omega)
    obtain ⟨a, b⟩ := h.2 (l.getD i default) (by rw [getX (by omega)]; exact List.getElem_mem _)
    have := wX_le a b
    rw [sumL_next (by omega)]
    omega
theorem all_next' {α : Type} {l : List α} {p : α → Bool} {x : α} (h : l.all p = true) (hx : p x = true) : (l ++ [x]).all p = true := by
  rw [List.all_append, h]
  simp [hx]
theorem okX_no {x : Itm} {k : Nat} (hk : k < min x.ents.length 120) (h : okE (x.ents.getD k default) = false) : okX x = false := by
  unfold okX
  rw [List.all_eq_false]
  refine ⟨x.ents.getD k default, ?_, by rw [h]; decide⟩
  rw [getE (by omega), List.mem_iff_getElem]
  exact ⟨k, by rw [List.length_take]; omega, by rw [List.getElem_take]⟩
theorem shortL_no {l : List Itm} {i : Nat} (hi : i < min l.length 60) (h : okX (l.getD i default) = false) : shortL l = false := by
  unfold shortL
  have : (l.take (min l.length 60)).all okX = false := by
    rw [List.all_eq_false]
    refine ⟨l.getD i default, ?_, by rw [h]; decide⟩
    rw [getX (by omega), List.mem_iff_getElem]
    exact ⟨i, by rw [List.length_take]; omega, by rw [List.getElem_take]⟩
  rw [this, Bool.false_and]
theorem short_len {l : List Itm} (h : shortL l = true) : l.length ≤ 60 ∧ sumL l l.length ≤ 120 := by
  unfold shortL at h
  simp only [Bool.and_eq_true, decide_eq_true_eq] at h
  obtain ⟨_, h1, h2⟩ := h
  rw [show min l.length 60 = l.length by omega] at h2
  exact ⟨by omega, by omega⟩
theorem cnt_le (x : Itm) (h : wX x ≤ 120) : cntX x ≤ 2 * wX x := by
  unfold wX at h
  unfold wX cntX
  have e : min x.ents.length 120 = x.ents.length := by omega
  rw [e]
  have key : ∀ l : List Ent, (l.flatMap bfsE).length ≤ l.length + (l.map fun e => e.l.length).sum := by
    intro l
    induction l with
    | nil => exact Nat.le_refl _
    | cons a l ih =>
      have := bfsE_len a
      rw [List.flatMap_cons, List.length_append, List.length_cons, List.map_cons, List.sum_cons]
      split at this <;> omega
  have := key x.ents
  unfold sumK
  rw [List.take_length]
  omega
theorem short_few {l : List Itm} (h : shortL l = true) : l.length ≤ 60 ∧ cntL l ≤ 240 := by
  obtain ⟨h1, h2⟩ := short_len h
  refine ⟨h1, ?_⟩
  unfold sumL at h2
  rw [List.take_length] at h2
  clear h h1
  have key : ∀ l : List Itm, (l.map wX).sum ≤ 120 → cntL l ≤ 2 * (l.map wX).sum := by
    intro l
    induction l with
    | nil => intro _; exact Nat.le_refl _
    | cons x l ih =>
      intro h
      rw [List.map_cons, List.sum_cons] at h ⊢
      have := ih (by omega)
      have := cnt_le x (by omega)
      have e : cntL (x :: l) = cntX x + cntL l := by unfold cntL; rw [List.map_cons, List.sum_cons]
      omega
  have := key l h2
  omega
def SShortL : Sp := ⟨List Itm, fits, fun l => [aX l], fun l => .st (.sb (shortL l))⟩
set_option maxHeartbeats 16000000 in
theorem rshort : SpOK Tryz.prog 11 SShortL := fun (l : List Itm) hf => by
  have hC : COK Tryz.prog (cfg [(32, SFew)]) := Ty.ty.cfg ⟨rfew, trivial⟩
  have hl := hf.1
  ((refine Fn.ofF hC Tryz.func11 Tryz.ntmps11 rfl rfl rfl ?_); (repeat' first | (with_reducible exact trivial) | (with_reducible rfl) | (refine And.intro ?_ ?_) | (refine Need.mk ?_) | exact True.intro | (first | (refine ⟨_, Told.refl _, ?_, ?_⟩) | (refine ⟨⟨_, _⟩, Told.refl _, ?_, ?_⟩) | (refine ⟨⟨_, _, _⟩, Told.refl _, ?_, ?_⟩) | (refine ⟨⟨_, _, _, _⟩, Told.refl _, ?_, ?_⟩) | (refine ⟨⟨_, _, _, _, _⟩, Told.refl _, ?_, ?_⟩) | (refine ⟨(), Told.refl _, ?_, ?_⟩)) | (with_reducible intro _) | (refine fun (_ : Bool) => ?_)))
  refine AW.loop (I := fun i : Nat => ⟨83, [(0, aX l), (3, .int .i64 (sumL l i)), (4, .int .i64 i)], []⟩) (fun i => i ≤ min l.length 60 ∧ (l.take i).all okX = true) (fun i => min l.length 60 - i) 0 ⟨Nat.zero_le _, rfl⟩ ?_ ?_
  · (repeat' first | (with_reducible exact trivial) | (with_reducible rfl) | (refine And.intro ?_ ?_) | (refine Need.mk ?_) | exact True.intro | (first | (refine ⟨_, Told.refl _, ?_, ?_⟩) | (refine ⟨⟨_, _⟩, Told.refl _, ?_, ?_⟩) | (refine ⟨⟨_, _, _⟩, Told.refl _, ?_, ?_⟩) | (refine ⟨⟨_, _, _, _⟩, Told.refl _, ?_, ?_⟩) | (refine ⟨⟨_, _, _, _, _⟩, Told.refl _, ?_, ?_⟩) | (refine ⟨(), Told.refl _, ?_, ?_⟩)) | (with_reducible intro _) | (refine fun (_ : Bool) => ?_))
    all_goals rfl
  · intro i ⟨hi, hok⟩
    have hsl := sumL_le hf i (by omega)
    have hsl2 : i * (2199023255552 + 120 * 8796093022208) ≤ 60 * (2199023255552 + 120 * 8796093022208) := Nat.mul_le_mul_right _ (by omega)
    rcases Nat.lt_or_ge i (min l.length 60) with hlt | hge
    · have hd : decide ((i : Int) < (l.length : Int)) = true := decide_eq_true (by omega)
      have hd' : decide ((i : Int) < 60) = true := decide_eq_true (by omega)
      have hw := iw (n := (i : Int) + 1) (by omega) (by omega)
      have hil : i < l.length := by omega
      have hnx := take_nextX hil
      have hsn := sumL_next hil
      obtain ⟨hx1, hx2⟩ := hf.2 (l.getD i default) (by rw [getX hil]; exact List.getElem_mem _)
      have hsn2 := sumK_le hx2
      have hw3 := iw (n := ((sumL l i : Nat) : Int) + ((l.getD i default).ents.length : Int)) (by omega) (by omega)
      have hno := fun h => shortL_no hlt h
      ((refine AW.byF ‹_› ?_); (repeat' first | (with_reducible exact trivial) | (with_reducible rfl) | (refine And.intro ?_ ?_) | (refine Need.mk ?_) | exact True.intro | (first | (refine ⟨_, Told.refl _, ?_, ?_⟩) | (refine ⟨⟨_, _⟩, Told.refl _, ?_, ?_⟩) | (refine ⟨⟨_, _, _⟩, Told.refl _, ?_, ?_⟩) | (refine ⟨⟨_, _, _, _⟩, Told.refl _, ?_, ?_⟩) | (refine ⟨⟨_, _, _, _, _⟩, Told.refl _, ?_, ?_⟩) | (refine ⟨(), Told.refl _, ?_, ?_⟩)) | (with_reducible intro _) | (refine fun (_ : Bool) => ?_)))
      all_goals first | (exact absurd ‹decide ((i : Int) < (l.length : Int)) = false› (by rw [hd]; decide)) | (exact absurd ‹decide ((i : Int) < 60) = false› (by rw [hd']; decide)) | skip
      all_goals try simp only [Int.toNat_natCast] at *
      all_goals first
        | omega
        | skip
      refine AW.loop (I := fun k : Nat => ⟨83, [(0, aX l), (3, .int .i64 (((sumL l i + (l.getD i default).ents.length + sumK (l.getD i default) k : Nat)) : Int)), (4, .int .i64 i), (5, .int .i64 k)], []⟩) (fun k => k ≤ min (l.getD i default).ents.length 120 ∧ ((l.getD i default).ents.take k).all okE = true) (fun k => min (l.getD i default).ents.length 120 - k) 0 ⟨Nat.zero_le _, rfl⟩ ?_ ?_
      · (repeat' first | (with_reducible exact trivial) | (with_reducible rfl) | (refine And.intro ?_ ?_) | (refine Need.mk ?_) | exact True.intro | (first | (refine ⟨_, Told.refl _, ?_, ?_⟩) | (refine ⟨⟨_, _⟩, Told.refl _, ?_, ?_⟩) | (refine ⟨⟨_, _, _⟩, Told.refl _, ?_, ?_⟩) | (refine ⟨⟨_, _, _, _⟩, Told.refl _, ?_, ?_⟩) | (refine ⟨⟨_, _, _, _, _⟩, Told.refl _, ?_, ?_⟩) | (refine ⟨(), Told.refl _, ?_, ?_⟩)) | (with_reducible intro _) | (refine fun (_ : Bool) => ?_))
        all_goals first
          | rfl
          | (rw [hw3]; simp [sumK]; done)
      · intro k ⟨hk, hokk⟩
        have hs2 := hsn2 k (by omega)
        have hs3 : k * 8796093022208 ≤ 120 * 8796093022208 := Nat.mul_le_mul_right _ (by omega)
        rcases Nat.lt_or_ge k (min (l.getD i default).ents.length 120) with hlk | hgk
        · have hd2 : decide ((k : Int) < ((l.getD i default).ents.length : Int)) = true := decide_eq_true (by omega)
          have hd2' : decide ((k : Int) < 120) = true := decide_eq_true (by omega)
          have hw2 := iw (n := (k : Int) + 1) (by omega) (by omega)
          have hke : k < (l.getD i default).ents.length := by omega
          have hnk := take_nextE hke
          have hsk := sumK_next hke
          have hle := hx2 ((l.getD i default).ents.getD k default) (by rw [getE hke]; exact List.getElem_mem _)
          have hw4 := iw (n := (((sumL l i + (l.getD i default).ents.length + sumK (l.getD i default) k : Nat)) : Int) + (((l.getD i default).ents.getD k default).l.length : Int)) (by omega) (by omega)
          have hnoK := fun h => hno (okX_no hlk h)
          ((refine AW.byF ‹_› ?_); (repeat' first | (with_reducible exact trivial) | (with_reducible rfl) | (refine And.intro ?_ ?_) | (refine Need.mk ?_) | exact True.intro | (first | (refine ⟨_, Told.refl _, ?_, ?_⟩) | (refine ⟨⟨_, _⟩, Told.refl _, ?_, ?_⟩) | (refine ⟨⟨_, _, _⟩, Told.refl _, ?_, ?_⟩) | (refine ⟨⟨_, _, _, _⟩, Told.refl _, ?_, ?_⟩) | (refine ⟨⟨_, _, _, _, _⟩, Told.refl _, ?_, ?_⟩) | (refine ⟨(), Told.refl _, ?_, ?_⟩)) | (with_reducible intro _) | (refine fun (_ : Bool) => ?_)))
          all_goals first | (exact absurd ‹decide ((k : Int) < ((l.getD i default).ents.length : Int)) = false› (by rw [hd2]; decide)) | (exact absurd ‹decide ((k : Int) < 120) = false› (by rw [hd2']; decide)) | skip
          any_goals (first | (refine Exists.intro [⟨0, 0, 0, ((l.getD i default).ents.getD k default).u⟩] (And.intro (Told.of (lit_sub cBf_emb [(⟨0, 0, 0, ((l.getD i default).ents.getD k default).u⟩ : Bf)])) (And.intro trivial ?_)); (repeat' first | (with_reducible exact trivial) | (with_reducible rfl) | (refine And.intro ?_ ?_) | (refine Need.mk ?_) | exact True.intro | (first | (refine ⟨_, Told.refl _, ?_, ?_⟩) | (refine ⟨⟨_, _⟩, Told.refl _, ?_, ?_⟩) | (refine ⟨⟨_, _, _⟩, Told.refl _, ?_, ?_⟩) | (refine ⟨⟨_, _, _, _⟩, Told.refl _, ?_, ?_⟩) | (refine ⟨⟨_, _, _, _, _⟩, Told.refl _, ?_, ?_⟩) | (refine ⟨(), Told.refl _, ?_, ?_⟩)) | (with_reducible intro _) | (refine fun (_ : Bool) => ?_))) | fail)
          any_goals (first | (refine Exists.intro ((k + 1 : Nat)) (And.intro ?_ (And.intro ?_ ?_)); all_goals (repeat' first | (with_reducible exact trivial) | (with_reducible rfl) | (refine And.intro ?_ ?_) | (refine Need.mk ?_) | exact True.intro | (first | (refine ⟨_, Told.refl _, ?_, ?_⟩) | (refine ⟨⟨_, _⟩, Told.refl _, ?_, ?_⟩) | (refine ⟨⟨_, _, _⟩, Told.refl _, ?_, ?_⟩) | (refine ⟨⟨_, _, _, _⟩, Told.refl _, ?_, ?_⟩) | (refine ⟨⟨_, _, _, _, _⟩, Told.refl _, ?_, ?_⟩) | (refine ⟨(), Told.refl _, ?_, ?_⟩)) | (with_reducible intro _) | (refine fun (_ : Bool) => ?_))) | fail)
          all_goals try simp only [Int.toNat_natCast] at *
          all_goals first
            | omega
            | (rw [hw2]; rfl)
            | (rw [hw4, hsk]; omega)
            | (rw [hnk]
               refine all_next' hokk ?_
               unfold okE
               simp_all; done)
            | (refine (hnoK ?_).symm
               unfold okE
               simp_all; done)
            | skip
        · obtain rfl : k = min (l.getD i default).ents.length 120 := by omega
          have hd2 : ¬ (decide (((min (l.getD i default).ents.length 120 : Nat) : Int) < ((l.getD i default).ents.length : Int)) = true ∧ decide (((min (l.getD i default).ents.length 120 : Nat) : Int) < 120) = true) := fun ⟨a, b⟩ => by
            have := of_decide_eq_true a
            have := of_decide_eq_true b
            omega
          ((refine AW.byF ‹_› ?_); (repeat' first | (with_reducible exact trivial) | (with_reducible rfl) | (refine And.intro ?_ ?_) | (refine Need.mk ?_) | exact True.intro | (first | (refine ⟨_, Told.refl _, ?_, ?_⟩) | (refine ⟨⟨_, _⟩, Told.refl _, ?_, ?_⟩) | (refine ⟨⟨_, _, _⟩, Told.refl _, ?_, ?_⟩) | (refine ⟨⟨_, _, _, _⟩, Told.refl _, ?_, ?_⟩) | (refine ⟨⟨_, _, _, _, _⟩, Told.refl _, ?_, ?_⟩) | (refine ⟨(), Told.refl _, ?_, ?_⟩)) | (with_reducible intro _) | (refine fun (_ : Bool) => ?_)))
          all_goals first | (exact absurd (And.intro ‹decide (((min (l.getD i default).ents.length 120 : Nat) : Int) < ((l.getD i default).ents.length : Int)) = true› ‹decide (((min (l.getD i default).ents.length 120 : Nat) : Int) < 120) = true›) hd2) | skip
          any_goals (first | (refine Exists.intro ((i + 1 : Nat)) (And.intro ?_ (And.intro ?_ ?_)); all_goals (repeat' first | (with_reducible exact trivial) | (with_reducible rfl) | (refine And.intro ?_ ?_) | (refine Need.mk ?_) | exact True.intro | (first | (refine ⟨_, Told.refl _, ?_, ?_⟩) | (refine ⟨⟨_, _⟩, Told.refl _, ?_, ?_⟩) | (refine ⟨⟨_, _, _⟩, Told.refl _, ?_, ?_⟩) | (refine ⟨⟨_, _, _, _⟩, Told.refl _, ?_, ?_⟩) | (refine ⟨⟨_, _, _, _, _⟩, Told.refl _, ?_, ?_⟩) | (refine ⟨(), Told.refl _, ?_, ?_⟩)) | (with_reducible intro _) | (refine fun (_ : Bool) => ?_))) | fail)
          all_goals try simp only [Int.toNat_natCast] at *
          all_goals first
            | omega
            | (rw [hw]; rfl)
            | (rw [hnx]; exact all_next' hok hokk)
            | (rw [hsn]; unfold wX; omega)
            | skip
    · obtain rfl : i = min l.length 60 := by omega
      have hd2 : ¬ (decide (((min l.length 60 : Nat) : Int) < (l.length : Int)) = true ∧ decide (((min l.length 60 : Nat) : Int) < 60) = true) := fun ⟨a, b⟩ => by
        have := of_decide_eq_true a
        have := of_decide_eq_true b
        omega
      ((refine AW.byF ‹_› ?_); (repeat' first | (with_reducible exact trivial) | (with_reducible rfl) | (refine And.intro ?_ ?_) | (refine Need.mk ?_) | exact True.intro | (first | (refine ⟨_, Told.refl _, ?_, ?_⟩) | (refine ⟨⟨_, _⟩, Told.refl _, ?_, ?_⟩) | (refine ⟨⟨_, _, _⟩, Told.refl _, ?_, ?_⟩) | (refine ⟨⟨_, _, _, _⟩, Told.refl _, ?_, ?_⟩) | (refine ⟨⟨_, _, _, _, _⟩, Told.refl _, ?_, ?_⟩) | (refine ⟨(), Told.refl _, ?_, ?_⟩)) | (with_reducible intro _) | (refine fun (_ : Bool) => ?_)))
      all_goals first | (exact absurd (And.intro ‹decide (((min l.length 60 : Nat) : Int) < (l.length : Int)) = true› ‹decide (((min l.length 60 : Nat) : Int) < 60) = true›) hd2) | skip
      all_goals (unfold shortL; simp_all; try (intros; omega))
end Go.Abs.Sm
set_option maxRecDepth 100000
namespace Go.Abs.Rc
open Go.RowKit Go.Proofs Go.Abs.Tab Go.Abs.Dest Go.Abs.Span Go.Abs.Coll Go.Abs.Hx Go.Abs.Mt
set_option maxHeartbeats 4000000 in
theorem rsameR : SpOK Tryz.prog 35 SSameR := fun ⟨a, b⟩ ha => by
  have hC := base
  have ha : a.length < 9223372036854775807 := ha
  ((refine Fn.ofF hC Tryz.func35 Tryz.ntmps35 rfl rfl rfl ?_); (repeat' first | (with_reducible exact trivial) | (with_reducible rfl) | (refine And.intro ?_ ?_) | (refine Need.mk ?_) | exact True.intro | (first | (refine ⟨_, Told.refl _, ?_, ?_⟩) | (refine ⟨⟨_, _⟩, Told.refl _, ?_, ?_⟩) | (refine ⟨⟨_, _, _⟩, Told.refl _, ?_, ?_⟩) | (refine ⟨⟨_, _, _, _⟩, Told.refl _, ?_, ?_⟩) | (refine ⟨⟨_, _, _, _, _⟩, Told.refl _, ?_, ?_⟩) | (refine ⟨(), Told.refl _, ?_, ?_⟩)) | (with_reducible intro _) | (refine fun (_ : Bool) => ?_)))
  · ((try dsimp only at *); (try simp only [decide_eq_true_eq, decide_eq_false_iff_not, beq_iff_eq, bne_iff_ne, beq_eq_false_iff_ne, bne_eq_false_iff_eq, ne_eq, Decidable.not_not, ge_iff_le, gt_iff_lt, Bool.not_eq_true', Bool.not_eq_false', Int.not_lt, Int.not_le, Nat.not_lt, Nat.not_le] at *))
    exact (sameRs_no fun h => by omega).symm
  refine AW.loop (I := fun k : Nat => ⟨26, [(0, aR a), (1, aR b), (5, .int .i64 k)], []⟩) (fun k => k ≤ a.length ∧ ∀ j, j < k → a.getD j default = b.getD j default) (fun k => a.length - k) 0 ⟨Nat.zero_le _, fun j hj => by omega⟩ ?_ ?_
  · (repeat' first | (with_reducible exact trivial) | (with_reducible rfl) | (refine And.intro ?_ ?_) | (refine Need.mk ?_) | exact True.intro | (first | (refine ⟨_, Told.refl _, ?_, ?_⟩) | (refine ⟨⟨_, _⟩, Told.refl _, ?_, ?_⟩) | (refine ⟨⟨_, _, _⟩, Told.refl _, ?_, ?_⟩) | (refine ⟨⟨_, _, _, _⟩, Told.refl _, ?_, ?_⟩) | (refine ⟨⟨_, _, _, _, _⟩, Told.refl _, ?_, ?_⟩) | (refine ⟨(), Told.refl _, ?_, ?_⟩)) | (with_reducible intro _) | (refine fun (_ : Bool) => ?_)); rfl
  · intro k ⟨hk, he⟩
    ((refine AW.byF ‹_› ?_); (repeat' first | (with_reducible exact trivial) | (with_reducible rfl) | (refine And.intro ?_ ?_) | (refine Need.mk ?_) | exact True.intro | (first | (refine ⟨_, Told.refl _, ?_, ?_⟩) | (refine ⟨⟨_, _⟩, Told.refl _, ?_, ?_⟩) | (refine ⟨⟨_, _, _⟩, Told.refl _, ?_, ?_⟩) | (refine ⟨⟨_, _, _, _⟩, Told.refl _, ?_, ?_⟩) | (refine ⟨⟨_, _, _, _, _⟩, Told.refl _, ?_, ?_⟩) | (refine ⟨(), Told.refl _, ?_, ?_⟩)) | (with_reducible intro _) | (refine fun (_ : Bool) => ?_)))
    any_goals (intros; first | rfl | (((try dsimp only at *); (try simp only [decide_eq_true_eq, decide_eq_false_iff_not, beq_iff_eq, bne_iff_ne, beq_eq_false_iff_ne, bne_eq_false_iff_eq, ne_eq, Decidable.not_not, ge_iff_le, gt_iff_lt, Bool.not_eq_true', Bool.not_eq_false', Int.not_lt, Int.not_le, Nat.not_lt, Nat.not_le] at *)) <;> (try simp only [IntKind.wrap_i64] at *) <;> omega))
    · ((try dsimp only at *); (try simp only [decide_eq_true_eq, decide_eq_false_iff_not, beq_iff_eq, bne_iff_ne, beq_eq_false_iff_ne, bne_eq_false_iff_eq, ne_eq, Decidable.not_not, ge_iff_le, gt_iff_lt, Bool.not_eq_true', Bool.not_eq_false', Int.not_lt, Int.not_le, Nat.not_lt, Nat.not_le] at *))
      refine (sameRs_no fun h => ?_).symm
      have := h.2 k (by omega)
      simp_all [eqA, bval]
    · ((try dsimp only at *); (try simp only [decide_eq_true_eq, decide_eq_false_iff_not, beq_iff_eq, bne_iff_ne, beq_eq_false_iff_ne, bne_eq_false_iff_eq, ne_eq, Decidable.not_not, ge_iff_le, gt_iff_lt, Bool.not_eq_true', Bool.not_eq_false', Int.not_lt, Int.not_le, Nat.not_lt, Nat.not_le] at *))
      refine Exists.intro (k + 1) (And.intro ?_ (And.intro ?_ ?_))
      · refine ⟨by omega, fun j hj => ?_⟩
        by_cases e : j = k
        · subst e
          have : eqR (a.getD j default) (b.getD j default) = true := by simp_all [eqA, bval, eqR]
          exact (eqR_iff _ _).1 this
        · exact he j (by omega)
      · omega
      · (repeat' first | (with_reducible exact trivial) | (with_reducible rfl) | (refine And.intro ?_ ?_) | (refine Need.mk ?_) | exact True.intro | (first | (refine ⟨_, Told.refl _, ?_, ?_⟩) | (refine ⟨⟨_, _⟩, Told.refl _, ?_, ?_⟩) | (refine ⟨⟨_, _, _⟩, Told.refl _, ?_, ?_⟩) | (refine ⟨⟨_, _, _, _⟩, Told.refl _, ?_, ?_⟩) | (refine ⟨⟨_, _, _, _, _⟩, Told.refl _, ?_, ?_⟩) | (refine ⟨(), Told.refl _, ?_, ?_⟩)) | (with_reducible intro _) | (refine fun (_ : Bool) => ?_))
        (intros; first | rfl | (((try dsimp only at *); (try simp only [decide_eq_true_eq, decide_eq_false_iff_not, beq_iff_eq, bne_iff_ne, beq_eq_false_iff_ne, bne_eq_false_iff_eq, ne_eq, Decidable.not_not, ge_iff_le, gt_iff_lt, Bool.not_eq_true', Bool.not_eq_false', Int.not_lt, Int.not_le, Nat.not_lt, Nat.not_le] at *)) <;> (try simp only [IntKind.wrap_i64] at *) <;> omega))
    · ((try dsimp only at *); (try simp only [decide_eq_true_eq, decide_eq_false_iff_not, beq_iff_eq, bne_iff_ne, beq_eq_false_iff_ne, bne_eq_false_iff_eq, ne_eq, Decidable.not_not, ge_iff_le, gt_iff_lt, Bool.not_eq_true', Bool.not_eq_false', Int.not_lt, Int.not_le, Nat.not_lt, Nat.not_le] at *))
      obtain rfl : k = a.length := by omega
      exact ((sameRs_at a b).2 ⟨by omega, he⟩).symm
instance : DecidableEq Spn := fun a b => decidable_of_iff (a.n = b.n ∧ a.lo = b.lo ∧ a.hi = b.hi ∧ a.to = b.to) ⟨fun ⟨h1, h2, h3, h4⟩ => Spn.ext' h1 h2 h3 h4, fun h => by rw [h]; exact ⟨rfl, rfl, rfl, rfl⟩⟩
theorem getSp {l : List Spn} {i : Nat} (h : i < l.length) : l.getD i default = l[i] := by simp [List.getD, h]
theorem sameS_at (a b : List Spn) : a = b ↔ a.length = b.length ∧ ∀ j, j < a.length → a.getD j default = b.getD j default := by
  constructor
  · rintro rfl
    exact ⟨rfl, fun _ _ => rfl⟩
  · rintro ⟨h1, h2⟩
    refine List.ext_getElem h1 fun i hi hj => ?_
    have := h2 i hi
    rwa [getSp hi, getSp hj] at this
def SSameS : Sp := ⟨List Spn × List Spn, fun (a, _) => a.length < 9223372036854775807, fun (a, b) => [aS a, aS b], fun (a, b) => .st (.sb (decide (a = b)))⟩
theorem sameS_no {a b : List Spn} (h : ¬ (a.length = b.length ∧ ∀ j, j < a.length → a.getD j default = b.getD j default)) : decide (a = b) = false := by
  rw [decide_eq_false_iff_not, sameS_at]
  exact h
set_option maxHeartbeats 4000000 in
theorem rsameS : SpOK Tryz.prog 36 SSameS := fun ⟨a, b⟩ ha => by
  have hC := base
  have ha : a.length < 9223372036854775807 := ha
  ((refine Fn.ofF hC Tryz.func36 Tryz.ntmps36 rfl rfl rfl ?_); (repeat' first | (with_reducible exact trivial) | (with_reducible rfl) | (refine And.intro ?_ ?_) | (refine Need.mk ?_) | exact True.intro | (first | (refine ⟨_, Told.refl _, ?_, ?_⟩) | (refine ⟨⟨_, _⟩, Told.refl _, ?_, ?_⟩) | (refine ⟨⟨_, _, _⟩, Told.refl _, ?_, ?_⟩) | (refine ⟨⟨_, _, _, _⟩, Told.refl _, ?_, ?_⟩) | (refine ⟨⟨_, _, _, _, _⟩, Told.refl _, ?_, ?_⟩) | (refine ⟨(), Told.refl _, ?_, ?_⟩)) | (with_reducible intro _) | (refine fun (_ : Bool) => ?_)))
  · ((try dsimp only at *); (try simp only [decide_eq_true_eq, decide_eq_false_iff_not, beq_iff_eq, bne_iff_ne, beq_eq_false_iff_ne, bne_eq_false_iff_eq, ne_eq, Decidable.not_not, ge_iff_le, gt_iff_lt, Bool.not_eq_true', Bool.not_eq_false', Int.not_lt, Int.not_le, Nat.not_lt, Nat.not_le] at *))
    exact (sameS_no fun h => by omega).symm
  refine AW.loop (I := fun k : Nat => ⟨26, [(0, aS a), (1, aS b), (5, .int .i64 k)], []⟩) (fun k => k ≤ a.length ∧ ∀ j, j < k → a.getD j default = b.getD j default) (fun k => a.length - k) 0 ⟨Nat.zero_le _, fun j hj => by omega⟩ ?_ ?_
  · (repeat' first | (with_reducible exact trivial) | (with_reducible rfl) | (refine And.intro ?_ ?_) | (refine Need.mk ?_) | exact True.intro | (first | (refine ⟨_, Told.refl _, ?_, ?_⟩) | (refine ⟨⟨_, _⟩, Told.refl _, ?_, ?_⟩) | (refine ⟨⟨_, _, _⟩, Told.refl _, ?_, ?_⟩) | (refine ⟨⟨_, _, _, _⟩, Told.refl _, ?_, ?_⟩) | (refine ⟨⟨_, _, _, _, _⟩, Told.refl _, ?_, ?_⟩) | (refine ⟨(), Told.refl _, ?_, ?_⟩)) | (with_reducible intro _) | (refine fun (_ : Bool) => ?_)); rfl
  · intro k ⟨hk, he⟩
    ((refine AW.byF ‹_› ?_); (repeat' first | (with_reducible exact trivial) | (with_reducible rfl) | (refine And.intro ?_ ?_) | (refine Need.mk ?_) | exact True.intro | (first | (refine ⟨_, Told.refl _, ?_, ?_⟩) | (refine ⟨⟨_, _⟩, Told.refl _, ?_, ?_⟩) | (refine ⟨⟨_, _, _⟩, Told.refl _, ?_, ?_⟩) | (refine ⟨⟨_, _, _, _⟩, Told.refl _, ?_, ?_⟩) | (refine ⟨⟨_, _, _, _, _⟩, Told.refl _, ?_, ?_⟩) | (refine ⟨(), Told.refl _, ?_, ?_⟩)) | (with_reducible intro _) | (refine fun (_ : Bool) => ?_)))
    any_goals (intros; first | rfl | (((try dsimp only at *); (try simp only [decide_eq_true_eq, decide_eq_false_iff_not, beq_iff_eq, bne_iff_ne, beq_eq_false_iff_ne, bne_eq_false_iff_eq, ne_eq, Decidable.not_not, ge_iff_le, gt_iff_lt, Bool.not_eq_true', Bool.not_eq_false', Int.not_lt, Int.not_le, Nat.not_lt, Nat.not_le] at *)) <;> (try simp only [IntKind.wrap_i64] at *) <;> omega))
    · ((try dsimp only at *); (try simp only [decide_eq_true_eq, decide_eq_false_iff_not, beq_iff_eq, bne_iff_ne, beq_eq_false_iff_ne, bne_eq_false_iff_eq, ne_eq, Decidable.not_not, ge_iff_le, gt_iff_lt, Bool.not_eq_true', Bool.not_eq_false', Int.not_lt, Int.not_le, Nat.not_lt, Nat.not_le] at *))
      refine (sameS_no fun h => ?_).symm
      have := h.2 k (by omega)
      simp_all [eqA, bval]
    · ((try dsimp only at *); (try simp only [decide_eq_true_eq, decide_eq_false_iff_not, beq_iff_eq, bne_iff_ne, beq_eq_false_iff_ne, bne_eq_false_iff_eq, ne_eq, Decidable.not_not, ge_iff_le, gt_iff_lt, Bool.not_eq_true', Bool.not_eq_false', Int.not_lt, Int.not_le, Nat.not_lt, Nat.not_le] at *))
      refine Exists.intro (k + 1) (And.intro ?_ (And.intro ?_ ?_))
      · refine ⟨by omega, fun j hj => ?_⟩
        by_cases e : j = k
        · subst e
          exact Spn.ext' (by simp_all [eqA, bval]) (by simp_all [eqA, bval]) (by simp_all [eqA, bval]) (by simp_all [eqA, bval])
        · exact he j (by omega)
      · omega
      · (repeat' first | (with_reducible exact trivial) | (with_reducible rfl) | (refine And.intro ?_ ?_) | (refine Need.mk ?_) | exact True.intro | (first | (refine ⟨_, Told.refl _, ?_, ?_⟩) | (refine ⟨⟨_, _⟩, Told.refl _, ?_, ?_⟩) | (refine ⟨⟨_, _, _⟩, Told.refl _, ?_, ?_⟩) | (refine ⟨⟨_, _, _, _⟩, Told.refl _, ?_, ?_⟩) | (refine ⟨⟨_, _, _, _, _⟩, Told.refl _, ?_, ?_⟩) | (refine ⟨(), Told.refl _, ?_, ?_⟩)) | (with_reducible intro _) | (refine fun (_ : Bool) => ?_))
        (intros; first | rfl | (((try dsimp only at *); (try simp only [decide_eq_true_eq, decide_eq_false_iff_not, beq_iff_eq, bne_iff_ne, beq_eq_false_iff_ne, bne_eq_false_iff_eq, ne_eq, Decidable.not_not, ge_iff_le, gt_iff_lt, Bool.not_eq_true', Bool.not_eq_false', Int.not_lt, Int.not_le, Nat.not_lt, Nat.not_le] at *)) <;> (try simp only [IntKind.wrap_i64] at *) <;> omega))
    · ((try dsimp only at *); (try simp only [decide_eq_true_eq, decide_eq_false_iff_not, beq_iff_eq, bne_iff_ne, beq_eq_false_iff_ne, bne_eq_false_iff_eq, ne_eq, Decidable.not_not, ge_iff_le, gt_iff_lt, Bool.not_eq_true', Bool.not_eq_false', Int.not_lt, Int.not_le, Nat.not_lt, Nat.not_le] at *))
      obtain rfl : k = a.length := by omega
      exact (decide_eq_true ((sameS_at a b).2 ⟨by omega, he⟩)).symm
def sameT (a b : Tbl) : Bool := (a.name.toList == b.name.toList) && ((a.wmode == b.wmode) && (sameRs a.spaces b.spaces && (decide (a.cids = b.cids) && (decide (a.nots = b.nots) && decide (a.bfs = b.bfs)))))
theorem sameT_self (a : Tbl) : sameT a a = true := by
  unfold sameT
  rw [(sameRs_iff _ _).2 rfl]
  simp
def SSameT : Sp := ⟨Tbl × Tbl, fun (a, _) => a.spaces.length < 9223372036854775807 ∧ a.cids.length < 9223372036854775807 ∧ a.nots.length < 9223372036854775807 ∧ a.bfs.length < 9223372036854775807 ∧ ∀ x ∈ a.bfs, x.to.length < 9223372036854775807, fun (a, b) => [.agg (cT a), .agg (cT b)], fun (a, b) => .st (.sb (sameT a b))⟩
set_option maxHeartbeats 4000000 in
theorem rsameT : SpOK Tryz.prog 16 SSameT := fun ⟨a, b⟩ ⟨h1, h2, h3, h4, h5⟩ => by
  have hC : COK Tryz.prog (cfg [(35, SSameR), (36, SSameS), (37, SSameB)]) := Ty.ty.cfg ⟨rsameR, rsameS, rsame, trivial⟩
  have h1 : a.spaces.length < 9223372036854775807 := h1
  have h2 : a.cids.length < 9223372036854775807 := h2
  have h3 : a.nots.length < 9223372036854775807 := h3
  have h4 : a.bfs.length < 9223372036854775807 := h4
  ((refine Fn.ofF hC Tryz.func16 Tryz.ntmps16 rfl rfl rfl ?_); (repeat' first | (with_reducible exact trivial) | (with_reducible rfl) | (refine And.intro ?_ ?_) | (refine Need.mk ?_) | exact True.intro | (first | (refine ⟨_, Told.refl _, ?_, ?_⟩) | (refine ⟨⟨_, _⟩, Told.refl _, ?_, ?_⟩) | (refine ⟨⟨_, _, _⟩, Told.refl _, ?_, ?_⟩) | (refine ⟨⟨_, _, _, _⟩, Told.refl _, ?_, ?_⟩) | (refine ⟨⟨_, _, _, _, _⟩, Told.refl _, ?_, ?_⟩) | (refine ⟨(), Told.refl _, ?_, ?_⟩)) | (with_reducible intro _) | (refine fun (_ : Bool) => ?_)))
  all_goals first
    | exact h1
    | exact h2
    | exact h3
    | exact h4
    | exact h5 _ ‹_›
    | exact ⟨h4, h5⟩
    | (unfold sameT; simp_all; done)
end Go.Abs.Rc
set_option maxRecDepth 100000
namespace Go.Abs.Sm
open Go.RowKit Go.Proofs Go.Abs.Tab Go.Abs.Dest Go.Abs.Span Go.Abs.Coll Go.Abs.Hx Go.Abs.Mt Go.Abs.Rc
set_option maxHeartbeats 4000000 in
theorem table09 : SpOK Tryz.prog 15 STab := fun (t : Tbl) _ => by
  have hC := base
  ((refine Fn.ofF hC Tryz.func15 Tryz.ntmps15 rfl rfl rfl ?_); (repeat' first | (with_reducible exact trivial) | (with_reducible rfl) | (refine And.intro ?_ ?_) | (refine Need.mk ?_) | exact True.intro | (first | (refine ⟨_, Told.refl _, ?_, ?_⟩) | (refine ⟨⟨_, _⟩, Told.refl _, ?_, ?_⟩) | (refine ⟨⟨_, _, _⟩, Told.refl _, ?_, ?_⟩) | (refine ⟨⟨_, _, _, _⟩, Told.refl _, ?_, ?_⟩) | (refine ⟨⟨_, _, _, _, _⟩, Told.refl _, ?_, ?_⟩) | (refine ⟨(), Told.refl _, ?_, ?_⟩)) | (with_reducible intro _) | (refine fun (_ : Bool) => ?_)))
set_option maxHeartbeats 4000000 in
theorem told09 : SpOK Tryz.prog 13 STab := fun (t : Tbl) _ => by
  have hC := base
  ((refine Fn.ofF hC Tryz.func13 Tryz.ntmps13 rfl rfl rfl ?_); (repeat' first | (with_reducible exact trivial) | (with_reducible rfl) | (refine And.intro ?_ ?_) | (refine Need.mk ?_) | exact True.intro | (first | (refine ⟨_, Told.refl _, ?_, ?_⟩) | (refine ⟨⟨_, _⟩, Told.refl _, ?_, ?_⟩) | (refine ⟨⟨_, _, _⟩, Told.refl _, ?_, ?_⟩) | (refine ⟨⟨_, _, _, _⟩, Told.refl _, ?_, ?_⟩) | (refine ⟨⟨_, _, _, _, _⟩, Told.refl _, ?_, ?_⟩) | (refine ⟨(), Told.refl _, ?_, ?_⟩)) | (with_reducible intro _) | (refine fun (_ : Bool) => ?_)))
def xw0 : Itm := ⟨4, 0, ByteArray.empty, 0, 0, 0, ByteArray.empty, [⟨1, 65, 1, 65, 7, [], []⟩]⟩
def xw1 : Itm := ⟨3, 0, ByteArray.empty, 0, 0, 0, ByteArray.empty, [⟨1, 64, 1, 66, 1, [], []⟩]⟩
theorem all_w : allT [xw0, xw1] = ⟨ByteArray.empty, 0, [], [⟨1, 64, 66, 1⟩], [], []⟩ := by
  rw [all_eq, lists_eq]
  have hb : (ES true).build [⟨1, 65, 65, 7⟩, ⟨1, 64, 66, 1⟩] = [⟨1, 64, 66, 1⟩] := by decide +kernel
  unfold canT
  show (⟨_, _, canR [], (ES true).build [⟨1, 65, 65, 7⟩, ⟨1, 64, 66, 1⟩], (ES false).build [], EB.build []⟩ : Tbl) = _
  rw [canR_nil, build_nil, build_nil, hb]
  simp [xw0, xw1, nameX, modeX]
def SAwakeM : Sp := ⟨Unit, fun _ => True, fun _ => [], fun _ => .st (.lit true)⟩
set_option maxHeartbeats 16000000 in
theorem awake09 : SpOK Tryz.prog 9 SAwakeM := fun _ _ => by
  have hC : COK Tryz.prog (cfg [(17, SAllX), (26, SFindS), (18, SSaneT)]) := Ty.ty.cfg ⟨semAll, Span.find, saneTC, trivial⟩
  have hf : (ES true).find [⟨1, 64, 66, 1⟩] 1 65 = some 2 := by decide +kernel
  have hs := sane_all [xw0, xw1]
  have ha := all_w
  ((refine Fn.ofF hC Tryz.func9 Tryz.ntmps9 rfl rfl rfl ?_); (repeat' first | (with_reducible exact trivial) | (with_reducible rfl) | (refine And.intro ?_ ?_) | (refine Need.mk ?_) | exact True.intro | (first | (refine ⟨_, Told.refl _, ?_, ?_⟩) | (refine ⟨⟨_, _⟩, Told.refl _, ?_, ?_⟩) | (refine ⟨⟨_, _, _⟩, Told.refl _, ?_, ?_⟩) | (refine ⟨⟨_, _, _, _⟩, Told.refl _, ?_, ?_⟩) | (refine ⟨⟨_, _, _, _, _⟩, Told.refl _, ?_, ?_⟩) | (refine ⟨(), Told.refl _, ?_, ?_⟩)) | (with_reducible intro _) | (refine fun (_ : Bool) => ?_)))
  refine Exists.intro [xw0, xw1] (And.intro (Told.of ?_) (And.intro ?_ ?_))
  · (repeat' first | (with_reducible exact trivial) | (with_reducible rfl) | (refine And.intro ?_ ?_) | (refine Need.mk ?_) | exact True.intro | (first | (refine ⟨_, Told.refl _, ?_, ?_⟩) | (refine ⟨⟨_, _⟩, Told.refl _, ?_, ?_⟩) | (refine ⟨⟨_, _, _⟩, Told.refl _, ?_, ?_⟩) | (refine ⟨⟨_, _, _, _⟩, Told.refl _, ?_, ?_⟩) | (refine ⟨⟨_, _, _, _, _⟩, Told.refl _, ?_, ?_⟩) | (refine ⟨(), Told.refl _, ?_, ?_⟩)) | (with_reducible intro _) | (refine fun (_ : Bool) => ?_))
    · rfl
    · rename_i i hi
      have hi : i < 2 := hi
      rcases (by omega : i = 0 ∨ i = 1) with rfl | rfl
      · show subs0 (cX xw0) [.int .i64 4, .int .i64 0, .str ByteArray.empty, .int .i64 0, .int .i64 0, .int .i64 0, .str ByteArray.empty, .sl 7 1 (elt [[.int .i64 1, .int .i64 65, .int .i64 1, .int .i64 65, .int .i64 7, .nil, .nil]])]
        (repeat' first | (with_reducible exact trivial) | (with_reducible rfl) | (refine And.intro ?_ ?_) | (refine Need.mk ?_) | exact True.intro | (first | (refine ⟨_, Told.refl _, ?_, ?_⟩) | (refine ⟨⟨_, _⟩, Told.refl _, ?_, ?_⟩) | (refine ⟨⟨_, _, _⟩, Told.refl _, ?_, ?_⟩) | (refine ⟨⟨_, _, _, _⟩, Told.refl _, ?_, ?_⟩) | (refine ⟨⟨_, _, _, _, _⟩, Told.refl _, ?_, ?_⟩) | (refine ⟨(), Told.refl _, ?_, ?_⟩)) | (with_reducible intro _) | (refine fun (_ : Bool) => ?_))
        all_goals first | rfl | skip
        rename_i j hj
        have hj : j < 1 := hj
        obtain rfl : j = 0 := by omega
        show subs0 (cE ⟨1, 65, 1, 65, 7, [], []⟩) [.int .i64 1, .int .i64 65, .int .i64 1, .int .i64 65, .int .i64 7, .nil, .nil]
        (repeat' first | (with_reducible exact trivial) | (with_reducible rfl) | (refine And.intro ?_ ?_) | (refine Need.mk ?_) | exact True.intro | (first | (refine ⟨_, Told.refl _, ?_, ?_⟩) | (refine ⟨⟨_, _⟩, Told.refl _, ?_, ?_⟩) | (refine ⟨⟨_, _, _⟩, Told.refl _, ?_, ?_⟩) | (refine ⟨⟨_, _, _, _⟩, Told.refl _, ?_, ?_⟩) | (refine ⟨⟨_, _, _, _, _⟩, Told.refl _, ?_, ?_⟩) | (refine ⟨(), Told.refl _, ?_, ?_⟩)) | (with_reducible intro _) | (refine fun (_ : Bool) => ?_))
        all_goals rfl
      · show subs0 (cX xw1) [.int .i64 3, .int .i64 0, .str ByteArray.empty, .int .i64 0, .int .i64 0, .int .i64 0, .str ByteArray.empty, .sl 7 1 (elt [[.int .i64 1, .int .i64 64, .int .i64 1, .int .i64 66, .int .i64 1, .nil, .nil]])]
        (repeat' first | (with_reducible exact trivial) | (with_reducible rfl) | (refine And.intro ?_ ?_) | (refine Need.mk ?_) | exact True.intro | (first | (refine ⟨_, Told.refl _, ?_, ?_⟩) | (refine ⟨⟨_, _⟩, Told.refl _, ?_, ?_⟩) | (refine ⟨⟨_, _, _⟩, Told.refl _, ?_, ?_⟩) | (refine ⟨⟨_, _, _, _⟩, Told.refl _, ?_, ?_⟩) | (refine ⟨⟨_, _, _, _, _⟩, Told.refl _, ?_, ?_⟩) | (refine ⟨(), Told.refl _, ?_, ?_⟩)) | (with_reducible intro _) | (refine fun (_ : Bool) => ?_))
        all_goals first | rfl | skip
        rename_i j hj
        have hj : j < 1 := hj
        obtain rfl : j = 0 := by omega
        show subs0 (cE ⟨1, 64, 1, 66, 1, [], []⟩) [.int .i64 1, .int .i64 64, .int .i64 1, .int .i64 66, .int .i64 1, .nil, .nil]
        (repeat' first | (with_reducible exact trivial) | (with_reducible rfl) | (refine And.intro ?_ ?_) | (refine Need.mk ?_) | exact True.intro | (first | (refine ⟨_, Told.refl _, ?_, ?_⟩) | (refine ⟨⟨_, _⟩, Told.refl _, ?_, ?_⟩) | (refine ⟨⟨_, _, _⟩, Told.refl _, ?_, ?_⟩) | (refine ⟨⟨_, _, _, _⟩, Told.refl _, ?_, ?_⟩) | (refine ⟨⟨_, _, _, _, _⟩, Told.refl _, ?_, ?_⟩) | (refine ⟨(), Told.refl _, ?_, ?_⟩)) | (with_reducible intro _) | (refine fun (_ : Bool) => ?_))
        all_goals rfl
  · exact ⟨by show 2 ≤ 1000000; omega, by decide +kernel⟩
  (repeat' first | (with_reducible exact trivial) | (with_reducible rfl) | (refine And.intro ?_ ?_) | (refine Need.mk ?_) | exact True.intro | (first | (refine ⟨_, Told.refl _, ?_, ?_⟩) | (refine ⟨⟨_, _⟩, Told.refl _, ?_, ?_⟩) | (refine ⟨⟨_, _, _⟩, Told.refl _, ?_, ?_⟩) | (refine ⟨⟨_, _, _, _⟩, Told.refl _, ?_, ?_⟩) | (refine ⟨⟨_, _, _, _, _⟩, Told.refl _, ?_, ?_⟩) | (refine ⟨(), Told.refl _, ?_, ?_⟩)) | (with_reducible intro _) | (refine fun (_ : Bool) => ?_))
  all_goals first
    | (show (allT [xw0, xw1]).cids.length < 4611686018427387904; rw [ha]; show 1 < 4611686018427387904; omega)
    | (rw [ha]; show 0 ≤ 1000000; omega)
    | (rw [ha]; show 1 < 9223372036854775807; omega)
    | (rw [ha]; show 0 < 9223372036854775807; omega)
    | (simp_all; done)
    | skip
theorem cat_nil {α : Type} [Inhabited α] (f : α → List AV) (l : List α) (i : Nat) : catEl 0 (elt []) (els f l) i = els f l i := by
  unfold catEl
  rfl
theorem told_two {α : Type} [Inhabited α] {f : α → List AV} {sz : Nat} (hf : Emb f sz) (l m : List α) : subs0 [aL f sz (l ++ m)] [.sl sz (0 + l.length + m.length) (catEl (0 + l.length) (catEl 0 (elt []) (els f l)) (els f m))] := by
  refine ⟨?_, trivial⟩
  show cond (Nat.beq sz sz) _ False
  rw [Nat.beq_refl]
  refine ⟨⟨by show 0 + l.length + m.length = (l ++ m).length; simp⟩, fun i hi => ?_⟩
  exact els_of hf (l := l ++ m) (n := 0) (cat_app' (n := 0 + l.length) (Nat.zero_add _) (fun i _ => cat_nil f l i) (fun _ _ => rfl)) i hi
theorem all_to (l : List Itm) : ∀ x ∈ (allT l).bfs, x.to.length ≤ 64 := by
  rw [all_eq]
  intro x hx
  have h := (EB.build_ok (listsT l).bfs).1.1 x hx
  have r := rngB h
  omega
theorem merge_to (t u : Tbl) : ∀ x ∈ (mergeT t u).bfs, x.to.length ≤ 64 := by
  intro x hx
  have h := (EB.build_ok (t.bfs ++ u.bfs)).1.1 x hx
  have r := rngB h
  omega
theorem lens_all {l : List Itm} {n : Nat} (h : cntL l ≤ n) : lens (allT l) (2 * n) := by
  obtain ⟨a, b, c, d⟩ := all_len l
  exact ⟨by omega, by omega, by omega, by omega⟩
theorem lens_mono {t : Tbl} {n m : Nat} (h : lens t n) (hm : n ≤ m) : lens t m := by
  obtain ⟨a, b, c, d⟩ := h
  exact ⟨by omega, by omega, by omega, by omega⟩
theorem ents_le {l : List Itm} {n : Nat} (h : cntL l ≤ n) : ∀ x ∈ l, x.ents.length ≤ n := fun x hx => by
  obtain ⟨i, hi, rfl⟩ := List.getElem_of_mem hx
  have := cntL_at hi
  rw [getX hi] at this
  unfold cntX at this
  omega
end Go.Abs.Sm
set_option maxRecDepth 100000
namespace Go.Abs.Sm
open Go.RowKit Go.Proofs Go.Abs.Tab Go.Abs.Dest Go.Abs.Span Go.Abs.Coll Go.Abs.Hx Go.Abs.Mt Go.Abs.Rc
def wfE (e : Ent) : Prop := (wfI e.ln ∧ wfI e.lv) ∧ (wfI e.hn ∧ wfI e.hv) ∧ wfI e.to ∧ wfIs e.u ∧ ((e.l.length ≤ maxLen ∧ e.l.length * 24 ≤ reachBytes) ∧ ∀ x ∈ e.l, wfIs x)
def wfX (x : Itm) : Prop := wfI x.kind ∧ wfI x.at_ ∧ x.name.size ≤ maxLen ∧ (wfI x.tk ∧ wfI x.ta ∧ wfI x.tn ∧ x.ts.size ≤ maxLen) ∧ ((x.ents.length ≤ maxLen ∧ x.ents.length * 88 ≤ reachBytes) ∧ ∀ e ∈ x.ents, wfE e)
theorem opLL : OpZ Tryz.prog 67 (fun l : List (List Int) => [aL cU 1 l]) (fun l => (l.length ≤ maxLen ∧ l.length * 24 ≤ reachBytes) ∧ ∀ x ∈ l, wfIs x) := OpZ.slice Tryz.underlying67 (by kernel_rfl) (by kernel_rfl) cU_emb (OpA.z opInts)
theorem opTok : OpZ Tryz.prog 32 (fun a : Int × Int × Int × ByteArray => [.int .i64 a.1, .int .i64 a.2.1, .int .i64 a.2.2.1, .str a.2.2.2]) (fun a => wfI a.1 ∧ wfI a.2.1 ∧ wfI a.2.2.1 ∧ a.2.2.2.size ≤ maxLen) :=
  OpA.z (OpA.struct (n := 1 + (1 + (1 + 1))) Tryz.underlying32 (OpAF.cons opInt rfl (by kernel_rfl) (OpAF.cons opInt rfl (by kernel_rfl) (OpAF.cons opInt rfl (by kernel_rfl) (OpAF.one opStr rfl (by kernel_rfl))))) (by kernel_rfl))
theorem opEnt : OpZ Tryz.prog 71 cE wfE :=
  OpZ.iso (OpZ.struct (n := 2 + (2 + (1 + (1 + 1)))) Tryz.underlying71 (OpZF.cons opCode.z rfl (by kernel_rfl) (OpZF.cons opCode.z rfl (by kernel_rfl) (OpZF.cons opInt.z rfl (by kernel_rfl) (OpZF.cons opInts.z rfl (by kernel_rfl) (OpZF.one opLL rfl (by kernel_rfl)))))) (by kernel_rfl)) (fun a => ⟨a.1.1, a.1.2, a.2.1.1, a.2.1.2, a.2.2.1, a.2.2.2.1, a.2.2.2.2⟩) (fun _ => rfl) (fun _ h => h)
theorem opEnts : OpZ Tryz.prog 49 (fun l : List Ent => [aE l]) (fun l => (l.length ≤ maxLen ∧ l.length * 88 ≤ reachBytes) ∧ ∀ x ∈ l, wfE x) := OpZ.slice Tryz.underlying49 (by kernel_rfl) (by kernel_rfl) cE_emb opEnt
theorem opItm : OpZ Tryz.prog 51 cX wfX :=
  OpZ.iso (OpZ.struct (n := 1 + (1 + (1 + (4 + 1)))) Tryz.underlying51 (OpZF.cons opInt.z rfl (by kernel_rfl) (OpZF.cons opInt.z rfl (by kernel_rfl) (OpZF.cons opStr.z rfl (by kernel_rfl) (OpZF.cons opTok rfl (by kernel_rfl) (OpZF.one opEnts rfl (by kernel_rfl)))))) (by kernel_rfl)) (fun a => ⟨a.1, a.2.1, a.2.2.1, a.2.2.2.1.1, a.2.2.2.1.2.1, a.2.2.2.1.2.2.1, a.2.2.2.1.2.2.2, a.2.2.2.2⟩) (fun _ => rfl) (fun _ h => h)
theorem opItms : OpZ Tryz.prog 27 (fun l : List Itm => [aX l]) (fun l => (l.length ≤ maxLen ∧ l.length * 96 ≤ reachBytes) ∧ ∀ x ∈ l, wfX x) := OpZ.slice Tryz.underlying27 (by kernel_rfl) (by kernel_rfl) cX_emb opItm
theorem fits_of {l : List Itm} (h : (l.length ≤ maxLen ∧ l.length * 96 ≤ reachBytes) ∧ ∀ x ∈ l, wfX x) : fits l := by
  have hr : reachBytes = 140737488351232 := rfl
  obtain ⟨⟨_, h1⟩, h2⟩ := h
  refine ⟨by omega, fun x hx => ?_⟩
  obtain ⟨_, _, _, _, ⟨_, h3⟩, h4⟩ := h2 x hx
  refine ⟨by omega, fun e he => ?_⟩
  obtain ⟨_, _, _, _, ⟨_, h5⟩, _⟩ := h4 e he
  omega
end Go.Abs.Sm
