import Derived.Test.YtehknkgplldiiaaWWords
import Derived.WalkKit
import Derived.OpenShut
import Derived.ChangeArms
import Derived.DataReads
import Derived.DataElems
namespace Go.Proofs.YtehknkgplldiiaaX
open Go.RowKit Go.Proofs.YtehknkgplldiiaaW.PrintWords
set_option linter.unusedVariables false
section
variable {P : Program} {t e : TypeId} {α β : Type} {d : Kd α} {d' : Kd β} {wf : α → Prop} {wf' : β → Prop}
/-- Whatever reads as data at the type t is told by d, and meets wf. -/
def Opens (P : Program) (t : TypeId) {α : Type} (d : Kd α) (wf : α → Prop) : Prop :=
  ∀ {H : Type} (enc : TypeId × Value → H) (w : World) (base : Nat) (spare : Nat → Bool) (held : Bool) (fuel : Nat) (cs : List Value) (x : DataW H × List MemPlace),
    DataW.trod enc P w base spare held fuel t cs = some x → ∃ a : α, d.K w a cs ∧ wf a
theorem Opens.int {k : IntKind} (ht : P.underlying t = some (.int k)) : Opens P t (Kd.int k) (fun n => (Lit.int k n).wf = true) := by
  intro H enc w base spare held fuel cs x h
  obtain ⟨n, rfl, _, hw⟩ := DataW.trod_int ht h
  exact ⟨n, rfl, hw⟩
theorem Opens.bool (ht : P.underlying t = some .bool) : Opens P t Kd.bool (fun _ => True) := by
  intro H enc w base spare held fuel cs x h
  obtain ⟨n, rfl, _⟩ := DataW.trod_bool ht h
  exact ⟨n, rfl, trivial⟩
theorem Opens.string (ht : P.underlying t = some .string) : Opens P t Kd.string (fun s => s.size ≤ maxLen) := by
  intro H enc w base spare held fuel cs x h
  obtain ⟨n, rfl, _, hw⟩ := DataW.trod_string ht h
  exact ⟨n, rfl, hw⟩
theorem Opens.mono {wf2 : α → Prop} (h : Opens P t d wf) (hm : ∀ a, wf a → wf2 a) : Opens P t d wf2 := by
  intro H enc w base spare held fuel cs x hx
  obtain ⟨a, hk, hw⟩ := h enc w base spare held fuel cs x hx
  exact ⟨a, hk, hm a hw⟩
theorem list_of {n : Nat} {Q : Nat → α → Prop} (h : ∀ i, i < n → ∃ a, Q i a) : ∃ l : List α, l.length = n ∧ ∀ i a, l[i]? = some a → Q i a := by
  induction n with
  | zero => exact ⟨[], rfl, fun i a hi => by simp at hi⟩
  | succ n ih =>
    obtain ⟨l, hl, hq⟩ := ih (fun i hi => h i (by omega))
    obtain ⟨a, ha⟩ := h n (by omega)
    refine ⟨l ++ [a], by simp [hl], fun i b hi => ?_⟩
    by_cases hin : i < n
    · rw [List.getElem?_append_left (by omega)] at hi
      exact hq i b hi
    · have hlt : i < (l ++ [a]).length := (List.getElem?_eq_some_iff.1 hi).1
      obtain rfl : i = n := by simp [hl] at hlt; omega
      rw [List.getElem?_append_right (by omega), hl, Nat.sub_self] at hi
      obtain rfl := Option.some.inj hi
      exact ha
theorem Opens.slice (ht : P.underlying t = some (.slice e)) (hc : P.cellsOf e = d.sz) (he : Opens P e d wf) :
    Opens P t (Kd.slice e d) (fun l => l.length ≤ maxLen ∧ ∀ x ∈ l, wf x) := by
  intro H enc w base spare held fuel cs x h
  rcases DataW.trod_slice ht h with ⟨rfl, _⟩ | ⟨a, len, cap, elems, rest, n, _, rfl, _, hb, hl, hm, hlen, hel, _, _⟩
  · exact ⟨[], ⟨none, 0, rfl, Nat.le_refl _, Kd.C_nil d w⟩, by simp, fun x hx => by simp at hx⟩
  · have hex : ∀ i, i < len → ∃ b : α, wf b ∧ ∃ c, c.length = d.sz ∧ d.K w b c ∧ ∀ j u, c[j]? = some u → w.cell? (a.add (i * d.sz + j)) = some u := by
      intro i hi
      have h1 := hel i hi
      rw [List.getElem?_eq_getElem (by omega)] at h1
      obtain ⟨c, hcs, htr⟩ := Option.bind_eq_some_iff.mp h1
      obtain ⟨_, hcl, hat⟩ := World.cells?_some hcs
      obtain ⟨b, hK, hw⟩ := he enc w base spare held n c _ htr
      refine ⟨b, hw, c, by rw [hcl, hc], hK, fun j u hj => ?_⟩
      have hjl : j < c.length := (List.getElem?_eq_some_iff.1 hj).1
      have := hat j (by omega)
      rw [hj, hc] at this
      rw [← this, Addr.add_add]
    obtain ⟨l, hll, hq⟩ := list_of hex
    refine ⟨l, ⟨some a, cap, by rw [hll], by omega, ⟨rfl, ?_, fun _ => ⟨a, rfl, fun j p hj => ?_⟩⟩⟩, by omega, fun x hx => ?_⟩
    · have : (maxLen : Nat) ≤ 9223372036854775807 := by decide
      omega
    · obtain ⟨_, c, hcl, hK, hcell⟩ := hq j p hj
      exact ⟨c, hcl, hK, hcell⟩
    · obtain ⟨i, hi, rfl⟩ := List.getElem_of_mem hx
      exact (hq i _ (List.getElem?_eq_getElem hi)).1
/-- A run of a struct's fields, from a cell on. -/
def OpensF (P : Program) (fs : List Field) (off : Nat) {α : Type} (d : Kd α) (wf : α → Prop) : Prop :=
  ∀ {H : Type} (enc : TypeId × Value → H) (w : World) (base : Nat) (spare : Nat → Bool) (held : Bool) (fuel : Nat) (cs : List Value),
    (∀ (j : Nat) (f : Field), fs[j]? = some f → ∃ y, DataW.trod enc P w base spare held fuel f.type ((cs.drop f.offset).take (P.cellsOf f.type)) = some y) →
    cs.length = off + d.sz → ∃ a : α, d.K w a (cs.drop off) ∧ wf a
theorem OpensF.one {f : Field} {off : Nat} (hf : Opens P f.type d wf) (ho : f.offset = off) (hc : P.cellsOf f.type = d.sz) : OpensF P [f] off d wf := by
  intro H enc w base spare held fuel cs hx hl
  obtain ⟨y, hy⟩ := hx 0 f rfl
  obtain ⟨a, hK, hw⟩ := hf enc w base spare held fuel _ y hy
  rw [ho, hc, List.take_of_length_le (by rw [List.length_drop]; omega)] at hK
  exact ⟨a, hK, hw⟩
theorem OpensF.cons {f : Field} {fs : List Field} {off : Nat} (hf : Opens P f.type d wf) (ho : f.offset = off) (hc : P.cellsOf f.type = d.sz) (hr : OpensF P fs (off + d.sz) d' wf') :
    OpensF P (f :: fs) off (Kd.pair d d') (fun x => wf x.1 ∧ wf' x.2) := by
  intro H enc w base spare held fuel cs hx hl
  obtain ⟨y, hy⟩ := hx 0 f rfl
  obtain ⟨a, hK, hw⟩ := hf enc w base spare held fuel _ y hy
  obtain ⟨b, hK2, hw2⟩ := hr enc w base spare held fuel cs (fun j g hg => hx (j + 1) g hg) (by have : (Kd.pair d d').sz = d.sz + d'.sz := rfl; omega)
  rw [ho, hc] at hK
  refine ⟨(a, b), ⟨_, _, ?_, hK, hK2⟩, hw, hw2⟩
  rw [← List.drop_drop, List.take_append_drop]
theorem Opens.struct {fs : Array Field} (ht : P.underlying t = some (.struct fs)) (hf : OpensF P fs.toList 0 d wf) (hc : P.cellsOf t = d.sz) : Opens P t d wf := by
  intro H enc w base spare held fuel cs x h
  obtain ⟨xs, n, rfl, _, hlen, hxl, hget⟩ := DataW.trod_struct ht h
  obtain ⟨a, hK, hw⟩ := hf enc w base spare held n cs (fun j f hj => by
    have hj' : fs[j]? = some f := by simpa using hj
    have hjl : j < fs.size := (Array.getElem?_eq_some_iff.1 hj').1
    exact ⟨_, (hget j f hj').trans (List.getElem?_eq_getElem (by omega))⟩) (by omega)
  exact ⟨a, by simpa using hK, hw⟩
theorem Opens.iso {f : β → α} (g : α → β) (hg : ∀ a, f (g a) = a) (h : Opens P t d wf) : Opens P t (Kd.iso d f) (fun b => wf (f b)) := by
  intro H enc w base spare held fuel cs x hx
  obtain ⟨a, hK, hw⟩ := h enc w base spare held fuel cs x hx
  refine ⟨g a, ?_, ?_⟩
  · show d.K w (f (g a)) cs
    rw [hg]
    exact hK
  · show wf (f (g a))
    rw [hg]
    exact hw
end
end Go.Proofs.YtehknkgplldiiaaX
