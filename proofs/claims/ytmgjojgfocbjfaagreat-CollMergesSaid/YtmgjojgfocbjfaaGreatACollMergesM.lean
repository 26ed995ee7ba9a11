/- CollMerges by the engine (merged). -/
import Derived.Test.YtmgjojgfocbjfaaGreatAbsSpec
import Derived.WalkKit
import Derived.OpenShut
import Derived.ChangeArms
import Derived.DataReads
import Derived.DataElems
import Derived.Test.YtmgjojgfocbjfaaGreatADestA
import Derived.Test.YtmgjojgfocbjfaaGreatATbl
import Derived.Test.YtmgjojgfocbjfaaGreatAbsCodes
import Derived.Shelf.Strings.Builder1
import Derived.Shelf.Strings.BuilderF
import Derived.Shelf.Strings.BuilderK
import Derived.Shelf.Strings.BuilderRune
import Derived.Test.YtmgjojgfocbjfaaGreatProg
import Derived.Shelf.Abstract
import Derived.Shelf.RegionOpen
import Derived.LoopN
import Derived.Deep.LoopGhost
import Derived.Test.YtmgjojgfocbjfaaGreatASemP
import Derived.Test.YtmgjojgfocbjfaaGreatASpanK
import Derived.Test.YtmgjojgfocbjfaaGreatADestD
import Derived.Lib.AppendZerosOnto
import Derived.Deep.Draws
import Derived.OwnWalk
import Derived.OrdersHeld
import Derived.Shelf.Spec.SlicesInsertGrow
set_option linter.all false
namespace Go.Abs
open Go.RowKit
section
variable {P : Program} {t e : TypeId} {α β : Type} {f : α → List AV} {f' : β → List AV} {wf : α → Prop} {wf' : β → Prop} {sz sz' : Nat}
/-- The blocks there are. -/
def Sall (w : World) (b : Nat) : Prop := b < w.heap.size
/-- Whatever reads as data at the type t is told by f, and meets wf. -/
def OpA (P : Program) (t : TypeId) {α : Type} (f : α → List AV) (wf : α → Prop) : Prop :=
  ∀ {H : Type} (enc : TypeId × Value → H) (w : World) (base : Nat) (spare : Nat → Bool) (held : Bool) (fuel : Nat) (cs : List Value) (x : DataW H × List MemPlace),
    DataW.trod enc P w base spare held fuel t cs = some x → ∃ a : α, RVs0 w (Sall w) (f a) cs ∧ wf a
theorem rvs1 {w : World} {S : Nat → Prop} {a : AV} {v : Value} (h : RV0 w S a v) : RVs0 w S [a] [v] := ⟨rfl, fun i x u h1 h2 => by
  cases i with
  | zero => simp at h1 h2; subst h1; subst h2; exact h
  | succ i => simp at h1⟩
theorem OpA.int {k : IntKind} (ht : P.underlying t = some (.int k)) : OpA P t (fun n : Int => [.int k n]) (fun n => (Lit.int k n).wf = true) := by
  intro H enc w base spare held fuel cs x h
  obtain ⟨n, rfl, _, hw⟩ := DataW.trod_int ht h
  exact ⟨n, rvs1 (.int _ _), hw⟩
theorem OpA.bool (ht : P.underlying t = some .bool) : OpA P t (fun b : Bool => [.sb b]) (fun _ => True) := by
  intro H enc w base spare held fuel cs x h
  obtain ⟨n, rfl, _⟩ := DataW.trod_bool ht h
  exact ⟨n, rvs1 (.sb _), trivial⟩
theorem OpA.string (ht : P.underlying t = some .string) : OpA P t (fun s : ByteArray => [.str s]) (fun s => s.size ≤ maxLen) := by
  intro H enc w base spare held fuel cs x h
  obtain ⟨n, rfl, _, hw⟩ := DataW.trod_string ht h
  exact ⟨n, rvs1 (.str _), hw⟩
theorem OpA.mono {wf2 : α → Prop} (h : OpA P t f wf) (hm : ∀ a, wf a → wf2 a) : OpA P t f wf2 := by
  intro H enc w base spare held fuel cs x hx
  obtain ⟨a, hk, hw⟩ := h enc w base spare held fuel cs x hx
  exact ⟨a, hk, hm a hw⟩
theorem list_of {n : Nat} {Q : Nat → α → Prop} (h : ∀ i, i < n → ∃ a, Q i a) : ∃ l : List α, l.length = n ∧ ∀ i a, l[i]? = some a → Q i a := by
  induction n with
  | zero => exact ⟨[], rfl, fun i a hi => by simp at hi⟩
  | succ n ih =>
    obtain ⟨l, hl, hq⟩ := ih (fun i hi => h i (by omega))
    obtain ⟨a, ha⟩ := h n (by omega)
    refine ⟨l ++ [a], by simp [hl], fun i b hi => ?_⟩
    by_cases hin : i < n
    · rw [List.getElem?_append_left (by omega)] at hi
      exact hq i b hi
    · have hlt : i < (l ++ [a]).length := (List.getElem?_eq_some_iff.1 hi).1
      obtain rfl : i = n := by simp [hl] at hlt; omega
      rw [List.getElem?_append_right (by omega), hl, Nat.sub_self] at hi
      obtain rfl := Option.some.inj hi
      exact ha
theorem OpA.slice [Inhabited α] (ht : P.underlying t = some (.slice e)) (hc : P.cellsOf e = sz) (hf : Emb f sz) (he : OpA P e f wf) :
    OpA P t (fun l : List α => [aL f sz l]) (fun l => l.length ≤ maxLen ∧ ∀ x ∈ l, wf x) := by
  intro H enc w base spare held fuel cs x h
  rcases DataW.trod_slice ht h with ⟨rfl, _⟩ | ⟨a, len, cap, elems, rest, n, _, rfl, _, hb, hl, hm, hlen, hel, _, _⟩
  · exact ⟨[], rvs1 (.sl _ _ _ none 0 (fun _ _ => undef) (Nat.le_refl _) (Nat.zero_le _) (fun i hi => by simp at hi) (fun i j hi => by simp at hi) (fun i j a hi => by simp at hi)), Nat.zero_le _, fun x hx => by simp at hx⟩
  · have hex : ∀ i, i < len → ∃ b : α, wf b ∧ ∃ c, c.length = sz ∧ RVs0 w (Sall w) (f b) c ∧ ∀ j u, c[j]? = some u → w.cell? (a.add (i * sz + j)) = some u := by
      intro i hi
      have h1 := hel i hi
      rw [List.getElem?_eq_getElem (by omega)] at h1
      obtain ⟨c, hcs, htr⟩ := Option.bind_eq_some_iff.mp h1
      obtain ⟨_, hcl, hat⟩ := World.cells?_some hcs
      obtain ⟨b, hK, hw⟩ := he enc w base spare held n c _ htr
      refine ⟨b, hw, c, by rw [hcl, hc], hK, fun j u hj => ?_⟩
      have hjl : j < c.length := (List.getElem?_eq_some_iff.1 hj).1
      have := hat j (by omega)
      rw [hj, hc] at this
      rw [← this, Addr.add_add]
    obtain ⟨l, hll, hq⟩ := list_of hex
    have hget : ∀ i, i < l.length → l[i]? = some (l.getD i default) := fun i hi => by simp [List.getD, hi]
    refine ⟨l, rvs1 ?_, by omega, fun x hx => ?_⟩
    · subst hll
      refine .sl _ _ _ (some a) cap (fun i j => (w.cell? (a.add (i * sz + j))).getD undef) (by omega) (by omega) (fun i hi => ⟨(hf _).2.2, (hf _).1⟩) (fun i j hi hj => ?_) (fun i j x hi hx => ?_)
      · obtain ⟨_, c, hcl, hK, hcell⟩ := hq i _ (hget i hi)
        have h1 := hcell j c[j] (List.getElem?_eq_getElem (by omega))
        refine ⟨a, rfl, ?_, by rw [h1]; rfl⟩
        have h2 := World.block_lt_of_cell? _ _ h1
        have h3 : (a.add (i * sz + j)).block = a.block := by unfold Addr.add; split <;> rfl
        exact h3 ▸ h2
      · obtain ⟨_, c, hcl, hK, hcell⟩ := hq i _ (hget i hi)
        have hj : j < sz := by rw [← (hf (l.getD i default)).2.2]; exact (List.getElem?_eq_some_iff.1 hx).1
        have h1 := hcell j c[j] (List.getElem?_eq_getElem (by omega))
        rw [h1]
        exact hK.2 j x _ hx (List.getElem?_eq_getElem (by omega))
    · obtain ⟨i, hi, rfl⟩ := List.getElem_of_mem hx
      exact (hq i _ (List.getElem?_eq_getElem hi)).1
/-- A run of a struct's fields, from a cell on. -/
def OpAF (P : Program) (fs : List Field) (off n : Nat) {α : Type} (f : α → List AV) (wf : α → Prop) : Prop :=
  ∀ {H : Type} (enc : TypeId × Value → H) (w : World) (base : Nat) (spare : Nat → Bool) (held : Bool) (fuel : Nat) (cs : List Value),
    (∀ (j : Nat) (fl : Field), fs[j]? = some fl → ∃ y, DataW.trod enc P w base spare held fuel fl.type ((cs.drop fl.offset).take (P.cellsOf fl.type)) = some y) →
    cs.length = off + n → ∃ a : α, RVs0 w (Sall w) (f a) (cs.drop off) ∧ wf a
theorem OpAF.one {fl : Field} {off n : Nat} (hf : OpA P fl.type f wf) (ho : fl.offset = off) (hc : P.cellsOf fl.type = n) : OpAF P [fl] off n f wf := by
  intro H enc w base spare held fuel cs hx hl
  obtain ⟨y, hy⟩ := hx 0 fl rfl
  obtain ⟨a, hK, hw⟩ := hf enc w base spare held fuel _ y hy
  rw [ho, hc, List.take_of_length_le (by rw [List.length_drop]; omega)] at hK
  exact ⟨a, hK, hw⟩
theorem RVs0.append {w : World} {S : Nat → Prop} {xs1 bs : List AV} {us vs : List Value} (h : RVs0 w S xs1 us) (k : RVs0 w S bs vs) : RVs0 w S (xs1 ++ bs) (us ++ vs) := by
  refine ⟨by rw [List.length_append, List.length_append, h.1, k.1], fun i a v h1 h2 => ?_⟩
  by_cases hi : i < xs1.length
  · rw [List.getElem?_append_left hi] at h1
    rw [List.getElem?_append_left (by rw [h.1]; exact hi)] at h2
    exact h.2 i a v h1 h2
  · rw [List.getElem?_append_right (by omega)] at h1
    rw [List.getElem?_append_right (by rw [h.1]; omega), h.1] at h2
    exact k.2 _ a v h1 h2
theorem OpAF.cons {fl : Field} {fs : List Field} {off n m : Nat} (hf : OpA P fl.type f wf) (ho : fl.offset = off) (hc : P.cellsOf fl.type = n) (hr : OpAF P fs (off + n) m f' wf') :
    OpAF P (fl :: fs) off (n + m) (fun x : α × β => f x.1 ++ f' x.2) (fun x => wf x.1 ∧ wf' x.2) := by
  intro H enc w base spare held fuel cs hx hl
  obtain ⟨y, hy⟩ := hx 0 fl rfl
  obtain ⟨a, hK, hw⟩ := hf enc w base spare held fuel _ y hy
  obtain ⟨b, hK2, hw2⟩ := hr enc w base spare held fuel cs (fun j g hg => hx (j + 1) g hg) (by omega)
  rw [ho, hc] at hK
  refine ⟨(a, b), ?_, hw, hw2⟩
  have := RVs0.append hK hK2
  rwa [← List.drop_drop, List.take_append_drop] at this
theorem OpA.struct {fs : Array Field} {n : Nat} (ht : P.underlying t = some (.struct fs)) (hf : OpAF P fs.toList 0 n f wf) (hc : P.cellsOf t = n) : OpA P t f wf := by
  intro H enc w base spare held fuel cs x h
  obtain ⟨xs, m, rfl, _, hlen, hxl, hget⟩ := DataW.trod_struct ht h
  obtain ⟨a, hK, hw⟩ := hf enc w base spare held m cs (fun j fl hj => by
    have hj' : fs[j]? = some fl := by simpa using hj
    have hjl : j < fs.size := (Array.getElem?_eq_some_iff.1 hj').1
    exact ⟨_, (hget j fl hj').trans (List.getElem?_eq_getElem (by omega))⟩) (by omega)
  exact ⟨a, by simpa using hK, hw⟩
theorem OpA.iso {g : β → List AV} (h : OpA P t f wf) (to : α → β) (hg : ∀ a, g (to a) = f a) (hw : ∀ a, wf a → wf' (to a)) : OpA P t g wf' := by
  intro H enc w base spare held fuel cs x hx
  obtain ⟨a, hk, hwf⟩ := h enc w base spare held fuel cs x hx
  exact ⟨to a, by rw [hg]; exact hk, hw a hwf⟩
end
end Go.Abs
set_option maxRecDepth 100000
namespace Go.Abs.Dest
open Go.RowKit Go.Proofs
abbrev wfI (n : Int) : Prop := (Lit.int .i64 n).wf = true
def wfIs (l : List Int) : Prop := l.length ≤ maxLen ∧ ∀ x ∈ l, wfI x
def wfB (b : Bf) : Prop := wfI b.n ∧ wfI b.lo ∧ wfI b.hi ∧ wfIs b.to
theorem opInt : OpA Tryz.prog 3 (fun n : Int => [.int .i64 n]) wfI := OpA.int Tryz.underlying3
theorem opInts : OpA Tryz.prog 42 (fun l : List Int => [aI l]) wfIs := OpA.slice Tryz.underlying42 (by kernel_rfl) ci_emb opInt
theorem opBf : OpA Tryz.prog 44 cBf wfB :=
  OpA.iso (OpA.struct (n := 1 + (1 + (1 + 1))) Tryz.underlying44 (OpAF.cons opInt rfl (by kernel_rfl) (OpAF.cons opInt rfl (by kernel_rfl) (OpAF.cons opInt rfl (by kernel_rfl) (OpAF.one opInts rfl (by kernel_rfl))))) (by kernel_rfl)) (fun a => ⟨a.1, a.2.1, a.2.2.1, a.2.2.2⟩) (fun _ => rfl) (fun _ h => h)
theorem opBfs : OpA Tryz.prog 24 (fun l : List Bf => [aB l]) (fun l => l.length ≤ maxLen ∧ ∀ x ∈ l, wfB x) := OpA.slice Tryz.underlying24 (by kernel_rfl) cBf_emb opBf
theorem opCode : OpA Tryz.prog 41 (fun x : Int × Int => [.int .i64 x.1, .int .i64 x.2]) (fun x => wfI x.1 ∧ wfI x.2) :=
  OpA.iso (OpA.struct (n := 1 + 1) Tryz.underlying41 (OpAF.cons opInt rfl (by kernel_rfl) (OpAF.one opInt rfl (by kernel_rfl))) (by kernel_rfl)) (fun a => a) (fun _ => rfl) (fun _ h => h)
end Go.Abs.Dest
set_option maxRecDepth 100000
namespace Go.Abs.Coll
open Go.RowKit Go.Proofs Go.Abs.Dest Go.Abs.Span
theorem wfI_rng {n : Int} (h : wfI n) : -9223372036854775808 ≤ n ∧ n ≤ 9223372036854775807 := by
  have h : (decide (IntKind.i64.min ≤ n) && decide (n ≤ IntKind.i64.max)) = true := h
  rw [Bool.and_eq_true, decide_eq_true_eq, decide_eq_true_eq] at h
  exact h
def wfR (r : Rct) : Prop := wfI r.n ∧ wfI r.lo ∧ wfI r.hi
def wfS (s : Spn) : Prop := wfI s.n ∧ wfI s.lo ∧ wfI s.hi ∧ wfI s.to
def wfT (t : Tbl) : Prop := t.name.size ≤ maxLen ∧ wfI t.wmode ∧ (t.spaces.length ≤ maxLen ∧ ∀ x ∈ t.spaces, wfR x) ∧ (t.cids.length ≤ maxLen ∧ ∀ x ∈ t.cids, wfS x) ∧ (t.nots.length ≤ maxLen ∧ ∀ x ∈ t.nots, wfS x) ∧ (t.bfs.length ≤ maxLen ∧ ∀ x ∈ t.bfs, wfB x)
theorem opStr : OpA Tryz.prog 9 (fun s : ByteArray => [.str s]) (fun s => s.size ≤ maxLen) := OpA.string Tryz.underlying9
theorem opRct : OpA Tryz.prog 50 cR wfR :=
  OpA.iso (OpA.struct (n := 1 + (1 + 1)) Tryz.underlying50 (OpAF.cons opInt rfl (by kernel_rfl) (OpAF.cons opInt rfl (by kernel_rfl) (OpAF.one opInt rfl (by kernel_rfl)))) (by kernel_rfl)) (fun a => ⟨a.1, a.2.1, a.2.2⟩) (fun _ => rfl) (fun _ h => h)
theorem opSpn : OpA Tryz.prog 56 cSp wfS :=
  OpA.iso (OpA.struct (n := 1 + (1 + (1 + 1))) Tryz.underlying56 (OpAF.cons opInt rfl (by kernel_rfl) (OpAF.cons opInt rfl (by kernel_rfl) (OpAF.cons opInt rfl (by kernel_rfl) (OpAF.one opInt rfl (by kernel_rfl))))) (by kernel_rfl)) (fun a => ⟨a.1, a.2.1, a.2.2.1, a.2.2.2⟩) (fun _ => rfl) (fun _ h => h)
theorem opRcts : OpA Tryz.prog 22 (fun l : List Rct => [aR l]) (fun l => l.length ≤ maxLen ∧ ∀ x ∈ l, wfR x) := OpA.slice Tryz.underlying22 (by kernel_rfl) cR_emb opRct
theorem opSpns : OpA Tryz.prog 23 (fun l : List Spn => [aS l]) (fun l => l.length ≤ maxLen ∧ ∀ x ∈ l, wfS x) := OpA.slice Tryz.underlying23 (by kernel_rfl) cSp_emb opSpn
theorem opTbl : OpA Tryz.prog 26 cT wfT :=
  OpA.iso (OpA.struct (n := 1 + (1 + (1 + (1 + (1 + 1))))) Tryz.underlying26 (OpAF.cons opStr rfl (by kernel_rfl) (OpAF.cons opInt rfl (by kernel_rfl) (OpAF.cons opRcts rfl (by kernel_rfl) (OpAF.cons opSpns rfl (by kernel_rfl) (OpAF.cons opSpns rfl (by kernel_rfl) (OpAF.one opBfs rfl (by kernel_rfl))))))) (by kernel_rfl)) (fun a => ⟨a.1, a.2.1, a.2.2.1, a.2.2.2.1, a.2.2.2.2.1, a.2.2.2.2.2⟩) (fun _ => rfl) (fun _ h => h)
end Go.Abs.Coll
set_option maxRecDepth 100000
namespace Go.Abs.Coll
open Go.RowKit Go.Proofs Go.Abs.Tab Go.Abs.Dest Go.Abs.Span
/-- Those of numbers. -/
def two (l : List Bf) : List Bf := l.filter fun b => b.n == 2
def ents (l : List Bf) : List Bf := if EB.canon l = true then two l else []
theorem two_next {l : List Bf} {k : Nat} (hk : k < l.length) : two (l.take (k + 1)) = if (l.getD k default).n = 2 then two (l.take k) ++ [l.getD k default] else two (l.take k) := by
  unfold two
  rw [List.take_succ_eq_append_getElem hk, List.filter_append, getB hk]
  by_cases h : l[k].n = 2
  · rw [if_pos h]
    simp [List.filter_cons, h]
  · rw [if_neg h]
    simp [List.filter_cons, h]
theorem two_len (l : List Bf) : (two l).length ≤ l.length := List.length_filter_le _ _
def SEnts : Sp := ⟨Tbl, fun t => t.bfs.length ≤ 1000000, fun t => [.agg (cT t)], fun t => .row 44 4 (ents t.bfs).length (els cBf (ents t.bfs))⟩
set_option maxHeartbeats 4000000 in
theorem entries : SpOK Tryz.prog 26 SEnts := fun (t : Tbl) hl => by
  have hC : COK Tryz.prog (cfg [(18, SCanon)]) := Ty.ty.cfg ⟨canonB, trivial⟩
  have hl : t.bfs.length ≤ 1000000 := hl
  ((refine Fn.ofF hC Tryz.func26 Tryz.ntmps26 rfl rfl rfl ?_); (repeat' first | (with_reducible exact trivial) | (with_reducible rfl) | (refine And.intro ?_ ?_) | (refine Need.mk ?_) | exact True.intro | (first | (refine ⟨_, Told.refl _, ?_, ?_⟩) | (refine ⟨⟨_, _⟩, Told.refl _, ?_, ?_⟩) | (refine ⟨⟨_, _, _⟩, Told.refl _, ?_, ?_⟩) | (refine ⟨⟨_, _, _, _⟩, Told.refl _, ?_, ?_⟩) | (refine ⟨⟨_, _, _, _, _⟩, Told.refl _, ?_, ?_⟩) | (refine ⟨(), Told.refl _, ?_, ?_⟩)) | (with_reducible intro _) | (refine fun (_ : Bool) => ?_)))
  · show t.bfs.length < _
    omega
  · rename_i h
    unfold ents
    rw [if_neg (by simpa using h)]
    rfl
  · rename_i h
    have hc : EB.canon t.bfs = true := by simpa using h
    refine AW.loop (I := fun k : Nat => ⟨26, [(3, .own 0), (11, aB t.bfs), (12, .int .i64 t.bfs.length), (13, .int .i64 k)], [.row 44 4 (two (t.bfs.take k)).length (els cBf (two (t.bfs.take k)))]⟩) (fun k => k ≤ t.bfs.length) (fun k => t.bfs.length - k) 0 (Nat.zero_le _) ?_ ?_
    · (repeat' first | (with_reducible exact trivial) | (with_reducible rfl) | (refine And.intro ?_ ?_) | (refine Need.mk ?_) | exact True.intro | (first | (refine ⟨_, Told.refl _, ?_, ?_⟩) | (refine ⟨⟨_, _⟩, Told.refl _, ?_, ?_⟩) | (refine ⟨⟨_, _, _⟩, Told.refl _, ?_, ?_⟩) | (refine ⟨⟨_, _, _, _⟩, Told.refl _, ?_, ?_⟩) | (refine ⟨⟨_, _, _, _, _⟩, Told.refl _, ?_, ?_⟩) | (refine ⟨(), Told.refl _, ?_, ?_⟩)) | (with_reducible intro _) | (refine fun (_ : Bool) => ?_))
      all_goals rfl
    · intro k hk
      rcases Nat.lt_or_ge k t.bfs.length with hlt | hge
      · have hd : decide ((k : Int) < (t.bfs.length : Int)) = true := decide_eq_true (by omega)
        have hw := iw (n := (k : Int) + 1) (by omega) (by omega)
        have hnx := two_next hlt
        have h2 := two_len (t.bfs.take k)
        have h3 : (t.bfs.take k).length ≤ t.bfs.length := by rw [List.length_take]; omega
        ((refine AW.byF ‹_› ?_); (repeat' first | (with_reducible exact trivial) | (with_reducible rfl) | (refine And.intro ?_ ?_) | (refine Need.mk ?_) | exact True.intro | (first | (refine ⟨_, Told.refl _, ?_, ?_⟩) | (refine ⟨⟨_, _⟩, Told.refl _, ?_, ?_⟩) | (refine ⟨⟨_, _, _⟩, Told.refl _, ?_, ?_⟩) | (refine ⟨⟨_, _, _, _⟩, Told.refl _, ?_, ?_⟩) | (refine ⟨⟨_, _, _, _, _⟩, Told.refl _, ?_, ?_⟩) | (refine ⟨(), Told.refl _, ?_, ?_⟩)) | (with_reducible intro _) | (refine fun (_ : Bool) => ?_)))
        all_goals first | (exact absurd ‹decide ((k : Int) < (t.bfs.length : Int)) = false› (by rw [hd]; decide)) | skip
        any_goals (refine Exists.intro (k + 1) (And.intro ?_ (And.intro ?_ ?_)); all_goals (repeat' first | (with_reducible exact trivial) | (with_reducible rfl) | (refine And.intro ?_ ?_) | (refine Need.mk ?_) | exact True.intro | (first | (refine ⟨_, Told.refl _, ?_, ?_⟩) | (refine ⟨⟨_, _⟩, Told.refl _, ?_, ?_⟩) | (refine ⟨⟨_, _, _⟩, Told.refl _, ?_, ?_⟩) | (refine ⟨⟨_, _, _, _⟩, Told.refl _, ?_, ?_⟩) | (refine ⟨⟨_, _, _, _, _⟩, Told.refl _, ?_, ?_⟩) | (refine ⟨(), Told.refl _, ?_, ?_⟩)) | (with_reducible intro _) | (refine fun (_ : Bool) => ?_)))
        all_goals first
          | omega
          | (dsimp only; omega)
          | (rw [hw]; omega)
          | (have q : (t.bfs.getD k default).n = 2 := by simpa using ‹((t.bfs.getD (k : Int).toNat default).n == 2) = true›
             rw [if_pos q] at hnx
             first
               | (rw [hnx, List.length_append]; rfl)
               | (have hi := ‹_ < (two (t.bfs.take (k + 1))).length›
                  rw [hnx] at hi ⊢
                  exact els_of cBf_emb (n := 0) (cat_snoc' rfl (fun _ _ => rfl)) _ hi))
          | (have q : ¬ (t.bfs.getD k default).n = 2 := by simpa using ‹((t.bfs.getD (k : Int).toNat default).n == 2) = false›
             rw [if_neg q] at hnx
             rw [hnx])
      · obtain rfl : k = t.bfs.length := by omega
        have hd : decide ((t.bfs.length : Int) < (t.bfs.length : Int)) = false := decide_eq_false (by omega)
        have hr : ents t.bfs = two (t.bfs.take t.bfs.length) := by
          unfold ents
          rw [if_pos hc, List.take_length]
        ((refine AW.byF ‹_› ?_); (repeat' first | (with_reducible exact trivial) | (with_reducible rfl) | (refine And.intro ?_ ?_) | (refine Need.mk ?_) | exact True.intro | (first | (refine ⟨_, Told.refl _, ?_, ?_⟩) | (refine ⟨⟨_, _⟩, Told.refl _, ?_, ?_⟩) | (refine ⟨⟨_, _, _⟩, Told.refl _, ?_, ?_⟩) | (refine ⟨⟨_, _, _, _⟩, Told.refl _, ?_, ?_⟩) | (refine ⟨⟨_, _, _, _, _⟩, Told.refl _, ?_, ?_⟩) | (refine ⟨(), Told.refl _, ?_, ?_⟩)) | (with_reducible intro _) | (refine fun (_ : Bool) => ?_)))
        all_goals first | (exact absurd ‹decide ((t.bfs.length : Int) < (t.bfs.length : Int)) = true› (by rw [hd]; decide)) | skip
        all_goals rw [hr]
/-- How many codes there are. -/
def cnt : List Bf → Int
  | [] => 0
  | b :: l => (b.hi - b.lo + 1) + cnt l
theorem cnt_snoc (l : List Bf) (b : Bf) : cnt (l ++ [b]) = cnt l + (b.hi - b.lo + 1) := by
  induction l with
  | nil => simp [cnt]
  | cons x l ih => simp only [List.cons_append, cnt, ih]; omega
theorem ents_sane {l : List Bf} : ∀ x ∈ ents l, sane x = true ∧ x.n = 2 ∧ x ∈ l := by
  intro x hx
  unfold ents at hx
  split at hx
  · rename_i hc
    obtain ⟨h1, h2⟩ := List.mem_filter.1 hx
    exact ⟨((EB.canon_iff l).1 hc).1 x h1, by simpa using h2, h1⟩
  · cases hx
theorem ents_len (l : List Bf) : (ents l).length ≤ l.length := by
  unfold ents
  split
  · exact two_len l
  · exact Nat.zero_le _
theorem cnt_rng {l : List Bf} (h : ∀ x ∈ l, sane x = true) : 0 ≤ cnt l ∧ cnt l ≤ 65536 * l.length := by
  induction l with
  | nil => exact ⟨Int.le_refl _, Int.le_refl _⟩
  | cons x l ih =>
    have i := ih (fun y hy => h y (List.mem_cons_of_mem _ hy))
    have r := rngB (h x List.mem_cons_self)
    simp only [cnt, List.length_cons]
    omega
def SCnt : Sp := ⟨Tbl, fun t => t.bfs.length ≤ 1000000, fun t => [.agg (cT t)], fun t => .st (.int .i64 (cnt (ents t.bfs)))⟩
set_option maxHeartbeats 4000000 in
theorem count : SpOK Tryz.prog 10 SCnt := fun (t : Tbl) hl => by
  have hC : COK Tryz.prog (cfg [(26, SEnts)]) := Ty.ty.cfg ⟨entries, trivial⟩
  have hl : t.bfs.length ≤ 1000000 := hl
  have hel := ents_len t.bfs
  have hes := ents_sane (l := t.bfs)
  ((refine Fn.ofF hC Tryz.func10 Tryz.ntmps10 rfl rfl rfl ?_); (repeat' first | (with_reducible exact trivial) | (with_reducible rfl) | (refine And.intro ?_ ?_) | (refine Need.mk ?_) | exact True.intro | (first | (refine ⟨_, Told.refl _, ?_, ?_⟩) | (refine ⟨⟨_, _⟩, Told.refl _, ?_, ?_⟩) | (refine ⟨⟨_, _, _⟩, Told.refl _, ?_, ?_⟩) | (refine ⟨⟨_, _, _, _⟩, Told.refl _, ?_, ?_⟩) | (refine ⟨⟨_, _, _, _, _⟩, Told.refl _, ?_, ?_⟩) | (refine ⟨(), Told.refl _, ?_, ?_⟩)) | (with_reducible intro _) | (refine fun (_ : Bool) => ?_)))
  · exact hl
  refine AW.loop (I := fun k : Nat => ⟨23, [(3, .int .i64 (cnt ((ents t.bfs).take k))), (7, .own 0), (8, .int .i64 (ents t.bfs).length), (9, .int .i64 k)], [.row 44 4 (ents t.bfs).length (els cBf (ents t.bfs))]⟩) (fun k => k ≤ (ents t.bfs).length) (fun k => (ents t.bfs).length - k) 0 (Nat.zero_le _) ?_ ?_
  · (repeat' first | (with_reducible exact trivial) | (with_reducible rfl) | (refine And.intro ?_ ?_) | (refine Need.mk ?_) | exact True.intro | (first | (refine ⟨_, Told.refl _, ?_, ?_⟩) | (refine ⟨⟨_, _⟩, Told.refl _, ?_, ?_⟩) | (refine ⟨⟨_, _, _⟩, Told.refl _, ?_, ?_⟩) | (refine ⟨⟨_, _, _, _⟩, Told.refl _, ?_, ?_⟩) | (refine ⟨⟨_, _, _, _, _⟩, Told.refl _, ?_, ?_⟩) | (refine ⟨(), Told.refl _, ?_, ?_⟩)) | (with_reducible intro _) | (refine fun (_ : Bool) => ?_))
    all_goals rfl
  · intro k hk
    rcases Nat.lt_or_ge k (ents t.bfs).length with hlt | hge
    · have hd : decide ((k : Int) < ((ents t.bfs).length : Int)) = true := decide_eq_true (by omega)
      have hw := iw (n := (k : Int) + 1) (by omega) (by omega)
      have hx := (hes _ (getMem hlt)).1
      have r := rngB hx
      have hc := cnt_rng (l := (ents t.bfs).take k) (fun x hx => (hes x (List.mem_of_mem_take hx)).1)
      have hcl : ((ents t.bfs).take k).length ≤ 1000000 := by rw [List.length_take]; omega
      have hnx : cnt ((ents t.bfs).take (k + 1)) = cnt ((ents t.bfs).take k) + (((ents t.bfs).getD k default).hi - ((ents t.bfs).getD k default).lo + 1) := by
        rw [List.take_succ_eq_append_getElem hlt, cnt_snoc, getB hlt]
      ((refine AW.byF ‹_› ?_); (repeat' first | (with_reducible exact trivial) | (with_reducible rfl) | (refine And.intro ?_ ?_) | (refine Need.mk ?_) | exact True.intro | (first | (refine ⟨_, Told.refl _, ?_, ?_⟩) | (refine ⟨⟨_, _⟩, Told.refl _, ?_, ?_⟩) | (refine ⟨⟨_, _, _⟩, Told.refl _, ?_, ?_⟩) | (refine ⟨⟨_, _, _, _⟩, Told.refl _, ?_, ?_⟩) | (refine ⟨⟨_, _, _, _, _⟩, Told.refl _, ?_, ?_⟩) | (refine ⟨(), Told.refl _, ?_, ?_⟩)) | (with_reducible intro _) | (refine fun (_ : Bool) => ?_)))
      all_goals first | (exact absurd ‹decide ((k : Int) < ((ents t.bfs).length : Int)) = false› (by rw [hd]; decide)) | skip
      any_goals (refine Exists.intro (k + 1) (And.intro ?_ (And.intro ?_ ?_)); all_goals (repeat' first | (with_reducible exact trivial) | (with_reducible rfl) | (refine And.intro ?_ ?_) | (refine Need.mk ?_) | exact True.intro | (first | (refine ⟨_, Told.refl _, ?_, ?_⟩) | (refine ⟨⟨_, _⟩, Told.refl _, ?_, ?_⟩) | (refine ⟨⟨_, _, _⟩, Told.refl _, ?_, ?_⟩) | (refine ⟨⟨_, _, _, _⟩, Told.refl _, ?_, ?_⟩) | (refine ⟨⟨_, _, _, _, _⟩, Told.refl _, ?_, ?_⟩) | (refine ⟨(), Told.refl _, ?_, ?_⟩)) | (with_reducible intro _) | (refine fun (_ : Bool) => ?_)))
      all_goals try simp only [Int.toNat_natCast] at *
      all_goals first
        | omega
        | (rw [hw]; omega)
        | (rw [hnx, iw (n := ((ents t.bfs).getD k default).hi - ((ents t.bfs).getD k default).lo) (by omega) (by omega), iw (n := ((ents t.bfs).getD k default).hi - ((ents t.bfs).getD k default).lo + 1) (by omega) (by omega), iw (by omega) (by omega)])
    · obtain rfl : k = (ents t.bfs).length := by omega
      have hd : decide (((ents t.bfs).length : Int) < ((ents t.bfs).length : Int)) = false := decide_eq_false (by omega)
      ((refine AW.byF ‹_› ?_); (repeat' first | (with_reducible exact trivial) | (with_reducible rfl) | (refine And.intro ?_ ?_) | (refine Need.mk ?_) | exact True.intro | (first | (refine ⟨_, Told.refl _, ?_, ?_⟩) | (refine ⟨⟨_, _⟩, Told.refl _, ?_, ?_⟩) | (refine ⟨⟨_, _, _⟩, Told.refl _, ?_, ?_⟩) | (refine ⟨⟨_, _, _, _⟩, Told.refl _, ?_, ?_⟩) | (refine ⟨⟨_, _, _, _, _⟩, Told.refl _, ?_, ?_⟩) | (refine ⟨(), Told.refl _, ?_, ?_⟩)) | (with_reducible intro _) | (refine fun (_ : Bool) => ?_)))
      all_goals first | (exact absurd ‹decide (((ents t.bfs).length : Int) < ((ents t.bfs).length : Int)) = true› (by rw [hd]; decide)) | skip
      all_goals rw [List.take_length]
/-- The table by which codes are their numbers. -/
def modeT (w : Int) : Int := if (if 1 < w then 1 else w) > 0 then (if 1 < w then 1 else w) else 0
def nameH : ByteArray := ⟨#[73, 100, 101, 110, 116, 105, 116, 121, 45, 72]⟩
def nameV : ByteArray := ⟨#[73, 100, 101, 110, 116, 105, 116, 121, 45, 86]⟩
def identT (w : Int) : Tbl := ⟨if modeT w = 0 then nameH else nameV, modeT w, [⟨2, 0, 65535⟩], [⟨2, 0, 65535, 0⟩], [], []⟩
theorem modeT_rng (w : Int) : modeT w = 0 ∨ modeT w = 1 := by
  unfold modeT
  repeat' split
  all_goals omega
def SIdent : Sp := ⟨Int, fun _ => True, fun w => [.int .i64 w], fun w => .st (.agg (cT (identT w)))⟩
set_option maxHeartbeats 4000000 in
theorem ident : SpOK Tryz.prog 12 SIdent := fun (w : Int) _ => by
  have hC := base
  have e1 : IntKind.i64.wrap (((2 : Nat) : Int) - 1) = 1 := by decide
  have hraw : (if (if IntKind.i64.wrap (((2 : Nat) : Int) - 1) < w then IntKind.i64.wrap (((2 : Nat) : Int) - 1) else w) > 0 then (if IntKind.i64.wrap (((2 : Nat) : Int) - 1) < w then IntKind.i64.wrap (((2 : Nat) : Int) - 1) else w) else 0) = modeT w := by rw [e1]; rfl
  have hr := modeT_rng w
  ((refine Fn.ofF hC Tryz.func12 Tryz.ntmps12 rfl rfl rfl ?_); (repeat' first | (with_reducible exact trivial) | (with_reducible rfl) | (refine And.intro ?_ ?_) | (refine Need.mk ?_) | exact True.intro | (first | (refine ⟨_, Told.refl _, ?_, ?_⟩) | (refine ⟨⟨_, _⟩, Told.refl _, ?_, ?_⟩) | (refine ⟨⟨_, _, _⟩, Told.refl _, ?_, ?_⟩) | (refine ⟨⟨_, _, _, _⟩, Told.refl _, ?_, ?_⟩) | (refine ⟨⟨_, _, _, _, _⟩, Told.refl _, ?_, ?_⟩) | (refine ⟨(), Told.refl _, ?_, ?_⟩)) | (with_reducible intro _) | (refine fun (_ : Bool) => ?_)))
  · rw [hraw]
    omega
  · rw [hraw]
    omega
  · simp only [hraw]
    have hi : identT w = ⟨if modeT w = 0 then nameH else nameV, modeT w, [⟨2, 0, 65535⟩], [⟨2, 0, 65535, 0⟩], [], []⟩ := rfl
    rcases hr with h | h
    · rw [h] at hi ⊢
      (repeat' first | (with_reducible exact trivial) | (with_reducible rfl) | (refine And.intro ?_ ?_) | (refine Need.mk ?_) | exact True.intro | (first | (refine ⟨_, Told.refl _, ?_, ?_⟩) | (refine ⟨⟨_, _⟩, Told.refl _, ?_, ?_⟩) | (refine ⟨⟨_, _, _⟩, Told.refl _, ?_, ?_⟩) | (refine ⟨⟨_, _, _, _⟩, Told.refl _, ?_, ?_⟩) | (refine ⟨⟨_, _, _, _, _⟩, Told.refl _, ?_, ?_⟩) | (refine ⟨(), Told.refl _, ?_, ?_⟩)) | (with_reducible intro _) | (refine fun (_ : Bool) => ?_))
      all_goals rw [hi]
      all_goals first
        | rfl
        | exact els_of cR_emb (n := 0) (elt_list [(⟨2, 0, 65535⟩ : Rct)]) _ ‹_›
        | exact els_of cSp_emb (n := 0) (elt_list [(⟨2, 0, 65535, 0⟩ : Spn)]) _ ‹_›
    · rw [h] at hi ⊢
      (repeat' first | (with_reducible exact trivial) | (with_reducible rfl) | (refine And.intro ?_ ?_) | (refine Need.mk ?_) | exact True.intro | (first | (refine ⟨_, Told.refl _, ?_, ?_⟩) | (refine ⟨⟨_, _⟩, Told.refl _, ?_, ?_⟩) | (refine ⟨⟨_, _, _⟩, Told.refl _, ?_, ?_⟩) | (refine ⟨⟨_, _, _, _⟩, Told.refl _, ?_, ?_⟩) | (refine ⟨⟨_, _, _, _, _⟩, Told.refl _, ?_, ?_⟩) | (refine ⟨(), Told.refl _, ?_, ?_⟩)) | (with_reducible intro _) | (refine fun (_ : Bool) => ?_))
      all_goals rw [hi]
      all_goals first
        | rfl
        | exact els_of cR_emb (n := 0) (elt_list [(⟨2, 0, 65535⟩ : Rct)]) _ ‹_›
        | exact els_of cSp_emb (n := 0) (elt_list [(⟨2, 0, 65535, 0⟩ : Spn)]) _ ‹_›
/-- Does one lead to some units? -/
def hit (u : List Int) (b : Bf) : Bool := decide (b.to.length = u.length ∧ (∀ j, j < u.length - 1 → b.to.getD j default = u.getD j default) ∧ lastI b.to ≤ lastI u ∧ lastI u - lastI b.to ≤ b.hi - b.lo)
theorem hit_iff (u : List Int) (b : Bf) : hit u b = true ↔ (b.to.length = u.length ∧ (∀ j, j < u.length - 1 → b.to.getD j default = u.getD j default) ∧ lastI b.to ≤ lastI u ∧ lastI u - lastI b.to ≤ b.hi - b.lo) := decide_eq_true_iff
def backE (l : List Bf) (u : List Int) : Option Int := (l.find? (hit u)).map fun b => b.lo + (lastI u - lastI b.to)
theorem backE_none {l : List Bf} {u : List Int} (h : ∀ j, j < l.length → hit u (l.getD j default) = false) : backE l u = none := by
  unfold backE
  rw [List.find?_eq_none.2]
  · rfl
  · intro x hx
    obtain ⟨j, hj, rfl⟩ := List.getElem_of_mem hx
    have := h j hj
    rw [getB hj] at this
    rw [this]
    decide
theorem backE_some {l : List Bf} {u : List Int} {k : Nat} (hk : k < l.length) (h : ∀ j, j < k → hit u (l.getD j default) = false) (hh : hit u (l.getD k default) = true) : backE l u = some ((l.getD k default).lo + (lastI u - lastI (l.getD k default).to)) := by
  unfold backE
  have : l.find? (hit u) = some (l.getD k default) := by
    rw [List.find?_eq_some_iff_append]
    refine ⟨hh, l.take k, l.drop (k + 1), ?_, fun x hx => ?_⟩
    · rw [getB hk, List.getElem_cons_drop, List.take_append_drop]
    · obtain ⟨j, hj, rfl⟩ := List.getElem_of_mem hx
      rw [List.length_take] at hj
      have := h j (by omega)
      rw [getB (by omega)] at this
      rw [List.getElem_take, this]
      rfl
  rw [this]
  rfl
def SBack : Sp := ⟨Tbl × List Int, fun (t, u) => t.bfs.length ≤ 1000000 ∧ u.length < 4611686018427387904 ∧ ∀ x ∈ u, -9223372036854775808 ≤ x ∧ x ≤ 9223372036854775807, fun (t, u) => [.agg (cT t), aI u], fun (t, u) => rI (backE (ents t.bfs) u)⟩
set_option maxHeartbeats 16000000 in
theorem back : SpOK Tryz.prog 13 SBack := fun ⟨t, u⟩ ⟨hl, hul, hu⟩ => by
  have hC : COK Tryz.prog (cfg [(26, SEnts)]) := Ty.ty.cfg ⟨entries, trivial⟩
  have hel := ents_len t.bfs
  have hes := ents_sane (l := t.bfs)
  obtain ⟨E, hE⟩ : ∃ E, E = ents t.bfs := ⟨_, rfl⟩
  have ew := iw (n := (u.length : Int) - 1) (by omega) (by omega)
  ((refine Fn.ofF hC Tryz.func13 Tryz.ntmps13 rfl rfl rfl ?_); (repeat' first | (with_reducible exact trivial) | (with_reducible rfl) | (refine And.intro ?_ ?_) | (refine Need.mk ?_) | exact True.intro | (first | (refine ⟨_, Told.refl _, ?_, ?_⟩) | (refine ⟨⟨_, _⟩, Told.refl _, ?_, ?_⟩) | (refine ⟨⟨_, _, _⟩, Told.refl _, ?_, ?_⟩) | (refine ⟨⟨_, _, _, _⟩, Told.refl _, ?_, ?_⟩) | (refine ⟨⟨_, _, _, _, _⟩, Told.refl _, ?_, ?_⟩) | (refine ⟨(), Told.refl _, ?_, ?_⟩)) | (with_reducible intro _) | (refine fun (_ : Bool) => ?_)))
  refine AW.straight ?_
  ((refine AW.byF ‹_› ?_); (repeat' first | (with_reducible exact trivial) | (with_reducible rfl) | (refine And.intro ?_ ?_) | (refine Need.mk ?_) | exact True.intro | (first | (refine ⟨_, Told.refl _, ?_, ?_⟩) | (refine ⟨⟨_, _⟩, Told.refl _, ?_, ?_⟩) | (refine ⟨⟨_, _, _⟩, Told.refl _, ?_, ?_⟩) | (refine ⟨⟨_, _, _, _⟩, Told.refl _, ?_, ?_⟩) | (refine ⟨⟨_, _, _, _, _⟩, Told.refl _, ?_, ?_⟩) | (refine ⟨(), Told.refl _, ?_, ?_⟩)) | (with_reducible intro _) | (refine fun (_ : Bool) => ?_)))
  · exact hl
  refine AW.loop (I := fun k : Nat => ⟨86, [(1, aI u), (6, .int .i64 ((u.length : Int) - 1)), (15, .own 0), (16, .int .i64 E.length), (17, .int .i64 k)], [.row 44 4 E.length (els cBf E)]⟩) (fun k => k ≤ E.length ∧ ∀ j, j < k → hit u (E.getD j default) = false) (fun k => E.length - k) 0 ⟨Nat.zero_le _, fun j hj => by omega⟩ ?_ ?_
  · clear hel hes
    subst hE
    (repeat' first | (with_reducible exact trivial) | (with_reducible rfl) | (refine And.intro ?_ ?_) | (refine Need.mk ?_) | exact True.intro | (first | (refine ⟨_, Told.refl _, ?_, ?_⟩) | (refine ⟨⟨_, _⟩, Told.refl _, ?_, ?_⟩) | (refine ⟨⟨_, _, _⟩, Told.refl _, ?_, ?_⟩) | (refine ⟨⟨_, _, _, _⟩, Told.refl _, ?_, ?_⟩) | (refine ⟨⟨_, _, _, _, _⟩, Told.refl _, ?_, ?_⟩) | (refine ⟨(), Told.refl _, ?_, ?_⟩)) | (with_reducible intro _) | (refine fun (_ : Bool) => ?_))
    all_goals first | rfl | exact ew
  · intro k ⟨hk, hno⟩
    rw [← hE] at hel hes
    rcases Nat.lt_or_ge k E.length with hlt | hge
    · have hd : decide ((k : Int) < (E.length : Int)) = true := decide_eq_true (by omega)
      have hw := iw (n := (k : Int) + 1) (by omega) (by omega)
      obtain ⟨b, hb⟩ : ∃ b, b = E.getD k default := ⟨_, rfl⟩
      have hbs : sane b = true := by rw [hb]; exact (hes _ (getMem hlt)).1
      have r := rngB hbs
      have hnext : hit u b = false → ∀ j, j < k + 1 → hit u (E.getD j default) = false := fun h => by
        intro j hj
        by_cases e : j = k
        · rw [e, ← hb]; exact h
        · exact hno j (by omega)
      ((refine AW.byF ‹_› ?_); (repeat' first | (with_reducible exact trivial) | (with_reducible rfl) | (refine And.intro ?_ ?_) | (refine Need.mk ?_) | exact True.intro | (first | (refine ⟨_, Told.refl _, ?_, ?_⟩) | (refine ⟨⟨_, _⟩, Told.refl _, ?_, ?_⟩) | (refine ⟨⟨_, _, _⟩, Told.refl _, ?_, ?_⟩) | (refine ⟨⟨_, _, _, _⟩, Told.refl _, ?_, ?_⟩) | (refine ⟨⟨_, _, _, _, _⟩, Told.refl _, ?_, ?_⟩) | (refine ⟨(), Told.refl _, ?_, ?_⟩)) | (with_reducible intro _) | (refine fun (_ : Bool) => ?_)))
      all_goals first | (exact absurd ‹decide ((k : Int) < (E.length : Int)) = false› (by rw [hd]; decide)) | skip
      · omega
      · omega
      · have q := ‹(((E.getD (k : Int).toNat default).to.length : Int) != (u.length : Int)) = true›
        rw [Int.toNat_natCast, ← hb] at q
        have q : b.to.length ≠ u.length := fun e => by rw [e] at q; simp at q
        refine Exists.intro (k + 1) (And.intro ?_ (And.intro ?_ ?_))
        · exact ⟨by omega, hnext (by rw [← Bool.not_eq_true, hit_iff]; exact fun h => q h.1)⟩
        · omega
        · (repeat' first | (with_reducible exact trivial) | (with_reducible rfl) | (refine And.intro ?_ ?_) | (refine Need.mk ?_) | exact True.intro | (first | (refine ⟨_, Told.refl _, ?_, ?_⟩) | (refine ⟨⟨_, _⟩, Told.refl _, ?_, ?_⟩) | (refine ⟨⟨_, _, _⟩, Told.refl _, ?_, ?_⟩) | (refine ⟨⟨_, _, _, _⟩, Told.refl _, ?_, ?_⟩) | (refine ⟨⟨_, _, _, _, _⟩, Told.refl _, ?_, ?_⟩) | (refine ⟨(), Told.refl _, ?_, ?_⟩)) | (with_reducible intro _) | (refine fun (_ : Bool) => ?_))
          all_goals first | rfl | (rw [hw]; omega)
      all_goals
        have q := ‹(((E.getD (k : Int).toNat default).to.length : Int) != (u.length : Int)) = false›
        rw [Int.toNat_natCast, ← hb] at q
        have q : b.to.length = u.length := by simp only [bne_eq_false_iff_eq] at q; omega
      · omega
      · omega
      · rw [Int.toNat_natCast, ← hb]
        omega
      refine AW.loop (I := fun i : Nat => ⟨86, [(1, aI u), (6, .int .i64 ((u.length : Int) - 1)), (8, .ptr 1 0), (15, .own 0), (16, .int .i64 E.length), (17, .int .i64 k), (30, .sl 1 ((u.length : Int) - 1).toNat (fun i => els ci b.to ((0 : Int).toNat + i))), (31, .int .i64 ((u.length : Int) - 1).toNat), (32, .int .i64 i)], [.row 44 4 E.length (els cBf E), .box 44 (cBf b)]⟩) (fun i => i ≤ u.length - 1 ∧ ∀ j, j < i → b.to.getD j default = u.getD j default) (fun i => u.length - 1 - i) 0 ⟨Nat.zero_le _, fun j hj => by omega⟩ ?_ ?_
      · rw [hb]
        (repeat' first | (with_reducible exact trivial) | (with_reducible rfl) | (refine And.intro ?_ ?_) | (refine Need.mk ?_) | exact True.intro | (first | (refine ⟨_, Told.refl _, ?_, ?_⟩) | (refine ⟨⟨_, _⟩, Told.refl _, ?_, ?_⟩) | (refine ⟨⟨_, _, _⟩, Told.refl _, ?_, ?_⟩) | (refine ⟨⟨_, _, _, _⟩, Told.refl _, ?_, ?_⟩) | (refine ⟨⟨_, _, _, _, _⟩, Told.refl _, ?_, ?_⟩) | (refine ⟨(), Told.refl _, ?_, ?_⟩)) | (with_reducible intro _) | (refine fun (_ : Bool) => ?_))
        all_goals first | rfl | (rw [Int.sub_zero]; done)
      · intro i ⟨hi, heq⟩
        have hw2 := iw (n := (i : Int) + 1) (by omega) (by omega)
        have en : ((u.length : Int) - 1).toNat = u.length - 1 := by omega
        have ez : ∀ i : Nat, (0 : Int).toNat + (i : Int).toNat = i := fun i => by simp
        rcases Nat.lt_or_ge i (u.length - 1) with hlt2 | hge2
        · have hd2 : decide ((i : Int) < (((u.length : Int) - 1).toNat : Int)) = true := decide_eq_true (by omega)
          ((refine AW.byF ‹_› ?_); (repeat' first | (with_reducible exact trivial) | (with_reducible rfl) | (refine And.intro ?_ ?_) | (refine Need.mk ?_) | exact True.intro | (first | (refine ⟨_, Told.refl _, ?_, ?_⟩) | (refine ⟨⟨_, _⟩, Told.refl _, ?_, ?_⟩) | (refine ⟨⟨_, _, _⟩, Told.refl _, ?_, ?_⟩) | (refine ⟨⟨_, _, _, _⟩, Told.refl _, ?_, ?_⟩) | (refine ⟨⟨_, _, _, _, _⟩, Told.refl _, ?_, ?_⟩) | (refine ⟨(), Told.refl _, ?_, ?_⟩)) | (with_reducible intro _) | (refine fun (_ : Bool) => ?_)))
          all_goals first | (exact absurd ‹decide ((i : Int) < (((u.length : Int) - 1).toNat : Int)) = false› (by rw [hd2]; decide)) | skip
          all_goals first | omega | skip
          · have q2 := ‹(b.to.getD ((0 : Int).toNat + (i : Int).toNat) default != u.getD (i : Int).toNat default) = true›
            rw [ez, Int.toNat_natCast] at q2
            have q2 : b.to.getD i default ≠ u.getD i default := fun e => by rw [e] at q2; simp at q2
            refine Exists.intro (k + 1) (And.intro ?_ (And.intro ?_ ?_))
            · exact ⟨by omega, hnext (by rw [← Bool.not_eq_true, hit_iff]; exact fun h => q2 (h.2.1 i hlt2))⟩
            · omega
            · (repeat' first | (with_reducible exact trivial) | (with_reducible rfl) | (refine And.intro ?_ ?_) | (refine Need.mk ?_) | exact True.intro | (first | (refine ⟨_, Told.refl _, ?_, ?_⟩) | (refine ⟨⟨_, _⟩, Told.refl _, ?_, ?_⟩) | (refine ⟨⟨_, _, _⟩, Told.refl _, ?_, ?_⟩) | (refine ⟨⟨_, _, _, _⟩, Told.refl _, ?_, ?_⟩) | (refine ⟨⟨_, _, _, _, _⟩, Told.refl _, ?_, ?_⟩) | (refine ⟨(), Told.refl _, ?_, ?_⟩)) | (with_reducible intro _) | (refine fun (_ : Bool) => ?_))
              all_goals first | rfl | (rw [hw]; omega)
          · have q2 := ‹(b.to.getD ((0 : Int).toNat + (i : Int).toNat) default != u.getD (i : Int).toNat default) = false›
            rw [ez, Int.toNat_natCast] at q2
            have q2 : b.to.getD i default = u.getD i default := by simpa using q2
            refine Exists.intro (i + 1) (And.intro ?_ (And.intro ?_ ?_))
            · refine ⟨by omega, fun j hj => ?_⟩
              by_cases e : j = i
              · rw [e]; exact q2
              · exact heq j (by omega)
            · omega
            · (repeat' first | (with_reducible exact trivial) | (with_reducible rfl) | (refine And.intro ?_ ?_) | (refine Need.mk ?_) | exact True.intro | (first | (refine ⟨_, Told.refl _, ?_, ?_⟩) | (refine ⟨⟨_, _⟩, Told.refl _, ?_, ?_⟩) | (refine ⟨⟨_, _, _⟩, Told.refl _, ?_, ?_⟩) | (refine ⟨⟨_, _, _, _⟩, Told.refl _, ?_, ?_⟩) | (refine ⟨⟨_, _, _, _, _⟩, Told.refl _, ?_, ?_⟩) | (refine ⟨(), Told.refl _, ?_, ?_⟩)) | (with_reducible intro _) | (refine fun (_ : Bool) => ?_))
              all_goals first | rfl | (rw [hw2]; omega)
        · obtain rfl : i = u.length - 1 := by omega
          have hd2 : decide (((u.length - 1 : Nat) : Int) < (((u.length : Int) - 1).toNat : Int)) = false := decide_eq_false (by omega)
          have eu : u.getD ((u.length : Int) - 1).toNat default = lastI u := by rw [en]; rfl
          have eb : b.to.getD ((u.length : Int) - 1).toNat default = lastI b.to := by rw [en, ← q]; rfl
          have hub := hu (lastI u) (lastI_mem (by omega))
          ((refine AW.byF ‹_› ?_); (repeat' first | (with_reducible exact trivial) | (with_reducible rfl) | (refine And.intro ?_ ?_) | (refine Need.mk ?_) | exact True.intro | (first | (refine ⟨_, Told.refl _, ?_, ?_⟩) | (refine ⟨⟨_, _⟩, Told.refl _, ?_, ?_⟩) | (refine ⟨⟨_, _, _⟩, Told.refl _, ?_, ?_⟩) | (refine ⟨⟨_, _, _, _⟩, Told.refl _, ?_, ?_⟩) | (refine ⟨⟨_, _, _, _, _⟩, Told.refl _, ?_, ?_⟩) | (refine ⟨(), Told.refl _, ?_, ?_⟩)) | (with_reducible intro _) | (refine fun (_ : Bool) => ?_)))
          all_goals first | (exact absurd ‹decide (((u.length - 1 : Nat) : Int) < (((u.length : Int) - 1).toNat : Int)) = true› (by rw [hd2]; decide)) | skip
          all_goals first | omega | skip
          all_goals try simp only [eu, eb] at *
          · have q2 := of_decide_eq_true ‹decide (lastI u < lastI b.to) = true›
            refine Exists.intro (k + 1) (And.intro ?_ (And.intro ?_ ?_))
            · exact ⟨by omega, hnext (by rw [← Bool.not_eq_true, hit_iff]; exact fun h => by have := h.2.2.1; omega)⟩
            · omega
            · (repeat' first | (with_reducible exact trivial) | (with_reducible rfl) | (refine And.intro ?_ ?_) | (refine Need.mk ?_) | exact True.intro | (first | (refine ⟨_, Told.refl _, ?_, ?_⟩) | (refine ⟨⟨_, _⟩, Told.refl _, ?_, ?_⟩) | (refine ⟨⟨_, _, _⟩, Told.refl _, ?_, ?_⟩) | (refine ⟨⟨_, _, _, _⟩, Told.refl _, ?_, ?_⟩) | (refine ⟨⟨_, _, _, _, _⟩, Told.refl _, ?_, ?_⟩) | (refine ⟨(), Told.refl _, ?_, ?_⟩)) | (with_reducible intro _) | (refine fun (_ : Bool) => ?_))
              all_goals first | rfl | (rw [hw]; omega)
          all_goals first | omega | skip
          all_goals
            have q2 := of_decide_eq_false ‹decide (lastI u < lastI b.to) = false›
            have w1 := iw (n := lastI u - lastI b.to) (by omega) (by omega)
            have w2 := iw (n := b.hi - b.lo) (by omega) (by omega)
          · have q3 := of_decide_eq_true ‹decide (IntKind.i64.wrap (lastI u - lastI b.to) > IntKind.i64.wrap (b.hi - b.lo)) = true›
            rw [w1, w2] at q3
            refine Exists.intro (k + 1) (And.intro ?_ (And.intro ?_ ?_))
            · exact ⟨by omega, hnext (by rw [← Bool.not_eq_true, hit_iff]; exact fun h => by have := h.2.2.2; omega)⟩
            · omega
            · (repeat' first | (with_reducible exact trivial) | (with_reducible rfl) | (refine And.intro ?_ ?_) | (refine Need.mk ?_) | exact True.intro | (first | (refine ⟨_, Told.refl _, ?_, ?_⟩) | (refine ⟨⟨_, _⟩, Told.refl _, ?_, ?_⟩) | (refine ⟨⟨_, _, _⟩, Told.refl _, ?_, ?_⟩) | (refine ⟨⟨_, _, _, _⟩, Told.refl _, ?_, ?_⟩) | (refine ⟨⟨_, _, _, _, _⟩, Told.refl _, ?_, ?_⟩) | (refine ⟨(), Told.refl _, ?_, ?_⟩)) | (with_reducible intro _) | (refine fun (_ : Bool) => ?_))
              all_goals first | rfl | (rw [hw]; omega)
          all_goals first | omega | skip
          all_goals
            have q3 := of_decide_eq_false ‹decide (IntKind.i64.wrap (lastI u - lastI b.to) > IntKind.i64.wrap (b.hi - b.lo)) = false›
            rw [w1, w2] at q3
            have hh : hit u b = true := (hit_iff u b).2 ⟨q, heq, by omega, by omega⟩
            have hB := backE_some hlt hno (by rw [← hb]; exact hh)
            rw [← hb] at hB
            rw [← hE, hB]
          · rw [iw (n := b.lo + lastI u) (by omega) (by omega), iw (by omega) (by omega)]
            show b.lo + lastI u - lastI b.to = b.lo + (lastI u - lastI b.to)
            omega
          · rfl
    · obtain rfl : k = E.length := by omega
      have hd : decide ((E.length : Int) < (E.length : Int)) = false := decide_eq_false (by omega)
      ((refine AW.byF ‹_› ?_); (repeat' first | (with_reducible exact trivial) | (with_reducible rfl) | (refine And.intro ?_ ?_) | (refine Need.mk ?_) | exact True.intro | (first | (refine ⟨_, Told.refl _, ?_, ?_⟩) | (refine ⟨⟨_, _⟩, Told.refl _, ?_, ?_⟩) | (refine ⟨⟨_, _, _⟩, Told.refl _, ?_, ?_⟩) | (refine ⟨⟨_, _, _, _⟩, Told.refl _, ?_, ?_⟩) | (refine ⟨⟨_, _, _, _, _⟩, Told.refl _, ?_, ?_⟩) | (refine ⟨(), Told.refl _, ?_, ?_⟩)) | (with_reducible intro _) | (refine fun (_ : Bool) => ?_)))
      all_goals first | (exact absurd ‹decide ((E.length : Int) < (E.length : Int)) = true› (by rw [hd]; decide)) | skip
      all_goals (rw [← hE, backE_none hno]; rfl)
end Go.Abs.Coll
set_option maxRecDepth 100000
namespace Go.Abs.Coll
open Go.RowKit Go.Proofs Go.Abs.Tab Go.Abs.Dest Go.Abs.Span
def SSrc1 : Sp := ⟨Tbl × Int × Int, fun (t, n, v) => t.cids.length < 4611686018427387904, fun (t, n, v) => [aCode n v, .rptr (cT t)], fun (t, n, v) => rI ((ES true).find t.cids n v)⟩
def SSrc2 : Sp := ⟨Tbl × Int × Int, fun (t, n, v) => t.nots.length < 4611686018427387904, fun (t, n, v) => [aCode n v, .rptr (cT t)], fun (t, n, v) => rI ((ES false).find t.nots n v)⟩
set_option maxHeartbeats 4000000 in
theorem src1 : SpOK Tryz.prog 60 SSrc1 := fun ⟨t, n, v⟩ hl => by
  have hC : COK Tryz.prog (cfg [(61, SFindS)]) := Ty.ty.cfg ⟨Span.find, trivial⟩
  ((refine Fn.ofF hC Tryz.func60 Tryz.ntmps60 rfl rfl rfl ?_); (repeat' first | (with_reducible exact trivial) | (with_reducible rfl) | (refine And.intro ?_ ?_) | (refine Need.mk ?_) | exact True.intro | (first | (refine ⟨_, Told.refl _, ?_, ?_⟩) | (refine ⟨⟨_, _⟩, Told.refl _, ?_, ?_⟩) | (refine ⟨⟨_, _, _⟩, Told.refl _, ?_, ?_⟩) | (refine ⟨⟨_, _, _, _⟩, Told.refl _, ?_, ?_⟩) | (refine ⟨⟨_, _, _, _, _⟩, Told.refl _, ?_, ?_⟩) | (refine ⟨(), Told.refl _, ?_, ?_⟩)) | (with_reducible intro _) | (refine fun (_ : Bool) => ?_)))
  exact hl
set_option maxHeartbeats 4000000 in
theorem src2 : SpOK Tryz.prog 62 SSrc2 := fun ⟨t, n, v⟩ hl => by
  have hC : COK Tryz.prog (cfg [(61, SFindS)]) := Ty.ty.cfg ⟨Span.find, trivial⟩
  ((refine Fn.ofF hC Tryz.func62 Tryz.ntmps62 rfl rfl rfl ?_); (repeat' first | (with_reducible exact trivial) | (with_reducible rfl) | (refine And.intro ?_ ?_) | (refine Need.mk ?_) | exact True.intro | (first | (refine ⟨_, Told.refl _, ?_, ?_⟩) | (refine ⟨⟨_, _⟩, Told.refl _, ?_, ?_⟩) | (refine ⟨⟨_, _, _⟩, Told.refl _, ?_, ?_⟩) | (refine ⟨⟨_, _, _, _⟩, Told.refl _, ?_, ?_⟩) | (refine ⟨⟨_, _, _, _, _⟩, Told.refl _, ?_, ?_⟩) | (refine ⟨(), Told.refl _, ?_, ?_⟩)) | (with_reducible intro _) | (refine fun (_ : Bool) => ?_)))
  exact hl
theorem cT_emb : Emb cT 6 := fun x => ⟨rfl, ⟨⟨rfl⟩, ⟨rfl⟩, ⟨⟨rfl⟩, fun _ _ => (cR_emb _).2.1⟩, ⟨⟨rfl⟩, fun _ _ => (cSp_emb _).2.1⟩, ⟨⟨rfl⟩, fun _ _ => (cSp_emb _).2.1⟩, ⟨⟨rfl⟩, fun _ _ => (cBf_emb _).2.1⟩, trivial⟩, rfl⟩
theorem srcEls (t : Tbl) : ∀ i, i < 2 → cond (ones (elt [[.int .i64 1, .fn 60 [.rptr (cT t)]], [.int .i64 2, .fn 62 [.rptr (cT t)]]] i)) (subs0 (elt [[.int .i64 1, .fn 60 [.rptr (cT t)]], [.int .i64 2, .fn 62 [.rptr (cT t)]]] i) (elt [[.int .i64 1, .fn 60 [.rptr (cT t)]], [.int .i64 2, .fn 62 [.rptr (cT t)]]] i)) False := fun i hi => by
  have hc : i = 0 ∨ i = 1 := by omega
  rcases hc with rfl | rfl
  · exact ⟨⟨rfl⟩, ⟨(cT_emb t).2.1, trivial⟩, trivial⟩
  · exact ⟨⟨rfl⟩, ⟨(cT_emb t).2.1, trivial⟩, trivial⟩
def SSrcs : Sp := ⟨Tbl, fun _ => True, fun t => [.agg (cT t)], fun t => .row 68 2 2 (elt [[.int .i64 1, .fn 60 [.rptr (cT t)]], [.int .i64 2, .fn 62 [.rptr (cT t)]]])⟩
set_option maxHeartbeats 4000000 in
theorem srcs : SpOK Tryz.prog 27 SSrcs := fun (t : Tbl) _ => by
  have hC := base
  ((refine Fn.ofF hC Tryz.func27 Tryz.ntmps27 rfl rfl rfl ?_); (repeat' first | (with_reducible exact trivial) | (with_reducible rfl) | (refine And.intro ?_ ?_) | (refine Need.mk ?_) | exact True.intro | (first | (refine ⟨_, Told.refl _, ?_, ?_⟩) | (refine ⟨⟨_, _⟩, Told.refl _, ?_, ?_⟩) | (refine ⟨⟨_, _, _⟩, Told.refl _, ?_, ?_⟩) | (refine ⟨⟨_, _, _, _⟩, Told.refl _, ?_, ?_⟩) | (refine ⟨⟨_, _, _, _, _⟩, Told.refl _, ?_, ?_⟩) | (refine ⟨(), Told.refl _, ?_, ?_⟩)) | (with_reducible intro _) | (refine fun (_ : Bool) => ?_)))
  rename_i i hi
  have hi : i < 2 := hi
  have hc : i = 0 ∨ i = 1 := by omega
  rcases hc with rfl | rfl
  · exact srcEls t 0 (by decide)
  · exact srcEls t 1 (by decide)
/-- A code's number, and where it is from. -/
def numT (t : Tbl) (n v : Int) : Int × Int := match (ES true).find t.cids n v with
  | some x => (x, 1)
  | none => match (ES false).find t.nots n v with
    | some x => (x, 2)
    | none => (0, 0)
def SNum : Sp := ⟨Tbl × Int × Int, fun (t, n, v) => t.cids.length < 4611686018427387904 ∧ t.nots.length < 4611686018427387904, fun (t, n, v) => [.agg (cT t), aCode n v], fun (t, n, v) => .st (.tup [.int .i64 (numT t n v).1, .int .i64 (numT t n v).2])⟩
set_option maxHeartbeats 16000000 in
theorem num : SpOK Tryz.prog 11 SNum := fun ⟨t, n, v⟩ ⟨h1, h2⟩ => by
  have hC : COK Tryz.prog (cfg [(27, SSrcs), (60, SSrc1), (62, SSrc2)]) := Ty.ty.cfg ⟨srcs, src1, src2, trivial⟩
  ((refine Fn.ofF hC Tryz.func11 Tryz.ntmps11 rfl rfl rfl ?_); (repeat' first | (with_reducible exact trivial) | (with_reducible rfl) | (refine And.intro ?_ ?_) | (refine Need.mk ?_) | exact True.intro | (first | (refine ⟨_, Told.refl _, ?_, ?_⟩) | (refine ⟨⟨_, _⟩, Told.refl _, ?_, ?_⟩) | (refine ⟨⟨_, _, _⟩, Told.refl _, ?_, ?_⟩) | (refine ⟨⟨_, _, _, _⟩, Told.refl _, ?_, ?_⟩) | (refine ⟨⟨_, _, _, _, _⟩, Told.refl _, ?_, ?_⟩) | (refine ⟨(), Told.refl _, ?_, ?_⟩)) | (with_reducible intro _) | (refine fun (_ : Bool) => ?_)))
  refine AW.loop (I := fun k : Nat => ⟨29, [(3, .ptr 0 0), (11, .own 1), (12, .int .i64 2), (13, .int .i64 k)], [.box 41 [.int .i64 n, .int .i64 v], .row 68 2 2 (elt [[.int .i64 1, .fn 60 [.rptr (cT t)]], [.int .i64 2, .fn 62 [.rptr (cT t)]]])]⟩) (fun k => k ≤ 2 ∧ (0 < k → (ES true).find t.cids n v = none) ∧ (1 < k → (ES false).find t.nots n v = none)) (fun k => 2 - k) 0 ⟨Nat.zero_le _, fun h => by omega, fun h => by omega⟩ ?_ ?_
  · (repeat' first | (with_reducible exact trivial) | (with_reducible rfl) | (refine And.intro ?_ ?_) | (refine Need.mk ?_) | exact True.intro | (first | (refine ⟨_, Told.refl _, ?_, ?_⟩) | (refine ⟨⟨_, _⟩, Told.refl _, ?_, ?_⟩) | (refine ⟨⟨_, _, _⟩, Told.refl _, ?_, ?_⟩) | (refine ⟨⟨_, _, _, _⟩, Told.refl _, ?_, ?_⟩) | (refine ⟨⟨_, _, _, _, _⟩, Told.refl _, ?_, ?_⟩) | (refine ⟨(), Told.refl _, ?_, ?_⟩)) | (with_reducible intro _) | (refine fun (_ : Bool) => ?_))
    all_goals first | rfl | exact srcEls t _ ‹_›
  · intro k ⟨hk, g1, g2⟩
    have hc : k = 0 ∨ k = 1 ∨ k = 2 := by omega
    rcases hc with rfl | rfl | rfl
    · cases hf : (ES true).find t.cids n v with
      | some x =>
        have hn : numT t n v = (x, 1) := by unfold numT; rw [hf]
        ((refine AW.byF ‹_› ?_); (repeat' first | (with_reducible exact trivial) | (with_reducible rfl) | (refine And.intro ?_ ?_) | (refine Need.mk ?_) | exact True.intro | (first | (refine ⟨_, Told.refl _, ?_, ?_⟩) | (refine ⟨⟨_, _⟩, Told.refl _, ?_, ?_⟩) | (refine ⟨⟨_, _, _⟩, Told.refl _, ?_, ?_⟩) | (refine ⟨⟨_, _, _, _⟩, Told.refl _, ?_, ?_⟩) | (refine ⟨⟨_, _, _, _, _⟩, Told.refl _, ?_, ?_⟩) | (refine ⟨(), Told.refl _, ?_, ?_⟩)) | (with_reducible intro _) | (refine fun (_ : Bool) => ?_)))
        all_goals first | omega | exact h1 | decide | skip
        all_goals first | (exact absurd ‹((ES true).find t.cids n v).isSome = false› (by rw [hf]; simp)) | (exact absurd ‹decide (((0 : Nat) : Int) < 2) = false› (by decide)) | skip
        all_goals (rw [hn]; try first | rfl | (rw [hf]; rfl))
      | none =>
        ((refine AW.byF ‹_› ?_); (repeat' first | (with_reducible exact trivial) | (with_reducible rfl) | (refine And.intro ?_ ?_) | (refine Need.mk ?_) | exact True.intro | (first | (refine ⟨_, Told.refl _, ?_, ?_⟩) | (refine ⟨⟨_, _⟩, Told.refl _, ?_, ?_⟩) | (refine ⟨⟨_, _, _⟩, Told.refl _, ?_, ?_⟩) | (refine ⟨⟨_, _, _, _⟩, Told.refl _, ?_, ?_⟩) | (refine ⟨⟨_, _, _, _, _⟩, Told.refl _, ?_, ?_⟩) | (refine ⟨(), Told.refl _, ?_, ?_⟩)) | (with_reducible intro _) | (refine fun (_ : Bool) => ?_)))
        all_goals first | omega | exact h1 | decide | skip
        all_goals first | (exact absurd ‹((ES true).find t.cids n v).isSome = true› (by rw [hf]; decide)) | (exact absurd ‹decide (((0 : Nat) : Int) < 2) = false› (by decide)) | skip
        any_goals (refine Exists.intro (1) (And.intro ?_ (And.intro ?_ ?_)); all_goals (repeat' first | (with_reducible exact trivial) | (with_reducible rfl) | (refine And.intro ?_ ?_) | (refine Need.mk ?_) | exact True.intro | (first | (refine ⟨_, Told.refl _, ?_, ?_⟩) | (refine ⟨⟨_, _⟩, Told.refl _, ?_, ?_⟩) | (refine ⟨⟨_, _, _⟩, Told.refl _, ?_, ?_⟩) | (refine ⟨⟨_, _, _, _⟩, Told.refl _, ?_, ?_⟩) | (refine ⟨⟨_, _, _, _, _⟩, Told.refl _, ?_, ?_⟩) | (refine ⟨(), Told.refl _, ?_, ?_⟩)) | (with_reducible intro _) | (refine fun (_ : Bool) => ?_)))
        all_goals first
          | rfl
          | exact srcEls t _ ‹_›
          | decide
          | exact fun _ => hf
          | exact fun h => absurd h (by decide)
          | omega
    · have g1 := g1 (by decide)
      cases hf : (ES false).find t.nots n v with
      | some x =>
        have hn : numT t n v = (x, 2) := by unfold numT; rw [g1, hf]
        ((refine AW.byF ‹_› ?_); (repeat' first | (with_reducible exact trivial) | (with_reducible rfl) | (refine And.intro ?_ ?_) | (refine Need.mk ?_) | exact True.intro | (first | (refine ⟨_, Told.refl _, ?_, ?_⟩) | (refine ⟨⟨_, _⟩, Told.refl _, ?_, ?_⟩) | (refine ⟨⟨_, _, _⟩, Told.refl _, ?_, ?_⟩) | (refine ⟨⟨_, _, _, _⟩, Told.refl _, ?_, ?_⟩) | (refine ⟨⟨_, _, _, _, _⟩, Told.refl _, ?_, ?_⟩) | (refine ⟨(), Told.refl _, ?_, ?_⟩)) | (with_reducible intro _) | (refine fun (_ : Bool) => ?_)))
        all_goals first | omega | exact h2 | decide | skip
        all_goals first | (exact absurd ‹((ES false).find t.nots n v).isSome = false› (by rw [hf]; simp)) | (exact absurd ‹decide (((1 : Nat) : Int) < 2) = false› (by decide)) | skip
        all_goals (rw [hn]; try first | rfl | (rw [hf]; rfl))
      | none =>
        ((refine AW.byF ‹_› ?_); (repeat' first | (with_reducible exact trivial) | (with_reducible rfl) | (refine And.intro ?_ ?_) | (refine Need.mk ?_) | exact True.intro | (first | (refine ⟨_, Told.refl _, ?_, ?_⟩) | (refine ⟨⟨_, _⟩, Told.refl _, ?_, ?_⟩) | (refine ⟨⟨_, _, _⟩, Told.refl _, ?_, ?_⟩) | (refine ⟨⟨_, _, _, _⟩, Told.refl _, ?_, ?_⟩) | (refine ⟨⟨_, _, _, _, _⟩, Told.refl _, ?_, ?_⟩) | (refine ⟨(), Told.refl _, ?_, ?_⟩)) | (with_reducible intro _) | (refine fun (_ : Bool) => ?_)))
        all_goals first | omega | exact h2 | decide | skip
        all_goals first | (exact absurd ‹((ES false).find t.nots n v).isSome = true› (by rw [hf]; decide)) | (exact absurd ‹decide (((1 : Nat) : Int) < 2) = false› (by decide)) | skip
        any_goals (refine Exists.intro (2) (And.intro ?_ (And.intro ?_ ?_)); all_goals (repeat' first | (with_reducible exact trivial) | (with_reducible rfl) | (refine And.intro ?_ ?_) | (refine Need.mk ?_) | exact True.intro | (first | (refine ⟨_, Told.refl _, ?_, ?_⟩) | (refine ⟨⟨_, _⟩, Told.refl _, ?_, ?_⟩) | (refine ⟨⟨_, _, _⟩, Told.refl _, ?_, ?_⟩) | (refine ⟨⟨_, _, _, _⟩, Told.refl _, ?_, ?_⟩) | (refine ⟨⟨_, _, _, _, _⟩, Told.refl _, ?_, ?_⟩) | (refine ⟨(), Told.refl _, ?_, ?_⟩)) | (with_reducible intro _) | (refine fun (_ : Bool) => ?_)))
        all_goals first
          | rfl
          | exact srcEls t _ ‹_›
          | decide
          | exact fun _ => hf
          | exact fun _ => g1
          | omega
    · have hn : numT t n v = (0, 0) := by unfold numT; rw [g1 (by decide), g2 (by decide)]
      ((refine AW.byF ‹_› ?_); (repeat' first | (with_reducible exact trivial) | (with_reducible rfl) | (refine And.intro ?_ ?_) | (refine Need.mk ?_) | exact True.intro | (first | (refine ⟨_, Told.refl _, ?_, ?_⟩) | (refine ⟨⟨_, _⟩, Told.refl _, ?_, ?_⟩) | (refine ⟨⟨_, _, _⟩, Told.refl _, ?_, ?_⟩) | (refine ⟨⟨_, _, _, _⟩, Told.refl _, ?_, ?_⟩) | (refine ⟨⟨_, _, _, _, _⟩, Told.refl _, ?_, ?_⟩) | (refine ⟨(), Told.refl _, ?_, ?_⟩)) | (with_reducible intro _) | (refine fun (_ : Bool) => ?_)))
      all_goals first | omega | decide | skip
      all_goals first | (exact absurd ‹decide (((2 : Nat) : Int) < 2) = true› (by decide)) | skip
      all_goals (rw [hn])
end Go.Abs.Coll
set_option maxRecDepth 100000
namespace Go.Abs.Coll
open Go.RowKit Go.Proofs Go.Abs.Tab Go.Abs.Dest Go.Abs.Span
def SAwakeC : Sp := ⟨Unit, fun _ => True, fun _ => [], fun _ => .st (.lit true)⟩
def tA : Tbl := ⟨ByteArray.empty, 0, [], [], [], [⟨2, 5, 9, [65]⟩]⟩
set_option maxHeartbeats 16000000 in
theorem awake : SpOK Tryz.prog 4 SAwakeC := fun _ _ => by
  have hC : COK Tryz.prog (cfg [(12, SIdent), (11, SNum), (13, SBack), (10, SCnt)]) := Ty.ty.cfg ⟨ident, num, back, count, trivial⟩
  have hn : numT (identT 0) 2 4660 = (4660, 1) := by decide +kernel
  have hb : backE (ents tA.bfs) [66] = some 6 := by decide +kernel
  have hc : cnt (ents tA.bfs) = 5 := by decide +kernel
  have lit : subs0 (cT tA) [.str ByteArray.empty, .int .i64 0, .nil, .nil, .nil, .sl 4 1 (elt [[.int .i64 2, .int .i64 5, .int .i64 9, .sl 1 1 (elt [[.int .i64 65]])]])] := by
    refine ⟨⟨rfl⟩, ⟨rfl⟩, ⟨rfl⟩, ⟨rfl⟩, ⟨rfl⟩, ⟨⟨rfl⟩, fun i hi => ?_⟩, trivial⟩
    have hi : i < 1 := hi
    obtain rfl : i = 0 := by omega
    exact ⟨⟨rfl⟩, ⟨rfl⟩, ⟨rfl⟩, (lit_sub ci_emb [65]).1, trivial⟩
  ((refine Fn.ofF hC Tryz.func4 Tryz.ntmps4 rfl rfl rfl ?_); (repeat' first | (with_reducible exact trivial) | (with_reducible rfl) | (refine And.intro ?_ ?_) | (refine Need.mk ?_) | exact True.intro | (first | (refine ⟨_, Told.refl _, ?_, ?_⟩) | (refine ⟨⟨_, _⟩, Told.refl _, ?_, ?_⟩) | (refine ⟨⟨_, _, _⟩, Told.refl _, ?_, ?_⟩) | (refine ⟨⟨_, _, _, _⟩, Told.refl _, ?_, ?_⟩) | (refine ⟨⟨_, _, _, _, _⟩, Told.refl _, ?_, ?_⟩) | (refine ⟨(), Told.refl _, ?_, ?_⟩)) | (with_reducible intro _) | (refine fun (_ : Bool) => ?_)))
  · decide
  · decide
  refine Exists.intro (tA, [66]) (And.intro (Told.of ?_) (And.intro ?_ ?_))
  · exact ⟨lit, (lit_sub ci_emb [66]).1, trivial⟩
  · refine ⟨by decide, by decide, fun x hx => ?_⟩
    obtain rfl := List.mem_singleton.1 hx
    decide
  · (repeat' first | (with_reducible exact trivial) | (with_reducible rfl) | (refine And.intro ?_ ?_) | (refine Need.mk ?_) | exact True.intro | (first | (refine ⟨_, Told.refl _, ?_, ?_⟩) | (refine ⟨⟨_, _⟩, Told.refl _, ?_, ?_⟩) | (refine ⟨⟨_, _, _⟩, Told.refl _, ?_, ?_⟩) | (refine ⟨⟨_, _, _, _⟩, Told.refl _, ?_, ?_⟩) | (refine ⟨⟨_, _, _, _, _⟩, Told.refl _, ?_, ?_⟩) | (refine ⟨(), Told.refl _, ?_, ?_⟩)) | (with_reducible intro _) | (refine fun (_ : Bool) => ?_))
    · refine Exists.intro tA (And.intro (Told.of ?_) (And.intro ?_ ?_))
      · exact ⟨lit, trivial⟩
      · show 1 ≤ 1000000
        decide
      · (repeat' first | (with_reducible exact trivial) | (with_reducible rfl) | (refine And.intro ?_ ?_) | (refine Need.mk ?_) | exact True.intro | (first | (refine ⟨_, Told.refl _, ?_, ?_⟩) | (refine ⟨⟨_, _⟩, Told.refl _, ?_, ?_⟩) | (refine ⟨⟨_, _, _⟩, Told.refl _, ?_, ?_⟩) | (refine ⟨⟨_, _, _, _⟩, Told.refl _, ?_, ?_⟩) | (refine ⟨⟨_, _, _, _, _⟩, Told.refl _, ?_, ?_⟩) | (refine ⟨(), Told.refl _, ?_, ?_⟩)) | (with_reducible intro _) | (refine fun (_ : Bool) => ?_))
        all_goals rw [hc]
        all_goals decide
    all_goals simp only [hn, hb] at *
    all_goals first | decide | (simp at *; done)
theorem OD_filter {l : List Bf} (p : Bf → Bool) : EB.OD l → EB.OD (l.filter p) := by
  induction l with
  | nil => exact fun _ => trivial
  | cons x l ih =>
    intro h
    rw [List.filter_cons]
    split
    · exact ⟨h.1, fun y hy => h.2.1 y (List.mem_filter.1 hy).1, ih h.2.2⟩
    · exact ih h.2.2
theorem fur_of_hit {u : List Int} {b : Bf} (h : hit u b = true) (hb : 1 ≤ b.to.length) : u = fur b.to (lastI u - lastI b.to) := by
  obtain ⟨h1, h2, h3, h4⟩ := (hit_iff u b).1 h
  refine List.ext_getElem (by rw [fur_len]; omega) fun i hi hi2 => ?_
  have hs : (fur b.to (lastI u - lastI b.to))[i]'hi2 = if b.to.length - 1 = i then lastI b.to + (lastI u - lastI b.to) else b.to[i]'(by omega) := List.getElem_set ..
  rw [hs]
  split
  · rename_i e
    have hx : lastI u = u[i] := by
      unfold lastI
      rw [getD_at (by omega)]
      congr 1
      omega
    rw [← hx]
    omega
  · rename_i e
    have h5 := h2 i (by omega)
    rw [getD_at hi, getD_at (by omega)] at h5
    exact h5.symm
theorem hit_fur {b : Bf} (hb : 1 ≤ b.to.length) {d : Int} (h0 : 0 ≤ d) (h1 : d ≤ b.hi - b.lo) : hit (fur b.to d) b = true := by
  have hl := lastI_fur hb d
  refine (hit_iff _ _).2 ⟨(fur_len _ _).symm, fun j hj => ?_, by omega, by omega⟩
  rw [fur_len] at hj
  unfold fur
  rw [getD_at (by omega), getD_at (by rw [List.length_set]; omega), List.getElem_set, if_neg (by omega)]
theorem ents_canon {l : List Bf} (h : EB.canon l = true) : ents l = two l := if_pos h
theorem back_find {l : List Bf} {u : List Int} {k : Int} (h : backE (ents l) u = some k) : EB.find l 2 k = some u := by
  unfold backE at h
  obtain ⟨b, hb, rfl⟩ := Option.map_eq_some_iff.1 h
  have hm := List.mem_of_find?_eq_some hb
  have hh : hit u b = true := by have := List.find?_some hb; simpa using this
  obtain ⟨h1, h2, h3⟩ := ents_sane b hm
  have r := rngB h1
  obtain ⟨q1, q2, q3, q4⟩ := (hit_iff u b).1 hh
  have hc : EB.canon l = true := by
    unfold ents at hm
    split at hm
    · assumption
    · cases hm
  have htab := (EB.canon_iff l).1 hc
  rw [EB.find_tab htab]
  have hget := Tb.get_of_mem EB.toTb htab.2.1 h3 (n := 2) (c := b.lo + (lastI u - lastI b.to)) ⟨h2, (by show b.lo ≤ b.lo + (lastI u - lastI b.to); omega), (by show b.lo + (lastI u - lastI b.to) ≤ b.hi; omega)⟩
  refine hget.trans (congrArg some ?_)
  show fur b.to (b.lo + (lastI u - lastI b.to) - b.lo) = u
  rw [show b.lo + (lastI u - lastI b.to) - b.lo = lastI u - lastI b.to by omega]
  exact (fur_of_hit hh r.2.2.1.1).symm
theorem find_back {l : List Bf} {a : List Int} {c : Int} (h : EB.find l 2 c = some a) : ∃ k, backE (ents l) a = some k ∧ k ≤ c := by
  have hc : EB.canon l = true := by
    unfold En.find at h
    split at h
    · assumption
    · cases h
  have htab := (EB.canon_iff l).1 hc
  rw [EB.find_tab htab] at h
  obtain ⟨b, hb, ⟨h1, h2, h3⟩, rfl⟩ := Tb.get_mem _ h
  have h1 : b.n = 2 := h1
  have h2 : b.lo ≤ c := h2
  have h3 : c ≤ b.hi := h3
  have r := rngB (htab.1 b hb)
  have hval : EB.val b c = fur b.to (c - b.lo) := rfl
  rw [hval]
  have hbe : b ∈ ents l := by rw [ents_canon hc]; exact List.mem_filter.2 ⟨hb, by simp [h1]⟩
  have hbh := hit_fur (b := b) r.2.2.1.1 (d := c - b.lo) (by omega) (by omega)
  cases hf : (ents l).find? (hit (fur b.to (c - b.lo))) with
  | none =>
    have := List.find?_eq_none.1 hf b hbe
    exact absurd hbh (by simpa using this)
  | some b' =>
    refine ⟨b'.lo + (lastI (fur b.to (c - b.lo)) - lastI b'.to), by unfold backE; rw [hf]; rfl, ?_⟩
    obtain ⟨hh, l1, l2, he, hno⟩ := List.find?_eq_some_iff_append.1 hf
    have hll := lastI_fur r.2.2.1.1 (c - b.lo)
    obtain ⟨q1, q2, q3, q4⟩ := (hit_iff _ _).1 hh
    have hod : EB.OD (ents l) := by rw [ents_canon hc]; exact OD_filter _ htab.2.1
    rw [he] at hbe hod
    rcases List.mem_append.1 hbe with q | q
    · have := hno b q
      rw [hbh] at this
      cases this
    · rcases List.mem_cons.1 q with rfl | q
      · omega
      · have hb' := (Tb.OD_append EB.toTb).1 hod
        have hbef := hb'.2.1.2.1 b q
        have hn' : b'.n = 2 := (ents_sane b' (by rw [he]; simp)).2.1
        have hbef : b'.n < b.n ∨ (b'.n = b.n ∧ b'.hi < b.lo) := hbef
        omega
theorem find_rng {l : List Bf} {n v : Int} {a : List Int} (h : EB.find l n v = some a) : a.length ≤ 64 ∧ ∀ x ∈ a, 0 ≤ x ∧ x ≤ 65535 := by
  have hc : EB.canon l = true := by
    unfold En.find at h
    split at h
    · assumption
    · cases h
  have htab := (EB.canon_iff l).1 hc
  rw [EB.find_tab htab] at h
  obtain ⟨b, hb, ⟨h1, h2, h3⟩, rfl⟩ := Tb.get_mem _ h
  have h2 : b.lo ≤ v := h2
  have h3 : v ≤ b.hi := h3
  have r := rngB (htab.1 b hb)
  show (fur b.to (v - b.lo)).length ≤ 64 ∧ ∀ x ∈ fur b.to (v - b.lo), _
  refine ⟨by rw [fur_len]; omega, fun x hx => ?_⟩
  rcases mem_fur hx with q | q
  · exact r.2.2.2.1 x q
  · omega
def SCollBack : Sp := ⟨Tbl × Int × List Int, fun (t, c, u) => ∀ x ∈ u, -9223372036854775808 ≤ x ∧ x ≤ 9223372036854775807, fun (t, c, u) => [.agg (cT t), .int .i64 c, aI u], fun _ => .st (.lit true)⟩
end Go.Abs.Coll
set_option maxRecDepth 100000
namespace Go.Abs.Utf
open Go.RowKit Go.Proofs
def goodB (x : Int) : Bool := decide (0 ≤ x ∧ x ≤ 1114111 ∧ (x < 55296 ∨ 57343 < x))
def gd (x : Int) : Int := if goodB x = true then x else 65533
def highB (x : Int) : Bool := decide (55296 ≤ x ∧ x ≤ 56319)
def lowB (x : Int) : Bool := decide (56320 ≤ x ∧ x ≤ 57343)
def oneU (x : Int) : Int := if x > 65535 then 65533 else gd x
def decU : List Int → List Int
  | [] => []
  | [a] => [oneU a]
  | a :: b :: r => if highB a = true ∧ lowB b = true then (65536 + (a - 55296) * 1024 + b - 56320) :: decU r else oneU a :: decU (b :: r)
theorem decU_pair {a b : Int} {r : List Int} (h1 : highB a = true) (h2 : lowB b = true) : decU (a :: b :: r) = (65536 + (a - 55296) * 1024 + b - 56320) :: decU r := by
  rw [decU, if_pos ⟨h1, h2⟩]
theorem decU_one {a : Int} {r : List Int} (h : ∀ b r', r = b :: r' → ¬ (highB a = true ∧ lowB b = true)) : decU (a :: r) = oneU a :: decU r := by
  cases r with
  | nil => simp [decU]
  | cons b r => rw [decU, if_neg (h b r rfl)]
theorem decU_len : ∀ l : List Int, (decU l).length ≤ l.length
  | [] => Nat.le_refl _
  | [a] => Nat.le_refl _
  | a :: b :: r => by
    have h1 := decU_len r
    have h2 := decU_len (b :: r)
    rw [decU]
    split
    · simp only [List.length_cons]
      omega
    · simp only [List.length_cons] at *
      omega
def SGood : Sp := ⟨Int, fun _ => True, fun n => [.int .i64 n], fun n => .st (.sb (goodB n))⟩
def SGd : Sp := ⟨Int, fun _ => True, fun n => [.int .i64 n], fun n => .st (.int .i64 (gd n))⟩
def SHigh : Sp := ⟨Int, fun _ => True, fun n => [.int .i64 n], fun n => .st (.sb (highB n))⟩
def SLow : Sp := ⟨Int, fun _ => True, fun n => [.int .i64 n], fun n => .st (.sb (lowB n))⟩
def SOneU : Sp := ⟨Int, fun _ => True, fun n => [.int .i64 n], fun n => .st (.int .i64 (oneU n))⟩
theorem good : SpOK Tryz.prog 86 SGood := fun (n : Int) _ => by
  have hC := base
  ((refine Fn.ofF hC Tryz.func86 Tryz.ntmps86 rfl rfl rfl ?_); (repeat' first | (with_reducible exact trivial) | (with_reducible rfl) | (refine And.intro ?_ ?_) | (refine Need.mk ?_) | exact True.intro | (first | (refine ⟨_, Told.refl _, ?_, ?_⟩) | (refine ⟨⟨_, _⟩, Told.refl _, ?_, ?_⟩) | (refine ⟨⟨_, _, _⟩, Told.refl _, ?_, ?_⟩) | (refine ⟨⟨_, _, _, _⟩, Told.refl _, ?_, ?_⟩) | (refine ⟨⟨_, _, _, _, _⟩, Told.refl _, ?_, ?_⟩) | (refine ⟨(), Told.refl _, ?_, ?_⟩)) | (with_reducible intro _) | (refine fun (_ : Bool) => ?_)))
  all_goals
    unfold goodB
    ((try dsimp only at *); (try simp only [decide_eq_true_eq, decide_eq_false_iff_not, beq_iff_eq, bne_iff_ne, beq_eq_false_iff_ne, bne_eq_false_iff_eq, ne_eq, Decidable.not_not, ge_iff_le, gt_iff_lt, Bool.not_eq_true', Bool.not_eq_false', Int.not_lt, Int.not_le, Nat.not_lt, Nat.not_le] at *))
    first
      | (rw [decide_eq_true (by omega)]; exact decide_eq_true (by omega))
      | (symm; rw [decide_eq_false_iff_not]; omega)
      | (rw [Bool.eq_iff_iff, decide_eq_true_eq, decide_eq_true_eq]; omega)
      | (symm; rw [decide_eq_true_eq]; omega)
theorem gdf : SpOK Tryz.prog 55 SGd := fun (n : Int) _ => by
  have hC : COK Tryz.prog (cfg [(86, SGood)]) := Ty.ty.cfg ⟨good, trivial⟩
  ((refine Fn.ofF hC Tryz.func55 Tryz.ntmps55 rfl rfl rfl ?_); (repeat' first | (with_reducible exact trivial) | (with_reducible rfl) | (refine And.intro ?_ ?_) | (refine Need.mk ?_) | exact True.intro | (first | (refine ⟨_, Told.refl _, ?_, ?_⟩) | (refine ⟨⟨_, _⟩, Told.refl _, ?_, ?_⟩) | (refine ⟨⟨_, _, _⟩, Told.refl _, ?_, ?_⟩) | (refine ⟨⟨_, _, _, _⟩, Told.refl _, ?_, ?_⟩) | (refine ⟨⟨_, _, _, _, _⟩, Told.refl _, ?_, ?_⟩) | (refine ⟨(), Told.refl _, ?_, ?_⟩)) | (with_reducible intro _) | (refine fun (_ : Bool) => ?_)))
  all_goals
    unfold gd
    first
      | (rw [if_pos ‹_›]; done)
      | (rw [if_neg (by simp [‹goodB n = false›])]; done)
theorem high : SpOK Tryz.prog 57 SHigh := fun (n : Int) _ => by
  have hC := base
  ((refine Fn.ofF hC Tryz.func57 Tryz.ntmps57 rfl rfl rfl ?_); (repeat' first | (with_reducible exact trivial) | (with_reducible rfl) | (refine And.intro ?_ ?_) | (refine Need.mk ?_) | exact True.intro | (first | (refine ⟨_, Told.refl _, ?_, ?_⟩) | (refine ⟨⟨_, _⟩, Told.refl _, ?_, ?_⟩) | (refine ⟨⟨_, _, _⟩, Told.refl _, ?_, ?_⟩) | (refine ⟨⟨_, _, _, _⟩, Told.refl _, ?_, ?_⟩) | (refine ⟨⟨_, _, _, _, _⟩, Told.refl _, ?_, ?_⟩) | (refine ⟨(), Told.refl _, ?_, ?_⟩)) | (with_reducible intro _) | (refine fun (_ : Bool) => ?_)))
  all_goals
    unfold highB
    ((try dsimp only at *); (try simp only [decide_eq_true_eq, decide_eq_false_iff_not, beq_iff_eq, bne_iff_ne, beq_eq_false_iff_ne, bne_eq_false_iff_eq, ne_eq, Decidable.not_not, ge_iff_le, gt_iff_lt, Bool.not_eq_true', Bool.not_eq_false', Int.not_lt, Int.not_le, Nat.not_lt, Nat.not_le] at *))
    first
      | (symm; rw [decide_eq_false_iff_not]; omega)
      | (rw [Bool.eq_iff_iff, decide_eq_true_eq, decide_eq_true_eq]; omega)
theorem low : SpOK Tryz.prog 58 SLow := fun (n : Int) _ => by
  have hC := base
  ((refine Fn.ofF hC Tryz.func58 Tryz.ntmps58 rfl rfl rfl ?_); (repeat' first | (with_reducible exact trivial) | (with_reducible rfl) | (refine And.intro ?_ ?_) | (refine Need.mk ?_) | exact True.intro | (first | (refine ⟨_, Told.refl _, ?_, ?_⟩) | (refine ⟨⟨_, _⟩, Told.refl _, ?_, ?_⟩) | (refine ⟨⟨_, _, _⟩, Told.refl _, ?_, ?_⟩) | (refine ⟨⟨_, _, _, _⟩, Told.refl _, ?_, ?_⟩) | (refine ⟨⟨_, _, _, _, _⟩, Told.refl _, ?_, ?_⟩) | (refine ⟨(), Told.refl _, ?_, ?_⟩)) | (with_reducible intro _) | (refine fun (_ : Bool) => ?_)))
  all_goals
    unfold lowB
    ((try dsimp only at *); (try simp only [decide_eq_true_eq, decide_eq_false_iff_not, beq_iff_eq, bne_iff_ne, beq_eq_false_iff_ne, bne_eq_false_iff_eq, ne_eq, Decidable.not_not, ge_iff_le, gt_iff_lt, Bool.not_eq_true', Bool.not_eq_false', Int.not_lt, Int.not_le, Nat.not_lt, Nat.not_le] at *))
    first
      | (symm; rw [decide_eq_false_iff_not]; omega)
      | (rw [Bool.eq_iff_iff, decide_eq_true_eq, decide_eq_true_eq]; omega)
theorem oneF : SpOK Tryz.prog 59 SOneU := fun (n : Int) _ => by
  have hC : COK Tryz.prog (cfg [(55, SGd)]) := Ty.ty.cfg ⟨gdf, trivial⟩
  ((refine Fn.ofF hC Tryz.func59 Tryz.ntmps59 rfl rfl rfl ?_); (repeat' first | (with_reducible exact trivial) | (with_reducible rfl) | (refine And.intro ?_ ?_) | (refine Need.mk ?_) | exact True.intro | (first | (refine ⟨_, Told.refl _, ?_, ?_⟩) | (refine ⟨⟨_, _⟩, Told.refl _, ?_, ?_⟩) | (refine ⟨⟨_, _, _⟩, Told.refl _, ?_, ?_⟩) | (refine ⟨⟨_, _, _, _⟩, Told.refl _, ?_, ?_⟩) | (refine ⟨⟨_, _, _, _, _⟩, Told.refl _, ?_, ?_⟩) | (refine ⟨(), Told.refl _, ?_, ?_⟩)) | (with_reducible intro _) | (refine fun (_ : Bool) => ?_)))
  all_goals
    unfold oneU
    ((try dsimp only at *); (try simp only [decide_eq_true_eq, decide_eq_false_iff_not, beq_iff_eq, bne_iff_ne, beq_eq_false_iff_ne, bne_eq_false_iff_eq, ne_eq, Decidable.not_not, ge_iff_le, gt_iff_lt, Bool.not_eq_true', Bool.not_eq_false', Int.not_lt, Int.not_le, Nat.not_lt, Nat.not_le] at *))
    first
      | (rw [if_pos (by omega)]; done)
      | (rw [if_neg (by omega)]; done)
def SDec : Sp := ⟨List Int, fun l => l.length ≤ 1000000000, fun l => [aI l], fun l => .row 3 1 (decU l).length (els ci (decU l))⟩
theorem getD_drop (l : List Int) (k i : Nat) : (l.drop k).getD i default = l.getD (k + i) default := by
  simp [List.getD, List.getElem?_drop]
def pairX (a b : Int) : Int := IntKind.i64.wrap (IntKind.i64.wrap (IntKind.i64.wrap (65536 + IntKind.i64.wrap (IntKind.i64.wrap (a - 55296) * 2 ^ min (Int.toNat 10) IntKind.i64.bits)) + b) - 56320)
theorem pairW {a b : Int} (h1 : highB a = true) (h2 : lowB b = true) : pairX a b = 65536 + (a - 55296) * 1024 + b - 56320 := by
  unfold pairX
  unfold highB at h1
  unfold lowB at h2
  rw [decide_eq_true_eq] at h1 h2
  rw [show (2 : Int) ^ min (Int.toNat 10) IntKind.i64.bits = 1024 from rfl]
  simp only [IntKind.wrap_i64]
  omega
set_option maxHeartbeats 4000000 in
theorem dec16 : SpOK Tryz.prog 25 SDec := fun (l : List Int) hl => by
  have hC : COK Tryz.prog (cfg [(57, SHigh), (58, SLow), (59, SOneU)]) := Ty.ty.cfg ⟨high, low, oneF, trivial⟩
  have hl : l.length ≤ 1000000000 := hl
  ((refine Fn.ofF hC Tryz.func25 Tryz.ntmps25 rfl rfl rfl ?_); (repeat' first | (with_reducible exact trivial) | (with_reducible rfl) | (refine And.intro ?_ ?_) | (refine Need.mk ?_) | exact True.intro | (first | (refine ⟨_, Told.refl _, ?_, ?_⟩) | (refine ⟨⟨_, _⟩, Told.refl _, ?_, ?_⟩) | (refine ⟨⟨_, _, _⟩, Told.refl _, ?_, ?_⟩) | (refine ⟨⟨_, _, _, _⟩, Told.refl _, ?_, ?_⟩) | (refine ⟨⟨_, _, _, _, _⟩, Told.refl _, ?_, ?_⟩) | (refine ⟨(), Told.refl _, ?_, ?_⟩)) | (with_reducible intro _) | (refine fun (_ : Bool) => ?_)))
  refine AW.loop (I := fun x : List Int × List Int => ⟨48, [(0, aI x.1), (3, .own 0)], [.row 3 1 x.2.length (els ci x.2)]⟩) (fun x => x.1.length + x.2.length ≤ l.length ∧ decU l = x.2 ++ decU x.1) (fun x => x.1.length) (l, []) ⟨Nat.le_refl _, rfl⟩ ?_ ?_
  · (repeat' first | (with_reducible exact trivial) | (with_reducible rfl) | (refine And.intro ?_ ?_) | (refine Need.mk ?_) | exact True.intro | (first | (refine ⟨_, Told.refl _, ?_, ?_⟩) | (refine ⟨⟨_, _⟩, Told.refl _, ?_, ?_⟩) | (refine ⟨⟨_, _, _⟩, Told.refl _, ?_, ?_⟩) | (refine ⟨⟨_, _, _, _⟩, Told.refl _, ?_, ?_⟩) | (refine ⟨⟨_, _, _, _, _⟩, Told.refl _, ?_, ?_⟩) | (refine ⟨(), Told.refl _, ?_, ?_⟩)) | (with_reducible intro _) | (refine fun (_ : Bool) => ?_))
    all_goals rfl
  · rintro ⟨u, out⟩ ⟨h1, h2⟩
    dsimp only at h1 h2 ⊢
    rcases u with _ | ⟨a, u⟩
    · have h3 : decU l = out := by rw [h2]; simp [decU]
      ((refine AW.byF ‹_› ?_); (repeat' first | (with_reducible exact trivial) | (with_reducible rfl) | (refine And.intro ?_ ?_) | (refine Need.mk ?_) | exact True.intro | (first | (refine ⟨_, Told.refl _, ?_, ?_⟩) | (refine ⟨⟨_, _⟩, Told.refl _, ?_, ?_⟩) | (refine ⟨⟨_, _, _⟩, Told.refl _, ?_, ?_⟩) | (refine ⟨⟨_, _, _, _⟩, Told.refl _, ?_, ?_⟩) | (refine ⟨⟨_, _, _, _, _⟩, Told.refl _, ?_, ?_⟩) | (refine ⟨(), Told.refl _, ?_, ?_⟩)) | (with_reducible intro _) | (refine fun (_ : Bool) => ?_)))
      all_goals first | (exact absurd ‹decide ((([] : List Int).length : Int) > 0) = true› (by decide)) | skip
      all_goals rw [h3]
    · have hdl := decU_len (a :: u)
      have hd : decide (((a :: u).length : Int) > 0) = true := by simp
      have hd2 : ∀ i : Nat, (a :: u).getD (1 + i) default = u.getD i default := fun i => by rw [Nat.add_comm]; rfl
      rcases u with _ | ⟨b, u⟩
      · have h5 : decU l = (out ++ [oneU a]) ++ decU [] := by rw [h2]; simp [decU]
        ((refine AW.byF ‹_› ?_); (repeat' first | (with_reducible exact trivial) | (with_reducible rfl) | (refine And.intro ?_ ?_) | (refine Need.mk ?_) | exact True.intro | (first | (refine ⟨_, Told.refl _, ?_, ?_⟩) | (refine ⟨⟨_, _⟩, Told.refl _, ?_, ?_⟩) | (refine ⟨⟨_, _, _⟩, Told.refl _, ?_, ?_⟩) | (refine ⟨⟨_, _, _, _⟩, Told.refl _, ?_, ?_⟩) | (refine ⟨⟨_, _, _, _, _⟩, Told.refl _, ?_, ?_⟩) | (refine ⟨(), Told.refl _, ?_, ?_⟩)) | (with_reducible intro _) | (refine fun (_ : Bool) => ?_)))
        all_goals first | (exact absurd ‹decide ((([a] : List Int).length : Int) > 1) = true› (by simp)) | (exact absurd ‹decide ((([a] : List Int).length : Int) > 0) = false› (by rw [hd]; decide)) | skip
        any_goals (refine Exists.intro (([], out ++ [oneU a]) : List Int × List Int) (And.intro ?_ (And.intro ?_ ?_)); all_goals (repeat' first | (with_reducible exact trivial) | (with_reducible rfl) | (refine And.intro ?_ ?_) | (refine Need.mk ?_) | exact True.intro | (first | (refine ⟨_, Told.refl _, ?_, ?_⟩) | (refine ⟨⟨_, _⟩, Told.refl _, ?_, ?_⟩) | (refine ⟨⟨_, _, _⟩, Told.refl _, ?_, ?_⟩) | (refine ⟨⟨_, _, _, _⟩, Told.refl _, ?_, ?_⟩) | (refine ⟨⟨_, _, _, _, _⟩, Told.refl _, ?_, ?_⟩) | (refine ⟨(), Told.refl _, ?_, ?_⟩)) | (with_reducible intro _) | (refine fun (_ : Bool) => ?_)))
        all_goals first
          | (exact h5)
          | (rename_i i hi; exact els_of ci_emb (n := 0) (cat_snoc rfl) i hi)
          | (rw [List.length_append]; rfl)
          | (rename_i i hi; exact absurd hi (Nat.not_lt_zero _))
          | omega | (simp only [List.length_cons, List.length_nil, List.length_append] at h1 ⊢; omega) | (simp only [List.length_cons, List.length_nil, List.length_append]; omega) | (simp only [List.length_cons, List.length_nil, List.length_append] at h1 hl hdl ⊢; dsimp only [] at *; omega)
      · have hd3 : decide (((a :: b :: u).length : Int) > 1) = true := by
          rw [decide_eq_true_eq]
          simp only [List.length_cons]
          omega
        by_cases hp : highB a = true ∧ lowB b = true
        · have h5 : decU l = (out ++ [pairX a b]) ++ decU u := by
            rw [h2, decU_pair hp.1 hp.2, pairW hp.1 hp.2, List.append_assoc]
            rfl
          ((refine AW.byF ‹_› ?_); (repeat' first | (with_reducible exact trivial) | (with_reducible rfl) | (refine And.intro ?_ ?_) | (refine Need.mk ?_) | exact True.intro | (first | (refine ⟨_, Told.refl _, ?_, ?_⟩) | (refine ⟨⟨_, _⟩, Told.refl _, ?_, ?_⟩) | (refine ⟨⟨_, _, _⟩, Told.refl _, ?_, ?_⟩) | (refine ⟨⟨_, _, _, _⟩, Told.refl _, ?_, ?_⟩) | (refine ⟨⟨_, _, _, _, _⟩, Told.refl _, ?_, ?_⟩) | (refine ⟨(), Told.refl _, ?_, ?_⟩)) | (with_reducible intro _) | (refine fun (_ : Bool) => ?_)))
          all_goals first | (exact absurd ‹decide (((a :: b :: u).length : Int) > 1) = false› (by rw [hd3]; decide)) | (exact absurd ‹decide (((a :: b :: u).length : Int) > 0) = false› (by rw [hd]; decide)) | skip
          all_goals first | (exact absurd ‹highB ((a :: b :: u).getD (Int.toNat 0) default) = false› (by rw [show (a :: b :: u).getD (Int.toNat 0) default = a from rfl, hp.1]; decide)) | (exact absurd ‹lowB ((a :: b :: u).getD (Int.toNat 1) default) = false› (by rw [show (a :: b :: u).getD (Int.toNat 1) default = b from rfl, hp.2]; decide)) | skip
          any_goals (refine Exists.intro ((u, out ++ [pairX a b]) : List Int × List Int) (And.intro ?_ (And.intro ?_ ?_)); all_goals (repeat' first | (with_reducible exact trivial) | (with_reducible rfl) | (refine And.intro ?_ ?_) | (refine Need.mk ?_) | exact True.intro | (first | (refine ⟨_, Told.refl _, ?_, ?_⟩) | (refine ⟨⟨_, _⟩, Told.refl _, ?_, ?_⟩) | (refine ⟨⟨_, _, _⟩, Told.refl _, ?_, ?_⟩) | (refine ⟨⟨_, _, _, _⟩, Told.refl _, ?_, ?_⟩) | (refine ⟨⟨_, _, _, _, _⟩, Told.refl _, ?_, ?_⟩) | (refine ⟨(), Told.refl _, ?_, ?_⟩)) | (with_reducible intro _) | (refine fun (_ : Bool) => ?_)))
          all_goals first
            | (exact h5)
            | (rename_i i hi; exact els_of ci_emb (n := 0) (cat_snoc rfl) i hi)
            | (rw [List.length_append]; rfl)
            | (rw [show Int.toNat 1 + _ = _ + 1 from Nat.add_comm _ _]; rfl)
            | (rw [show Int.toNat 2 + _ = _ + 1 + 1 from Nat.add_comm _ _]; rfl)
            | omega | (simp only [List.length_cons, List.length_nil, List.length_append] at h1 ⊢; omega) | (simp only [List.length_cons, List.length_nil, List.length_append]; omega) | (simp only [List.length_cons, List.length_nil, List.length_append] at h1 hl hdl ⊢; dsimp only [] at *; omega)
        · have h5 : decU l = (out ++ [oneU a]) ++ decU (b :: u) := by
            rw [h2, decU_one (fun b' r' e hh => by
              injection e with e1 e2
              subst e1
              exact hp hh), List.append_assoc]
            rfl
          ((refine AW.byF ‹_› ?_); (repeat' first | (with_reducible exact trivial) | (with_reducible rfl) | (refine And.intro ?_ ?_) | (refine Need.mk ?_) | exact True.intro | (first | (refine ⟨_, Told.refl _, ?_, ?_⟩) | (refine ⟨⟨_, _⟩, Told.refl _, ?_, ?_⟩) | (refine ⟨⟨_, _, _⟩, Told.refl _, ?_, ?_⟩) | (refine ⟨⟨_, _, _, _⟩, Told.refl _, ?_, ?_⟩) | (refine ⟨⟨_, _, _, _, _⟩, Told.refl _, ?_, ?_⟩) | (refine ⟨(), Told.refl _, ?_, ?_⟩)) | (with_reducible intro _) | (refine fun (_ : Bool) => ?_)))
          all_goals first | (exact absurd ‹decide (((a :: b :: u).length : Int) > 1) = false› (by rw [hd3]; decide)) | (exact absurd ‹decide (((a :: b :: u).length : Int) > 0) = false› (by rw [hd]; decide)) | skip
          all_goals first | (exact absurd (And.intro ‹highB ((a :: b :: u).getD (Int.toNat 0) default) = true› ‹lowB ((a :: b :: u).getD (Int.toNat 1) default) = true›) hp) | skip
          any_goals (refine Exists.intro ((b :: u, out ++ [oneU a]) : List Int × List Int) (And.intro ?_ (And.intro ?_ ?_)); all_goals (repeat' first | (with_reducible exact trivial) | (with_reducible rfl) | (refine And.intro ?_ ?_) | (refine Need.mk ?_) | exact True.intro | (first | (refine ⟨_, Told.refl _, ?_, ?_⟩) | (refine ⟨⟨_, _⟩, Told.refl _, ?_, ?_⟩) | (refine ⟨⟨_, _, _⟩, Told.refl _, ?_, ?_⟩) | (refine ⟨⟨_, _, _, _⟩, Told.refl _, ?_, ?_⟩) | (refine ⟨⟨_, _, _, _, _⟩, Told.refl _, ?_, ?_⟩) | (refine ⟨(), Told.refl _, ?_, ?_⟩)) | (with_reducible intro _) | (refine fun (_ : Bool) => ?_)))
          all_goals first
            | (exact h5)
            | (rename_i i hi; exact els_of ci_emb (n := 0) (cat_snoc rfl) i hi)
            | (rw [List.length_append]; rfl)
            | (rw [show Int.toNat 1 + _ = _ + 1 from Nat.add_comm _ _]; rfl)
            | (rw [show Int.toNat 2 + _ = _ + 1 + 1 from Nat.add_comm _ _]; rfl)
            | omega | (simp only [List.length_cons, List.length_nil, List.length_append] at h1 ⊢; omega) | (simp only [List.length_cons, List.length_nil, List.length_append]; omega) | (simp only [List.length_cons, List.length_nil, List.length_append] at h1 hl hdl ⊢; dsimp only [] at *; omega)
end Go.Abs.Utf
set_option maxRecDepth 100000
namespace Go.Proofs
open Go.Shelf Go.RowKit
def Tryz.lays169_ren : Go.Shelf.Ren := ⟨fun | 169 => 56 | n => n, fun | 0 => 0 | 3 => 3 | 9 => 9 | 37 => 94 | 70 => 93 | 72 => 96 | 127 => 130 | 5 => 5 | n => n, fun | n => n⟩
theorem Tryz.lays169 : Go.Proofs.Lays.n169 Tryz.prog Tryz.lays169_ren := {
  mixed := by kernel_rfl
  f169 := Tryz.func56.trans (congrArg some (by kernel_rfl))
  t0 := Tryz.underlying0
  a0 := Tryz.isAgg0
  z0 := Tryz.sizeOf0
  v0 := Tryz.zeroValue0
  t3 := Tryz.underlying3
  a3 := Tryz.isAgg3
  z3 := Tryz.sizeOf3
  v3 := Tryz.zeroValue3
  t9 := Tryz.underlying9
  a9 := Tryz.isAgg9
  z9 := Tryz.sizeOf9
  v9 := Tryz.zeroValue9
  t37 := Tryz.underlying94
  a37 := Tryz.isAgg94
  z37 := Tryz.sizeOf94
  v37 := Tryz.zeroValue94
  t70 := Tryz.underlying93
  a70 := Tryz.isAgg93
  z70 := Tryz.sizeOf93
  v70 := Tryz.zeroValue93
  t72 := Tryz.underlying96
  a72 := Tryz.isAgg96
  z72 := Tryz.sizeOf96
  v72 := Tryz.zeroValue96
  t127 := Tryz.underlying130
  a127 := Tryz.isAgg130
  z127 := Tryz.sizeOf130
  v127 := Tryz.zeroValue130 }
theorem Tryz.Builder_Extra_169 : Builder.Extra Tryz.prog Tryz.lays169_ren := {
  sizeBuilder := by kernel_rfl
  liesBuilder := by kernel_rfl
  t5 := Tryz.underlying5
  a5 := Tryz.isAgg5
  z5 := Tryz.sizeOf5
  v5 := Tryz.zeroValue5
  infoByte := by kernel_rfl
  cellsByte := by kernel_rfl
  sizeByte := by kernel_rfl
  neB5 := by decide }
theorem Tryz.Builder_String_any_k (B b : Nat) (l : List UInt8) (w : World) (h : Lib.IsBuilderF 96 5 B b (Lib.byteCells l) w) (hBw : B ≤ w.heap.size) :
    Calls Tryz.prog 56 #[.pointer (some ⟨b, 0, none⟩)] w fun e w' => e = .returned (.string ⟨l.toArray⟩) ∧ (Lib.IsBuilderF 96 5 B b (Lib.byteCells l) w' ∧ Below B w w' ∧ Lib.OthersKept 5 (some b) w w') := Any.Builder_String_any_k Tryz.lays169 Tryz.Builder_Extra_169 B b l w h hBw
def Tryz.lays168_ren : Go.Shelf.Ren := ⟨fun | 168 => 54 | 240 => 84 | 242 => 85 | 276 => 108 | 278 => 109 | n => n, fun | 0 => 0 | 3 => 3 | 4 => 4 | 5 => 5 | 9 => 9 | 20 => 20 | 21 => 21 | 37 => 94 | 46 => 104 | 51 => 142 | 70 => 93 | 72 => 96 | 75 => 98 | 164 => 153 | 80 => 102 | n => n, fun | n => n⟩
theorem Tryz.lays168 : Go.Proofs.Lays.n168 Tryz.prog Tryz.lays168_ren := {
  mixed := by kernel_rfl
  f168 := Tryz.func54.trans (congrArg some (by kernel_rfl))
  f240 := Tryz.func84.trans (congrArg some (by kernel_rfl))
  f242 := Tryz.func85.trans (congrArg some (by kernel_rfl))
  f276 := Tryz.func108.trans (congrArg some (by kernel_rfl))
  f278 := Tryz.func109.trans (congrArg some (by kernel_rfl))
  t0 := Tryz.underlying0
  a0 := Tryz.isAgg0
  z0 := Tryz.sizeOf0
  v0 := Tryz.zeroValue0
  t3 := Tryz.underlying3
  a3 := Tryz.isAgg3
  z3 := Tryz.sizeOf3
  v3 := Tryz.zeroValue3
  t4 := Tryz.underlying4
  a4 := Tryz.isAgg4
  z4 := Tryz.sizeOf4
  v4 := Tryz.zeroValue4
  t5 := Tryz.underlying5
  a5 := Tryz.isAgg5
  z5 := Tryz.sizeOf5
  v5 := Tryz.zeroValue5
  t9 := Tryz.underlying9
  a9 := Tryz.isAgg9
  z9 := Tryz.sizeOf9
  v9 := Tryz.zeroValue9
  t20 := Tryz.underlying20
  a20 := Tryz.isAgg20
  z20 := Tryz.sizeOf20
  v20 := Tryz.zeroValue20
  t21 := Tryz.underlying21
  a21 := Tryz.isAgg21
  z21 := Tryz.sizeOf21
  v21 := Tryz.zeroValue21
  t37 := Tryz.underlying94
  a37 := Tryz.isAgg94
  z37 := Tryz.sizeOf94
  v37 := Tryz.zeroValue94
  t46 := Tryz.underlying104
  a46 := Tryz.isAgg104
  z46 := Tryz.sizeOf104
  v46 := Tryz.zeroValue104
  t51 := Tryz.underlying142
  a51 := Tryz.isAgg142
  z51 := Tryz.sizeOf142
  v51 := Tryz.zeroValue142
  t70 := Tryz.underlying93
  a70 := Tryz.isAgg93
  z70 := Tryz.sizeOf93
  v70 := Tryz.zeroValue93
  t72 := Tryz.underlying96
  a72 := Tryz.isAgg96
  z72 := Tryz.sizeOf96
  v72 := Tryz.zeroValue96
  t75 := Tryz.underlying98
  a75 := Tryz.isAgg98
  z75 := Tryz.sizeOf98
  v75 := Tryz.zeroValue98
  t164 := Tryz.underlying153
  a164 := Tryz.isAgg153
  z164 := Tryz.sizeOf153
  v164 := Tryz.zeroValue153 }
theorem Tryz.Builder_Extra_168 : Builder.Extra Tryz.prog Tryz.lays168_ren := {
  sizeBuilder := by kernel_rfl
  liesBuilder := by kernel_rfl
  t5 := Tryz.underlying5
  a5 := Tryz.isAgg5
  z5 := Tryz.sizeOf5
  v5 := Tryz.zeroValue5
  infoByte := by kernel_rfl
  cellsByte := by kernel_rfl
  sizeByte := by kernel_rfl
  neB5 := by decide }
theorem Tryz.Builder_WriteRune_k (B b : Nat) (bs : List Value) (r : Int) (hr0 : -2147483648 ≤ r) (hr1 : r ≤ 2147483647) (w : World) (h : Lib.IsBuilderF 96 5 B b bs w) (hlen : bs.length + 4 ≤ 140737488355328) (hBw : B ≤ w.heap.size) :
    Calls Tryz.prog 54 #[.pointer (some ⟨b, 0, none⟩), .int .i32 r] w fun e w' => e = .returned (.tuple #[.int .i64 (Lib.runeCells r).length, .nilIface]) ∧ (Lib.BuilderAtF 96 5 B b (.pointer (some ⟨b, 0, none⟩)) (bs ++ Lib.runeCells r) w' ∧ Below B w w' ∧ Lib.OthersKept 5 (some b) w w') := Any.Builder_WriteRune_k Tryz.lays168 Tryz.Builder_Extra_168 B b bs r hr0 hr1 w h hlen hBw
end Go.Proofs
set_option maxRecDepth 100000
namespace Go.Abs.Txt
open Go.RowKit Go.Proofs Go.Abs.Utf
attribute [local go_sem] Oper.semAt_some
structure Aside0 (p : Prop) : Prop where mk :: (out : p)
theorem isB_below {T e : TypeId} {B b : Nat} {bs : List Value} {w w' : World} (h : Lib.IsBuilderF T e B b bs w) (hb : Below w.heap.size w w') : Lib.IsBuilderF T e B b bs w' := by
  have key : ∀ p, Lib.BuilderAtF T e B b p bs w → Lib.BuilderAtF T e B b p bs w' := fun p h => by
    have hlt := h.lt
    obtain ⟨hB, v, hbk, hown, hne⟩ := h
    exact ⟨hB, v, (hb.block b hlt).trans hbk, hown.kept (row := none) ⟨hb.os, hb.tape, hb.output, hb.size, fun k hk _ => hb.block k hk⟩ (by cases hv : v.ownBlock <;> simp), hne⟩
  exact h.elim (fun h => .inl (key _ h)) (fun h => .inr (key _ h))
theorem gd_range (x : Int) : 0 ≤ gd x ∧ gd x ≤ 1114111 := by
  unfold gd goodB
  split
  · rename_i h
    rw [decide_eq_true_eq] at h
    omega
  · omega
def enc (l : List Int) : List UInt8 := l.flatMap fun x => Lib.encodeRune (gd x)
def encB (l : List Int) : ByteArray := ⟨(enc l).toArray⟩
theorem enc_len : ∀ l : List Int, (enc l).length ≤ 4 * l.length
  | [] => by simp [enc]
  | x :: l => by
    have h := enc_len l
    have h2 := Lib.runeCells_le (gd x)
    rw [Lib.runeCells_length] at h2
    unfold enc at h ⊢
    rw [List.flatMap_cons, List.length_append, List.length_cons]
    omega
theorem goodC (x : Int) (w : World) : Calls Tryz.prog 55 #[.int .i64 x] w fun e w' => e = .returned (.int .i64 (gd x)) ∧ Below w.heap.size w w' := by
  refine ((gdf x trivial).2 w (fun _ => False) [.int .i64 x] (fun _ h => h.elim) ⟨rfl, fun i a v h1 h2 => ?_⟩).mono ?_
  · match i, h1, h2 with
    | 0, h1, h2 =>
      obtain rfl := Option.some.inj h1
      obtain rfl := Option.some.inj h2
      exact .int _ _
  · rintro e w' ⟨v, S', rfl, hr, _, _, hb⟩
    cases hr
    exact ⟨rfl, hb⟩
/-- The cells of a row of numbers. -/
theorem intCells {w : World} {S : Nat → Prop} {l : List Int} {v : Value} (h : RV0 w S (aI l) v) : ∃ A c, v = .slice A l.length c ∧ l.length ≤ c ∧ c ≤ maxLen ∧ ∀ i, i < l.length → ∃ ad, A = some ad ∧ S ad.block ∧ w.cell? (ad.add i) = some (.int .i64 (l.getD i default)) := by
  generalize ha : aI l = a at h
  cases h with
  | sl sz n el A cap g hcap hmax hl hm hr =>
    unfold aI at ha
    injection ha with h1 h2 h3
    subst h1 h2 h3
    refine ⟨A, cap, rfl, hcap, hmax, fun i hi => ?_⟩
    obtain ⟨ad, e1, e2, e3⟩ := hm i 0 hi (by omega)
    have e4 := hr i 0 (.int .i64 (l.getD i default)) hi rfl
    generalize hg : g i 0 = u at e3 e4
    cases e4
    refine ⟨ad, e1, e2, ?_⟩
    rw [← e3]
    simp
  | _ => exact absurd ha (by unfold aI; intro h; cases h)
def SText : Sp := ⟨List Int, fun l => l.length < 4398046511104, fun l => [aI l], fun l => .st (.str (encB l))⟩
set_option maxHeartbeats 4000000 in
theorem textC (A0 : Option Addr) (c0 : Nat) (l0 : List Int) (S : Nat → Prop) (w : World) (hS : ∀ b, S b → b < w.heap.size) (hr0 : ∀ i, i < l0.length → ∃ ad, A0 = some ad ∧ S ad.block ∧ w.cell? (ad.add i) = some (.int .i64 (l0.getD i default))) (hc0 : l0.length ≤ c0) (hl : l0.length < 4398046511104) :
    Calls Tryz.prog 24 #[.slice A0 l0.length c0] w fun e w' => e = .returned (.string (encB l0)) ∧ Below w.heap.size w w' := by
  have HL := Aside0.mk hl
  have HR0 := Aside0.mk hr0
  have HC0 := Aside0.mk hc0
  have HS := Aside0.mk hS
  clear hl hr0 hc0 hS
  go_enter Tryz.func24, Tryz.ntmps24
  go_wp2
  go_loopg [8] (l0.length + 1) (fun kq v8 w' => ∃ (i : Nat), v8 = .int .i64 (i : Nat) ∧ Aside0 (i ≤ l0.length ∧ l0.length + 1 ≤ kq + i) ∧ Aside0 (Lib.IsBuilderF 96 5 w.heap.size w.heap.size (Lib.byteCells (enc (l0.take i))) w') ∧ Aside0 (Below w.heap.size w w'))
  case atStart => exact ⟨0, rfl, ⟨by omega⟩, ⟨Lib.IsBuilderF.of (Lib.fresh_isBuilder 96 5 w)⟩, ⟨(Below.refl _ w).alloc (Nat.le_refl _) _⟩⟩
  case round =>
    obtain ⟨i, rfl, HI, HO, HB⟩ := hrel
    cases gk with
    | zero => have := HI.out; omega
    | succ k1 =>
      by_cases hi : i < l0.length
      · obtain ⟨ad, ead, hsb, hcell0⟩ := HR0.out i hi
        have hcell : wr.cell? (ad.add i) = some (.int .i64 l0[i]) := by
          rw [World.cell?_of_block (w := w) (by
            have : (ad.add i).block = ad.block := by unfold Addr.add; split <;> rfl
            rw [this]
            exact HB.out.block _ (HS.out _ hsb)), hcell0]
          simp [List.getD, hi]
        clear hcell0
        subst ead
        have htk : enc (l0.take (i + 1)) = enc (l0.take i) ++ Lib.encodeRune (gd l0[i]) := by rw [List.take_succ_eq_append_getElem hi]; unfold enc; rw [List.flatMap_append]; simp
        have hln := enc_len (l0.take i)
        have hl2 : (enc (l0.take i)).length ≤ 4 * i := by rw [List.length_take] at hln; omega
        have hg := gd_range l0[i]
        have p0 : (0 ≤ (i : Int)) = True := eq_true (by omega)
        have p1 : ((i : Int) < (l0.length : Int)) = True := eq_true (by omega)
        have HTK := Aside0.mk htk
        have HL2 := Aside0.mk hl2
        have HLi := Aside0.mk hi
        have hgd := goodC l0[i]
        clear htk hln hl2
        generalize gd l0[i] = y at *
        generalize l0[i] = x at *
        have hg0 := hg.1
        have hg1 := hg.2
        have HG := Aside0.mk hg
        have HGD := Aside0.mk hgd
        clear hg hgd
        go_wp2_with (first | (go_at_call 55; refine (HGD.out _).mono ?_; rintro e w1 ⟨rfl, hb1⟩; have HB1 := Aside0.mk hb1; clear hb1) | (go_at_call 54; have hbn := Aside0.mk (HB.out.trans (HB1.out.mono HB.out.size)); refine (Tryz.Builder_WriteRune_k w.heap.size w.heap.size (Lib.byteCells (enc (l0.take i))) y (by have := HG.out; omega) (by have := HG.out; omega) _ (isB_below HO.out HB1.out) (by rw [Lib.byteCells_length]; have := HL.out; have := HL2.out; have := HLi.out; omega) hbn.out.size).mono ?_; rintro e W1 ⟨rfl, h1, b1, _⟩))
        go_roundg k1
        case measure => have := HI.out; omega
        case rel => exact ⟨i + 1, (by first | rfl | (have := HL.out; have := HLi.out; congr 1; unfold wrap64; omega) | (have := HL.out; have := HLi.out; simp [wrap64]; omega)), ⟨by have := HI.out; omega⟩, ⟨by rw [HTK.out, Lib.byteCells_append, Lib.byteCells_encodeRune]; exact Or.inr h1⟩, ⟨hbn.out.trans b1⟩⟩
      · obtain rfl : i = l0.length := by have := HI.out; omega
        have ho := HO.out
        rw [List.take_length] at ho
        clear HO
        have HO := Aside0.mk ho
        clear ho
        go_wp2_with (go_at_call 56; refine (Tryz.Builder_String_any_k w.heap.size w.heap.size (enc l0) _ HO.out (HB.out.size)).mono ?_; rintro e W1 ⟨rfl, _, b1, _⟩)
        go_ret
        exact ⟨rfl, HB.out.trans b1⟩
theorem text : SpOK Tryz.prog 24 SText := fun (l : List Int) hl => by
  refine ⟨⟨_, Tryz.func24, rfl, rfl⟩, fun w S vs hS hv => ?_⟩
  obtain ⟨hl1, hv2⟩ := hv
  match vs, hl1, hv2 with
  | [v], hl1, hv2 =>
    obtain ⟨A, c, rfl, h1, h2, h3⟩ := intCells (hv2 0 _ _ rfl rfl)
    refine (textC A c l S w hS h3 h1 hl).mono ?_
    rintro e w' ⟨rfl, hb⟩
    exact ⟨_, S, rfl, .str _, fun _ q => q, fun b q => ⟨Nat.lt_of_lt_of_le (hS b q) hb.size, .inl q⟩, hb⟩
end Go.Abs.Txt
set_option maxRecDepth 100000
namespace Go.Abs.Coll
open Go.RowKit Go.Proofs Go.Abs.Tab Go.Abs.Dest Go.Abs.Span Go.Abs.Utf Go.Abs.Txt
def txtO : Option (List Int) → ByteArray
  | none => ByteArray.empty
  | some u => encB (decU u)
def SCText : Sp := ⟨Tbl × Int, fun (t, c) => t.bfs.length < 4611686018427387904, fun (t, c) => [.agg (cT t), .int .i64 c], fun (t, c) => .st (.tup [.str (txtO (EB.find t.bfs 2 c)), .sb (EB.find t.bfs 2 c).isSome])⟩
theorem ctext : SpOK Tryz.prog 9 SCText := fun ⟨t, c⟩ ht => by
  have hC : COK Tryz.prog (cfg [(23, SUni), (25, SDec), (24, SText)]) := Ty.ty.cfg ⟨uni, dec16, text, trivial⟩
  have ht : t.bfs.length < 4611686018427387904 := ht
  ((refine Fn.ofF hC Tryz.func9 Tryz.ntmps9 rfl rfl rfl ?_); (repeat' first | (with_reducible exact trivial) | (with_reducible rfl) | (refine And.intro ?_ ?_) | (refine Need.mk ?_) | exact True.intro | (first | (refine ⟨_, Told.refl _, ?_, ?_⟩) | (refine ⟨⟨_, _⟩, Told.refl _, ?_, ?_⟩) | (refine ⟨⟨_, _, _⟩, Told.refl _, ?_, ?_⟩) | (refine ⟨⟨_, _, _, _⟩, Told.refl _, ?_, ?_⟩) | (refine ⟨⟨_, _, _, _, _⟩, Told.refl _, ?_, ?_⟩) | (refine ⟨(), Told.refl _, ?_, ?_⟩)) | (with_reducible intro _) | (refine fun (_ : Bool) => ?_)))
  · exact ht
  all_goals
    cases hF : EB.find t.bfs 2 c with
    | none =>
      (simp only [hF, Option.isSome_none, Bool.not_false] at *) <;> first
        | rfl
        | (simp at *; done)
    | some a =>
      have hr := find_rng hF
      have hd := decU_len a
      (simp only [hF, Option.isSome_some, Option.getD_some] at *) <;> first
        | rfl
        | (show a.length ≤ 1000000000; omega)
        | (show (decU a).length < 4398046511104; omega)
        | (simp at *; done)
/-! How many codes have units. -/
theorem count_iv (lo hi : Nat) : ∀ n, ((List.range n).countP fun v => decide (lo ≤ v ∧ v ≤ hi)) = min n (hi + 1) - lo
  | 0 => by simp
  | n + 1 => by
    rw [List.range_succ, List.countP_append, count_iv lo hi n, List.countP_singleton]
    by_cases h : lo ≤ n ∧ n ≤ hi
    · rw [decide_eq_true h, if_pos rfl]
      omega
    · rw [decide_eq_false h, if_neg (by decide)]
      omega
theorem count_split (p q : Nat → Bool) (l : List Nat) (h : ∀ v ∈ l, ¬ (p v = true ∧ q v = true)) : (l.countP fun v => p v || q v) = l.countP p + l.countP q := by
  induction l with
  | nil => rfl
  | cons x l ih =>
    have hx := h x List.mem_cons_self
    rw [List.countP_cons, List.countP_cons, List.countP_cons, ih (fun v hv => h v (List.mem_cons_of_mem _ hv))]
    cases hp : p x <;> cases hq : q x <;> simp <;> first | omega | exact (hx ⟨hp, hq⟩).elim
theorem count_off {p q : Nat → Bool} {k : Nat} (hk : q k = true) (h : ∀ v, v ≠ k → q v = p v) : ∀ n, (List.range n).countP q = (List.range n).countP p + cond (decide (k < n) && !p k) 1 0
  | 0 => by simp
  | n + 1 => by
    rw [List.range_succ, List.countP_append, List.countP_append, count_off hk h n, List.countP_singleton, List.countP_singleton]
    by_cases e : n = k
    · subst e
      rw [hk, decide_eq_false (show ¬ n < n by omega), decide_eq_true (show n < n + 1 by omega)]
      cases hp : p n <;> simp
    · rw [h n e]
      by_cases h2 : k < n
      · rw [decide_eq_true h2, decide_eq_true (show k < n + 1 by omega)]
        omega
      · rw [decide_eq_false h2, decide_eq_false (show ¬ k < n + 1 by omega)]
        omega
def has2 (l : List Bf) (v : Nat) : Bool := (EB.get l 2 (v : Int)).isSome
theorem cnt_has : ∀ (l : List Bf), EB.OD l → (∀ x ∈ l, sane x = true) → cnt (two l) = ((List.range 65536).countP (has2 l) : Nat)
  | [], _, _ => by
    have : (has2 []) = fun _ => false := rfl
    rw [this]
    simp [two, cnt]
  | x :: l, ho, hs => by
    have ih := cnt_has l ho.2.2 (fun y hy => hs y (List.mem_cons_of_mem _ hy))
    have r := rngB (hs x List.mem_cons_self)
    have hg : ∀ v : Nat, EB.get (x :: l) 2 (v : Int) = if EB.has x 2 (v : Int) then some (EB.val x (v : Int)) else EB.get l 2 (v : Int) := fun v => rfl
    by_cases h2 : x.n = 2
    · have hsc := ((sane_iff x).1 (hs x List.mem_cons_self)).2.1
      rw [saneC_iff] at hsc
      have e1 : (has2 (x :: l)) = fun v => decide (x.lo.toNat ≤ v ∧ v ≤ x.hi.toNat) || has2 l v := by
        funext v
        unfold has2
        rw [hg]
        by_cases hh : EB.has x 2 (v : Int)
        · rw [if_pos hh]
          obtain ⟨_, q2, q3⟩ := hh
          have q2 : x.lo ≤ (v : Int) := q2
          have q3 : (v : Int) ≤ x.hi := q3
          rw [decide_eq_true (by omega)]
          rfl
        · rw [if_neg hh, decide_eq_false, Bool.false_or]
          intro q
          exact hh ⟨h2, (by show x.lo ≤ (v : Int); omega), (by show (v : Int) ≤ x.hi; omega)⟩
      rw [e1, count_split]
      · rw [count_iv, Int.natCast_add, ← ih]
        have e2 : two (x :: l) = x :: two l := by unfold two; rw [List.filter_cons, if_pos (by simp [h2])]
        rw [e2]
        simp only [cnt]
        omega
      · intro v _ ⟨q1, q2⟩
        have q1 := of_decide_eq_true q1
        unfold has2 at q2
        cases hf : EB.get l 2 (v : Int) with
        | none => rw [hf] at q2; cases q2
        | some w =>
          obtain ⟨y, hy, ⟨k1, k2, k3⟩, _⟩ := Tb.get_mem _ hf
          have hb := ho.2.1 y hy
          have hb : x.n < y.n ∨ (x.n = y.n ∧ x.hi < y.lo) := hb
          have k1 : y.n = 2 := k1
          have k2 : y.lo ≤ (v : Int) := k2
          omega
    · have e1 : (has2 (x :: l)) = has2 l := by
        funext v
        unfold has2
        rw [hg, if_neg]
        intro q
        exact h2 q.1
      have e2 : two (x :: l) = two l := by unfold two; rw [List.filter_cons, if_neg (by simp [h2])]
      rw [e1, e2, ih]
theorem cnt_tab {l : List Bf} (h : EB.Tab l) : cnt (ents l) = ((List.range 65536).countP (has2 l) : Nat) := by
  rw [ents_canon ((EB.canon_iff l).2 h)]
  exact cnt_has l h.2.1 h.1
theorem counts_law {t : List Bf} (ht : EB.canon t = true) {k x : Int} (hk : 0 ≤ k ∧ k < 65536) (hx : 0 ≤ x ∧ x < 65536) :
    EB.find (EB.build (t ++ [⟨2, k, k, [x]⟩])) 2 k = some [x] ∧ cnt (ents (EB.build (t ++ [⟨2, k, k, [x]⟩]))) = cnt (ents t) + if (EB.find t 2 k).isSome = true then 0 else 1 := by
  have htab := (EB.canon_iff t).1 ht
  have hb := EB.build_ok (t ++ [⟨2, k, k, [x]⟩])
  have hs : sane ⟨2, k, k, [x]⟩ = true := by
    rw [sane_iff]
    have hc : saneC 2 k = true := (saneC_iff 2 k).2 (by omega)
    refine ⟨hc, hc, Int.le_refl _, by simp, by simp, fun y hy => ?_, ?_⟩
    · obtain rfl := List.mem_singleton.1 hy
      omega
    · show x ≤ 65535 - (k - k)
      omega
  have hg := EB.get_put htab ⟨2, k, k, [x]⟩
  have hv : EB.val ⟨2, k, k, [x]⟩ k = [x] := by
    show fur [x] (k - k) = [x]
    rw [Int.sub_self, fur_zero]
  have h1 : EB.get (EB.build (t ++ [⟨2, k, k, [x]⟩])) 2 k = some [x] := by
    rw [hg, if_pos ⟨hs, rfl, Int.le_refl _, Int.le_refl _⟩, hv]
  refine ⟨by rw [EB.find_tab hb.1]; exact h1, ?_⟩
  rw [cnt_tab hb.1, cnt_tab htab, EB.find_tab htab]
  have hoff := count_off (p := has2 t) (q := has2 (EB.build (t ++ [⟨2, k, k, [x]⟩]))) (k := k.toNat) (by
      unfold has2
      rw [Int.toNat_of_nonneg hk.1, h1]
      rfl) (fun v hv => by
      unfold has2
      rw [hg, if_neg]
      intro q
      obtain ⟨_, _, q2, q3⟩ := q
      have q2 : k ≤ (v : Int) := q2
      have q3 : (v : Int) ≤ k := q3
      omega) 65536
  rw [hoff]
  have hp : has2 t k.toNat = (EB.get t 2 k).isSome := by
    unfold has2
    rw [Int.toNat_of_nonneg hk.1]
  rw [hp]
  rw [decide_eq_true (show k.toNat < 65536 by omega)]
  cases hf : (EB.get t 2 k).isSome
  · simp
  · simp
def low (c : Int) : Int := IntKind.i64.wrap ((BitVec.ofInt IntKind.i64.bits c &&& BitVec.ofInt IntKind.i64.bits 65535).toNat : Int)
theorem low_rng (c : Int) : 0 ≤ low c ∧ low c < 65536 := by
  have hm : low c = c % 65536 := and_low 16 (by decide) c
  omega
def SCounts : Sp := ⟨Tbl × Int × Int, fun _ => True, fun (t, c, u) => [.agg (cT t), .int .i64 c, .int .i64 u], fun _ => .st (.lit true)⟩
end Go.Abs.Coll
set_option maxRecDepth 100000
namespace Go.Abs.Sm
open Go.RowKit Go.Proofs Go.Abs.Tab Go.Abs.Dest Go.Abs.Span Go.Abs.Coll Go.Abs.Hx Go.Abs.Mt Go.Abs.Rc
def few6 (t : Tbl) : Prop := t.spaces.length ≤ 1000000 ∧ t.cids.length ≤ 1000000 ∧ t.nots.length ≤ 1000000 ∧ t.bfs.length ≤ 1000000
/-! ### Lists put together -/
def SBuilt : Sp := ⟨Tbl × Int, fun (t, _) => few6 t, fun (t, k) => [.agg (cT t), .int .i64 k], fun (t, k) => .st (.agg (cT (builtT t k)))⟩
abbrev bL : List (FuncId × Sp) := [(16, SCanR), (49, SBuildS), (52, Dest.SBuild)]
theorem bC_ok {c1 c2 c3 c4 : Code} (h1 : Tryz.f47.body = some c1) (h2 : Tryz.f48.body = some c2) (h3 : Tryz.f50.body = some c3) (h4 : Tryz.f51.body = some c4) :
    COK Tryz.prog (cfgN [(47, ⟨5, [], c1⟩), (48, ⟨5, [], c2⟩), (50, ⟨5, [], c3⟩), (51, ⟨5, [], c4⟩)] bL) :=
  Ty.ty.cfgN ⟨⟨_, Tryz.func47, rfl, h1, rfl, rfl⟩, ⟨_, Tryz.func48, rfl, h2, rfl, rfl⟩, ⟨_, Tryz.func50, rfl, h3, rfl, rfl⟩, ⟨_, Tryz.func51, rfl, h4, rfl, rfl⟩, trivial⟩ ⟨rectCanon, buildS, Dest.build, trivial⟩
set_option maxHeartbeats 16000000 in
theorem built2 (t : Tbl) (h : few6 t) : Fn Tryz.prog 22 [.agg (cT t), .int .i64 2] (.st (.agg (cT ⟨t.name, t.wmode, canR t.spaces, t.cids, t.nots, t.bfs⟩))) := by
  have hC := bC_ok rfl rfl rfl rfl
  obtain ⟨h1, h2, h3, h4⟩ := h
  ((refine Fn.ofF hC Tryz.func22 Tryz.ntmps22 rfl rfl rfl ?_); (repeat' first | (with_reducible exact trivial) | (with_reducible rfl) | (refine And.intro ?_ ?_) | (refine Need.mk ?_) | exact True.intro | (first | (refine ⟨_, Told.refl _, ?_, ?_⟩) | (refine ⟨⟨_, _⟩, Told.refl _, ?_, ?_⟩) | (refine ⟨⟨_, _, _⟩, Told.refl _, ?_, ?_⟩) | (refine ⟨⟨_, _, _, _⟩, Told.refl _, ?_, ?_⟩) | (refine ⟨⟨_, _, _, _, _⟩, Told.refl _, ?_, ?_⟩) | (refine ⟨(), Told.refl _, ?_, ?_⟩)) | (with_reducible intro _) | (refine fun (_ : Bool) => ?_)))
  all_goals first | (clear hC; exfalso; simp [IntKind.wrap_i64] at *; done) | skip
  refine fun (tm : Array Value) => ?_
  ((refine AW.byF ‹_› ?_); (repeat' first | (with_reducible exact trivial) | (with_reducible rfl) | (refine And.intro ?_ ?_) | (refine Need.mk ?_) | exact True.intro | (first | (refine ⟨_, Told.refl _, ?_, ?_⟩) | (refine ⟨⟨_, _⟩, Told.refl _, ?_, ?_⟩) | (refine ⟨⟨_, _, _⟩, Told.refl _, ?_, ?_⟩) | (refine ⟨⟨_, _, _, _⟩, Told.refl _, ?_, ?_⟩) | (refine ⟨⟨_, _, _, _, _⟩, Told.refl _, ?_, ?_⟩) | (refine ⟨(), Told.refl _, ?_, ?_⟩)) | (with_reducible intro _) | (refine fun (_ : Bool) => ?_)))
  all_goals first
    | exact h1
    | (show _ ≤ 100000000; omega)
    | rfl
    | skip
set_option maxHeartbeats 16000000 in
theorem built3 (t : Tbl) (h : few6 t) : Fn Tryz.prog 22 [.agg (cT t), .int .i64 3] (.st (.agg (cT ⟨t.name, t.wmode, t.spaces, (ES true).build t.cids, t.nots, t.bfs⟩))) := by
  have hC := bC_ok rfl rfl rfl rfl
  obtain ⟨h1, h2, h3, h4⟩ := h
  ((refine Fn.ofF hC Tryz.func22 Tryz.ntmps22 rfl rfl rfl ?_); (repeat' first | (with_reducible exact trivial) | (with_reducible rfl) | (refine And.intro ?_ ?_) | (refine Need.mk ?_) | exact True.intro | (first | (refine ⟨_, Told.refl _, ?_, ?_⟩) | (refine ⟨⟨_, _⟩, Told.refl _, ?_, ?_⟩) | (refine ⟨⟨_, _, _⟩, Told.refl _, ?_, ?_⟩) | (refine ⟨⟨_, _, _, _⟩, Told.refl _, ?_, ?_⟩) | (refine ⟨⟨_, _, _, _, _⟩, Told.refl _, ?_, ?_⟩) | (refine ⟨(), Told.refl _, ?_, ?_⟩)) | (with_reducible intro _) | (refine fun (_ : Bool) => ?_)))
  all_goals first | (clear hC; exfalso; simp [IntKind.wrap_i64] at *; done) | skip
  refine fun (tm : Array Value) => ?_
  ((refine AW.byF ‹_› ?_); (repeat' first | (with_reducible exact trivial) | (with_reducible rfl) | (refine And.intro ?_ ?_) | (refine Need.mk ?_) | exact True.intro | (first | (refine ⟨_, Told.refl _, ?_, ?_⟩) | (refine ⟨⟨_, _⟩, Told.refl _, ?_, ?_⟩) | (refine ⟨⟨_, _, _⟩, Told.refl _, ?_, ?_⟩) | (refine ⟨⟨_, _, _, _⟩, Told.refl _, ?_, ?_⟩) | (refine ⟨⟨_, _, _, _, _⟩, Told.refl _, ?_, ?_⟩) | (refine ⟨(), Told.refl _, ?_, ?_⟩)) | (with_reducible intro _) | (refine fun (_ : Bool) => ?_)))
  all_goals first
    | exact h2
    | (show _ ≤ 100000000; omega)
    | rfl
    | skip
set_option maxHeartbeats 16000000 in
theorem built4 (t : Tbl) (h : few6 t) : Fn Tryz.prog 22 [.agg (cT t), .int .i64 4] (.st (.agg (cT ⟨t.name, t.wmode, t.spaces, (ES true).build t.cids, t.nots, t.bfs⟩))) := by
  have hC := bC_ok rfl rfl rfl rfl
  obtain ⟨h1, h2, h3, h4⟩ := h
  ((refine Fn.ofF hC Tryz.func22 Tryz.ntmps22 rfl rfl rfl ?_); (repeat' first | (with_reducible exact trivial) | (with_reducible rfl) | (refine And.intro ?_ ?_) | (refine Need.mk ?_) | exact True.intro | (first | (refine ⟨_, Told.refl _, ?_, ?_⟩) | (refine ⟨⟨_, _⟩, Told.refl _, ?_, ?_⟩) | (refine ⟨⟨_, _, _⟩, Told.refl _, ?_, ?_⟩) | (refine ⟨⟨_, _, _, _⟩, Told.refl _, ?_, ?_⟩) | (refine ⟨⟨_, _, _, _, _⟩, Told.refl _, ?_, ?_⟩) | (refine ⟨(), Told.refl _, ?_, ?_⟩)) | (with_reducible intro _) | (refine fun (_ : Bool) => ?_)))
  all_goals first | (clear hC; exfalso; simp [IntKind.wrap_i64] at *; done) | skip
  refine fun (tm : Array Value) => ?_
  ((refine AW.byF ‹_› ?_); (repeat' first | (with_reducible exact trivial) | (with_reducible rfl) | (refine And.intro ?_ ?_) | (refine Need.mk ?_) | exact True.intro | (first | (refine ⟨_, Told.refl _, ?_, ?_⟩) | (refine ⟨⟨_, _⟩, Told.refl _, ?_, ?_⟩) | (refine ⟨⟨_, _, _⟩, Told.refl _, ?_, ?_⟩) | (refine ⟨⟨_, _, _, _⟩, Told.refl _, ?_, ?_⟩) | (refine ⟨⟨_, _, _, _, _⟩, Told.refl _, ?_, ?_⟩) | (refine ⟨(), Told.refl _, ?_, ?_⟩)) | (with_reducible intro _) | (refine fun (_ : Bool) => ?_)))
  all_goals first
    | exact h2
    | (show _ ≤ 100000000; omega)
    | rfl
    | skip
set_option maxHeartbeats 16000000 in
theorem built5 (t : Tbl) (h : few6 t) : Fn Tryz.prog 22 [.agg (cT t), .int .i64 5] (.st (.agg (cT ⟨t.name, t.wmode, t.spaces, t.cids, (ES false).build t.nots, t.bfs⟩))) := by
  have hC := bC_ok rfl rfl rfl rfl
  obtain ⟨h1, h2, h3, h4⟩ := h
  ((refine Fn.ofF hC Tryz.func22 Tryz.ntmps22 rfl rfl rfl ?_); (repeat' first | (with_reducible exact trivial) | (with_reducible rfl) | (refine And.intro ?_ ?_) | (refine Need.mk ?_) | exact True.intro | (first | (refine ⟨_, Told.refl _, ?_, ?_⟩) | (refine ⟨⟨_, _⟩, Told.refl _, ?_, ?_⟩) | (refine ⟨⟨_, _, _⟩, Told.refl _, ?_, ?_⟩) | (refine ⟨⟨_, _, _, _⟩, Told.refl _, ?_, ?_⟩) | (refine ⟨⟨_, _, _, _, _⟩, Told.refl _, ?_, ?_⟩) | (refine ⟨(), Told.refl _, ?_, ?_⟩)) | (with_reducible intro _) | (refine fun (_ : Bool) => ?_)))
  all_goals first | (clear hC; exfalso; simp [IntKind.wrap_i64] at *; done) | skip
  refine fun (tm : Array Value) => ?_
  ((refine AW.byF ‹_› ?_); (repeat' first | (with_reducible exact trivial) | (with_reducible rfl) | (refine And.intro ?_ ?_) | (refine Need.mk ?_) | exact True.intro | (first | (refine ⟨_, Told.refl _, ?_, ?_⟩) | (refine ⟨⟨_, _⟩, Told.refl _, ?_, ?_⟩) | (refine ⟨⟨_, _, _⟩, Told.refl _, ?_, ?_⟩) | (refine ⟨⟨_, _, _, _⟩, Told.refl _, ?_, ?_⟩) | (refine ⟨⟨_, _, _, _, _⟩, Told.refl _, ?_, ?_⟩) | (refine ⟨(), Told.refl _, ?_, ?_⟩)) | (with_reducible intro _) | (refine fun (_ : Bool) => ?_)))
  all_goals first
    | exact h3
    | (show _ ≤ 100000000; omega)
    | rfl
    | skip
set_option maxHeartbeats 16000000 in
theorem built6 (t : Tbl) (h : few6 t) : Fn Tryz.prog 22 [.agg (cT t), .int .i64 6] (.st (.agg (cT ⟨t.name, t.wmode, t.spaces, t.cids, (ES false).build t.nots, t.bfs⟩))) := by
  have hC := bC_ok rfl rfl rfl rfl
  obtain ⟨h1, h2, h3, h4⟩ := h
  ((refine Fn.ofF hC Tryz.func22 Tryz.ntmps22 rfl rfl rfl ?_); (repeat' first | (with_reducible exact trivial) | (with_reducible rfl) | (refine And.intro ?_ ?_) | (refine Need.mk ?_) | exact True.intro | (first | (refine ⟨_, Told.refl _, ?_, ?_⟩) | (refine ⟨⟨_, _⟩, Told.refl _, ?_, ?_⟩) | (refine ⟨⟨_, _, _⟩, Told.refl _, ?_, ?_⟩) | (refine ⟨⟨_, _, _, _⟩, Told.refl _, ?_, ?_⟩) | (refine ⟨⟨_, _, _, _, _⟩, Told.refl _, ?_, ?_⟩) | (refine ⟨(), Told.refl _, ?_, ?_⟩)) | (with_reducible intro _) | (refine fun (_ : Bool) => ?_)))
  all_goals first | (clear hC; exfalso; simp [IntKind.wrap_i64] at *; done) | skip
  refine fun (tm : Array Value) => ?_
  ((refine AW.byF ‹_› ?_); (repeat' first | (with_reducible exact trivial) | (with_reducible rfl) | (refine And.intro ?_ ?_) | (refine Need.mk ?_) | exact True.intro | (first | (refine ⟨_, Told.refl _, ?_, ?_⟩) | (refine ⟨⟨_, _⟩, Told.refl _, ?_, ?_⟩) | (refine ⟨⟨_, _, _⟩, Told.refl _, ?_, ?_⟩) | (refine ⟨⟨_, _, _, _⟩, Told.refl _, ?_, ?_⟩) | (refine ⟨⟨_, _, _, _, _⟩, Told.refl _, ?_, ?_⟩) | (refine ⟨(), Told.refl _, ?_, ?_⟩)) | (with_reducible intro _) | (refine fun (_ : Bool) => ?_)))
  all_goals first
    | exact h3
    | (show _ ≤ 100000000; omega)
    | rfl
    | skip
set_option maxHeartbeats 16000000 in
theorem built7 (t : Tbl) (h : few6 t) : Fn Tryz.prog 22 [.agg (cT t), .int .i64 7] (.st (.agg (cT ⟨t.name, t.wmode, t.spaces, t.cids, t.nots, EB.build t.bfs⟩))) := by
  have hC := bC_ok rfl rfl rfl rfl
  obtain ⟨h1, h2, h3, h4⟩ := h
  ((refine Fn.ofF hC Tryz.func22 Tryz.ntmps22 rfl rfl rfl ?_); (repeat' first | (with_reducible exact trivial) | (with_reducible rfl) | (refine And.intro ?_ ?_) | (refine Need.mk ?_) | exact True.intro | (first | (refine ⟨_, Told.refl _, ?_, ?_⟩) | (refine ⟨⟨_, _⟩, Told.refl _, ?_, ?_⟩) | (refine ⟨⟨_, _, _⟩, Told.refl _, ?_, ?_⟩) | (refine ⟨⟨_, _, _, _⟩, Told.refl _, ?_, ?_⟩) | (refine ⟨⟨_, _, _, _, _⟩, Told.refl _, ?_, ?_⟩) | (refine ⟨(), Told.refl _, ?_, ?_⟩)) | (with_reducible intro _) | (refine fun (_ : Bool) => ?_)))
  all_goals first | (clear hC; exfalso; simp [IntKind.wrap_i64] at *; done) | skip
  refine fun (tm : Array Value) => ?_
  ((refine AW.byF ‹_› ?_); (repeat' first | (with_reducible exact trivial) | (with_reducible rfl) | (refine And.intro ?_ ?_) | (refine Need.mk ?_) | exact True.intro | (first | (refine ⟨_, Told.refl _, ?_, ?_⟩) | (refine ⟨⟨_, _⟩, Told.refl _, ?_, ?_⟩) | (refine ⟨⟨_, _, _⟩, Told.refl _, ?_, ?_⟩) | (refine ⟨⟨_, _, _, _⟩, Told.refl _, ?_, ?_⟩) | (refine ⟨⟨_, _, _, _, _⟩, Told.refl _, ?_, ?_⟩) | (refine ⟨(), Told.refl _, ?_, ?_⟩)) | (with_reducible intro _) | (refine fun (_ : Bool) => ?_)))
  all_goals first
    | exact h4
    | (show _ ≤ 100000000; omega)
    | rfl
    | skip
set_option maxHeartbeats 16000000 in
theorem built8 (t : Tbl) (h : few6 t) : Fn Tryz.prog 22 [.agg (cT t), .int .i64 8] (.st (.agg (cT ⟨t.name, t.wmode, t.spaces, t.cids, t.nots, EB.build t.bfs⟩))) := by
  have hC := bC_ok rfl rfl rfl rfl
  obtain ⟨h1, h2, h3, h4⟩ := h
  ((refine Fn.ofF hC Tryz.func22 Tryz.ntmps22 rfl rfl rfl ?_); (repeat' first | (with_reducible exact trivial) | (with_reducible rfl) | (refine And.intro ?_ ?_) | (refine Need.mk ?_) | exact True.intro | (first | (refine ⟨_, Told.refl _, ?_, ?_⟩) | (refine ⟨⟨_, _⟩, Told.refl _, ?_, ?_⟩) | (refine ⟨⟨_, _, _⟩, Told.refl _, ?_, ?_⟩) | (refine ⟨⟨_, _, _, _⟩, Told.refl _, ?_, ?_⟩) | (refine ⟨⟨_, _, _, _, _⟩, Told.refl _, ?_, ?_⟩) | (refine ⟨(), Told.refl _, ?_, ?_⟩)) | (with_reducible intro _) | (refine fun (_ : Bool) => ?_)))
  all_goals first | (clear hC; exfalso; simp [IntKind.wrap_i64] at *; done) | skip
  refine fun (tm : Array Value) => ?_
  ((refine AW.byF ‹_› ?_); (repeat' first | (with_reducible exact trivial) | (with_reducible rfl) | (refine And.intro ?_ ?_) | (refine Need.mk ?_) | exact True.intro | (first | (refine ⟨_, Told.refl _, ?_, ?_⟩) | (refine ⟨⟨_, _⟩, Told.refl _, ?_, ?_⟩) | (refine ⟨⟨_, _, _⟩, Told.refl _, ?_, ?_⟩) | (refine ⟨⟨_, _, _, _⟩, Told.refl _, ?_, ?_⟩) | (refine ⟨⟨_, _, _, _, _⟩, Told.refl _, ?_, ?_⟩) | (refine ⟨(), Told.refl _, ?_, ?_⟩)) | (with_reducible intro _) | (refine fun (_ : Bool) => ?_)))
  all_goals first
    | exact h4
    | (show _ ≤ 100000000; omega)
    | rfl
    | skip
set_option maxHeartbeats 16000000 in
theorem builtN (t : Tbl) (k : Int) (hk : k ≠ 2 ∧ k ≠ 3 ∧ k ≠ 4 ∧ k ≠ 5 ∧ k ≠ 6 ∧ k ≠ 7 ∧ k ≠ 8) : Fn Tryz.prog 22 [.agg (cT t), .int .i64 k] (.st (.agg (cT t))) := by
  have hC := bC_ok rfl rfl rfl rfl
  obtain ⟨k2, k3, k4, k5, k6, k7, k8⟩ := hk
  ((refine Fn.ofF hC Tryz.func22 Tryz.ntmps22 rfl rfl rfl ?_); (repeat' first | (with_reducible exact trivial) | (with_reducible rfl) | (refine And.intro ?_ ?_) | (refine Need.mk ?_) | exact True.intro | (first | (refine ⟨_, Told.refl _, ?_, ?_⟩) | (refine ⟨⟨_, _⟩, Told.refl _, ?_, ?_⟩) | (refine ⟨⟨_, _, _⟩, Told.refl _, ?_, ?_⟩) | (refine ⟨⟨_, _, _, _⟩, Told.refl _, ?_, ?_⟩) | (refine ⟨⟨_, _, _, _, _⟩, Told.refl _, ?_, ?_⟩) | (refine ⟨(), Told.refl _, ?_, ?_⟩)) | (with_reducible intro _) | (refine fun (_ : Bool) => ?_)))
  all_goals first | (clear hC; exfalso; simp only [beq_iff_eq, beq_eq_false_iff_ne, ne_eq] at *; omega) | skip
  all_goals rfl
theorem semBuilt : SpOK Tryz.prog 22 SBuilt := fun ⟨t, k⟩ h => by
  have h : few6 t := h
  show Fn _ _ _ (.st (.agg (cT (builtT t k))))
  have hk : k = 2 ∨ k = 3 ∨ k = 4 ∨ k = 5 ∨ k = 6 ∨ k = 7 ∨ k = 8 ∨ (k ≠ 2 ∧ k ≠ 3 ∧ k ≠ 4 ∧ k ≠ 5 ∧ k ≠ 6 ∧ k ≠ 7 ∧ k ≠ 8) := by omega
  rcases hk with rfl | rfl | rfl | rfl | rfl | rfl | rfl | hk
  · rw [show builtT t 2 = ⟨t.name, t.wmode, canR t.spaces, t.cids, t.nots, t.bfs⟩ by unfold builtT; simp]
    exact built2 t h
  · rw [show builtT t 3 = ⟨t.name, t.wmode, t.spaces, (ES true).build t.cids, t.nots, t.bfs⟩ by unfold builtT; simp]
    exact built3 t h
  · rw [show builtT t 4 = ⟨t.name, t.wmode, t.spaces, (ES true).build t.cids, t.nots, t.bfs⟩ by unfold builtT; simp]
    exact built4 t h
  · rw [show builtT t 5 = ⟨t.name, t.wmode, t.spaces, t.cids, (ES false).build t.nots, t.bfs⟩ by unfold builtT; simp]
    exact built5 t h
  · rw [show builtT t 6 = ⟨t.name, t.wmode, t.spaces, t.cids, (ES false).build t.nots, t.bfs⟩ by unfold builtT; simp]
    exact built6 t h
  · rw [show builtT t 7 = ⟨t.name, t.wmode, t.spaces, t.cids, t.nots, EB.build t.bfs⟩ by unfold builtT; simp]
    exact built7 t h
  · rw [show builtT t 8 = ⟨t.name, t.wmode, t.spaces, t.cids, t.nots, EB.build t.bfs⟩ by unfold builtT; simp]
    exact built8 t h
  · have := builtN t k hk
    obtain ⟨k2, k3, k4, k5, k6, k7, k8⟩ := hk
    rw [show builtT t k = t by unfold builtT; simp [k2, k3, k4, k5, k6, k7, k8]]
    exact this
end Go.Abs.Sm
set_option maxRecDepth 100000
namespace Go.Abs.Sm
open Go.RowKit Go.Proofs Go.Abs.Tab Go.Abs.Dest Go.Abs.Span Go.Abs.Coll Go.Abs.Hx Go.Abs.Mt Go.Abs.Rc
structure Aside9 (p : Prop) : Prop where mk :: (out : p)
def cRR (l : List Rct) : List AV := [aR l]
def cSS (l : List Spn) : List AV := [aS l]
def cBB (l : List Bf) : List AV := [aB l]
theorem cRR_emb : Emb cRR 1 := fun x => ⟨rfl, ⟨⟨⟨rfl⟩, els_of cR_emb (n := 0) (fun _ _ => rfl)⟩, trivial⟩, rfl⟩
theorem cSS_emb : Emb cSS 1 := fun x => ⟨rfl, ⟨⟨⟨rfl⟩, els_of cSp_emb (n := 0) (fun _ _ => rfl)⟩, trivial⟩, rfl⟩
theorem cBB_emb : Emb cBB 1 := fun x => ⟨rfl, ⟨⟨⟨rfl⟩, els_of cBf_emb (n := 0) (fun _ _ => rfl)⟩, trivial⟩, rfl⟩
theorem infoR9 : (Tryz.prog.info? 50).map (fun i => (i.zero, i.size, i.bytes)) = some (some (Value.agg #[.int .i64 0, .int .i64 0, .int .i64 0]), 3, 24) := by kernel_rfl
set_option maxHeartbeats 8000000 in
theorem growR (n : Nat) (hn : n ≤ 4000000) : Fn Tryz.prog 44 [.nil, .int .i64 (n : Int)] (.row 50 3 0 (els cR [])) := by
  refine ⟨⟨_, Tryz.func44, rfl, rfl⟩, fun w S vs hlt hv => ?_⟩
  obtain ⟨hlen, hv⟩ := hv
  match vs, hlen with
  | [v0, v1], _ =>
    have r0 := hv 0 _ v0 rfl rfl
    have r1 := hv 1 _ v1 rfl rfl
    obtain rfl : v0 = .slice none 0 0 := by cases r0; rfl
    obtain rfl : v1 = .int .i64 (n : Int) := by cases r1; rfl
    have HLT := Aside9.mk hlt
    clear hv r0 r1 hlt
    have hw0 : IntKind.i64.wrap ((n : Int) - IntKind.i64.wrap (0 - 0)) = (n : Int) := by rw [IntKind.wrap_i64, IntKind.wrap_i64]; omega
    have hw1 : IntKind.i64.wrap (n : Int) = (n : Int) := by rw [IntKind.wrap_i64]; omega
    have hn0 : ¬ ((n : Int) < 0) := by omega
    rcases Nat.eq_zero_or_pos n with rfl | hp
    · show Calls _ _ _ _ _
      go_enter Tryz.func44, Tryz.ntmps44
      go_wp2
      go_ret
      exact ⟨_, rfl, S, ⟨⟨[], World.ownsRow_nil _ _ _ _, fun i hi => by omega⟩, fun b hb => (by simp [Value.ownBlock] at hb)⟩, fun b hb => hb, fun b hb => ⟨HLT.out b hb, .inl hb⟩, Below.refl _ _⟩
    · obtain ⟨i0, hi0, hzz⟩ := Option.map_eq_some_iff.1 infoR9
      simp only [Prod.mk.injEq] at hzz
      obtain ⟨hz0, hzs, hzb⟩ := hzz
      have hun := Tryz.underlying22
      obtain ⟨G, hG⟩ : ∃ G, G = grownCap w n 0 50 := ⟨_, rfl⟩
      obtain ⟨zc, hzc⟩ : ∃ zc, zc = (Value.agg #[.int .i64 0, .int .i64 0, .int .i64 0]).cells := ⟨_, rfl⟩
      obtain ⟨ROW, hROW⟩ : ∃ ROW : Array Value, ROW = ([] : List Value).toArray ++ Builtin.zeroCells zc n ++ Builtin.zeroCells zc (G - n) := ⟨_, rfl⟩
      have hGn : n ≤ G := by rw [hG]; exact grownCap_ge w _ _ _
      have hGm : G ≤ maxLen := by rw [hG]; exact grownCap_le_maxLen w n 0 50 (by unfold maxLen; omega)
      have hold : (Builtin.firstCells i0.size 0 (.slice none 0 0)).run Tryz.prog w.drew = .ok ([] : List Value).toArray w.drew := by simp [Builtin.firstCells]
      have hrz : ∀ ty, (Builtin.append_ #[22, 3] ty #[.slice none 0 0, .int .i64 (n : Int)]).run Tryz.prog w = .ok (.slice (some ⟨w.heap.size, 0, none⟩) n G) (w.drew.alloc (.cells ROW 50)) := fun ty => by
        have h := Lib.run_append_grow_zeros w 22 3 ty 50 i0 _ .i64 .i64 hun Tryz.underlying3 hi0 hz0 none 0 0 [] hold n hp (by omega) (by omega) (by omega) (by rw [hzb]; omega) (by rw [hzb, Nat.zero_add]; exact growslice_fits (by omega) (by omega))
        rw [Nat.zero_add, ← hG, ← hzc, ← hROW] at h
        exact h
      have hz4 : ∀ m, (Builtin.zeroCells zc m).size = m * 3 := fun m => by
        rw [hzc, Builtin.zeroCells]
        simp [Value.cells]
      have hRs : ROW.size = G * 3 := by
        rw [hROW, Array.size_append, Array.size_append, hz4, hz4]
        simp
        omega
      have HGM := Aside9.mk hGm
      have HRS := Aside9.mk hRs
      have hpp : (0 : Int) < (n : Int) := by omega
      have hne : ¬ ((n : Int) = 0) := by omega
      have hG63 : G ≤ 9223372036854775807 := by unfold maxLen at hGm; omega
      have mixed : Tryz.prog.follows Departure.mixedOrders = true := by kernel_rfl
      clear hold hG hzc hROW hz4 hRs hGm hzb hzs hz0 hi0
      show Calls _ _ _ _ _
      go_enter Tryz.func44, Tryz.ntmps44
      go_wp2_with (at_builtin; refine Lib.wpList_append_run _ rfl _ _ _ _ rfl _ _ rfl rfl _ _ (hrz _) ?_)
      go_ret
      refine ⟨_, rfl, S, ⟨⟨[], ⟨rfl, .inr ⟨w.heap.size, G, ROW, rfl, Nat.le_refl _, ?_, Nat.zero_le _, HGM.out, HRS.out, rfl⟩⟩, fun i hi => by omega⟩, fun b hb hS => ?_⟩, fun b hb => hb, fun b hb => ⟨?_, .inl hb⟩, ?_⟩
      · exact heap_alloc_new w _
      · have hb' : w.heap.size = b := Option.some.inj hb
        subst hb'
        exact absurd (HLT.out _ hS) (Nat.lt_irrefl _)
      · have h1 := HLT.out b hb
        exact Nat.lt_of_lt_of_le h1 ((Below.refl _ w).alloc (Nat.le_refl _) (.cells ROW 50)).drew.size
      · exact ((Below.refl _ w).alloc (Nat.le_refl _) (.cells ROW 50)).drew
theorem infoS9 : (Tryz.prog.info? 56).map (fun i => (i.zero, i.size, i.bytes)) = some (some (Value.agg #[.int .i64 0, .int .i64 0, .int .i64 0, .int .i64 0]), 4, 32) := by kernel_rfl
set_option maxHeartbeats 8000000 in
theorem growS (n : Nat) (hn : n ≤ 4000000) : Fn Tryz.prog 45 [.nil, .int .i64 (n : Int)] (.row 56 4 0 (els cSp [])) := by
  refine ⟨⟨_, Tryz.func45, rfl, rfl⟩, fun w S vs hlt hv => ?_⟩
  obtain ⟨hlen, hv⟩ := hv
  match vs, hlen with
  | [v0, v1], _ =>
    have r0 := hv 0 _ v0 rfl rfl
    have r1 := hv 1 _ v1 rfl rfl
    obtain rfl : v0 = .slice none 0 0 := by cases r0; rfl
    obtain rfl : v1 = .int .i64 (n : Int) := by cases r1; rfl
    have HLT := Aside9.mk hlt
    clear hv r0 r1 hlt
    have hw0 : IntKind.i64.wrap ((n : Int) - IntKind.i64.wrap (0 - 0)) = (n : Int) := by rw [IntKind.wrap_i64, IntKind.wrap_i64]; omega
    have hw1 : IntKind.i64.wrap (n : Int) = (n : Int) := by rw [IntKind.wrap_i64]; omega
    have hn0 : ¬ ((n : Int) < 0) := by omega
    rcases Nat.eq_zero_or_pos n with rfl | hp
    · show Calls _ _ _ _ _
      go_enter Tryz.func45, Tryz.ntmps45
      go_wp2
      go_ret
      exact ⟨_, rfl, S, ⟨⟨[], World.ownsRow_nil _ _ _ _, fun i hi => by omega⟩, fun b hb => (by simp [Value.ownBlock] at hb)⟩, fun b hb => hb, fun b hb => ⟨HLT.out b hb, .inl hb⟩, Below.refl _ _⟩
    · obtain ⟨i0, hi0, hzz⟩ := Option.map_eq_some_iff.1 infoS9
      simp only [Prod.mk.injEq] at hzz
      obtain ⟨hz0, hzs, hzb⟩ := hzz
      have hun := Tryz.underlying23
      obtain ⟨G, hG⟩ : ∃ G, G = grownCap w n 0 56 := ⟨_, rfl⟩
      obtain ⟨zc, hzc⟩ : ∃ zc, zc = (Value.agg #[.int .i64 0, .int .i64 0, .int .i64 0, .int .i64 0]).cells := ⟨_, rfl⟩
      obtain ⟨ROW, hROW⟩ : ∃ ROW : Array Value, ROW = ([] : List Value).toArray ++ Builtin.zeroCells zc n ++ Builtin.zeroCells zc (G - n) := ⟨_, rfl⟩
      have hGn : n ≤ G := by rw [hG]; exact grownCap_ge w _ _ _
      have hGm : G ≤ maxLen := by rw [hG]; exact grownCap_le_maxLen w n 0 56 (by unfold maxLen; omega)
      have hold : (Builtin.firstCells i0.size 0 (.slice none 0 0)).run Tryz.prog w.drew = .ok ([] : List Value).toArray w.drew := by simp [Builtin.firstCells]
      have hrz : ∀ ty, (Builtin.append_ #[23, 3] ty #[.slice none 0 0, .int .i64 (n : Int)]).run Tryz.prog w = .ok (.slice (some ⟨w.heap.size, 0, none⟩) n G) (w.drew.alloc (.cells ROW 56)) := fun ty => by
        have h := Lib.run_append_grow_zeros w 23 3 ty 56 i0 _ .i64 .i64 hun Tryz.underlying3 hi0 hz0 none 0 0 [] hold n hp (by omega) (by omega) (by omega) (by rw [hzb]; omega) (by rw [hzb, Nat.zero_add]; exact growslice_fits (by omega) (by omega))
        rw [Nat.zero_add, ← hG, ← hzc, ← hROW] at h
        exact h
      have hz4 : ∀ m, (Builtin.zeroCells zc m).size = m * 4 := fun m => by
        rw [hzc, Builtin.zeroCells]
        simp [Value.cells]
      have hRs : ROW.size = G * 4 := by
        rw [hROW, Array.size_append, Array.size_append, hz4, hz4]
        simp
        omega
      have HGM := Aside9.mk hGm
      have HRS := Aside9.mk hRs
      have hpp : (0 : Int) < (n : Int) := by omega
      have hne : ¬ ((n : Int) = 0) := by omega
      have hG63 : G ≤ 9223372036854775807 := by unfold maxLen at hGm; omega
      have mixed : Tryz.prog.follows Departure.mixedOrders = true := by kernel_rfl
      clear hold hG hzc hROW hz4 hRs hGm hzb hzs hz0 hi0
      show Calls _ _ _ _ _
      go_enter Tryz.func45, Tryz.ntmps45
      go_wp2_with (at_builtin; refine Lib.wpList_append_run _ rfl _ _ _ _ rfl _ _ rfl rfl _ _ (hrz _) ?_)
      go_ret
      refine ⟨_, rfl, S, ⟨⟨[], ⟨rfl, .inr ⟨w.heap.size, G, ROW, rfl, Nat.le_refl _, ?_, Nat.zero_le _, HGM.out, HRS.out, rfl⟩⟩, fun i hi => by omega⟩, fun b hb hS => ?_⟩, fun b hb => hb, fun b hb => ⟨?_, .inl hb⟩, ?_⟩
      · exact heap_alloc_new w _
      · have hb' : w.heap.size = b := Option.some.inj hb
        subst hb'
        exact absurd (HLT.out _ hS) (Nat.lt_irrefl _)
      · have h1 := HLT.out b hb
        exact Nat.lt_of_lt_of_le h1 ((Below.refl _ w).alloc (Nat.le_refl _) (.cells ROW 56)).drew.size
      · exact ((Below.refl _ w).alloc (Nat.le_refl _) (.cells ROW 56)).drew
theorem infoB9 : (Tryz.prog.info? 44).map (fun i => (i.zero, i.size, i.bytes)) = some (some (Value.agg #[.int .i64 0, .int .i64 0, .int .i64 0, .slice none 0 0]), 4, 48) := by kernel_rfl
set_option maxHeartbeats 8000000 in
theorem growB (n : Nat) (hn : n ≤ 4000000) : Fn Tryz.prog 46 [.nil, .int .i64 (n : Int)] (.row 44 4 0 (els cBf [])) := by
  refine ⟨⟨_, Tryz.func46, rfl, rfl⟩, fun w S vs hlt hv => ?_⟩
  obtain ⟨hlen, hv⟩ := hv
  match vs, hlen with
  | [v0, v1], _ =>
    have r0 := hv 0 _ v0 rfl rfl
    have r1 := hv 1 _ v1 rfl rfl
    obtain rfl : v0 = .slice none 0 0 := by cases r0; rfl
    obtain rfl : v1 = .int .i64 (n : Int) := by cases r1; rfl
    have HLT := Aside9.mk hlt
    clear hv r0 r1 hlt
    have hw0 : IntKind.i64.wrap ((n : Int) - IntKind.i64.wrap (0 - 0)) = (n : Int) := by rw [IntKind.wrap_i64, IntKind.wrap_i64]; omega
    have hw1 : IntKind.i64.wrap (n : Int) = (n : Int) := by rw [IntKind.wrap_i64]; omega
    have hn0 : ¬ ((n : Int) < 0) := by omega
    rcases Nat.eq_zero_or_pos n with rfl | hp
    · show Calls _ _ _ _ _
      go_enter Tryz.func46, Tryz.ntmps46
      go_wp2
      go_ret
      exact ⟨_, rfl, S, ⟨⟨[], World.ownsRow_nil _ _ _ _, fun i hi => by omega⟩, fun b hb => (by simp [Value.ownBlock] at hb)⟩, fun b hb => hb, fun b hb => ⟨HLT.out b hb, .inl hb⟩, Below.refl _ _⟩
    · obtain ⟨i0, hi0, hzz⟩ := Option.map_eq_some_iff.1 infoB9
      simp only [Prod.mk.injEq] at hzz
      obtain ⟨hz0, hzs, hzb⟩ := hzz
      have hun := Tryz.underlying24
      obtain ⟨G, hG⟩ : ∃ G, G = grownCap w n 0 44 := ⟨_, rfl⟩
      obtain ⟨zc, hzc⟩ : ∃ zc, zc = (Value.agg #[.int .i64 0, .int .i64 0, .int .i64 0, .slice none 0 0]).cells := ⟨_, rfl⟩
      obtain ⟨ROW, hROW⟩ : ∃ ROW : Array Value, ROW = ([] : List Value).toArray ++ Builtin.zeroCells zc n ++ Builtin.zeroCells zc (G - n) := ⟨_, rfl⟩
      have hGn : n ≤ G := by rw [hG]; exact grownCap_ge w _ _ _
      have hGm : G ≤ maxLen := by rw [hG]; exact grownCap_le_maxLen w n 0 44 (by unfold maxLen; omega)
      have hold : (Builtin.firstCells i0.size 0 (.slice none 0 0)).run Tryz.prog w.drew = .ok ([] : List Value).toArray w.drew := by simp [Builtin.firstCells]
      have hrz : ∀ ty, (Builtin.append_ #[24, 3] ty #[.slice none 0 0, .int .i64 (n : Int)]).run Tryz.prog w = .ok (.slice (some ⟨w.heap.size, 0, none⟩) n G) (w.drew.alloc (.cells ROW 44)) := fun ty => by
        have h := Lib.run_append_grow_zeros w 24 3 ty 44 i0 _ .i64 .i64 hun Tryz.underlying3 hi0 hz0 none 0 0 [] hold n hp (by omega) (by omega) (by omega) (by rw [hzb]; omega) (by rw [hzb, Nat.zero_add]; exact growslice_fits (by omega) (by omega))
        rw [Nat.zero_add, ← hG, ← hzc, ← hROW] at h
        exact h
      have hz4 : ∀ m, (Builtin.zeroCells zc m).size = m * 4 := fun m => by
        rw [hzc, Builtin.zeroCells]
        simp [Value.cells]
      have hRs : ROW.size = G * 4 := by
        rw [hROW, Array.size_append, Array.size_append, hz4, hz4]
        simp
        omega
      have HGM := Aside9.mk hGm
      have HRS := Aside9.mk hRs
      have hpp : (0 : Int) < (n : Int) := by omega
      have hne : ¬ ((n : Int) = 0) := by omega
      have hG63 : G ≤ 9223372036854775807 := by unfold maxLen at hGm; omega
      have mixed : Tryz.prog.follows Departure.mixedOrders = true := by kernel_rfl
      clear hold hG hzc hROW hz4 hRs hGm hzb hzs hz0 hi0
      show Calls _ _ _ _ _
      go_enter Tryz.func46, Tryz.ntmps46
      go_wp2_with (at_builtin; refine Lib.wpList_append_run _ rfl _ _ _ _ rfl _ _ rfl rfl _ _ (hrz _) ?_)
      go_ret
      refine ⟨_, rfl, S, ⟨⟨[], ⟨rfl, .inr ⟨w.heap.size, G, ROW, rfl, Nat.le_refl _, ?_, Nat.zero_le _, HGM.out, HRS.out, rfl⟩⟩, fun i hi => by omega⟩, fun b hb hS => ?_⟩, fun b hb => hb, fun b hb => ⟨?_, .inl hb⟩, ?_⟩
      · exact heap_alloc_new w _
      · have hb' : w.heap.size = b := Option.some.inj hb
        subst hb'
        exact absurd (HLT.out _ hS) (Nat.lt_irrefl _)
      · have h1 := HLT.out b hb
        exact Nat.lt_of_lt_of_le h1 ((Below.refl _ w).alloc (Nat.le_refl _) (.cells ROW 44)).drew.size
      · exact ((Below.refl _ w).alloc (Nat.le_refl _) (.cells ROW 44)).drew
end Go.Abs.Sm
set_option maxRecDepth 100000
namespace Go.Abs.Sm
open Go.RowKit Go.Proofs Go.Abs.Tab Go.Abs.Dest Go.Abs.Span Go.Abs.Coll Go.Abs.Hx Go.Abs.Mt Go.Abs.Rc
def T2 : List (TypeId × TI) := [(82, ⟨1, 24, [AV.nil], TD.slice 22⟩), (84, ⟨1, 24, [AV.nil], TD.slice 23⟩), (86, ⟨1, 24, [AV.nil], TD.slice 24⟩)] ++ Ty.T
theorem ty2 : Ty Tryz.prog T2 Ty.Q := ⟨Ty.ty.sq, by kernel_rfl, by kernel_rfl, Ty.ty.mixed⟩
abbrev cfg2 (l : List (FuncId × Sp)) : Cfg := ⟨T2, tblL l, fun _ => none, qlook Ty.Q, fun _ _ => none, fun _ => none, fun _ _ _ => False⟩
theorem take_nextG {α : Type} [Inhabited α] {l : List α} {k : Nat} (hk : k < l.length) : l.take (k + 1) = l.take k ++ [l.getD k default] := by
  rw [List.take_succ_eq_append_getElem hk]
  simp [List.getD, hk]
theorem flatten_next {α : Type} {l : List (List α)} {k : Nat} (hk : k < l.length) : (l.take (k + 1)).flatten = (l.take k).flatten ++ l.getD k default := by
  rw [take_nextG hk, List.flatten_append]
  simp
theorem flat2 {α : Type} (a b : List α) : [a, b].flatten = a ++ b := by simp
theorem flatten_take {α : Type} (l : List (List α)) (k : Nat) : (l.take k).flatten.length ≤ l.flatten.length := by
  have h : (l.take k).flatten ++ (l.drop k).flatten = l.flatten := by rw [← List.flatten_append, List.take_append_drop]
  rw [← h, List.length_append]
  omega

def c2R (l : List Rct) : List AV := [aR l]
theorem c2R_emb : Emb c2R 1 := fun x => ⟨rfl, ⟨⟨⟨rfl⟩, els_of cR_emb (n := 0) (fun _ _ => rfl)⟩, trivial⟩, rfl⟩
def SGrowR : Sp := ⟨Nat, fun n => n ≤ 4000000, fun n => [.nil, .int .i64 (n : Int)], fun _ => .row 50 3 0 (els cR [])⟩
theorem growRok : SpOK Tryz.prog 44 SGrowR := fun (n : Nat) hn => growR n hn
def SCatR : Sp := ⟨List (List Rct), fun L => L.length ≤ 1000000 ∧ L.flatten.length ≤ 4000000, fun L => [aL c2R 1 L], fun L => .row 50 3 L.flatten.length (els cR L.flatten)⟩
set_option maxHeartbeats 8000000 in
theorem catR : SpOK Tryz.prog 19 SCatR := fun (L : List (List Rct)) ⟨h1, h2⟩ => by
  have hC : COK Tryz.prog (cfg2 [(44, SGrowR)]) := ty2.cfg ⟨growRok, trivial⟩
  have h1 : L.length ≤ 1000000 := h1
  have h2 : L.flatten.length ≤ 4000000 := h2
  ((refine Fn.ofF hC Tryz.func19 Tryz.ntmps19 rfl rfl rfl ?_); (repeat' first | (with_reducible exact trivial) | (with_reducible rfl) | (refine And.intro ?_ ?_) | (refine Need.mk ?_) | exact True.intro | (first | (refine ⟨_, Told.refl _, ?_, ?_⟩) | (refine ⟨⟨_, _⟩, Told.refl _, ?_, ?_⟩) | (refine ⟨⟨_, _, _⟩, Told.refl _, ?_, ?_⟩) | (refine ⟨⟨_, _, _, _⟩, Told.refl _, ?_, ?_⟩) | (refine ⟨⟨_, _, _, _, _⟩, Told.refl _, ?_, ?_⟩) | (refine ⟨(), Told.refl _, ?_, ?_⟩)) | (with_reducible intro _) | (refine fun (_ : Bool) => ?_)))
  refine AW.loop (I := fun k : Nat => ⟨36, [(0, aL c2R 1 L), (2, .nil), (3, .int .i64 ((L.take k).flatten.length : Nat)), (9, aL c2R 1 L), (10, .int .i64 L.length), (11, .int .i64 k)], []⟩) (fun k => k ≤ L.length) (fun k => L.length - k) 0 (Nat.zero_le _) ?_ ?_
  · (repeat' first | (with_reducible exact trivial) | (with_reducible rfl) | (refine And.intro ?_ ?_) | (refine Need.mk ?_) | exact True.intro | (first | (refine ⟨_, Told.refl _, ?_, ?_⟩) | (refine ⟨⟨_, _⟩, Told.refl _, ?_, ?_⟩) | (refine ⟨⟨_, _, _⟩, Told.refl _, ?_, ?_⟩) | (refine ⟨⟨_, _, _, _⟩, Told.refl _, ?_, ?_⟩) | (refine ⟨⟨_, _, _, _, _⟩, Told.refl _, ?_, ?_⟩) | (refine ⟨(), Told.refl _, ?_, ?_⟩)) | (with_reducible intro _) | (refine fun (_ : Bool) => ?_))
    all_goals rfl
  · intro k hk
    rcases Nat.lt_or_ge k L.length with hlt | hge
    · have hd : decide ((k : Int) < (L.length : Int)) = true := decide_eq_true (by omega)
      have hw := iw (n := (k : Int) + 1) (by omega) (by omega)
      have hnx := flatten_next hlt
      have ht := flatten_take L k
      have ht2 := flatten_take L (k + 1)
      have hln : (L.take (k + 1)).flatten.length = (L.take k).flatten.length + (L.getD k default).length := by rw [hnx, List.length_append]
      have hw2 := iw (n := ((L.take k).flatten.length : Int) + ((L.getD k default).length : Int)) (by omega) (by omega)
      ((refine AW.byF ‹_› ?_); (repeat' first | (with_reducible exact trivial) | (with_reducible rfl) | (refine And.intro ?_ ?_) | (refine Need.mk ?_) | exact True.intro | (first | (refine ⟨_, Told.refl _, ?_, ?_⟩) | (refine ⟨⟨_, _⟩, Told.refl _, ?_, ?_⟩) | (refine ⟨⟨_, _, _⟩, Told.refl _, ?_, ?_⟩) | (refine ⟨⟨_, _, _, _⟩, Told.refl _, ?_, ?_⟩) | (refine ⟨⟨_, _, _, _, _⟩, Told.refl _, ?_, ?_⟩) | (refine ⟨(), Told.refl _, ?_, ?_⟩)) | (with_reducible intro _) | (refine fun (_ : Bool) => ?_)))
      all_goals first | (exact absurd ‹decide ((k : Int) < (L.length : Int)) = false› (by rw [hd]; decide)) | skip
      any_goals (first | (refine Exists.intro ((k + 1 : Nat)) (And.intro ?_ (And.intro ?_ ?_)); all_goals (repeat' first | (with_reducible exact trivial) | (with_reducible rfl) | (refine And.intro ?_ ?_) | (refine Need.mk ?_) | exact True.intro | (first | (refine ⟨_, Told.refl _, ?_, ?_⟩) | (refine ⟨⟨_, _⟩, Told.refl _, ?_, ?_⟩) | (refine ⟨⟨_, _, _⟩, Told.refl _, ?_, ?_⟩) | (refine ⟨⟨_, _, _, _⟩, Told.refl _, ?_, ?_⟩) | (refine ⟨⟨_, _, _, _, _⟩, Told.refl _, ?_, ?_⟩) | (refine ⟨(), Told.refl _, ?_, ?_⟩)) | (with_reducible intro _) | (refine fun (_ : Bool) => ?_))) | fail)
      all_goals try simp only [Int.toNat_natCast] at *
      all_goals first
        | omega
        | (rw [hw]; rfl)
        | (rw [hw2, hln]; rfl)
        | (exfalso; have q := of_decide_eq_true ‹decide (IntKind.i64.wrap _ < 0) = true›; rw [hw2] at q; omega)
        | skip
    · obtain rfl : k = L.length := by omega
      have hd : decide ((L.length : Int) < (L.length : Int)) = false := decide_eq_false (by omega)
      ((refine AW.byF ‹_› ?_); (repeat' first | (with_reducible exact trivial) | (with_reducible rfl) | (refine And.intro ?_ ?_) | (refine Need.mk ?_) | exact True.intro | (first | (refine ⟨_, Told.refl _, ?_, ?_⟩) | (refine ⟨⟨_, _⟩, Told.refl _, ?_, ?_⟩) | (refine ⟨⟨_, _, _⟩, Told.refl _, ?_, ?_⟩) | (refine ⟨⟨_, _, _, _⟩, Told.refl _, ?_, ?_⟩) | (refine ⟨⟨_, _, _, _, _⟩, Told.refl _, ?_, ?_⟩) | (refine ⟨(), Told.refl _, ?_, ?_⟩)) | (with_reducible intro _) | (refine fun (_ : Bool) => ?_)))
      all_goals first | (exact absurd ‹decide ((L.length : Int) < (L.length : Int)) = true› (by rw [hd]; decide)) | skip
      all_goals try rw [List.take_length]
      all_goals first
        | exact h2
        | skip
      refine AW.loop (I := fun k : Nat => ⟨36, [(0, aL c2R 1 L), (6, .own 0), (25, aL c2R 1 L), (26, .int .i64 L.length), (27, .int .i64 k)], [.row 50 3 (L.take k).flatten.length (els cR (L.take k).flatten)]⟩) (fun k => k ≤ L.length) (fun k => L.length - k) 0 (Nat.zero_le _) ?_ ?_
      · (repeat' first | (with_reducible exact trivial) | (with_reducible rfl) | (refine And.intro ?_ ?_) | (refine Need.mk ?_) | exact True.intro | (first | (refine ⟨_, Told.refl _, ?_, ?_⟩) | (refine ⟨⟨_, _⟩, Told.refl _, ?_, ?_⟩) | (refine ⟨⟨_, _, _⟩, Told.refl _, ?_, ?_⟩) | (refine ⟨⟨_, _, _, _⟩, Told.refl _, ?_, ?_⟩) | (refine ⟨⟨_, _, _, _, _⟩, Told.refl _, ?_, ?_⟩) | (refine ⟨(), Told.refl _, ?_, ?_⟩)) | (with_reducible intro _) | (refine fun (_ : Bool) => ?_))
        all_goals rfl
      · intro k hk
        rcases Nat.lt_or_ge k L.length with hlt | hge
        · have hd : decide ((k : Int) < (L.length : Int)) = true := decide_eq_true (by omega)
          have hw := iw (n := (k : Int) + 1) (by omega) (by omega)
          have hnx := flatten_next hlt
          have ht := flatten_take L k
          have ht2 := flatten_take L (k + 1)
          have hln : (L.take (k + 1)).flatten.length = (L.take k).flatten.length + (L.getD k default).length := by rw [hnx, List.length_append]
          ((refine AW.byF ‹_› ?_); (repeat' first | (with_reducible exact trivial) | (with_reducible rfl) | (refine And.intro ?_ ?_) | (refine Need.mk ?_) | exact True.intro | (first | (refine ⟨_, Told.refl _, ?_, ?_⟩) | (refine ⟨⟨_, _⟩, Told.refl _, ?_, ?_⟩) | (refine ⟨⟨_, _, _⟩, Told.refl _, ?_, ?_⟩) | (refine ⟨⟨_, _, _, _⟩, Told.refl _, ?_, ?_⟩) | (refine ⟨⟨_, _, _, _, _⟩, Told.refl _, ?_, ?_⟩) | (refine ⟨(), Told.refl _, ?_, ?_⟩)) | (with_reducible intro _) | (refine fun (_ : Bool) => ?_)))
          all_goals first | (exact absurd ‹decide ((k : Int) < (L.length : Int)) = false› (by rw [hd]; decide)) | skip
          any_goals (first | (refine Exists.intro ((k + 1 : Nat)) (And.intro ?_ (And.intro ?_ ?_)); all_goals (repeat' first | (with_reducible exact trivial) | (with_reducible rfl) | (refine And.intro ?_ ?_) | (refine Need.mk ?_) | exact True.intro | (first | (refine ⟨_, Told.refl _, ?_, ?_⟩) | (refine ⟨⟨_, _⟩, Told.refl _, ?_, ?_⟩) | (refine ⟨⟨_, _, _⟩, Told.refl _, ?_, ?_⟩) | (refine ⟨⟨_, _, _, _⟩, Told.refl _, ?_, ?_⟩) | (refine ⟨⟨_, _, _, _, _⟩, Told.refl _, ?_, ?_⟩) | (refine ⟨(), Told.refl _, ?_, ?_⟩)) | (with_reducible intro _) | (refine fun (_ : Bool) => ?_))) | fail)
          all_goals try simp only [Int.toNat_natCast] at *
          all_goals first
            | omega
            | (rw [hw]; rfl)
            | (rw [hln]; done)
            | (rename_i z hz
               rw [hnx] at hz ⊢
               exact els_of cR_emb (n := 0) (cat_app rfl) z hz)
            | skip
        · obtain rfl : k = L.length := by omega
          have hd : decide ((L.length : Int) < (L.length : Int)) = false := decide_eq_false (by omega)
          ((refine AW.byF ‹_› ?_); (repeat' first | (with_reducible exact trivial) | (with_reducible rfl) | (refine And.intro ?_ ?_) | (refine Need.mk ?_) | exact True.intro | (first | (refine ⟨_, Told.refl _, ?_, ?_⟩) | (refine ⟨⟨_, _⟩, Told.refl _, ?_, ?_⟩) | (refine ⟨⟨_, _, _⟩, Told.refl _, ?_, ?_⟩) | (refine ⟨⟨_, _, _, _⟩, Told.refl _, ?_, ?_⟩) | (refine ⟨⟨_, _, _, _, _⟩, Told.refl _, ?_, ?_⟩) | (refine ⟨(), Told.refl _, ?_, ?_⟩)) | (with_reducible intro _) | (refine fun (_ : Bool) => ?_)))
          all_goals first | (exact absurd ‹decide ((L.length : Int) < (L.length : Int)) = true› (by rw [hd]; decide)) | skip
          all_goals rw [List.take_length]
          all_goals try rfl

def c2S (l : List Spn) : List AV := [aS l]
theorem c2S_emb : Emb c2S 1 := fun x => ⟨rfl, ⟨⟨⟨rfl⟩, els_of cSp_emb (n := 0) (fun _ _ => rfl)⟩, trivial⟩, rfl⟩
def SGrowS : Sp := ⟨Nat, fun n => n ≤ 4000000, fun n => [.nil, .int .i64 (n : Int)], fun _ => .row 56 4 0 (els cSp [])⟩
theorem growSok : SpOK Tryz.prog 45 SGrowS := fun (n : Nat) hn => growS n hn
def SCatS : Sp := ⟨List (List Spn), fun L => L.length ≤ 1000000 ∧ L.flatten.length ≤ 4000000, fun L => [aL c2S 1 L], fun L => .row 56 4 L.flatten.length (els cSp L.flatten)⟩
set_option maxHeartbeats 8000000 in
theorem catS : SpOK Tryz.prog 20 SCatS := fun (L : List (List Spn)) ⟨h1, h2⟩ => by
  have hC : COK Tryz.prog (cfg2 [(45, SGrowS)]) := ty2.cfg ⟨growSok, trivial⟩
  have h1 : L.length ≤ 1000000 := h1
  have h2 : L.flatten.length ≤ 4000000 := h2
  ((refine Fn.ofF hC Tryz.func20 Tryz.ntmps20 rfl rfl rfl ?_); (repeat' first | (with_reducible exact trivial) | (with_reducible rfl) | (refine And.intro ?_ ?_) | (refine Need.mk ?_) | exact True.intro | (first | (refine ⟨_, Told.refl _, ?_, ?_⟩) | (refine ⟨⟨_, _⟩, Told.refl _, ?_, ?_⟩) | (refine ⟨⟨_, _, _⟩, Told.refl _, ?_, ?_⟩) | (refine ⟨⟨_, _, _, _⟩, Told.refl _, ?_, ?_⟩) | (refine ⟨⟨_, _, _, _, _⟩, Told.refl _, ?_, ?_⟩) | (refine ⟨(), Told.refl _, ?_, ?_⟩)) | (with_reducible intro _) | (refine fun (_ : Bool) => ?_)))
  refine AW.loop (I := fun k : Nat => ⟨36, [(0, aL c2S 1 L), (2, .nil), (3, .int .i64 ((L.take k).flatten.length : Nat)), (9, aL c2S 1 L), (10, .int .i64 L.length), (11, .int .i64 k)], []⟩) (fun k => k ≤ L.length) (fun k => L.length - k) 0 (Nat.zero_le _) ?_ ?_
  · (repeat' first | (with_reducible exact trivial) | (with_reducible rfl) | (refine And.intro ?_ ?_) | (refine Need.mk ?_) | exact True.intro | (first | (refine ⟨_, Told.refl _, ?_, ?_⟩) | (refine ⟨⟨_, _⟩, Told.refl _, ?_, ?_⟩) | (refine ⟨⟨_, _, _⟩, Told.refl _, ?_, ?_⟩) | (refine ⟨⟨_, _, _, _⟩, Told.refl _, ?_, ?_⟩) | (refine ⟨⟨_, _, _, _, _⟩, Told.refl _, ?_, ?_⟩) | (refine ⟨(), Told.refl _, ?_, ?_⟩)) | (with_reducible intro _) | (refine fun (_ : Bool) => ?_))
    all_goals rfl
  · intro k hk
    rcases Nat.lt_or_ge k L.length with hlt | hge
    · have hd : decide ((k : Int) < (L.length : Int)) = true := decide_eq_true (by omega)
      have hw := iw (n := (k : Int) + 1) (by omega) (by omega)
      have hnx := flatten_next hlt
      have ht := flatten_take L k
      have ht2 := flatten_take L (k + 1)
      have hln : (L.take (k + 1)).flatten.length = (L.take k).flatten.length + (L.getD k default).length := by rw [hnx, List.length_append]
      have hw2 := iw (n := ((L.take k).flatten.length : Int) + ((L.getD k default).length : Int)) (by omega) (by omega)
      ((refine AW.byF ‹_› ?_); (repeat' first | (with_reducible exact trivial) | (with_reducible rfl) | (refine And.intro ?_ ?_) | (refine Need.mk ?_) | exact True.intro | (first | (refine ⟨_, Told.refl _, ?_, ?_⟩) | (refine ⟨⟨_, _⟩, Told.refl _, ?_, ?_⟩) | (refine ⟨⟨_, _, _⟩, Told.refl _, ?_, ?_⟩) | (refine ⟨⟨_, _, _, _⟩, Told.refl _, ?_, ?_⟩) | (refine ⟨⟨_, _, _, _, _⟩, Told.refl _, ?_, ?_⟩) | (refine ⟨(), Told.refl _, ?_, ?_⟩)) | (with_reducible intro _) | (refine fun (_ : Bool) => ?_)))
      all_goals first | (exact absurd ‹decide ((k : Int) < (L.length : Int)) = false› (by rw [hd]; decide)) | skip
      any_goals (first | (refine Exists.intro ((k + 1 : Nat)) (And.intro ?_ (And.intro ?_ ?_)); all_goals (repeat' first | (with_reducible exact trivial) | (with_reducible rfl) | (refine And.intro ?_ ?_) | (refine Need.mk ?_) | exact True.intro | (first | (refine ⟨_, Told.refl _, ?_, ?_⟩) | (refine ⟨⟨_, _⟩, Told.refl _, ?_, ?_⟩) | (refine ⟨⟨_, _, _⟩, Told.refl _, ?_, ?_⟩) | (refine ⟨⟨_, _, _, _⟩, Told.refl _, ?_, ?_⟩) | (refine ⟨⟨_, _, _, _, _⟩, Told.refl _, ?_, ?_⟩) | (refine ⟨(), Told.refl _, ?_, ?_⟩)) | (with_reducible intro _) | (refine fun (_ : Bool) => ?_))) | fail)
      all_goals try simp only [Int.toNat_natCast] at *
      all_goals first
        | omega
        | (rw [hw]; rfl)
        | (rw [hw2, hln]; rfl)
        | (exfalso; have q := of_decide_eq_true ‹decide (IntKind.i64.wrap _ < 0) = true›; rw [hw2] at q; omega)
        | skip
    · obtain rfl : k = L.length := by omega
      have hd : decide ((L.length : Int) < (L.length : Int)) = false := decide_eq_false (by omega)
      ((refine AW.byF ‹_› ?_); (repeat' first | (with_reducible exact trivial) | (with_reducible rfl) | (refine And.intro ?_ ?_) | (refine Need.mk ?_) | exact True.intro | (first | (refine ⟨_, Told.refl _, ?_, ?_⟩) | (refine ⟨⟨_, _⟩, Told.refl _, ?_, ?_⟩) | (refine ⟨⟨_, _, _⟩, Told.refl _, ?_, ?_⟩) | (refine ⟨⟨_, _, _, _⟩, Told.refl _, ?_, ?_⟩) | (refine ⟨⟨_, _, _, _, _⟩, Told.refl _, ?_, ?_⟩) | (refine ⟨(), Told.refl _, ?_, ?_⟩)) | (with_reducible intro _) | (refine fun (_ : Bool) => ?_)))
      all_goals first | (exact absurd ‹decide ((L.length : Int) < (L.length : Int)) = true› (by rw [hd]; decide)) | skip
      all_goals try rw [List.take_length]
      all_goals first
        | exact h2
        | skip
      refine AW.loop (I := fun k : Nat => ⟨36, [(0, aL c2S 1 L), (6, .own 0), (25, aL c2S 1 L), (26, .int .i64 L.length), (27, .int .i64 k)], [.row 56 4 (L.take k).flatten.length (els cSp (L.take k).flatten)]⟩) (fun k => k ≤ L.length) (fun k => L.length - k) 0 (Nat.zero_le _) ?_ ?_
      · (repeat' first | (with_reducible exact trivial) | (with_reducible rfl) | (refine And.intro ?_ ?_) | (refine Need.mk ?_) | exact True.intro | (first | (refine ⟨_, Told.refl _, ?_, ?_⟩) | (refine ⟨⟨_, _⟩, Told.refl _, ?_, ?_⟩) | (refine ⟨⟨_, _, _⟩, Told.refl _, ?_, ?_⟩) | (refine ⟨⟨_, _, _, _⟩, Told.refl _, ?_, ?_⟩) | (refine ⟨⟨_, _, _, _, _⟩, Told.refl _, ?_, ?_⟩) | (refine ⟨(), Told.refl _, ?_, ?_⟩)) | (with_reducible intro _) | (refine fun (_ : Bool) => ?_))
        all_goals rfl
      · intro k hk
        rcases Nat.lt_or_ge k L.length with hlt | hge
        · have hd : decide ((k : Int) < (L.length : Int)) = true := decide_eq_true (by omega)
          have hw := iw (n := (k : Int) + 1) (by omega) (by omega)
          have hnx := flatten_next hlt
          have ht := flatten_take L k
          have ht2 := flatten_take L (k + 1)
          have hln : (L.take (k + 1)).flatten.length = (L.take k).flatten.length + (L.getD k default).length := by rw [hnx, List.length_append]
          ((refine AW.byF ‹_› ?_); (repeat' first | (with_reducible exact trivial) | (with_reducible rfl) | (refine And.intro ?_ ?_) | (refine Need.mk ?_) | exact True.intro | (first | (refine ⟨_, Told.refl _, ?_, ?_⟩) | (refine ⟨⟨_, _⟩, Told.refl _, ?_, ?_⟩) | (refine ⟨⟨_, _, _⟩, Told.refl _, ?_, ?_⟩) | (refine ⟨⟨_, _, _, _⟩, Told.refl _, ?_, ?_⟩) | (refine ⟨⟨_, _, _, _, _⟩, Told.refl _, ?_, ?_⟩) | (refine ⟨(), Told.refl _, ?_, ?_⟩)) | (with_reducible intro _) | (refine fun (_ : Bool) => ?_)))
          all_goals first | (exact absurd ‹decide ((k : Int) < (L.length : Int)) = false› (by rw [hd]; decide)) | skip
          any_goals (first | (refine Exists.intro ((k + 1 : Nat)) (And.intro ?_ (And.intro ?_ ?_)); all_goals (repeat' first | (with_reducible exact trivial) | (with_reducible rfl) | (refine And.intro ?_ ?_) | (refine Need.mk ?_) | exact True.intro | (first | (refine ⟨_, Told.refl _, ?_, ?_⟩) | (refine ⟨⟨_, _⟩, Told.refl _, ?_, ?_⟩) | (refine ⟨⟨_, _, _⟩, Told.refl _, ?_, ?_⟩) | (refine ⟨⟨_, _, _, _⟩, Told.refl _, ?_, ?_⟩) | (refine ⟨⟨_, _, _, _, _⟩, Told.refl _, ?_, ?_⟩) | (refine ⟨(), Told.refl _, ?_, ?_⟩)) | (with_reducible intro _) | (refine fun (_ : Bool) => ?_))) | fail)
          all_goals try simp only [Int.toNat_natCast] at *
          all_goals first
            | omega
            | (rw [hw]; rfl)
            | (rw [hln]; done)
            | (rename_i z hz
               rw [hnx] at hz ⊢
               exact els_of cSp_emb (n := 0) (cat_app rfl) z hz)
            | skip
        · obtain rfl : k = L.length := by omega
          have hd : decide ((L.length : Int) < (L.length : Int)) = false := decide_eq_false (by omega)
          ((refine AW.byF ‹_› ?_); (repeat' first | (with_reducible exact trivial) | (with_reducible rfl) | (refine And.intro ?_ ?_) | (refine Need.mk ?_) | exact True.intro | (first | (refine ⟨_, Told.refl _, ?_, ?_⟩) | (refine ⟨⟨_, _⟩, Told.refl _, ?_, ?_⟩) | (refine ⟨⟨_, _, _⟩, Told.refl _, ?_, ?_⟩) | (refine ⟨⟨_, _, _, _⟩, Told.refl _, ?_, ?_⟩) | (refine ⟨⟨_, _, _, _, _⟩, Told.refl _, ?_, ?_⟩) | (refine ⟨(), Told.refl _, ?_, ?_⟩)) | (with_reducible intro _) | (refine fun (_ : Bool) => ?_)))
          all_goals first | (exact absurd ‹decide ((L.length : Int) < (L.length : Int)) = true› (by rw [hd]; decide)) | skip
          all_goals rw [List.take_length]
          all_goals try rfl

def c2B (l : List Bf) : List AV := [aB l]
theorem c2B_emb : Emb c2B 1 := fun x => ⟨rfl, ⟨⟨⟨rfl⟩, els_of cBf_emb (n := 0) (fun _ _ => rfl)⟩, trivial⟩, rfl⟩
def SGrowB : Sp := ⟨Nat, fun n => n ≤ 4000000, fun n => [.nil, .int .i64 (n : Int)], fun _ => .row 44 4 0 (els cBf [])⟩
theorem growBok : SpOK Tryz.prog 46 SGrowB := fun (n : Nat) hn => growB n hn
def SCatB : Sp := ⟨List (List Bf), fun L => L.length ≤ 1000000 ∧ L.flatten.length ≤ 4000000, fun L => [aL c2B 1 L], fun L => .row 44 4 L.flatten.length (els cBf L.flatten)⟩
set_option maxHeartbeats 8000000 in
theorem catB : SpOK Tryz.prog 21 SCatB := fun (L : List (List Bf)) ⟨h1, h2⟩ => by
  have hC : COK Tryz.prog (cfg2 [(46, SGrowB)]) := ty2.cfg ⟨growBok, trivial⟩
  have h1 : L.length ≤ 1000000 := h1
  have h2 : L.flatten.length ≤ 4000000 := h2
  ((refine Fn.ofF hC Tryz.func21 Tryz.ntmps21 rfl rfl rfl ?_); (repeat' first | (with_reducible exact trivial) | (with_reducible rfl) | (refine And.intro ?_ ?_) | (refine Need.mk ?_) | exact True.intro | (first | (refine ⟨_, Told.refl _, ?_, ?_⟩) | (refine ⟨⟨_, _⟩, Told.refl _, ?_, ?_⟩) | (refine ⟨⟨_, _, _⟩, Told.refl _, ?_, ?_⟩) | (refine ⟨⟨_, _, _, _⟩, Told.refl _, ?_, ?_⟩) | (refine ⟨⟨_, _, _, _, _⟩, Told.refl _, ?_, ?_⟩) | (refine ⟨(), Told.refl _, ?_, ?_⟩)) | (with_reducible intro _) | (refine fun (_ : Bool) => ?_)))
  refine AW.loop (I := fun k : Nat => ⟨36, [(0, aL c2B 1 L), (2, .nil), (3, .int .i64 ((L.take k).flatten.length : Nat)), (9, aL c2B 1 L), (10, .int .i64 L.length), (11, .int .i64 k)], []⟩) (fun k => k ≤ L.length) (fun k => L.length - k) 0 (Nat.zero_le _) ?_ ?_
  · (repeat' first | (with_reducible exact trivial) | (with_reducible rfl) | (refine And.intro ?_ ?_) | (refine Need.mk ?_) | exact True.intro | (first | (refine ⟨_, Told.refl _, ?_, ?_⟩) | (refine ⟨⟨_, _⟩, Told.refl _, ?_, ?_⟩) | (refine ⟨⟨_, _, _⟩, Told.refl _, ?_, ?_⟩) | (refine ⟨⟨_, _, _, _⟩, Told.refl _, ?_, ?_⟩) | (refine ⟨⟨_, _, _, _, _⟩, Told.refl _, ?_, ?_⟩) | (refine ⟨(), Told.refl _, ?_, ?_⟩)) | (with_reducible intro _) | (refine fun (_ : Bool) => ?_))
    all_goals rfl
  · intro k hk
    rcases Nat.lt_or_ge k L.length with hlt | hge
    · have hd : decide ((k : Int) < (L.length : Int)) = true := decide_eq_true (by omega)
      have hw := iw (n := (k : Int) + 1) (by omega) (by omega)
      have hnx := flatten_next hlt
      have ht := flatten_take L k
      have ht2 := flatten_take L (k + 1)
      have hln : (L.take (k + 1)).flatten.length = (L.take k).flatten.length + (L.getD k default).length := by rw [hnx, List.length_append]
      have hw2 := iw (n := ((L.take k).flatten.length : Int) + ((L.getD k default).length : Int)) (by omega) (by omega)
      ((refine AW.byF ‹_› ?_); (repeat' first | (with_reducible exact trivial) | (with_reducible rfl) | (refine And.intro ?_ ?_) | (refine Need.mk ?_) | exact True.intro | (first | (refine ⟨_, Told.refl _, ?_, ?_⟩) | (refine ⟨⟨_, _⟩, Told.refl _, ?_, ?_⟩) | (refine ⟨⟨_, _, _⟩, Told.refl _, ?_, ?_⟩) | (refine ⟨⟨_, _, _, _⟩, Told.refl _, ?_, ?_⟩) | (refine ⟨⟨_, _, _, _, _⟩, Told.refl _, ?_, ?_⟩) | (refine ⟨(), Told.refl _, ?_, ?_⟩)) | (with_reducible intro _) | (refine fun (_ : Bool) => ?_)))
      all_goals first | (exact absurd ‹decide ((k : Int) < (L.length : Int)) = false› (by rw [hd]; decide)) | skip
      any_goals (first | (refine Exists.intro ((k + 1 : Nat)) (And.intro ?_ (And.intro ?_ ?_)); all_goals (repeat' first | (with_reducible exact trivial) | (with_reducible rfl) | (refine And.intro ?_ ?_) | (refine Need.mk ?_) | exact True.intro | (first | (refine ⟨_, Told.refl _, ?_, ?_⟩) | (refine ⟨⟨_, _⟩, Told.refl _, ?_, ?_⟩) | (refine ⟨⟨_, _, _⟩, Told.refl _, ?_, ?_⟩) | (refine ⟨⟨_, _, _, _⟩, Told.refl _, ?_, ?_⟩) | (refine ⟨⟨_, _, _, _, _⟩, Told.refl _, ?_, ?_⟩) | (refine ⟨(), Told.refl _, ?_, ?_⟩)) | (with_reducible intro _) | (refine fun (_ : Bool) => ?_))) | fail)
      all_goals try simp only [Int.toNat_natCast] at *
      all_goals first
        | omega
        | (rw [hw]; rfl)
        | (rw [hw2, hln]; rfl)
        | (exfalso; have q := of_decide_eq_true ‹decide (IntKind.i64.wrap _ < 0) = true›; rw [hw2] at q; omega)
        | skip
    · obtain rfl : k = L.length := by omega
      have hd : decide ((L.length : Int) < (L.length : Int)) = false := decide_eq_false (by omega)
      ((refine AW.byF ‹_› ?_); (repeat' first | (with_reducible exact trivial) | (with_reducible rfl) | (refine And.intro ?_ ?_) | (refine Need.mk ?_) | exact True.intro | (first | (refine ⟨_, Told.refl _, ?_, ?_⟩) | (refine ⟨⟨_, _⟩, Told.refl _, ?_, ?_⟩) | (refine ⟨⟨_, _, _⟩, Told.refl _, ?_, ?_⟩) | (refine ⟨⟨_, _, _, _⟩, Told.refl _, ?_, ?_⟩) | (refine ⟨⟨_, _, _, _, _⟩, Told.refl _, ?_, ?_⟩) | (refine ⟨(), Told.refl _, ?_, ?_⟩)) | (with_reducible intro _) | (refine fun (_ : Bool) => ?_)))
      all_goals first | (exact absurd ‹decide ((L.length : Int) < (L.length : Int)) = true› (by rw [hd]; decide)) | skip
      all_goals try rw [List.take_length]
      all_goals first
        | exact h2
        | skip
      refine AW.loop (I := fun k : Nat => ⟨36, [(0, aL c2B 1 L), (6, .own 0), (25, aL c2B 1 L), (26, .int .i64 L.length), (27, .int .i64 k)], [.row 44 4 (L.take k).flatten.length (els cBf (L.take k).flatten)]⟩) (fun k => k ≤ L.length) (fun k => L.length - k) 0 (Nat.zero_le _) ?_ ?_
      · (repeat' first | (with_reducible exact trivial) | (with_reducible rfl) | (refine And.intro ?_ ?_) | (refine Need.mk ?_) | exact True.intro | (first | (refine ⟨_, Told.refl _, ?_, ?_⟩) | (refine ⟨⟨_, _⟩, Told.refl _, ?_, ?_⟩) | (refine ⟨⟨_, _, _⟩, Told.refl _, ?_, ?_⟩) | (refine ⟨⟨_, _, _, _⟩, Told.refl _, ?_, ?_⟩) | (refine ⟨⟨_, _, _, _, _⟩, Told.refl _, ?_, ?_⟩) | (refine ⟨(), Told.refl _, ?_, ?_⟩)) | (with_reducible intro _) | (refine fun (_ : Bool) => ?_))
        all_goals rfl
      · intro k hk
        rcases Nat.lt_or_ge k L.length with hlt | hge
        · have hd : decide ((k : Int) < (L.length : Int)) = true := decide_eq_true (by omega)
          have hw := iw (n := (k : Int) + 1) (by omega) (by omega)
          have hnx := flatten_next hlt
          have ht := flatten_take L k
          have ht2 := flatten_take L (k + 1)
          have hln : (L.take (k + 1)).flatten.length = (L.take k).flatten.length + (L.getD k default).length := by rw [hnx, List.length_append]
          ((refine AW.byF ‹_› ?_); (repeat' first | (with_reducible exact trivial) | (with_reducible rfl) | (refine And.intro ?_ ?_) | (refine Need.mk ?_) | exact True.intro | (first | (refine ⟨_, Told.refl _, ?_, ?_⟩) | (refine ⟨⟨_, _⟩, Told.refl _, ?_, ?_⟩) | (refine ⟨⟨_, _, _⟩, Told.refl _, ?_, ?_⟩) | (refine ⟨⟨_, _, _, _⟩, Told.refl _, ?_, ?_⟩) | (refine ⟨⟨_, _, _, _, _⟩, Told.refl _, ?_, ?_⟩) | (refine ⟨(), Told.refl _, ?_, ?_⟩)) | (with_reducible intro _) | (refine fun (_ : Bool) => ?_)))
          all_goals first | (exact absurd ‹decide ((k : Int) < (L.length : Int)) = false› (by rw [hd]; decide)) | skip
          any_goals (first | (refine Exists.intro ((k + 1 : Nat)) (And.intro ?_ (And.intro ?_ ?_)); all_goals (repeat' first | (with_reducible exact trivial) | (with_reducible rfl) | (refine And.intro ?_ ?_) | (refine Need.mk ?_) | exact True.intro | (first | (refine ⟨_, Told.refl _, ?_, ?_⟩) | (refine ⟨⟨_, _⟩, Told.refl _, ?_, ?_⟩) | (refine ⟨⟨_, _, _⟩, Told.refl _, ?_, ?_⟩) | (refine ⟨⟨_, _, _, _⟩, Told.refl _, ?_, ?_⟩) | (refine ⟨⟨_, _, _, _, _⟩, Told.refl _, ?_, ?_⟩) | (refine ⟨(), Told.refl _, ?_, ?_⟩)) | (with_reducible intro _) | (refine fun (_ : Bool) => ?_))) | fail)
          all_goals try simp only [Int.toNat_natCast] at *
          all_goals first
            | omega
            | (rw [hw]; rfl)
            | (rw [hln]; done)
            | (rename_i z hz
               rw [hnx] at hz ⊢
               exact els_of cBf_emb (n := 0) (cat_app rfl) z hz)
            | skip
        · obtain rfl : k = L.length := by omega
          have hd : decide ((L.length : Int) < (L.length : Int)) = false := decide_eq_false (by omega)
          ((refine AW.byF ‹_› ?_); (repeat' first | (with_reducible exact trivial) | (with_reducible rfl) | (refine And.intro ?_ ?_) | (refine Need.mk ?_) | exact True.intro | (first | (refine ⟨_, Told.refl _, ?_, ?_⟩) | (refine ⟨⟨_, _⟩, Told.refl _, ?_, ?_⟩) | (refine ⟨⟨_, _, _⟩, Told.refl _, ?_, ?_⟩) | (refine ⟨⟨_, _, _, _⟩, Told.refl _, ?_, ?_⟩) | (refine ⟨⟨_, _, _, _, _⟩, Told.refl _, ?_, ?_⟩) | (refine ⟨(), Told.refl _, ?_, ?_⟩)) | (with_reducible intro _) | (refine fun (_ : Bool) => ?_)))
          all_goals first | (exact absurd ‹decide ((L.length : Int) < (L.length : Int)) = true› (by rw [hd]; decide)) | skip
          all_goals rw [List.take_length]
          all_goals try rfl

/-! ### Tables merged -/
def catT (t u : Tbl) : Tbl := ⟨t.name, t.wmode, t.spaces ++ u.spaces, t.cids ++ u.cids, t.nots ++ u.nots, t.bfs ++ u.bfs⟩
def kinds : List Int := [2, 3, 5, 7]
def midT (t u : Tbl) (k : Nat) : Tbl := (kinds.take k).foldl builtT (catT t u)
theorem mid0 (t u : Tbl) : midT t u 0 = catT t u := rfl
theorem mid4 (t u : Tbl) : midT t u 4 = mergeT t u := by
  unfold midT mergeT kinds catT
  simp [builtT]
theorem mid_next (t u : Tbl) {k : Nat} (hk : k < 4) : midT t u (k + 1) = builtT (midT t u k) (kinds.getD k default) := by
  unfold midT
  rw [take_nextG (l := kinds) hk, List.foldl_append]
  rfl
def lens (t : Tbl) (n : Nat) : Prop := t.spaces.length ≤ n ∧ t.cids.length ≤ n ∧ t.nots.length ≤ n ∧ t.bfs.length ≤ n
theorem lens_built {t : Tbl} {n : Nat} (h : lens t n) (k : Int) : lens (builtT t k) (2 * n) := by
  obtain ⟨a, b, c, d⟩ := h
  unfold builtT
  have h1 := canR_len t.spaces
  have h2 := ((ES true).build_ok t.cids).2.1
  have h3 := ((ES false).build_ok t.nots).2.1
  have h4 := (EB.build_ok t.bfs).2.1
  refine ⟨?_, ?_, ?_, ?_⟩
  all_goals dsimp only
  all_goals split <;> omega
theorem lens_mid {t u : Tbl} {n : Nat} (h : lens t n) (h' : lens u n) : ∀ k, k ≤ 4 → lens (midT t u k) (2 * n * 2 ^ k)
  | 0, _ => by
    obtain ⟨a, b, c, d⟩ := h
    obtain ⟨a', b', c', d'⟩ := h'
    rw [mid0]
    unfold catT
    refine ⟨?_, ?_, ?_, ?_⟩
    all_goals dsimp only
    all_goals rw [List.length_append]
    all_goals omega
  | k + 1, hk => by
    have q := lens_built (lens_mid h h' k (by omega)) (kinds.getD k default)
    rw [← mid_next t u (k := k) (by omega)] at q
    have e : 2 * n * 2 ^ (k + 1) = 2 * (2 * n * 2 ^ k) := by rw [Nat.pow_succ, ← Nat.mul_assoc, Nat.mul_comm (2 * n * 2 ^ k) 2]
    rw [e]
    exact q
theorem mid_few {t u : Tbl} (h : lens t 30000) (h' : lens u 30000) {k : Nat} (hk : k ≤ 4) : few6 (midT t u k) := by
  obtain ⟨a, b, c, d⟩ := lens_mid h h' k hk
  have e : 2 * 30000 * 2 ^ k ≤ 1000000 := by
    have : 2 ^ k ≤ 2 ^ 4 := Nat.pow_le_pow_right (by decide) hk
    omega
  exact ⟨by omega, by omega, by omega, by omega⟩
theorem lens_merge {t u : Tbl} {n : Nat} (h : lens t n) (h' : lens u n) : lens (mergeT t u) (32 * n) := by
  have q := lens_mid h h' 4 (by omega)
  rw [mid4] at q
  obtain ⟨a, b, c, d⟩ := q
  exact ⟨by omega, by omega, by omega, by omega⟩
def SMerge : Sp := ⟨Tbl × Tbl, fun (t, u) => lens t 30000 ∧ lens u 30000, fun (t, u) => [.agg (cT t), .agg (cT u)], fun (t, u) => .st (.agg (cT (mergeT t u)))⟩
set_option maxHeartbeats 16000000 in
theorem semMerge : SpOK Tryz.prog 8 SMerge := fun ⟨t, u⟩ ⟨h, h'⟩ => by
  have hC : COK Tryz.prog (cfg2 [(19, SCatR), (20, SCatS), (21, SCatB), (22, SBuilt)]) := ty2.cfg ⟨catR, catS, catB, semBuilt, trivial⟩
  have h : lens t 30000 := h
  have h' : lens u 30000 := h'
  obtain ⟨a1, a2, a3, a4⟩ := id h
  obtain ⟨b1, b2, b3, b4⟩ := id h'
  ((refine Fn.ofF hC Tryz.func8 Tryz.ntmps8 rfl rfl rfl ?_); (repeat' first | (with_reducible exact trivial) | (with_reducible rfl) | (refine And.intro ?_ ?_) | (refine Need.mk ?_) | exact True.intro | (first | (refine ⟨_, Told.refl _, ?_, ?_⟩) | (refine ⟨⟨_, _⟩, Told.refl _, ?_, ?_⟩) | (refine ⟨⟨_, _, _⟩, Told.refl _, ?_, ?_⟩) | (refine ⟨⟨_, _, _, _⟩, Told.refl _, ?_, ?_⟩) | (refine ⟨⟨_, _, _, _, _⟩, Told.refl _, ?_, ?_⟩) | (refine ⟨(), Told.refl _, ?_, ?_⟩)) | (with_reducible intro _) | (refine fun (_ : Bool) => ?_)))
  refine Exists.intro [t.spaces, u.spaces] (And.intro (Told.of (lit_sub c2R_emb [t.spaces, u.spaces])) (And.intro ⟨by show 2 ≤ 1000000; omega, by simp; omega⟩ ?_))
  (repeat' first | (with_reducible exact trivial) | (with_reducible rfl) | (refine And.intro ?_ ?_) | (refine Need.mk ?_) | exact True.intro | (first | (refine ⟨_, Told.refl _, ?_, ?_⟩) | (refine ⟨⟨_, _⟩, Told.refl _, ?_, ?_⟩) | (refine ⟨⟨_, _, _⟩, Told.refl _, ?_, ?_⟩) | (refine ⟨⟨_, _, _, _⟩, Told.refl _, ?_, ?_⟩) | (refine ⟨⟨_, _, _, _, _⟩, Told.refl _, ?_, ?_⟩) | (refine ⟨(), Told.refl _, ?_, ?_⟩)) | (with_reducible intro _) | (refine fun (_ : Bool) => ?_))
  refine Exists.intro [t.cids, u.cids] (And.intro (Told.of (lit_sub c2S_emb [t.cids, u.cids])) (And.intro ⟨by show 2 ≤ 1000000; omega, by simp; omega⟩ ?_))
  (repeat' first | (with_reducible exact trivial) | (with_reducible rfl) | (refine And.intro ?_ ?_) | (refine Need.mk ?_) | exact True.intro | (first | (refine ⟨_, Told.refl _, ?_, ?_⟩) | (refine ⟨⟨_, _⟩, Told.refl _, ?_, ?_⟩) | (refine ⟨⟨_, _, _⟩, Told.refl _, ?_, ?_⟩) | (refine ⟨⟨_, _, _, _⟩, Told.refl _, ?_, ?_⟩) | (refine ⟨⟨_, _, _, _, _⟩, Told.refl _, ?_, ?_⟩) | (refine ⟨(), Told.refl _, ?_, ?_⟩)) | (with_reducible intro _) | (refine fun (_ : Bool) => ?_))
  refine Exists.intro [t.nots, u.nots] (And.intro (Told.of (lit_sub c2S_emb [t.nots, u.nots])) (And.intro ⟨by show 2 ≤ 1000000; omega, by simp; omega⟩ ?_))
  (repeat' first | (with_reducible exact trivial) | (with_reducible rfl) | (refine And.intro ?_ ?_) | (refine Need.mk ?_) | exact True.intro | (first | (refine ⟨_, Told.refl _, ?_, ?_⟩) | (refine ⟨⟨_, _⟩, Told.refl _, ?_, ?_⟩) | (refine ⟨⟨_, _, _⟩, Told.refl _, ?_, ?_⟩) | (refine ⟨⟨_, _, _, _⟩, Told.refl _, ?_, ?_⟩) | (refine ⟨⟨_, _, _, _, _⟩, Told.refl _, ?_, ?_⟩) | (refine ⟨(), Told.refl _, ?_, ?_⟩)) | (with_reducible intro _) | (refine fun (_ : Bool) => ?_))
  refine Exists.intro [t.bfs, u.bfs] (And.intro (Told.of (lit_sub c2B_emb [t.bfs, u.bfs])) (And.intro ⟨by show 2 ≤ 1000000; omega, by simp; omega⟩ ?_))
  (repeat' first | (with_reducible exact trivial) | (with_reducible rfl) | (refine And.intro ?_ ?_) | (refine Need.mk ?_) | exact True.intro | (first | (refine ⟨_, Told.refl _, ?_, ?_⟩) | (refine ⟨⟨_, _⟩, Told.refl _, ?_, ?_⟩) | (refine ⟨⟨_, _, _⟩, Told.refl _, ?_, ?_⟩) | (refine ⟨⟨_, _, _, _⟩, Told.refl _, ?_, ?_⟩) | (refine ⟨⟨_, _, _, _, _⟩, Told.refl _, ?_, ?_⟩) | (refine ⟨(), Told.refl _, ?_, ?_⟩)) | (with_reducible intro _) | (refine fun (_ : Bool) => ?_))
  refine AW.loop (I := fun k : Nat => ⟨46, [(2, .ptr 0 0), (3, .ptr 1 0), (4, .ptr 2 0), (35, aI kinds), (36, .int .i64 (4 : Nat)), (37, .int .i64 k)], [.box 30 (cT (midT t u k)), .box 30 (cT u), .box 30 (cT T0)]⟩) (fun k => k ≤ 4) (fun k => 4 - k) 0 (Nat.zero_le _) ?_ ?_
  · (repeat' first | (with_reducible exact trivial) | (with_reducible rfl) | (refine And.intro ?_ ?_) | (refine Need.mk ?_) | exact True.intro | (first | (refine ⟨_, Told.refl _, ?_, ?_⟩) | (refine ⟨⟨_, _⟩, Told.refl _, ?_, ?_⟩) | (refine ⟨⟨_, _, _⟩, Told.refl _, ?_, ?_⟩) | (refine ⟨⟨_, _, _, _⟩, Told.refl _, ?_, ?_⟩) | (refine ⟨⟨_, _, _, _, _⟩, Told.refl _, ?_, ?_⟩) | (refine ⟨(), Told.refl _, ?_, ?_⟩)) | (with_reducible intro _) | (refine fun (_ : Bool) => ?_))
    all_goals first
      | with_reducible rfl
      | exact (rfl : t.name = (midT t u 0).name)
      | exact (rfl : t.wmode = (midT t u 0).wmode)
      | exact congrArg List.length (flat2 t.spaces u.spaces)
      | exact congrArg List.length (flat2 t.cids u.cids)
      | exact congrArg List.length (flat2 t.nots u.nots)
      | exact congrArg List.length (flat2 t.bfs u.bfs)
      | (simp only [flat2, mid0, catT]; done)
      | (unfold T0; rfl)
      | (unfold kinds; rfl)
      | exact (rfl : (0 : Int) = ((0 : Nat) : Int))
      | (rename_i z hz; exact els_of ci_emb (n := 0) (elt_list kinds) z hz)
      | (rename_i z hz; exact absurd hz (Nat.not_lt_zero z))
      | skip
  · intro k hk
    rcases Nat.lt_or_ge k 4 with hlt | hge
    · have hd : decide ((k : Int) < (4 : Nat)) = true := decide_eq_true (by omega)
      have hw := iw (n := (k : Int) + 1) (by omega) (by omega)
      have hnx := mid_next t u hlt
      have hfw := mid_few h h' hk
      obtain ⟨f1, f2, f3, f4⟩ := hfw
      ((refine AW.byF ‹_› ?_); (repeat' first | (with_reducible exact trivial) | (with_reducible rfl) | (refine And.intro ?_ ?_) | (refine Need.mk ?_) | exact True.intro | (first | (refine ⟨_, Told.refl _, ?_, ?_⟩) | (refine ⟨⟨_, _⟩, Told.refl _, ?_, ?_⟩) | (refine ⟨⟨_, _, _⟩, Told.refl _, ?_, ?_⟩) | (refine ⟨⟨_, _, _, _⟩, Told.refl _, ?_, ?_⟩) | (refine ⟨⟨_, _, _, _, _⟩, Told.refl _, ?_, ?_⟩) | (refine ⟨(), Told.refl _, ?_, ?_⟩)) | (with_reducible intro _) | (refine fun (_ : Bool) => ?_)))
      all_goals first | (exact absurd ‹decide ((k : Int) < (4 : Nat)) = false› (by rw [hd]; decide)) | skip
      any_goals (first | (refine Exists.intro ((k + 1 : Nat)) (And.intro ?_ (And.intro ?_ ?_)); all_goals (repeat' first | (with_reducible exact trivial) | (with_reducible rfl) | (refine And.intro ?_ ?_) | (refine Need.mk ?_) | exact True.intro | (first | (refine ⟨_, Told.refl _, ?_, ?_⟩) | (refine ⟨⟨_, _⟩, Told.refl _, ?_, ?_⟩) | (refine ⟨⟨_, _, _⟩, Told.refl _, ?_, ?_⟩) | (refine ⟨⟨_, _, _, _⟩, Told.refl _, ?_, ?_⟩) | (refine ⟨⟨_, _, _, _, _⟩, Told.refl _, ?_, ?_⟩) | (refine ⟨(), Told.refl _, ?_, ?_⟩)) | (with_reducible intro _) | (refine fun (_ : Bool) => ?_))) | fail)
      all_goals try simp only [Int.toNat_natCast] at *
      all_goals first
        | omega
        | exact f1
        | exact f2
        | exact f3
        | exact f4
        | (rw [hw]; rfl)
        | (rw [hnx]; done)
        | (show (k : Int) < ((4 : Nat) : Int); omega)
    · obtain rfl : k = 4 := by omega
      have hd : decide (((4 : Nat) : Int) < (4 : Nat)) = false := decide_eq_false (by omega)
      ((refine AW.byF ‹_› ?_); (repeat' first | (with_reducible exact trivial) | (with_reducible rfl) | (refine And.intro ?_ ?_) | (refine Need.mk ?_) | exact True.intro | (first | (refine ⟨_, Told.refl _, ?_, ?_⟩) | (refine ⟨⟨_, _⟩, Told.refl _, ?_, ?_⟩) | (refine ⟨⟨_, _, _⟩, Told.refl _, ?_, ?_⟩) | (refine ⟨⟨_, _, _, _⟩, Told.refl _, ?_, ?_⟩) | (refine ⟨⟨_, _, _, _, _⟩, Told.refl _, ?_, ?_⟩) | (refine ⟨(), Told.refl _, ?_, ?_⟩)) | (with_reducible intro _) | (refine fun (_ : Bool) => ?_)))
      all_goals first | (exact absurd ‹decide (((4 : Nat) : Int) < (4 : Nat)) = true› (by rw [hd]; decide)) | skip
      all_goals rw [mid4]
      all_goals try rfl
end Go.Abs.Sm
set_option maxRecDepth 100000
namespace Go.Abs.Sm
open Go.RowKit Go.Proofs Go.Abs.Tab Go.Abs.Dest Go.Abs.Span Go.Abs.Coll Go.Abs.Hx Go.Abs.Mt Go.Abs.Rc
theorem tab_sane {t : Tbl} (h : saneT t = true) : EB.Tab t.bfs := by
  have e := ((sane_iff t).1 h).2
  have e2 : EB.build t.bfs = t.bfs := congrArg Tbl.bfs e
  rw [← e2]
  exact (EB.build_ok t.bfs).1
theorem merge_get {a b : Tbl} (ha : saneT a = true) (hb : saneT b = true) (n v : Int) : EB.get (mergeT a b).bfs n v = (EB.get b.bfs n v).or (EB.get a.bfs n v) := by
  show EB.get (EB.build (a.bfs ++ b.bfs)) n v = _
  rw [← En.last_tab EB (EB.build_ok _).1, En.last_build, En.last_app, En.last_tab EB (tab_sane ha), En.last_tab EB (tab_sane hb)]
theorem merge_find {a b : Tbl} (ha : saneT a = true) (hb : saneT b = true) (n v : Int) : EB.find (mergeT a b).bfs n v = (EB.find b.bfs n v).or (EB.find a.bfs n v) := by
  rw [EB.find_tab (tab_sane ha), EB.find_tab (tab_sane hb)]
  exact (EB.find_tab (EB.build_ok (a.bfs ++ b.bfs)).1 n v).trans (merge_get ha hb n v)
theorem cnt_most {a : Tbl} (ha : saneT a = true) : 0 ≤ cnt (ents a.bfs) ∧ cnt (ents a.bfs) ≤ 65536 := by
  rw [cnt_tab (tab_sane ha)]
  have := List.countP_le_length (p := has2 a.bfs) (l := List.range 65536)
  rw [List.length_range] at this
  omega
theorem countP_or (p q : Nat → Bool) : ∀ l : List Nat, (l.countP fun v => p v || q v) ≤ l.countP p + l.countP q
  | [] => Nat.le_refl _
  | x :: l => by
    have := countP_or p q l
    simp only [List.countP_cons]
    cases hp : p x <;> cases hq : q x <;> simp_all <;> omega
theorem merge_cnt {a b : Tbl} (ha : saneT a = true) (hb : saneT b = true) : cnt (ents (mergeT a b).bfs) ≤ cnt (ents a.bfs) + cnt (ents b.bfs) := by
  have hm : EB.Tab (mergeT a b).bfs := (EB.build_ok (a.bfs ++ b.bfs)).1
  rw [cnt_tab hm, cnt_tab (tab_sane ha), cnt_tab (tab_sane hb)]
  have e : has2 (mergeT a b).bfs = fun v => has2 b.bfs v || has2 a.bfs v := by
    funext v
    unfold has2
    rw [merge_get ha hb]
    cases EB.get b.bfs 2 (v : Int) <;> rfl
  have h := countP_or (has2 b.bfs) (has2 a.bfs) (List.range 65536)
  rw [e]
  omega
def SMergesC : Sp := ⟨Tbl × Tbl × Int, fun _ => True, fun (a, b, c) => [.agg (cT a), .agg (cT b), .int .i64 c], fun _ => .st (.lit true)⟩
set_option maxHeartbeats 16000000 in
theorem collMerges : SpOK Tryz.prog 3 SMergesC := fun ⟨a, b, c⟩ _ => by
  have hC : COK Tryz.prog (cfg [(4, SAwakeC), (5, SFewT), (7, STab), (6, SSaneT), (8, SMerge), (9, SCText), (10, SCnt)]) := Ty.ty.cfg ⟨awake, rfewT, table, saneTC, semMerge, ctext, count, trivial⟩
  have hfa : (!fewT a) = false → lens a 60 := fun h => by
    obtain ⟨⟨_, a, b, c⟩, d, _⟩ := (fewT_iff a).1 (by simpa using h)
    exact ⟨a, b, c, d⟩
  have hfb : (!fewT b) = false → lens b 60 := fun h => by
    obtain ⟨⟨_, a, b, c⟩, d, _⟩ := (fewT_iff b).1 (by simpa using h)
    exact ⟨a, b, c, d⟩
  ((refine Fn.ofF hC Tryz.func3 Tryz.ntmps3 rfl rfl rfl ?_); (repeat' first | (with_reducible exact trivial) | (with_reducible rfl) | (refine And.intro ?_ ?_) | (refine Need.mk ?_) | exact True.intro | (first | (refine ⟨_, Told.refl _, ?_, ?_⟩) | (refine ⟨⟨_, _⟩, Told.refl _, ?_, ?_⟩) | (refine ⟨⟨_, _, _⟩, Told.refl _, ?_, ?_⟩) | (refine ⟨⟨_, _, _, _⟩, Told.refl _, ?_, ?_⟩) | (refine ⟨⟨_, _, _, _, _⟩, Told.refl _, ?_, ?_⟩) | (refine ⟨(), Told.refl _, ?_, ?_⟩)) | (with_reducible intro _) | (refine fun (_ : Bool) => ?_)))
  all_goals have ta := hfa ‹_›
  all_goals have tb := hfb ‹_›
  all_goals have hm := lens_merge ta tb
  all_goals obtain ⟨t1, t2, t3, t4⟩ := id ta
  all_goals obtain ⟨u1, u2, u3, u4⟩ := id tb
  all_goals obtain ⟨m1, m2, m3, m4⟩ := id hm
  all_goals first
    | omega
    | (show (mergeT a b).bfs.length < 4611686018427387904; omega)
    | (show a.bfs.length < 4611686018427387904; omega)
    | (show b.bfs.length < 4611686018427387904; omega)
    | (show (mergeT a b).bfs.length ≤ 1000000; omega)
    | (show a.bfs.length ≤ 1000000; omega)
    | (show b.bfs.length ≤ 1000000; omega)
    | skip
  all_goals have sa : saneT a = true := by simpa using ‹(!saneT a) = false›
  all_goals have sb : saneT b = true := by simpa using ‹(!saneT b) = false›
  all_goals have hF := merge_find sa sb 2 c
  all_goals have hN := merge_cnt sa sb
  all_goals obtain ⟨ca1, ca2⟩ := cnt_most sa
  all_goals obtain ⟨cb1, cb2⟩ := cnt_most sb
  all_goals have hw := iw (n := cnt (ents a.bfs) + cnt (ents b.bfs)) (by omega) (by omega)
  all_goals first
    | (rw [hw]; exact decide_eq_true hN)
    | (clear hC hfa hfb ta tb hm hN
       generalize EB.find (mergeT a b).bfs 2 c = z at *
       generalize EB.find b.bfs 2 c = y at *
       generalize EB.find a.bfs 2 c = x at *
       subst hF
       cases y <;> simp_all
       done)
    | skip
end Go.Abs.Sm
